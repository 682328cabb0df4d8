/- What the functions of this layer do, proved operation by operation, for all arguments, under the conditions that each theorem states. -/
import Derived.Test.YtdhcglflmkjneaaProg
import Derived.Test.YtdhcglflmkjneaaElt8
namespace Go.Proofs.Ytdhcglflmkjneaa
open Go V
set_option linter.unusedVariables false
set_option linter.unusedSimpArgs false
theorem get_of {kv : List (Int × It)} {k : Int} {y : It} (h : mget kv k = some y) : getE kv k = 0 ∧ getA kv k = y.ka ∧ getB kv k = y.va := by
  unfold getE getA getB; rw [h]; exact ⟨rfl, rfl, rfl⟩
theorem mem_get {t : T} {kv : List (Int × It)} (hE : ERel t kv) {y : It} (hy : y ∈ t.toL) : getE kv y.ki = 0 ∧ getA kv y.ki = y.ka ∧ getB kv y.ki = y.va ∧ y.vi = y.ki := by
  have h := (hE.mem y).1 hy
  obtain ⟨h1, h2, h3⟩ := get_of h
  exact ⟨h1, h2, h3, (hE.own _ _ h).2⟩
theorem ids_get {t : T} {kv : List (Int × It)} (hE : ERel t kv) {x : Int} (hx : x ∈ sortK kv) : ∃ y ∈ t.toL, y.ki = x := by
  have h1 : x ∈ kv.map (·.1) := by unfold sortK at hx; exact (List.mergeSort_perm _ _).mem_iff.1 hx
  obtain ⟨p, hp, rfl⟩ := List.mem_map.1 h1
  have h2 := mget_of_mem hE.nd hp
  have h3 := (hE.own _ _ h2).1
  exact ⟨p.2, (hE.mem _).2 (by rw [h3]; exact h2), h3⟩
theorem next_le {t : T} {kv : List (Int × It)} (hE : ERel t kv) {y : It} (hy : y ∈ t.toL) : nextV t.toL ≤ y.ka ∨ never ≤ y.ka := by
  unfold nextV
  cases hL : t.toL with
  | nil => rw [hL] at hy; cases hy
  | cons z L =>
    have := head_least hE hL y hy
    simp only [List.cons_ne_nil, if_false, List.head?_cons, Option.getD_some]
    rw [imin_eq]; omega
theorem pk_get {t : T} {kv : List (Int × It)} (hE : ERel t kv) (n : Int) : (belowL (imin n 9223372036854775807) t.toL = none ∧ ∀ y ∈ t.toL, ¬ (y.ka ≤ n ∧ y.ka < 9223372036854775808)) ∨
    ∃ m, belowL (imin n 9223372036854775807) t.toL = some m ∧ getE kv m.ki = 0 ∧ getA kv m.ki = m.ka ∧ getB kv m.ki = m.va ∧ (m.ka ≤ n ∧ m.ka < 9223372036854775808) ∧ ∀ y ∈ t.toL, y.ka ≤ n → y.ka < 9223372036854775808 → m.va < y.va ∨ (m.va = y.va ∧ m.ki ≤ y.ki) := by
  rcases belowL_spec (imin n 9223372036854775807) t.toL with ⟨e, h⟩ | ⟨m, e, hm, hk, hmin⟩
  · exact .inl ⟨e, fun y hy h2 => h y hy (now_le.2 h2)⟩
  · obtain ⟨h1, h2, h3, h4⟩ := mem_get hE hm
    refine .inr ⟨m, e, h1, h2, h3, now_le.1 hk, fun y hy a b => ?_⟩
    have h5 := hmin y hy (now_le.2 ⟨a, b⟩)
    have h6 := (mem_get hE hy).2.2.2
    unfold lessK at h5; omega
theorem pf_get {t : T} {kv : List (Int × It)} (hE : ERel t kv) (n : Int) : (firstL (imin n 9223372036854775807) t.toL = none ∧ ∀ y ∈ t.toL, ¬ (y.va ≤ n ∧ y.va < 9223372036854775808)) ∨
    ∃ m, firstL (imin n 9223372036854775807) t.toL = some m ∧ m ∈ t.toL ∧ getE kv m.ki = 0 ∧ getA kv m.ki = m.ka ∧ getB kv m.ki = m.va ∧ (m.va ≤ n ∧ m.va < 9223372036854775808) ∧ ∀ y ∈ t.toL, y.va ≤ n → y.va < 9223372036854775808 → m.ka < y.ka ∨ (m.ka = y.ka ∧ m.ki ≤ y.ki) := by
  unfold firstL
  cases hf : t.toL.find? (fun y => decide (y.va ≤ imin n 9223372036854775807)) with
  | none =>
    have hn := List.find?_eq_none.1 hf
    exact .inl ⟨rfl, fun y hy h2 => hn y hy (by simpa using now_le.2 h2)⟩
  | some m =>
    obtain ⟨hy, A, B, hL, hA⟩ := List.find?_eq_some_iff_append.1 hf
    have hok : m.va ≤ imin n 9223372036854775807 := by simpa using hy
    have hm : m ∈ t.toL := by rw [hL]; simp
    have hS := hE.wf.srt; rw [hL] at hS
    obtain ⟨_, _, _, hB, _⟩ := srt_mid hS
    obtain ⟨h1, h2, h3, h4⟩ := mem_get hE hm
    refine .inr ⟨m, rfl, hm, h1, h2, h3, now_le.1 hok, fun y hy a b => ?_⟩
    rw [hL] at hy
    rcases List.mem_append.1 hy with g | g
    · have := hA _ g; simp at this; have h10 := now_le.2 ⟨a, b⟩; omega
    · rcases List.mem_cons.1 g with g | g
      · subst g; right; exact ⟨rfl, Int.le_refl _⟩
      · have h9 := hB _ g; unfold kl lessK at h9; omega
theorem fit_get {t : T} {kv : List (Int × It)} (hE : ERel t kv) (hU : ∀ y ∈ t.toL, y.ka ≤ 18446744073709551615) : (t.toL = [] ∧ fitV t.toL = 9223372036854775808) ∨ (∃ m ∈ t.toL, fitV t.toL = min m.va 9223372036854775808 ∧ ∀ y ∈ t.toL, m.va ≤ y.va) := by
  by_cases hL : t.toL = []
  · left; exact ⟨hL, by unfold fitV; rw [if_pos hL]; rfl⟩
  · right
    rcases belowL_spec 18446744073709551615 t.toL with ⟨_, hn⟩ | ⟨m, e, hmm, hka, hmin⟩
    · exfalso; cases hL2 : t.toL with
      | nil => exact hL hL2
      | cons y L => have hy : y ∈ t.toL := by rw [hL2]; simp
                    exact hn y hy (hU y hy)
    · refine ⟨m, hmm, ?_, fun y hy => ?_⟩
      · unfold fitV; rw [if_neg hL, e]; simp only [Option.getD_some]; rw [imin_eq]; rfl
      · have := hmin y hy (hU y hy); unfold lessK at this; omega
theorem krel_u64 {t : T} {kv : List (Int × It)} {R : List Rw} (hE : ERel t kv) (h : KRel kv R) : ∀ y ∈ t.toL, y.ka ≤ 18446744073709551615 := fun y hy => by
  obtain ⟨r, hr, rfl⟩ := (toL_mem hE h y).1 hy
  exact (h.rng r hr).2.1.2

set_option maxHeartbeats 4000000 in
set_option maxRecDepth 100000 in
theorem eltreePicks_walk (A0 : Option Addr) (l : List EA) (c0 : Nat) (n : Int) (hR : ∀ x ∈ l, EAOk x) (w : World) (r0 : arrAt w A0 (V.flat encEA l)) :
    Calls Try.prog 4 #[(.slice A0 l.length c0), (u_ n)] w fun e w' => e = .returned (b_ true) ∧ Fr [] w w' := by
  refine calls_of (args := [(.slice A0 l.length c0), (u_ n)]) (penv [(.slice A0 l.length c0), (u_ n)]) [] [] Try.func4 rfl rfl (look_penv _) (HS.nil w) ?_
  refine A.norm [(0, (.slice A0 l.length c0)), (1, (u_ n))] [] (by exact ⟨rfl, rfl, trivial⟩) rfl ?_
  refine A.seq ?_
  refine A.region (A.goA [.p] [(0, (.slice A0 l.length c0)), (1, (u_ n)), (4, (b_ false))] [] T0 (by kernel_rfl) trivial ?_)
  refine A.tn ?_
  refine A.seq ?_
  refine A.seq ?_
  refine A.region (A.goA [.p, .p, .p] [(0, (.slice A0 l.length c0)), (1, (u_ n)), (4, (b_ false)), (20, (b_ (decide ((l.length : Int) > 80))))] [] T0 (by kernel_rfl) trivial ?_)
  refine A.tn ?_
  refine A.cond (E := decide ((l.length : Int) > 80)) rfl (fun e1 => ?_) (fun e1 => ?_)
  · skip
    have p1 := of_decide_eq_true e1
    refine A.seq ?_
    refine A.region (A.goA [.cq (b_ true), .p] [(0, (.slice A0 l.length c0)), (1, (u_ n)), (4, (b_ true)), (20, (b_ (decide ((l.length : Int) > 80))))] [] (fun κ => κ.call 9 [] (b_ true) ∧ True) (by kernel_rfl) ⟨(fun ww ss => el_two ww), trivial⟩ ?_)
    refine A.tn ?_
    refine A.ret ?_
    refine A.tr ?_
    refine A.postQ [(b_ true)] (fun aa ww rr ss => ⟨rv_tmp rr rfl, trivial⟩) ?_
    rfl
  · skip
    have p1 := of_decide_eq_false e1
    refine A.skip ?_
    refine A.tn ?_
    refine A.seq ?_
    refine A.region ?_
    refine A.cons (A.callT (some 22) [] [] ((fun zz => match zz with | (be1, bt2, mb3) => (p_ be1))) ((fun zz => match zz with | (be1, bt2, mb3) => True)) ((fun zz => match zz with | (be1, bt2, mb3) => [blk be1 [(p_ bt2), (.map (some mb3))] 64, blk bt2 [(.pointer (T.ptr T.nil))] 86, treeI 92 T.nil, mapI (fun k : Int => i_ k) (fun y : It => (.agg #[u_ y.ka, i_ y.ki, u_ y.va, i_ y.vi])) mb3 ([] : List (Int × It))])) (fun zz => match zz with | (be1, bt2, mb3) => [blk be1 [(p_ bt2), (.map (some mb3))] 64, blk bt2 [(.pointer (T.ptr T.nil))] 86, treeI 92 T.nil, mapI (fun k : Int => i_ k) (fun y : It => (.agg #[u_ y.ka, i_ y.ki, u_ y.va, i_ y.vi])) mb3 ([] : List (Int × It))]) (by kernel_rfl) rfl rfl (fun ww ss hh => el_new ww hh) (fun _ => rfl) ?_)
    rintro ⟨be1, bt2, mb3⟩ -
    refine A.goA [.p] [(0, (.slice A0 l.length c0)), (1, (u_ n)), (4, (b_ false)), (20, (b_ (decide ((l.length : Int) > 80)))), (5, (p_ be1))] [] T0 (by kernel_rfl) trivial ?_
    refine A.tn ?_
    refine A.seq ?_
    refine A.seq ?_
    refine A.region (A.goA [.p, .p, .p] [(0, (.slice A0 l.length c0)), (1, (u_ n)), (4, (b_ false)), (20, (b_ (decide ((l.length : Int) > 80)))), (5, (p_ be1)), (23, (.slice A0 l.length c0)), (24, (i_ (l.length : Int))), (25, (i_ 0))] [] T0 (by kernel_rfl) trivial ?_)
    refine A.tn ?_
    refine A.block ?_
    refine A.loop (fun (zz : Nat × T × (List (Int × It)) × (List Rw)) => match zz with | (k, t, kv, R) => [(1, (u_ n)), (4, (b_ false)), (5, (p_ be1)), (23, (.slice A0 l.length c0)), (24, (i_ (l.length : Int))), (25, (i_ (k : Int)))]) (fun (zz : Nat × T × (List (Int × It)) × (List Rw)) => match zz with | (k, t, kv, R) => [blk be1 [(p_ bt2), (.map (some mb3))] 64, blk bt2 [(.pointer (T.ptr t))] 86, treeI 92 t, mapI (fun k : Int => i_ k) (fun y : It => (.agg #[u_ y.ka, i_ y.ki, u_ y.va, i_ y.vi])) mb3 kv]) (fun (zz : Nat × T × (List (Int × It)) × (List Rw)) => match zz with | (k, t, kv, R) => (k ≤ l.length) ∧ (ERel t kv) ∧ (KRel kv R) ∧ (R.length ≤ k)) (fun (zz : Nat × T × (List (Int × It)) × (List Rw)) => match zz with | (k, t, kv, R) => l.length - k) (0, T.nil, ([] : List (Int × It)), ([] : List Rw)) ⟨(by first | assumption | omega | (simp_all; done) | (simp_all; omega) | grind), (by exact erel_nil), (by exact krel_nil), (by simp)⟩ ?_ ?_
    · exact A.hereK [0, 0, 0, 0] (by exact ⟨rfl, rfl, rfl, rfl, rfl, rfl, trivial⟩) (by kernel_rfl)
    · rintro ⟨k, t, kv, R⟩ ⟨hk, hE, hK, hL⟩
      have hkl := krel_len hE.nd hK; have hW := hE.wf; have hlt := hE.len
      refine A.norm [(1, (u_ n)), (4, (b_ false)), (5, (p_ be1)), (23, (.slice A0 l.length c0)), (24, (i_ (l.length : Int))), (25, (i_ (k : Int)))] [blk be1 [(p_ bt2), (.map (some mb3))] 64, blk bt2 [(.pointer (T.ptr t))] 86, treeI 92 t, mapI (fun k : Int => i_ k) (fun y : It => (.agg #[u_ y.ka, i_ y.ki, u_ y.va, i_ y.vi])) mb3 kv] (by exact ⟨rfl, rfl, rfl, rfl, rfl, rfl, trivial⟩) rfl ?_
      refine A.seq ?_
      refine A.region (A.goA [.p] [(1, (u_ n)), (4, (b_ false)), (5, (p_ be1)), (23, (.slice A0 l.length c0)), (24, (i_ (l.length : Int))), (25, (i_ (k : Int))), (26, (b_ (decide ((k : Int) < (l.length : Int)))))] [] T0 (by kernel_rfl) trivial ?_)
      refine A.tn ?_
      refine A.seq ?_
      refine A.cond (E := decide ((k : Int) < (l.length : Int))) rfl (fun e3 => ?_) (fun e3 => ?_)
      · skip
        have p3 := of_decide_eq_true e3
        refine A.skip ?_
        refine A.tn ?_
        refine A.seq ?_
        refine A.block ?_
        refine A.seq ?_
        refine A.region (A.goP [.ix] [(1, (u_ n)), (4, (b_ false)), (5, (p_ be1)), (23, (.slice A0 l.length c0)), (24, (i_ (l.length : Int))), (25, (i_ (k : Int))), (26, (b_ (decide ((k : Int) < (l.length : Int))))), (27, (.pointer (some ((at0 A0).add (k * 5)))))] [] (fun κ => κ.ix A0 l.length (k : Int) ∧ True) (by kernel_rfl) ⟨(ixOf encEA_len (by decide) (rd_old r0 (by simp [feet])) (by first | omega | (simp; done))), trivial⟩ ?_)
        obtain ⟨x4, hx4⟩ : ∃ x, (l)[k]? = some x := ⟨_, List.getElem?_eq_getElem (by omega)⟩
        refine A.goA1 [.rd [(i_ x4.ek), (i_ x4.ei), (u_ x4.ea), (u_ x4.eb), (u_ x4.en)], .al, .st 4] [1, 4, 5, 23, 24, 25, 26, 7] (fun b5 => [(1, (u_ n)), (4, (b_ false)), (5, (p_ be1)), (23, (.slice A0 l.length c0)), (24, (i_ (l.length : Int))), (25, (i_ (k : Int))), (26, (b_ (decide ((k : Int) < (l.length : Int))))), (7, (p_ b5))]) (fun b5 => [blk be1 [(p_ bt2), (.map (some mb3))] 64, blk bt2 [(.pointer (T.ptr t))] 86, treeI 92 t, mapI (fun k : Int => i_ k) (fun y : It => (.agg #[u_ y.ka, i_ y.ki, u_ y.va, i_ y.vi])) mb3 kv, blk b5 [(i_ x4.ek), (i_ x4.ei), (u_ x4.ea), (u_ x4.eb), (u_ x4.en)] 29]) (fun b5 => [b5]) (fun _ => (fun κ => κ.rd ((at0 A0).add (k * 5)) [(i_ x4.ek), (i_ x4.ei), (u_ x4.ea), (u_ x4.eb), (u_ x4.en)] ∧ True)) (fun _ => by kernel_rfl) (fun b5 => ⟨(reads_at0 (vs := [(i_ x4.ek), (i_ x4.ei), (u_ x4.ea), (u_ x4.eb), (u_ x4.en)]) encEA_len (rd_old r0 (by simp [feet])) hx4 (by simp) rfl), trivial⟩) ?_
        intro b5
        refine A.tn ?_
        refine A.seq ?_
        refine A.region (A.goA [.p, .ld 4, .p] [(1, (u_ n)), (4, (b_ false)), (5, (p_ be1)), (23, (.slice A0 l.length c0)), (24, (i_ (l.length : Int))), (25, (i_ (k : Int))), (26, (b_ (decide ((k : Int) < (l.length : Int))))), (7, (p_ b5)), (31, (b_ (x4.ek == 0)))] [b5] T0 (by kernel_rfl) trivial ?_)
        refine A.tn ?_
        refine A.cond (E := x4.ek == 0) rfl (fun e4 => ?_) (fun e4 => ?_)
        · skip
          have p4 := e4; try simp only [decide_eq_true_eq, decide_eq_false_iff_not, beq_iff_eq, beq_eq_false_iff_ne, bne_iff_ne, bne_eq_false_iff_eq, ne_eq, Bool.and_eq_true, Bool.or_eq_true, Bool.or_eq_false_iff, Bool.not_eq_true', Bool.not_eq_false', Int.not_lt, Int.not_le, gt_iff_lt, ge_iff_le, Classical.not_not] at p4
          by_cases hd : mget kv x4.ei = none
          · skip
            refine A.region (A.goA [.p, .p, .ld 4, .cq (i_ 6)] [(1, (u_ n)), (4, (b_ false)), (5, (p_ be1)), (23, (.slice A0 l.length c0)), (24, (i_ (l.length : Int))), (25, (i_ (k : Int))), (26, (b_ (decide ((k : Int) < (l.length : Int))))), (7, (p_ b5)), (31, (b_ (x4.ek == 0)))] [b5] (fun κ => κ.call 12 [(p_ be1), (i_ x4.ei)] (i_ 6) ∧ True) (by kernel_rfl) ⟨(fun ww ss => el_drop_none be1 bt2 mb3 t kv x4.ei (by first | assumption | omega | (simp; omega) | exact krel_i64 hE.nd hK) ww (ss.mem (i := 0) rfl) (ss.mem (i := 1) rfl) (ss.mem (i := 2) rfl) (ss.mem (i := 3) rfl)), trivial⟩ ?_)
            refine A.bn ?_
            refine A.tn ?_
            refine A.region (A.goA [.w ((k : Int) + 1), .p] [(1, (u_ n)), (4, (b_ false)), (5, (p_ be1)), (23, (.slice A0 l.length c0)), (24, (i_ (l.length : Int))), (25, (i_ ((k : Int) + 1))), (26, (b_ (decide ((k : Int) < (l.length : Int))))), (7, (p_ b5)), (31, (b_ (x4.ek == 0)))] [] (fun κ => (IntKind.i64.wrap ((k : Int) + 1) = ((k : Int) + 1)) ∧ True) (by kernel_rfl) ⟨(wrap_i64 (e := (k : Int) + 1) (by constructor <;> omega)), trivial⟩ ?_)
            refine A.tn ?_
            have hE2 : ERel t kv := by assumption
            have hK2 : KRel kv (wo x4.ei R) := by first | exact krel_del hE.nd hK _ | (have h_ := krel_del hE.nd hK x4.ei; rw [mdel_id hd] at h_; exact h_) | exact krel_setE (x := ⟨x4.ei, x4.ea, x4.eb⟩) hE.nd hK (rwok_E (hR _ (List.mem_of_getElem? (by assumption)))) | exact krel_setV (x := ⟨x4.ei, x4.ea, x4.eb⟩) hK (rwok_E (hR _ (List.mem_of_getElem? (by assumption))))
            have hL2 : ((wo x4.ei R)).length ≤ k + 1 := by first | exact Nat.le_trans (wo_len _ _) (by omega) | exact Nat.le_trans (setL_len _ _) (by omega)
            refine A.next (k + 1, t, kv, (wo x4.ei R)) ⟨(by first | assumption | omega | (simp_all; done) | (simp_all; omega) | grind), (by assumption), (by exact hK2), (by exact hL2)⟩ (by first | omega | (simp; omega) | (simp_all; omega)) ?_
            exact A.hereK [0, 0, 0, 0] (by exact ⟨rfl, rfl, rfl, rfl, rfl, rfl, trivial⟩) (by kernel_rfl)
          · skip
            refine A.region (A.goP [.p, .p, .ld 4] [(1, (u_ n)), (4, (b_ false)), (5, (p_ be1)), (23, (.slice A0 l.length c0)), (24, (i_ (l.length : Int))), (25, (i_ (k : Int))), (26, (b_ (decide ((k : Int) < (l.length : Int))))), (7, (p_ b5)), (31, (b_ (x4.ek == 0))), (32, (p_ be1)), (34, (i_ x4.ei))] [b5] T0 (by kernel_rfl) trivial ?_)
            refine A.cons (A.callT (some 35) [(p_ be1), (i_ x4.ei)] [0, 0, 0, 0] ((fun zt6 => (i_ 0))) ((fun zt6 => ERel zt6 (mdel kv x4.ei))) ((fun zt6 => [blk be1 [(p_ bt2), (.map (some mb3))] 64, blk bt2 [(.pointer (T.ptr zt6))] 86, treeI 92 zt6, mapI (fun k : Int => i_ k) (fun y : It => (.agg #[u_ y.ka, i_ y.ki, u_ y.va, i_ y.vi])) mb3 (mdel kv x4.ei)])) (fun zt6 => [blk be1 [(p_ bt2), (.map (some mb3))] 64, blk bt2 [(.pointer (T.ptr zt6))] 86, treeI 92 zt6, mapI (fun k : Int => i_ k) (fun y : It => (.agg #[u_ y.ka, i_ y.ki, u_ y.va, i_ y.vi])) mb3 (mdel kv x4.ei), blk b5 [(i_ x4.ek), (i_ x4.ei), (u_ x4.ea), (u_ x4.eb), (u_ x4.en)] 29]) (by kernel_rfl) rfl rfl (fun ww ss hh => el_drop_ok be1 bt2 mb3 t kv x4.ei (by first | assumption | omega | (simp; omega) | exact krel_i64 hE.nd hK) (by first | assumption | omega | (simp; omega) | exact krel_i64 hE.nd hK) (by first | assumption | omega | (simp; omega) | exact krel_i64 hE.nd hK) ww hh) (fun _ => rfl) ?_)
            rintro zt6 hz5
            have hz5W := hz5.wf; have hz5l := hz5.len
            refine A.done ?_
            refine A.sub [(1, (u_ n)), (4, (b_ false)), (5, (p_ be1)), (23, (.slice A0 l.length c0)), (24, (i_ (l.length : Int))), (25, (i_ (k : Int))), (26, (b_ (decide ((k : Int) < (l.length : Int))))), (7, (p_ b5)), (31, (b_ (x4.ek == 0)))] (by exact ⟨rfl, rfl, rfl, rfl, rfl, rfl, rfl, rfl, rfl, trivial⟩) ?_
            refine A.bn ?_
            refine A.tn ?_
            refine A.region (A.goA [.w ((k : Int) + 1), .p] [(1, (u_ n)), (4, (b_ false)), (5, (p_ be1)), (23, (.slice A0 l.length c0)), (24, (i_ (l.length : Int))), (25, (i_ ((k : Int) + 1))), (26, (b_ (decide ((k : Int) < (l.length : Int))))), (7, (p_ b5)), (31, (b_ (x4.ek == 0)))] [] (fun κ => (IntKind.i64.wrap ((k : Int) + 1) = ((k : Int) + 1)) ∧ True) (by kernel_rfl) ⟨(wrap_i64 (e := (k : Int) + 1) (by constructor <;> omega)), trivial⟩ ?_)
            refine A.tn ?_
            have hE2 : ERel zt6 (mdel kv x4.ei) := by assumption
            have hK2 : KRel (mdel kv x4.ei) (wo x4.ei R) := by first | exact krel_del hE.nd hK _ | (have h_ := krel_del hE.nd hK x4.ei; rw [mdel_id hd] at h_; exact h_) | exact krel_setE (x := ⟨x4.ei, x4.ea, x4.eb⟩) hE.nd hK (rwok_E (hR _ (List.mem_of_getElem? (by assumption)))) | exact krel_setV (x := ⟨x4.ei, x4.ea, x4.eb⟩) hK (rwok_E (hR _ (List.mem_of_getElem? (by assumption))))
            have hL2 : ((wo x4.ei R)).length ≤ k + 1 := by first | exact Nat.le_trans (wo_len _ _) (by omega) | exact Nat.le_trans (setL_len _ _) (by omega)
            refine A.next (k + 1, zt6, (mdel kv x4.ei), (wo x4.ei R)) ⟨(by first | assumption | omega | (simp_all; done) | (simp_all; omega) | grind), (by assumption), (by exact hK2), (by exact hL2)⟩ (by first | omega | (simp; omega) | (simp_all; omega)) ?_
            exact A.hereK [0, 0, 0, 0] (by exact ⟨rfl, rfl, rfl, rfl, rfl, rfl, trivial⟩) (by kernel_rfl)
        · skip
          have p4 := e4; try simp only [decide_eq_true_eq, decide_eq_false_iff_not, beq_iff_eq, beq_eq_false_iff_ne, bne_iff_ne, bne_eq_false_iff_eq, ne_eq, Bool.and_eq_true, Bool.or_eq_true, Bool.or_eq_false_iff, Bool.not_eq_true', Bool.not_eq_false', Int.not_lt, Int.not_le, gt_iff_lt, ge_iff_le, Classical.not_not] at p4
          refine A.region (A.goP [.p, .p, .ld 4, .p, .ld 4, .p, .ld 4] [(1, (u_ n)), (4, (b_ false)), (5, (p_ be1)), (23, (.slice A0 l.length c0)), (24, (i_ (l.length : Int))), (25, (i_ (k : Int))), (26, (b_ (decide ((k : Int) < (l.length : Int))))), (7, (p_ b5)), (31, (b_ (x4.ek == 0))), (36, (p_ be1)), (38, (i_ x4.ei)), (40, (u_ x4.ea)), (42, (u_ x4.eb))] [b5, b5, b5] T0 (by kernel_rfl) trivial ?_)
          refine A.cons (A.callT (some 43) [(p_ be1), (i_ x4.ei), (u_ x4.ea), (u_ x4.eb)] [0, 0, 0, 0] ((fun zt7 => (i_ 0))) ((fun zt7 => ERel zt7 (mput (mdel kv x4.ei) x4.ei ⟨x4.ea, x4.ei, x4.eb, x4.ei⟩))) ((fun zt7 => [blk be1 [(p_ bt2), (.map (some mb3))] 64, blk bt2 [(.pointer (T.ptr zt7))] 86, treeI 92 zt7, mapI (fun k : Int => i_ k) (fun y : It => (.agg #[u_ y.ka, i_ y.ki, u_ y.va, i_ y.vi])) mb3 (mput (mdel kv x4.ei) x4.ei ⟨x4.ea, x4.ei, x4.eb, x4.ei⟩)])) (fun zt7 => [blk be1 [(p_ bt2), (.map (some mb3))] 64, blk bt2 [(.pointer (T.ptr zt7))] 86, treeI 92 zt7, mapI (fun k : Int => i_ k) (fun y : It => (.agg #[u_ y.ka, i_ y.ki, u_ y.va, i_ y.vi])) mb3 (mput (mdel kv x4.ei) x4.ei ⟨x4.ea, x4.ei, x4.eb, x4.ei⟩), blk b5 [(i_ x4.ek), (i_ x4.ei), (u_ x4.ea), (u_ x4.eb), (u_ x4.en)] 29]) (by kernel_rfl) rfl rfl (fun ww ss hh => el_set be1 bt2 mb3 t kv x4.ei x4.ea x4.eb (by first | assumption | omega | (simp; omega) | exact krel_i64 hE.nd hK) (by first | assumption | omega | (simp; omega) | exact krel_i64 hE.nd hK) ww hh) (fun _ => rfl) ?_)
          rintro zt7 hz6
          have hz6W := hz6.wf; have hz6l := hz6.len
          refine A.done ?_
          refine A.sub [(1, (u_ n)), (4, (b_ false)), (5, (p_ be1)), (23, (.slice A0 l.length c0)), (24, (i_ (l.length : Int))), (25, (i_ (k : Int))), (26, (b_ (decide ((k : Int) < (l.length : Int))))), (7, (p_ b5)), (31, (b_ (x4.ek == 0)))] (by exact ⟨rfl, rfl, rfl, rfl, rfl, rfl, rfl, rfl, rfl, trivial⟩) ?_
          refine A.bn ?_
          refine A.tn ?_
          refine A.region (A.goA [.w ((k : Int) + 1), .p] [(1, (u_ n)), (4, (b_ false)), (5, (p_ be1)), (23, (.slice A0 l.length c0)), (24, (i_ (l.length : Int))), (25, (i_ ((k : Int) + 1))), (26, (b_ (decide ((k : Int) < (l.length : Int))))), (7, (p_ b5)), (31, (b_ (x4.ek == 0)))] [] (fun κ => (IntKind.i64.wrap ((k : Int) + 1) = ((k : Int) + 1)) ∧ True) (by kernel_rfl) ⟨(wrap_i64 (e := (k : Int) + 1) (by constructor <;> omega)), trivial⟩ ?_)
          refine A.tn ?_
          have hE2 : ERel zt7 (mput (mdel kv x4.ei) x4.ei ⟨x4.ea, x4.ei, x4.eb, x4.ei⟩) := by assumption
          have hK2 : KRel (mput (mdel kv x4.ei) x4.ei ⟨x4.ea, x4.ei, x4.eb, x4.ei⟩) (setL ⟨x4.ei, x4.ea, x4.eb⟩ R) := by first | exact krel_del hE.nd hK _ | (have h_ := krel_del hE.nd hK x4.ei; rw [mdel_id hd] at h_; exact h_) | exact krel_setE (x := ⟨x4.ei, x4.ea, x4.eb⟩) hE.nd hK (rwok_E (hR _ (List.mem_of_getElem? (by assumption)))) | exact krel_setV (x := ⟨x4.ei, x4.ea, x4.eb⟩) hK (rwok_E (hR _ (List.mem_of_getElem? (by assumption))))
          have hL2 : ((setL ⟨x4.ei, x4.ea, x4.eb⟩ R)).length ≤ k + 1 := by first | exact Nat.le_trans (wo_len _ _) (by omega) | exact Nat.le_trans (setL_len _ _) (by omega)
          refine A.next (k + 1, zt7, (mput (mdel kv x4.ei) x4.ei ⟨x4.ea, x4.ei, x4.eb, x4.ei⟩), (setL ⟨x4.ei, x4.ea, x4.eb⟩ R)) ⟨(by first | assumption | omega | (simp_all; done) | (simp_all; omega) | grind), (by assumption), (by exact hK2), (by exact hL2)⟩ (by first | omega | (simp; omega) | (simp_all; omega)) ?_
          exact A.hereK [0, 0, 0, 0] (by exact ⟨rfl, rfl, rfl, rfl, rfl, rfl, trivial⟩) (by kernel_rfl)
      · skip
        have p3 := of_decide_eq_false e3
        refine A.exit ?_
        refine A.te ?_
        refine A.te ?_
        refine A.bh ?_
        refine A.tn ?_
        refine A.seq ?_
        refine A.region (A.goA [.p, .p, .cq (.tuple #[(i_ (((belowL (imin n 9223372036854775807) t.toL).getD default).ki)), (b_ ((belowL (imin n 9223372036854775807) t.toL).isSome))]), .p, .p, .p, .p, .p] [(1, (u_ n)), (4, (b_ false)), (5, (p_ be1)), (23, (.slice A0 l.length c0)), (24, (i_ (l.length : Int))), (25, (i_ (k : Int))), (26, (b_ (decide ((k : Int) < (l.length : Int))))), (8, (i_ (((belowL (imin n 9223372036854775807) t.toL).getD default).ki))), (9, (b_ ((belowL (imin n 9223372036854775807) t.toL).isSome)))] [] (fun κ => κ.call 18 [(p_ be1), (u_ n)] (.tuple #[(i_ (((belowL (imin n 9223372036854775807) t.toL).getD default).ki)), (b_ ((belowL (imin n 9223372036854775807) t.toL).isSome))]) ∧ True) (by kernel_rfl) ⟨(fun ww ss => el_pick be1 bt2 mb3 t kv n (by first | assumption | omega | (simp; omega) | exact krel_i64 hE.nd hK) ww (ss.mem (i := 0) rfl) (ss.mem (i := 1) rfl) (ss.mem (i := 2) rfl) (ss.mem (i := 3) rfl)), trivial⟩ ?_)
        refine A.tn ?_
        refine A.seq ?_
        refine A.region (A.goA [.p, .p, .cq (.tuple #[(u_ (getA kv (((belowL (imin n 9223372036854775807) t.toL).getD default).ki))), (u_ (getB kv (((belowL (imin n 9223372036854775807) t.toL).getD default).ki))), (i_ (getE kv (((belowL (imin n 9223372036854775807) t.toL).getD default).ki)))]), .p, .p, .p, .p, .p, .p, .p] [(1, (u_ n)), (4, (b_ false)), (5, (p_ be1)), (23, (.slice A0 l.length c0)), (24, (i_ (l.length : Int))), (25, (i_ (k : Int))), (26, (b_ (decide ((k : Int) < (l.length : Int))))), (8, (i_ (((belowL (imin n 9223372036854775807) t.toL).getD default).ki))), (9, (b_ ((belowL (imin n 9223372036854775807) t.toL).isSome))), (10, (u_ (getA kv (((belowL (imin n 9223372036854775807) t.toL).getD default).ki)))), (11, (u_ (getB kv (((belowL (imin n 9223372036854775807) t.toL).getD default).ki)))), (12, (i_ (getE kv (((belowL (imin n 9223372036854775807) t.toL).getD default).ki))))] [] (fun κ => κ.call 16 [(p_ be1), (i_ (((belowL (imin n 9223372036854775807) t.toL).getD default).ki))] (.tuple #[(u_ (getA kv (((belowL (imin n 9223372036854775807) t.toL).getD default).ki))), (u_ (getB kv (((belowL (imin n 9223372036854775807) t.toL).getD default).ki))), (i_ (getE kv (((belowL (imin n 9223372036854775807) t.toL).getD default).ki)))]) ∧ True) (by kernel_rfl) ⟨(fun ww ss => el_get be1 bt2 mb3 t kv (((belowL (imin n 9223372036854775807) t.toL).getD default).ki) ww (ss.mem (i := 0) rfl) (ss.mem (i := 1) rfl) (ss.mem (i := 2) rfl) (ss.mem (i := 3) rfl)), trivial⟩ ?_)
        refine A.tn ?_
        refine A.seq ?_
        refine A.seq ?_
        refine A.region (A.goA [.p, .p, .o, .p, .p, .p, .o, .p, .p, .p, .cl, .p, .o, .p, .p, .cl, .cl] [(1, (u_ n)), (4, (b_ false)), (5, (p_ be1)), (23, (.slice A0 l.length c0)), (24, (i_ (l.length : Int))), (25, (i_ (k : Int))), (26, (b_ (decide ((k : Int) < (l.length : Int))))), (8, (i_ (((belowL (imin n 9223372036854775807) t.toL).getD default).ki))), (9, (b_ ((belowL (imin n 9223372036854775807) t.toL).isSome))), (10, (u_ (getA kv (((belowL (imin n 9223372036854775807) t.toL).getD default).ki)))), (11, (u_ (getB kv (((belowL (imin n 9223372036854775807) t.toL).getD default).ki)))), (12, (i_ (getE kv (((belowL (imin n 9223372036854775807) t.toL).getD default).ki)))), (71, (b_ (((belowL (imin n 9223372036854775807) t.toL).isSome) && ((((getE kv (((belowL (imin n 9223372036854775807) t.toL).getD default).ki)) != 0) || (decide ((getA kv (((belowL (imin n 9223372036854775807) t.toL).getD default).ki)) > n))) || (decide ((getA kv (((belowL (imin n 9223372036854775807) t.toL).getD default).ki)) ≥ 9223372036854775808))))))] [] T0 (by kernel_rfl) trivial ?_)
        refine A.tn ?_
        refine A.cond (E := ((belowL (imin n 9223372036854775807) t.toL).isSome) && ((((getE kv (((belowL (imin n 9223372036854775807) t.toL).getD default).ki)) != 0) || (decide ((getA kv (((belowL (imin n 9223372036854775807) t.toL).getD default).ki)) > n))) || (decide ((getA kv (((belowL (imin n 9223372036854775807) t.toL).getD default).ki)) ≥ 9223372036854775808)))) rfl (fun e7 => ?_) (fun e7 => ?_)
        · exact absurd e7 (by (rcases pk_get hE n with ⟨e, _⟩ | ⟨m, e, g1, g2, g3, g4, g5⟩; (rw [e]; simp); (rw [e]; simp only [Option.getD_some, g1, g2]; simp; omega)))
        · skip
          have p7 := e7; try simp only [decide_eq_true_eq, decide_eq_false_iff_not, beq_iff_eq, beq_eq_false_iff_ne, bne_iff_ne, bne_eq_false_iff_eq, ne_eq, Bool.and_eq_true, Bool.or_eq_true, Bool.or_eq_false_iff, Bool.not_eq_true', Bool.not_eq_false', Int.not_lt, Int.not_le, gt_iff_lt, ge_iff_le, Classical.not_not] at p7
          refine A.skip ?_
          refine A.tn ?_
          refine A.seq ?_
          refine A.seq ?_
          refine A.region (A.goP [.p] [(1, (u_ n)), (4, (b_ false)), (5, (p_ be1)), (23, (.slice A0 l.length c0)), (24, (i_ (l.length : Int))), (25, (i_ (k : Int))), (26, (b_ (decide ((k : Int) < (l.length : Int))))), (8, (i_ (((belowL (imin n 9223372036854775807) t.toL).getD default).ki))), (9, (b_ ((belowL (imin n 9223372036854775807) t.toL).isSome))), (10, (u_ (getA kv (((belowL (imin n 9223372036854775807) t.toL).getD default).ki)))), (11, (u_ (getB kv (((belowL (imin n 9223372036854775807) t.toL).getD default).ki)))), (12, (i_ (getE kv (((belowL (imin n 9223372036854775807) t.toL).getD default).ki)))), (71, (b_ (((belowL (imin n 9223372036854775807) t.toL).isSome) && ((((getE kv (((belowL (imin n 9223372036854775807) t.toL).getD default).ki)) != 0) || (decide ((getA kv (((belowL (imin n 9223372036854775807) t.toL).getD default).ki)) > n))) || (decide ((getA kv (((belowL (imin n 9223372036854775807) t.toL).getD default).ki)) ≥ 9223372036854775808)))))), (72, (p_ be1))] [] T0 (by kernel_rfl) trivial ?_)
          refine A.cons (A.callT (some 73) [(p_ be1)] [] ((fun zz => match zz with | (al'8, cl'9) => (.slice al'8 ((sortK kv).length) cl'9))) ((fun zz => match zz with | (al'8, cl'9) => True)) ((fun zz => match zz with | (al'8, cl'9) => [sl al'8 ((sortK kv).length) cl'9 3 1 (V.flat encI (sortK kv))])) (fun zz => match zz with | (al'8, cl'9) => [sl al'8 ((sortK kv).length) cl'9 3 1 (V.flat encI (sortK kv)), blk be1 [(p_ bt2), (.map (some mb3))] 64, blk bt2 [(.pointer (T.ptr t))] 86, treeI 92 t, mapI (fun k : Int => i_ k) (fun y : It => (.agg #[u_ y.ka, i_ y.ki, u_ y.va, i_ y.vi])) mb3 kv]) (by kernel_rfl) rfl rfl (fun ww ss hh => el_ids be1 bt2 mb3 t kv (by first | assumption | omega | (simp; omega) | exact krel_i64 hE.nd hK) (by first | assumption | omega | (simp; omega) | exact krel_i64 hE.nd hK) ww (ss.mem (i := 0) rfl) (ss.mem (i := 1) rfl) (ss.mem (i := 2) rfl) (ss.mem (i := 3) rfl) hh) (fun _ => rfl) ?_)
          rintro ⟨al'8, cl'9⟩ -
          refine A.goA [.p, .p] [(1, (u_ n)), (4, (b_ false)), (5, (p_ be1)), (23, (.slice A0 l.length c0)), (24, (i_ (l.length : Int))), (25, (i_ (k : Int))), (26, (b_ (decide ((k : Int) < (l.length : Int))))), (8, (i_ (((belowL (imin n 9223372036854775807) t.toL).getD default).ki))), (9, (b_ ((belowL (imin n 9223372036854775807) t.toL).isSome))), (10, (u_ (getA kv (((belowL (imin n 9223372036854775807) t.toL).getD default).ki)))), (11, (u_ (getB kv (((belowL (imin n 9223372036854775807) t.toL).getD default).ki)))), (12, (i_ (getE kv (((belowL (imin n 9223372036854775807) t.toL).getD default).ki)))), (71, (b_ (((belowL (imin n 9223372036854775807) t.toL).isSome) && ((((getE kv (((belowL (imin n 9223372036854775807) t.toL).getD default).ki)) != 0) || (decide ((getA kv (((belowL (imin n 9223372036854775807) t.toL).getD default).ki)) > n))) || (decide ((getA kv (((belowL (imin n 9223372036854775807) t.toL).getD default).ki)) ≥ 9223372036854775808)))))), (73, (.slice al'8 ((sortK kv).length) cl'9)), (74, (i_ ((sortK kv).length : Int))), (75, (i_ 0))] [] T0 (by kernel_rfl) trivial ?_
          refine A.tn ?_
          refine A.block ?_
          refine A.loop (fun (zz : Nat) => match zz with | k2 => [(1, (u_ n)), (5, (p_ be1)), (8, (i_ (((belowL (imin n 9223372036854775807) t.toL).getD default).ki))), (9, (b_ ((belowL (imin n 9223372036854775807) t.toL).isSome))), (11, (u_ (getB kv (((belowL (imin n 9223372036854775807) t.toL).getD default).ki)))), (73, (.slice al'8 ((sortK kv).length) cl'9)), (74, (i_ ((sortK kv).length : Int))), (75, (i_ (k2 : Int)))]) (fun (zz : Nat) => match zz with | k2 => [sl al'8 ((sortK kv).length) cl'9 3 1 (V.flat encI (sortK kv)), blk be1 [(p_ bt2), (.map (some mb3))] 64, blk bt2 [(.pointer (T.ptr t))] 86, treeI 92 t, mapI (fun k : Int => i_ k) (fun y : It => (.agg #[u_ y.ka, i_ y.ki, u_ y.va, i_ y.vi])) mb3 kv]) (fun (zz : Nat) => match zz with | k2 => (k2 ≤ (sortK kv).length)) (fun (zz : Nat) => match zz with | k2 => (sortK kv).length - k2) (0 : Nat) (by first | assumption | omega | (simp_all; done) | (simp_all; omega) | grind) ?_ ?_
          · exact A.hereK [0, 0, 0, 0, 0] (by exact ⟨rfl, rfl, rfl, rfl, rfl, rfl, rfl, rfl, trivial⟩) (by kernel_rfl)
          · rintro k2 hk2
            have hk2 : k2 ≤ (sortK kv).length := hk2
            have hskl := sortK_len kv
            refine A.norm [(1, (u_ n)), (5, (p_ be1)), (8, (i_ (((belowL (imin n 9223372036854775807) t.toL).getD default).ki))), (9, (b_ ((belowL (imin n 9223372036854775807) t.toL).isSome))), (11, (u_ (getB kv (((belowL (imin n 9223372036854775807) t.toL).getD default).ki)))), (73, (.slice al'8 ((sortK kv).length) cl'9)), (74, (i_ ((sortK kv).length : Int))), (75, (i_ (k2 : Int)))] [sl al'8 ((sortK kv).length) cl'9 3 1 (V.flat encI (sortK kv)), blk be1 [(p_ bt2), (.map (some mb3))] 64, blk bt2 [(.pointer (T.ptr t))] 86, treeI 92 t, mapI (fun k : Int => i_ k) (fun y : It => (.agg #[u_ y.ka, i_ y.ki, u_ y.va, i_ y.vi])) mb3 kv] (by exact ⟨rfl, rfl, rfl, rfl, rfl, rfl, rfl, rfl, trivial⟩) rfl ?_
            refine A.seq ?_
            refine A.region (A.goA [.p] [(1, (u_ n)), (5, (p_ be1)), (8, (i_ (((belowL (imin n 9223372036854775807) t.toL).getD default).ki))), (9, (b_ ((belowL (imin n 9223372036854775807) t.toL).isSome))), (11, (u_ (getB kv (((belowL (imin n 9223372036854775807) t.toL).getD default).ki)))), (73, (.slice al'8 ((sortK kv).length) cl'9)), (74, (i_ ((sortK kv).length : Int))), (75, (i_ (k2 : Int))), (76, (b_ (decide ((k2 : Int) < ((sortK kv).length : Int)))))] [] T0 (by kernel_rfl) trivial ?_)
            refine A.tn ?_
            refine A.seq ?_
            refine A.cond (E := decide ((k2 : Int) < ((sortK kv).length : Int))) rfl (fun e9 => ?_) (fun e9 => ?_)
            · skip
              have p9 := of_decide_eq_true e9
              refine A.skip ?_
              refine A.tn ?_
              refine A.seq ?_
              refine A.block ?_
              refine A.seq ?_
              refine A.region (A.goP [.ix] [(1, (u_ n)), (5, (p_ be1)), (8, (i_ (((belowL (imin n 9223372036854775807) t.toL).getD default).ki))), (9, (b_ ((belowL (imin n 9223372036854775807) t.toL).isSome))), (11, (u_ (getB kv (((belowL (imin n 9223372036854775807) t.toL).getD default).ki)))), (73, (.slice al'8 ((sortK kv).length) cl'9)), (74, (i_ ((sortK kv).length : Int))), (75, (i_ (k2 : Int))), (76, (b_ (decide ((k2 : Int) < ((sortK kv).length : Int))))), (77, (.pointer (some ((at0 al'8).add (k2 * 1)))))] [] (fun κ => κ.ix al'8 ((sortK kv).length) (k2 : Int) ∧ True) (by kernel_rfl) ⟨(ixOf encI_len (by decide) (rd_sl (i := 0) rfl) (by first | omega | (simp; done))), trivial⟩ ?_)
              obtain ⟨x11, hx11⟩ : ∃ x, ((sortK kv))[k2]? = some x := ⟨_, List.getElem?_eq_getElem (by omega)⟩
              refine A.goA [.rd [(i_ x11)], .p] [(1, (u_ n)), (5, (p_ be1)), (8, (i_ (((belowL (imin n 9223372036854775807) t.toL).getD default).ki))), (9, (b_ ((belowL (imin n 9223372036854775807) t.toL).isSome))), (11, (u_ (getB kv (((belowL (imin n 9223372036854775807) t.toL).getD default).ki)))), (73, (.slice al'8 ((sortK kv).length) cl'9)), (74, (i_ ((sortK kv).length : Int))), (75, (i_ (k2 : Int))), (76, (b_ (decide ((k2 : Int) < ((sortK kv).length : Int))))), (14, (i_ x11))] [] (fun κ => κ.rd ((at0 al'8).add (k2 * 1)) [(i_ x11)] ∧ True) (by kernel_rfl) ⟨(reads_at0 (vs := [(i_ x11)]) encI_len (rd_sl (i := 0) rfl) hx11 (by simp) rfl), trivial⟩ ?_
              refine A.tn ?_
              refine A.seq ?_
              refine A.region (A.goA [.p, .p, .cq (.tuple #[(u_ (getA kv x11)), (u_ (getB kv x11)), (i_ (getE kv x11))]), .p, .p, .p, .p, .p, .p, .p] [(1, (u_ n)), (5, (p_ be1)), (8, (i_ (((belowL (imin n 9223372036854775807) t.toL).getD default).ki))), (9, (b_ ((belowL (imin n 9223372036854775807) t.toL).isSome))), (11, (u_ (getB kv (((belowL (imin n 9223372036854775807) t.toL).getD default).ki)))), (73, (.slice al'8 ((sortK kv).length) cl'9)), (74, (i_ ((sortK kv).length : Int))), (75, (i_ (k2 : Int))), (76, (b_ (decide ((k2 : Int) < ((sortK kv).length : Int))))), (14, (i_ x11)), (15, (u_ (getA kv x11))), (16, (u_ (getB kv x11))), (17, (i_ (getE kv x11)))] [] (fun κ => κ.call 16 [(p_ be1), (i_ x11)] (.tuple #[(u_ (getA kv x11)), (u_ (getB kv x11)), (i_ (getE kv x11))]) ∧ True) (by kernel_rfl) ⟨(fun ww ss => el_get be1 bt2 mb3 t kv x11 ww (ss.mem (i := 1) rfl) (ss.mem (i := 2) rfl) (ss.mem (i := 3) rfl) (ss.mem (i := 4) rfl)), trivial⟩ ?_)
              refine A.tn ?_
              refine A.seq ?_
              refine A.region (A.goA [.p, .p, .p, .o, .p, .p, .p, .p, .o, .p, .p, .cl, .p, .o, .p, .p, .p, .o, .p, .p, .p, .cl, .p, .o, .p, .p, .p, .p, .o, .p, .p, .p, .cl, .cl, .cl, .cl, .p, .o, .p, .p, .p, .o, .p, .cq (u_ (nextV t.toL)), .p, .p, .cl, .cl] [(1, (u_ n)), (5, (p_ be1)), (8, (i_ (((belowL (imin n 9223372036854775807) t.toL).getD default).ki))), (9, (b_ ((belowL (imin n 9223372036854775807) t.toL).isSome))), (11, (u_ (getB kv (((belowL (imin n 9223372036854775807) t.toL).getD default).ki)))), (73, (.slice al'8 ((sortK kv).length) cl'9)), (74, (i_ ((sortK kv).length : Int))), (75, (i_ (k2 : Int))), (76, (b_ (decide ((k2 : Int) < ((sortK kv).length : Int))))), (14, (i_ x11)), (15, (u_ (getA kv x11))), (16, (u_ (getB kv x11))), (17, (i_ (getE kv x11))), (125, (b_ ((((getE kv x11) != 0) || (((decide ((getA kv x11) ≤ n)) && (decide ((getA kv x11) < 9223372036854775808))) && (((!((belowL (imin n 9223372036854775807) t.toL).isSome)) || (decide ((getB kv x11) < (getB kv (((belowL (imin n 9223372036854775807) t.toL).getD default).ki))))) || (((getB kv x11) == (getB kv (((belowL (imin n 9223372036854775807) t.toL).getD default).ki))) && (decide (x11 < (((belowL (imin n 9223372036854775807) t.toL).getD default).ki))))))) || ((decide ((getA kv x11) < 9223372036854775808)) && (decide ((nextV t.toL) > (getA kv x11)))))))] [] (fun κ => (((true && ((((getE kv x11) != 0) || (((decide ((getA kv x11) ≤ n)) && (decide ((getA kv x11) < 9223372036854775808))) && (((!((belowL (imin n 9223372036854775807) t.toL).isSome)) || (decide ((getB kv x11) < (getB kv (((belowL (imin n 9223372036854775807) t.toL).getD default).ki))))) || (((getB kv x11) == (getB kv (((belowL (imin n 9223372036854775807) t.toL).getD default).ki))) && (decide (x11 < (((belowL (imin n 9223372036854775807) t.toL).getD default).ki))))))) == false)) && ((decide ((getA kv x11) < 9223372036854775808)) == true)) = true → κ.call 20 [(p_ be1)] (u_ (nextV t.toL))) ∧ True) (by kernel_rfl) ⟨(fun h_ => (fun ww ss => el_next be1 bt2 mb3 t kv (by first | assumption | omega | (simp; omega) | exact krel_i64 hE.nd hK) ww (ss.mem (i := 1) rfl) (ss.mem (i := 2) rfl) (ss.mem (i := 3) rfl) (ss.mem (i := 4) rfl))), trivial⟩ ?_)
              refine A.tn ?_
              refine A.cond (E := (((getE kv x11) != 0) || (((decide ((getA kv x11) ≤ n)) && (decide ((getA kv x11) < 9223372036854775808))) && (((!((belowL (imin n 9223372036854775807) t.toL).isSome)) || (decide ((getB kv x11) < (getB kv (((belowL (imin n 9223372036854775807) t.toL).getD default).ki))))) || (((getB kv x11) == (getB kv (((belowL (imin n 9223372036854775807) t.toL).getD default).ki))) && (decide (x11 < (((belowL (imin n 9223372036854775807) t.toL).getD default).ki))))))) || ((decide ((getA kv x11) < 9223372036854775808)) && (decide ((nextV t.toL) > (getA kv x11))))) rfl (fun e10 => ?_) (fun e10 => ?_)
              · exact absurd e10 (by (obtain ⟨y, hy, hyx⟩ := ids_get hE (List.mem_of_getElem? (by assumption)); subst hyx; obtain ⟨q1, q2, q3, q4⟩ := mem_get hE hy; have hnx := next_le hE hy; rcases pk_get hE n with ⟨e, g5⟩ | ⟨m, e, g1, g2, g3, g4, g5⟩; (have g6 := g5 y hy; unfold never at hnx; simp only [e, q1, q2, q3]; simp; omega); (have g6 := g5 y hy; unfold never at hnx; simp only [e, q1, q2, q3, Option.getD_some, g1, g2, g3]; simp; omega)))
              · skip
                have p10 := e10; try simp only [decide_eq_true_eq, decide_eq_false_iff_not, beq_iff_eq, beq_eq_false_iff_ne, bne_iff_ne, bne_eq_false_iff_eq, ne_eq, Bool.and_eq_true, Bool.or_eq_true, Bool.or_eq_false_iff, Bool.not_eq_true', Bool.not_eq_false', Int.not_lt, Int.not_le, gt_iff_lt, ge_iff_le, Classical.not_not] at p10
                refine A.skip ?_
                refine A.bn ?_
                refine A.tn ?_
                refine A.region (A.goA [.w ((k2 : Int) + 1), .p] [(1, (u_ n)), (5, (p_ be1)), (8, (i_ (((belowL (imin n 9223372036854775807) t.toL).getD default).ki))), (9, (b_ ((belowL (imin n 9223372036854775807) t.toL).isSome))), (11, (u_ (getB kv (((belowL (imin n 9223372036854775807) t.toL).getD default).ki)))), (73, (.slice al'8 ((sortK kv).length) cl'9)), (74, (i_ ((sortK kv).length : Int))), (75, (i_ ((k2 : Int) + 1))), (76, (b_ (decide ((k2 : Int) < ((sortK kv).length : Int))))), (14, (i_ x11)), (15, (u_ (getA kv x11))), (16, (u_ (getB kv x11))), (17, (i_ (getE kv x11))), (125, (b_ ((((getE kv x11) != 0) || (((decide ((getA kv x11) ≤ n)) && (decide ((getA kv x11) < 9223372036854775808))) && (((!((belowL (imin n 9223372036854775807) t.toL).isSome)) || (decide ((getB kv x11) < (getB kv (((belowL (imin n 9223372036854775807) t.toL).getD default).ki))))) || (((getB kv x11) == (getB kv (((belowL (imin n 9223372036854775807) t.toL).getD default).ki))) && (decide (x11 < (((belowL (imin n 9223372036854775807) t.toL).getD default).ki))))))) || ((decide ((getA kv x11) < 9223372036854775808)) && (decide ((nextV t.toL) > (getA kv x11)))))))] [] (fun κ => (IntKind.i64.wrap ((k2 : Int) + 1) = ((k2 : Int) + 1)) ∧ True) (by kernel_rfl) ⟨(wrap_i64 (e := (k2 : Int) + 1) (by constructor <;> omega)), trivial⟩ ?_)
                refine A.tn ?_
                refine A.next (k2 + 1) (by first | assumption | omega | (simp_all; done) | (simp_all; omega) | grind) (by first | omega | (simp; omega) | (simp_all; omega)) ?_
                exact A.hereK [0, 0, 0, 0, 0] (by exact ⟨rfl, rfl, rfl, rfl, rfl, rfl, rfl, rfl, trivial⟩) (by kernel_rfl)
            · skip
              have p9 := of_decide_eq_false e9
              refine A.exit ?_
              refine A.te ?_
              refine A.te ?_
              refine A.bh ?_
              refine A.tn ?_
              refine A.seq ?_
              refine A.region (A.goA [.cq (b_ true), .p] [(1, (u_ n)), (5, (p_ be1)), (8, (i_ (((belowL (imin n 9223372036854775807) t.toL).getD default).ki))), (9, (b_ ((belowL (imin n 9223372036854775807) t.toL).isSome))), (11, (u_ (getB kv (((belowL (imin n 9223372036854775807) t.toL).getD default).ki)))), (73, (.slice al'8 ((sortK kv).length) cl'9)), (74, (i_ ((sortK kv).length : Int))), (75, (i_ (k2 : Int))), (76, (b_ (decide ((k2 : Int) < ((sortK kv).length : Int))))), (4, (b_ true))] [] (fun κ => κ.call 9 [] (b_ true) ∧ True) (by kernel_rfl) ⟨(fun ww ss => el_two ww), trivial⟩ ?_)
              refine A.tn ?_
              refine A.ret ?_
              refine A.postQ [(b_ true)] (fun aa ww rr ss => ⟨rv_tmp rr rfl, trivial⟩) ?_
              rfl

set_option maxHeartbeats 4000000 in
set_option maxRecDepth 100000 in
theorem vtreePicks_walk (A0 : Option Addr) (l : List VA) (c0 : Nat) (n : Int) (hR : ∀ x ∈ l, VAOk x) (w : World) (r0 : arrAt w A0 (V.flat encVA l)) :
    Calls Try.prog 7 #[(.slice A0 l.length c0), (u_ n)] w fun e w' => e = .returned (b_ true) ∧ Fr [] w w' := by
  refine calls_of (args := [(.slice A0 l.length c0), (u_ n)]) (penv [(.slice A0 l.length c0), (u_ n)]) [] [] Try.func7 rfl rfl (look_penv _) (HS.nil w) ?_
  refine A.norm [(0, (.slice A0 l.length c0)), (1, (u_ n))] [] (by exact ⟨rfl, rfl, trivial⟩) rfl ?_
  refine A.seq ?_
  refine A.region (A.goA [.p] [(0, (.slice A0 l.length c0)), (1, (u_ n)), (4, (b_ false))] [] T0 (by kernel_rfl) trivial ?_)
  refine A.tn ?_
  refine A.seq ?_
  refine A.seq ?_
  refine A.region (A.goA [.p, .p, .p] [(0, (.slice A0 l.length c0)), (1, (u_ n)), (4, (b_ false)), (20, (b_ (decide ((l.length : Int) > 80))))] [] T0 (by kernel_rfl) trivial ?_)
  refine A.tn ?_
  refine A.cond (E := decide ((l.length : Int) > 80)) rfl (fun e1 => ?_) (fun e1 => ?_)
  · skip
    have p1 := of_decide_eq_true e1
    refine A.seq ?_
    refine A.region (A.goA [.cq (b_ true), .p] [(0, (.slice A0 l.length c0)), (1, (u_ n)), (4, (b_ true)), (20, (b_ (decide ((l.length : Int) > 80))))] [] (fun κ => κ.call 22 [] (b_ true) ∧ True) (by kernel_rfl) ⟨(fun ww ss => vt_two ww), trivial⟩ ?_)
    refine A.tn ?_
    refine A.ret ?_
    refine A.tr ?_
    refine A.postQ [(b_ true)] (fun aa ww rr ss => ⟨rv_tmp rr rfl, trivial⟩) ?_
    rfl
  · skip
    have p1 := of_decide_eq_false e1
    refine A.skip ?_
    refine A.tn ?_
    refine A.seq ?_
    refine A.region ?_
    refine A.cons (A.callT (some 22) [] [] ((fun zz => match zz with | (be1, bt2, mb3) => (p_ be1))) ((fun zz => match zz with | (be1, bt2, mb3) => True)) ((fun zz => match zz with | (be1, bt2, mb3) => [blk be1 [(p_ bt2), (.map (some mb3))] 82, blk bt2 [(.pointer (T.ptr T.nil))] 86, treeI 92 T.nil, mapI (fun k : Int => i_ k) (fun y : It => (.agg #[u_ y.ka, i_ y.ki, u_ y.va, i_ y.vi])) mb3 ([] : List (Int × It))])) (fun zz => match zz with | (be1, bt2, mb3) => [blk be1 [(p_ bt2), (.map (some mb3))] 82, blk bt2 [(.pointer (T.ptr T.nil))] 86, treeI 92 T.nil, mapI (fun k : Int => i_ k) (fun y : It => (.agg #[u_ y.ka, i_ y.ki, u_ y.va, i_ y.vi])) mb3 ([] : List (Int × It))]) (by kernel_rfl) rfl rfl (fun ww ss hh => vt_new ww hh) (fun _ => rfl) ?_)
    rintro ⟨be1, bt2, mb3⟩ -
    refine A.goA [.p] [(0, (.slice A0 l.length c0)), (1, (u_ n)), (4, (b_ false)), (20, (b_ (decide ((l.length : Int) > 80)))), (5, (p_ be1))] [] T0 (by kernel_rfl) trivial ?_
    refine A.tn ?_
    refine A.seq ?_
    refine A.seq ?_
    refine A.region (A.goA [.p, .p, .p] [(0, (.slice A0 l.length c0)), (1, (u_ n)), (4, (b_ false)), (20, (b_ (decide ((l.length : Int) > 80)))), (5, (p_ be1)), (23, (.slice A0 l.length c0)), (24, (i_ (l.length : Int))), (25, (i_ 0))] [] T0 (by kernel_rfl) trivial ?_)
    refine A.tn ?_
    refine A.block ?_
    refine A.loop (fun (zz : Nat × T × (List (Int × It)) × (List Rw)) => match zz with | (k, t, kv, R) => [(1, (u_ n)), (4, (b_ false)), (5, (p_ be1)), (23, (.slice A0 l.length c0)), (24, (i_ (l.length : Int))), (25, (i_ (k : Int)))]) (fun (zz : Nat × T × (List (Int × It)) × (List Rw)) => match zz with | (k, t, kv, R) => [blk be1 [(p_ bt2), (.map (some mb3))] 82, blk bt2 [(.pointer (T.ptr t))] 86, treeI 92 t, mapI (fun k : Int => i_ k) (fun y : It => (.agg #[u_ y.ka, i_ y.ki, u_ y.va, i_ y.vi])) mb3 kv]) (fun (zz : Nat × T × (List (Int × It)) × (List Rw)) => match zz with | (k, t, kv, R) => (k ≤ l.length) ∧ (ERel t kv) ∧ (KRel kv R) ∧ (R.length ≤ k)) (fun (zz : Nat × T × (List (Int × It)) × (List Rw)) => match zz with | (k, t, kv, R) => l.length - k) (0, T.nil, ([] : List (Int × It)), ([] : List Rw)) ⟨(by first | assumption | omega | (simp_all; done) | (simp_all; omega) | grind), (by exact erel_nil), (by exact krel_nil), (by simp)⟩ ?_ ?_
    · exact A.hereK [0, 0, 0, 0] (by exact ⟨rfl, rfl, rfl, rfl, rfl, rfl, trivial⟩) (by kernel_rfl)
    · rintro ⟨k, t, kv, R⟩ ⟨hk, hE, hK, hL⟩
      have hkl := krel_len hE.nd hK; have hW := hE.wf; have hlt := hE.len
      refine A.norm [(1, (u_ n)), (4, (b_ false)), (5, (p_ be1)), (23, (.slice A0 l.length c0)), (24, (i_ (l.length : Int))), (25, (i_ (k : Int)))] [blk be1 [(p_ bt2), (.map (some mb3))] 82, blk bt2 [(.pointer (T.ptr t))] 86, treeI 92 t, mapI (fun k : Int => i_ k) (fun y : It => (.agg #[u_ y.ka, i_ y.ki, u_ y.va, i_ y.vi])) mb3 kv] (by exact ⟨rfl, rfl, rfl, rfl, rfl, rfl, trivial⟩) rfl ?_
      refine A.seq ?_
      refine A.region (A.goA [.p] [(1, (u_ n)), (4, (b_ false)), (5, (p_ be1)), (23, (.slice A0 l.length c0)), (24, (i_ (l.length : Int))), (25, (i_ (k : Int))), (26, (b_ (decide ((k : Int) < (l.length : Int)))))] [] T0 (by kernel_rfl) trivial ?_)
      refine A.tn ?_
      refine A.seq ?_
      refine A.cond (E := decide ((k : Int) < (l.length : Int))) rfl (fun e3 => ?_) (fun e3 => ?_)
      · skip
        have p3 := of_decide_eq_true e3
        refine A.skip ?_
        refine A.tn ?_
        refine A.seq ?_
        refine A.block ?_
        refine A.seq ?_
        refine A.region (A.goP [.ix] [(1, (u_ n)), (4, (b_ false)), (5, (p_ be1)), (23, (.slice A0 l.length c0)), (24, (i_ (l.length : Int))), (25, (i_ (k : Int))), (26, (b_ (decide ((k : Int) < (l.length : Int))))), (27, (.pointer (some ((at0 A0).add (k * 5)))))] [] (fun κ => κ.ix A0 l.length (k : Int) ∧ True) (by kernel_rfl) ⟨(ixOf encVA_len (by decide) (rd_old r0 (by simp [feet])) (by first | omega | (simp; done))), trivial⟩ ?_)
        obtain ⟨x4, hx4⟩ : ∃ x, (l)[k]? = some x := ⟨_, List.getElem?_eq_getElem (by omega)⟩
        refine A.goA1 [.rd [(i_ x4.wk), (i_ x4.wi), (u_ x4.wa), (u_ x4.wb), (u_ x4.wn)], .al, .st 4] [1, 4, 5, 23, 24, 25, 26, 7] (fun b5 => [(1, (u_ n)), (4, (b_ false)), (5, (p_ be1)), (23, (.slice A0 l.length c0)), (24, (i_ (l.length : Int))), (25, (i_ (k : Int))), (26, (b_ (decide ((k : Int) < (l.length : Int))))), (7, (p_ b5))]) (fun b5 => [blk be1 [(p_ bt2), (.map (some mb3))] 82, blk bt2 [(.pointer (T.ptr t))] 86, treeI 92 t, mapI (fun k : Int => i_ k) (fun y : It => (.agg #[u_ y.ka, i_ y.ki, u_ y.va, i_ y.vi])) mb3 kv, blk b5 [(i_ x4.wk), (i_ x4.wi), (u_ x4.wa), (u_ x4.wb), (u_ x4.wn)] 53]) (fun b5 => [b5]) (fun _ => (fun κ => κ.rd ((at0 A0).add (k * 5)) [(i_ x4.wk), (i_ x4.wi), (u_ x4.wa), (u_ x4.wb), (u_ x4.wn)] ∧ True)) (fun _ => by kernel_rfl) (fun b5 => ⟨(reads_at0 (vs := [(i_ x4.wk), (i_ x4.wi), (u_ x4.wa), (u_ x4.wb), (u_ x4.wn)]) encVA_len (rd_old r0 (by simp [feet])) hx4 (by simp) rfl), trivial⟩) ?_
        intro b5
        refine A.tn ?_
        refine A.seq ?_
        refine A.region (A.goA [.p, .ld 4, .p] [(1, (u_ n)), (4, (b_ false)), (5, (p_ be1)), (23, (.slice A0 l.length c0)), (24, (i_ (l.length : Int))), (25, (i_ (k : Int))), (26, (b_ (decide ((k : Int) < (l.length : Int))))), (7, (p_ b5)), (31, (b_ (x4.wk == 0)))] [b5] T0 (by kernel_rfl) trivial ?_)
        refine A.tn ?_
        refine A.cond (E := x4.wk == 0) rfl (fun e4 => ?_) (fun e4 => ?_)
        · skip
          have p4 := e4; try simp only [decide_eq_true_eq, decide_eq_false_iff_not, beq_iff_eq, beq_eq_false_iff_ne, bne_iff_ne, bne_eq_false_iff_eq, ne_eq, Bool.and_eq_true, Bool.or_eq_true, Bool.or_eq_false_iff, Bool.not_eq_true', Bool.not_eq_false', Int.not_lt, Int.not_le, gt_iff_lt, ge_iff_le, Classical.not_not] at p4
          by_cases hd : mget kv x4.wi = none
          · skip
            refine A.region (A.goA [.p, .p, .ld 4, .cq (i_ 6)] [(1, (u_ n)), (4, (b_ false)), (5, (p_ be1)), (23, (.slice A0 l.length c0)), (24, (i_ (l.length : Int))), (25, (i_ (k : Int))), (26, (b_ (decide ((k : Int) < (l.length : Int))))), (7, (p_ b5)), (31, (b_ (x4.wk == 0)))] [b5] (fun κ => κ.call 24 [(p_ be1), (i_ x4.wi)] (i_ 6) ∧ True) (by kernel_rfl) ⟨(fun ww ss => vt_drop_none be1 bt2 mb3 t kv x4.wi (by first | assumption | omega | (simp; omega) | exact krel_i64 hE.nd hK) ww (ss.mem (i := 0) rfl) (ss.mem (i := 1) rfl) (ss.mem (i := 2) rfl) (ss.mem (i := 3) rfl)), trivial⟩ ?_)
            refine A.bn ?_
            refine A.tn ?_
            refine A.region (A.goA [.w ((k : Int) + 1), .p] [(1, (u_ n)), (4, (b_ false)), (5, (p_ be1)), (23, (.slice A0 l.length c0)), (24, (i_ (l.length : Int))), (25, (i_ ((k : Int) + 1))), (26, (b_ (decide ((k : Int) < (l.length : Int))))), (7, (p_ b5)), (31, (b_ (x4.wk == 0)))] [] (fun κ => (IntKind.i64.wrap ((k : Int) + 1) = ((k : Int) + 1)) ∧ True) (by kernel_rfl) ⟨(wrap_i64 (e := (k : Int) + 1) (by constructor <;> omega)), trivial⟩ ?_)
            refine A.tn ?_
            have hE2 : ERel t kv := by assumption
            have hK2 : KRel kv (wo x4.wi R) := by first | exact krel_del hE.nd hK _ | (have h_ := krel_del hE.nd hK x4.wi; rw [mdel_id hd] at h_; exact h_) | exact krel_setE (x := ⟨x4.wi, x4.wa, x4.wb⟩) hE.nd hK (rwok_V (hR _ (List.mem_of_getElem? (by assumption)))) | exact krel_setV (x := ⟨x4.wi, x4.wa, x4.wb⟩) hK (rwok_V (hR _ (List.mem_of_getElem? (by assumption))))
            have hL2 : ((wo x4.wi R)).length ≤ k + 1 := by first | exact Nat.le_trans (wo_len _ _) (by omega) | exact Nat.le_trans (setL_len _ _) (by omega)
            refine A.next (k + 1, t, kv, (wo x4.wi R)) ⟨(by first | assumption | omega | (simp_all; done) | (simp_all; omega) | grind), (by assumption), (by exact hK2), (by exact hL2)⟩ (by first | omega | (simp; omega) | (simp_all; omega)) ?_
            exact A.hereK [0, 0, 0, 0] (by exact ⟨rfl, rfl, rfl, rfl, rfl, rfl, trivial⟩) (by kernel_rfl)
          · skip
            refine A.region (A.goP [.p, .p, .ld 4] [(1, (u_ n)), (4, (b_ false)), (5, (p_ be1)), (23, (.slice A0 l.length c0)), (24, (i_ (l.length : Int))), (25, (i_ (k : Int))), (26, (b_ (decide ((k : Int) < (l.length : Int))))), (7, (p_ b5)), (31, (b_ (x4.wk == 0))), (32, (p_ be1)), (34, (i_ x4.wi))] [b5] T0 (by kernel_rfl) trivial ?_)
            refine A.cons (A.callT (some 35) [(p_ be1), (i_ x4.wi)] [0, 0, 0, 0] ((fun zt6 => (i_ 0))) ((fun zt6 => ERel zt6 (mdel kv x4.wi))) ((fun zt6 => [blk be1 [(p_ bt2), (.map (some mb3))] 82, blk bt2 [(.pointer (T.ptr zt6))] 86, treeI 92 zt6, mapI (fun k : Int => i_ k) (fun y : It => (.agg #[u_ y.ka, i_ y.ki, u_ y.va, i_ y.vi])) mb3 (mdel kv x4.wi)])) (fun zt6 => [blk be1 [(p_ bt2), (.map (some mb3))] 82, blk bt2 [(.pointer (T.ptr zt6))] 86, treeI 92 zt6, mapI (fun k : Int => i_ k) (fun y : It => (.agg #[u_ y.ka, i_ y.ki, u_ y.va, i_ y.vi])) mb3 (mdel kv x4.wi), blk b5 [(i_ x4.wk), (i_ x4.wi), (u_ x4.wa), (u_ x4.wb), (u_ x4.wn)] 53]) (by kernel_rfl) rfl rfl (fun ww ss hh => vt_drop_ok be1 bt2 mb3 t kv x4.wi (by first | assumption | omega | (simp; omega) | exact krel_i64 hE.nd hK) (by first | assumption | omega | (simp; omega) | exact krel_i64 hE.nd hK) (by first | assumption | omega | (simp; omega) | exact krel_i64 hE.nd hK) ww hh) (fun _ => rfl) ?_)
            rintro zt6 hz5
            have hz5W := hz5.wf; have hz5l := hz5.len
            refine A.done ?_
            refine A.sub [(1, (u_ n)), (4, (b_ false)), (5, (p_ be1)), (23, (.slice A0 l.length c0)), (24, (i_ (l.length : Int))), (25, (i_ (k : Int))), (26, (b_ (decide ((k : Int) < (l.length : Int))))), (7, (p_ b5)), (31, (b_ (x4.wk == 0)))] (by exact ⟨rfl, rfl, rfl, rfl, rfl, rfl, rfl, rfl, rfl, trivial⟩) ?_
            refine A.bn ?_
            refine A.tn ?_
            refine A.region (A.goA [.w ((k : Int) + 1), .p] [(1, (u_ n)), (4, (b_ false)), (5, (p_ be1)), (23, (.slice A0 l.length c0)), (24, (i_ (l.length : Int))), (25, (i_ ((k : Int) + 1))), (26, (b_ (decide ((k : Int) < (l.length : Int))))), (7, (p_ b5)), (31, (b_ (x4.wk == 0)))] [] (fun κ => (IntKind.i64.wrap ((k : Int) + 1) = ((k : Int) + 1)) ∧ True) (by kernel_rfl) ⟨(wrap_i64 (e := (k : Int) + 1) (by constructor <;> omega)), trivial⟩ ?_)
            refine A.tn ?_
            have hE2 : ERel zt6 (mdel kv x4.wi) := by assumption
            have hK2 : KRel (mdel kv x4.wi) (wo x4.wi R) := by first | exact krel_del hE.nd hK _ | (have h_ := krel_del hE.nd hK x4.wi; rw [mdel_id hd] at h_; exact h_) | exact krel_setE (x := ⟨x4.wi, x4.wa, x4.wb⟩) hE.nd hK (rwok_V (hR _ (List.mem_of_getElem? (by assumption)))) | exact krel_setV (x := ⟨x4.wi, x4.wa, x4.wb⟩) hK (rwok_V (hR _ (List.mem_of_getElem? (by assumption))))
            have hL2 : ((wo x4.wi R)).length ≤ k + 1 := by first | exact Nat.le_trans (wo_len _ _) (by omega) | exact Nat.le_trans (setL_len _ _) (by omega)
            refine A.next (k + 1, zt6, (mdel kv x4.wi), (wo x4.wi R)) ⟨(by first | assumption | omega | (simp_all; done) | (simp_all; omega) | grind), (by assumption), (by exact hK2), (by exact hL2)⟩ (by first | omega | (simp; omega) | (simp_all; omega)) ?_
            exact A.hereK [0, 0, 0, 0] (by exact ⟨rfl, rfl, rfl, rfl, rfl, rfl, trivial⟩) (by kernel_rfl)
        · skip
          have p4 := e4; try simp only [decide_eq_true_eq, decide_eq_false_iff_not, beq_iff_eq, beq_eq_false_iff_ne, bne_iff_ne, bne_eq_false_iff_eq, ne_eq, Bool.and_eq_true, Bool.or_eq_true, Bool.or_eq_false_iff, Bool.not_eq_true', Bool.not_eq_false', Int.not_lt, Int.not_le, gt_iff_lt, ge_iff_le, Classical.not_not] at p4
          refine A.region (A.goP [.p, .p, .ld 4, .p, .ld 4, .p, .ld 4] [(1, (u_ n)), (4, (b_ false)), (5, (p_ be1)), (23, (.slice A0 l.length c0)), (24, (i_ (l.length : Int))), (25, (i_ (k : Int))), (26, (b_ (decide ((k : Int) < (l.length : Int))))), (7, (p_ b5)), (31, (b_ (x4.wk == 0))), (36, (p_ be1)), (38, (i_ x4.wi)), (40, (u_ x4.wa)), (42, (u_ x4.wb))] [b5, b5, b5] T0 (by kernel_rfl) trivial ?_)
          refine A.cons (A.callT (some 43) [(p_ be1), (i_ x4.wi), (u_ x4.wa), (u_ x4.wb)] [0, 0, 0, 0] ((fun zt7 => (i_ 0))) ((fun zt7 => ERel zt7 (mput kv x4.wi ⟨x4.wa, x4.wi, x4.wb, x4.wi⟩))) ((fun zt7 => [blk be1 [(p_ bt2), (.map (some mb3))] 82, blk bt2 [(.pointer (T.ptr zt7))] 86, treeI 92 zt7, mapI (fun k : Int => i_ k) (fun y : It => (.agg #[u_ y.ka, i_ y.ki, u_ y.va, i_ y.vi])) mb3 (mput kv x4.wi ⟨x4.wa, x4.wi, x4.wb, x4.wi⟩)])) (fun zt7 => [blk be1 [(p_ bt2), (.map (some mb3))] 82, blk bt2 [(.pointer (T.ptr zt7))] 86, treeI 92 zt7, mapI (fun k : Int => i_ k) (fun y : It => (.agg #[u_ y.ka, i_ y.ki, u_ y.va, i_ y.vi])) mb3 (mput kv x4.wi ⟨x4.wa, x4.wi, x4.wb, x4.wi⟩), blk b5 [(i_ x4.wk), (i_ x4.wi), (u_ x4.wa), (u_ x4.wb), (u_ x4.wn)] 53]) (by kernel_rfl) rfl rfl (fun ww ss hh => vt_set be1 bt2 mb3 t kv x4.wi x4.wa x4.wb (by first | assumption | omega | (simp; omega) | exact krel_i64 hE.nd hK) (by first | assumption | omega | (simp; omega) | exact krel_i64 hE.nd hK) ww hh) (fun _ => rfl) ?_)
          rintro zt7 hz6
          have hz6W := hz6.wf; have hz6l := hz6.len
          refine A.done ?_
          refine A.sub [(1, (u_ n)), (4, (b_ false)), (5, (p_ be1)), (23, (.slice A0 l.length c0)), (24, (i_ (l.length : Int))), (25, (i_ (k : Int))), (26, (b_ (decide ((k : Int) < (l.length : Int))))), (7, (p_ b5)), (31, (b_ (x4.wk == 0)))] (by exact ⟨rfl, rfl, rfl, rfl, rfl, rfl, rfl, rfl, rfl, trivial⟩) ?_
          refine A.bn ?_
          refine A.tn ?_
          refine A.region (A.goA [.w ((k : Int) + 1), .p] [(1, (u_ n)), (4, (b_ false)), (5, (p_ be1)), (23, (.slice A0 l.length c0)), (24, (i_ (l.length : Int))), (25, (i_ ((k : Int) + 1))), (26, (b_ (decide ((k : Int) < (l.length : Int))))), (7, (p_ b5)), (31, (b_ (x4.wk == 0)))] [] (fun κ => (IntKind.i64.wrap ((k : Int) + 1) = ((k : Int) + 1)) ∧ True) (by kernel_rfl) ⟨(wrap_i64 (e := (k : Int) + 1) (by constructor <;> omega)), trivial⟩ ?_)
          refine A.tn ?_
          have hE2 : ERel zt7 (mput kv x4.wi ⟨x4.wa, x4.wi, x4.wb, x4.wi⟩) := by assumption
          have hK2 : KRel (mput kv x4.wi ⟨x4.wa, x4.wi, x4.wb, x4.wi⟩) (setL ⟨x4.wi, x4.wa, x4.wb⟩ R) := by first | exact krel_del hE.nd hK _ | (have h_ := krel_del hE.nd hK x4.wi; rw [mdel_id hd] at h_; exact h_) | exact krel_setE (x := ⟨x4.wi, x4.wa, x4.wb⟩) hE.nd hK (rwok_V (hR _ (List.mem_of_getElem? (by assumption)))) | exact krel_setV (x := ⟨x4.wi, x4.wa, x4.wb⟩) hK (rwok_V (hR _ (List.mem_of_getElem? (by assumption))))
          have hL2 : ((setL ⟨x4.wi, x4.wa, x4.wb⟩ R)).length ≤ k + 1 := by first | exact Nat.le_trans (wo_len _ _) (by omega) | exact Nat.le_trans (setL_len _ _) (by omega)
          refine A.next (k + 1, zt7, (mput kv x4.wi ⟨x4.wa, x4.wi, x4.wb, x4.wi⟩), (setL ⟨x4.wi, x4.wa, x4.wb⟩ R)) ⟨(by first | assumption | omega | (simp_all; done) | (simp_all; omega) | grind), (by assumption), (by exact hK2), (by exact hL2)⟩ (by first | omega | (simp; omega) | (simp_all; omega)) ?_
          exact A.hereK [0, 0, 0, 0] (by exact ⟨rfl, rfl, rfl, rfl, rfl, rfl, trivial⟩) (by kernel_rfl)
      · skip
        have p3 := of_decide_eq_false e3
        refine A.exit ?_
        refine A.te ?_
        refine A.te ?_
        refine A.bh ?_
        refine A.tn ?_
        refine A.seq ?_
        refine A.region (A.goA [.p, .p, .cq (.tuple #[(i_ (((firstL (imin n 9223372036854775807) t.toL).getD default).ki)), (b_ ((firstL (imin n 9223372036854775807) t.toL).isSome))]), .p, .p, .p, .p, .p] [(1, (u_ n)), (4, (b_ false)), (5, (p_ be1)), (23, (.slice A0 l.length c0)), (24, (i_ (l.length : Int))), (25, (i_ (k : Int))), (26, (b_ (decide ((k : Int) < (l.length : Int))))), (8, (i_ (((firstL (imin n 9223372036854775807) t.toL).getD default).ki))), (9, (b_ ((firstL (imin n 9223372036854775807) t.toL).isSome)))] [] (fun κ => κ.call 27 [(p_ be1), (u_ n)] (.tuple #[(i_ (((firstL (imin n 9223372036854775807) t.toL).getD default).ki)), (b_ ((firstL (imin n 9223372036854775807) t.toL).isSome))]) ∧ True) (by kernel_rfl) ⟨(fun ww ss => vt_pick be1 bt2 mb3 t kv n (by first | assumption | omega | (simp; omega) | exact krel_i64 hE.nd hK) ww (ss.mem (i := 0) rfl) (ss.mem (i := 1) rfl) (ss.mem (i := 2) rfl) (ss.mem (i := 3) rfl)), trivial⟩ ?_)
        refine A.tn ?_
        refine A.seq ?_
        refine A.region (A.goA [.p, .p, .cq (.tuple #[(u_ (getA kv (((firstL (imin n 9223372036854775807) t.toL).getD default).ki))), (u_ (getB kv (((firstL (imin n 9223372036854775807) t.toL).getD default).ki))), (i_ (getE kv (((firstL (imin n 9223372036854775807) t.toL).getD default).ki)))]), .p, .p, .p, .p, .p, .p, .p] [(1, (u_ n)), (4, (b_ false)), (5, (p_ be1)), (23, (.slice A0 l.length c0)), (24, (i_ (l.length : Int))), (25, (i_ (k : Int))), (26, (b_ (decide ((k : Int) < (l.length : Int))))), (8, (i_ (((firstL (imin n 9223372036854775807) t.toL).getD default).ki))), (9, (b_ ((firstL (imin n 9223372036854775807) t.toL).isSome))), (10, (u_ (getA kv (((firstL (imin n 9223372036854775807) t.toL).getD default).ki)))), (11, (u_ (getB kv (((firstL (imin n 9223372036854775807) t.toL).getD default).ki)))), (12, (i_ (getE kv (((firstL (imin n 9223372036854775807) t.toL).getD default).ki))))] [] (fun κ => κ.call 28 [(p_ be1), (i_ (((firstL (imin n 9223372036854775807) t.toL).getD default).ki))] (.tuple #[(u_ (getA kv (((firstL (imin n 9223372036854775807) t.toL).getD default).ki))), (u_ (getB kv (((firstL (imin n 9223372036854775807) t.toL).getD default).ki))), (i_ (getE kv (((firstL (imin n 9223372036854775807) t.toL).getD default).ki)))]) ∧ True) (by kernel_rfl) ⟨(fun ww ss => vt_get be1 bt2 mb3 t kv (((firstL (imin n 9223372036854775807) t.toL).getD default).ki) ww (ss.mem (i := 0) rfl) (ss.mem (i := 1) rfl) (ss.mem (i := 2) rfl) (ss.mem (i := 3) rfl)), trivial⟩ ?_)
        refine A.tn ?_
        refine A.seq ?_
        refine A.seq ?_
        refine A.region (A.goA [.p, .p, .cq (u_ (fitV t.toL)), .p, .p, .p, .o, .p, .cq (u_ (fitV t.toL)), .p, .cl, .eq, .p, .o, .p, .p, .o, .p, .p, .p, .o, .p, .p, .p, .cl, .cl, .cl] [(1, (u_ n)), (4, (b_ false)), (5, (p_ be1)), (23, (.slice A0 l.length c0)), (24, (i_ (l.length : Int))), (25, (i_ (k : Int))), (26, (b_ (decide ((k : Int) < (l.length : Int))))), (8, (i_ (((firstL (imin n 9223372036854775807) t.toL).getD default).ki))), (9, (b_ ((firstL (imin n 9223372036854775807) t.toL).isSome))), (10, (u_ (getA kv (((firstL (imin n 9223372036854775807) t.toL).getD default).ki)))), (11, (u_ (getB kv (((firstL (imin n 9223372036854775807) t.toL).getD default).ki)))), (12, (i_ (getE kv (((firstL (imin n 9223372036854775807) t.toL).getD default).ki)))), (80, (b_ ((!(((firstL (imin n 9223372036854775807) t.toL).isSome) == ((decide ((fitV t.toL) ≤ n)) && (decide ((fitV t.toL) < 9223372036854775808))))) || (((firstL (imin n 9223372036854775807) t.toL).isSome) && (((getE kv (((firstL (imin n 9223372036854775807) t.toL).getD default).ki)) != 0) || (decide ((getB kv (((firstL (imin n 9223372036854775807) t.toL).getD default).ki)) > n)))))))] [] (fun κ => κ.call 29 [(p_ be1)] (u_ (fitV t.toL)) ∧ ((true && ((decide ((fitV t.toL) ≤ n)) == true)) = true → κ.call 29 [(p_ be1)] (u_ (fitV t.toL))) ∧ True) (by kernel_rfl) ⟨(fun ww ss => vt_fit be1 bt2 mb3 t kv (by first | assumption | omega | (simp; omega) | exact krel_i64 hE.nd hK) ww (ss.mem (i := 0) rfl) (ss.mem (i := 1) rfl) (ss.mem (i := 2) rfl) (ss.mem (i := 3) rfl)), (fun h_ => (fun ww ss => vt_fit be1 bt2 mb3 t kv (by first | assumption | omega | (simp; omega) | exact krel_i64 hE.nd hK) ww (ss.mem (i := 0) rfl) (ss.mem (i := 1) rfl) (ss.mem (i := 2) rfl) (ss.mem (i := 3) rfl))), trivial⟩ ?_)
        refine A.tn ?_
        refine A.cond (E := (!(((firstL (imin n 9223372036854775807) t.toL).isSome) == ((decide ((fitV t.toL) ≤ n)) && (decide ((fitV t.toL) < 9223372036854775808))))) || (((firstL (imin n 9223372036854775807) t.toL).isSome) && (((getE kv (((firstL (imin n 9223372036854775807) t.toL).getD default).ki)) != 0) || (decide ((getB kv (((firstL (imin n 9223372036854775807) t.toL).getD default).ki)) > n))))) rfl (fun e7 => ?_) (fun e7 => ?_)
        · exact absurd e7 (by (rcases pf_get hE n with ⟨e, g5⟩ | ⟨m, e, hm, g1, g2, g3, g4, g5⟩ <;> rcases fit_get hE (krel_u64 hE hK) with ⟨f1, f2⟩ | ⟨z, f1, f2, f3⟩; (rw [e, f2]; simp); (have g6 := g5 z f1; rw [e, f2]; simp; omega); (rw [f1] at hm; cases hm); (have g6 := f3 m hm; rw [e, f2]; simp only [Option.getD_some, g1, g2, g3]; simp; omega)))
        · skip
          have p7 := e7; try simp only [decide_eq_true_eq, decide_eq_false_iff_not, beq_iff_eq, beq_eq_false_iff_ne, bne_iff_ne, bne_eq_false_iff_eq, ne_eq, Bool.and_eq_true, Bool.or_eq_true, Bool.or_eq_false_iff, Bool.not_eq_true', Bool.not_eq_false', Int.not_lt, Int.not_le, gt_iff_lt, ge_iff_le, Classical.not_not] at p7
          refine A.skip ?_
          refine A.tn ?_
          refine A.seq ?_
          refine A.seq ?_
          refine A.region (A.goP [.p] [(1, (u_ n)), (4, (b_ false)), (5, (p_ be1)), (23, (.slice A0 l.length c0)), (24, (i_ (l.length : Int))), (25, (i_ (k : Int))), (26, (b_ (decide ((k : Int) < (l.length : Int))))), (8, (i_ (((firstL (imin n 9223372036854775807) t.toL).getD default).ki))), (9, (b_ ((firstL (imin n 9223372036854775807) t.toL).isSome))), (10, (u_ (getA kv (((firstL (imin n 9223372036854775807) t.toL).getD default).ki)))), (11, (u_ (getB kv (((firstL (imin n 9223372036854775807) t.toL).getD default).ki)))), (12, (i_ (getE kv (((firstL (imin n 9223372036854775807) t.toL).getD default).ki)))), (80, (b_ ((!(((firstL (imin n 9223372036854775807) t.toL).isSome) == ((decide ((fitV t.toL) ≤ n)) && (decide ((fitV t.toL) < 9223372036854775808))))) || (((firstL (imin n 9223372036854775807) t.toL).isSome) && (((getE kv (((firstL (imin n 9223372036854775807) t.toL).getD default).ki)) != 0) || (decide ((getB kv (((firstL (imin n 9223372036854775807) t.toL).getD default).ki)) > n))))))), (81, (p_ be1))] [] T0 (by kernel_rfl) trivial ?_)
          refine A.cons (A.callT (some 82) [(p_ be1)] [] ((fun zz => match zz with | (al'8, cl'9) => (.slice al'8 ((sortK kv).length) cl'9))) ((fun zz => match zz with | (al'8, cl'9) => True)) ((fun zz => match zz with | (al'8, cl'9) => [sl al'8 ((sortK kv).length) cl'9 3 1 (V.flat encI (sortK kv))])) (fun zz => match zz with | (al'8, cl'9) => [sl al'8 ((sortK kv).length) cl'9 3 1 (V.flat encI (sortK kv)), blk be1 [(p_ bt2), (.map (some mb3))] 82, blk bt2 [(.pointer (T.ptr t))] 86, treeI 92 t, mapI (fun k : Int => i_ k) (fun y : It => (.agg #[u_ y.ka, i_ y.ki, u_ y.va, i_ y.vi])) mb3 kv]) (by kernel_rfl) rfl rfl (fun ww ss hh => vt_ids be1 bt2 mb3 t kv (by first | assumption | omega | (simp; omega) | exact krel_i64 hE.nd hK) (by first | assumption | omega | (simp; omega) | exact krel_i64 hE.nd hK) ww (ss.mem (i := 0) rfl) (ss.mem (i := 1) rfl) (ss.mem (i := 2) rfl) (ss.mem (i := 3) rfl) hh) (fun _ => rfl) ?_)
          rintro ⟨al'8, cl'9⟩ -
          refine A.goA [.p, .p] [(1, (u_ n)), (4, (b_ false)), (5, (p_ be1)), (23, (.slice A0 l.length c0)), (24, (i_ (l.length : Int))), (25, (i_ (k : Int))), (26, (b_ (decide ((k : Int) < (l.length : Int))))), (8, (i_ (((firstL (imin n 9223372036854775807) t.toL).getD default).ki))), (9, (b_ ((firstL (imin n 9223372036854775807) t.toL).isSome))), (10, (u_ (getA kv (((firstL (imin n 9223372036854775807) t.toL).getD default).ki)))), (11, (u_ (getB kv (((firstL (imin n 9223372036854775807) t.toL).getD default).ki)))), (12, (i_ (getE kv (((firstL (imin n 9223372036854775807) t.toL).getD default).ki)))), (80, (b_ ((!(((firstL (imin n 9223372036854775807) t.toL).isSome) == ((decide ((fitV t.toL) ≤ n)) && (decide ((fitV t.toL) < 9223372036854775808))))) || (((firstL (imin n 9223372036854775807) t.toL).isSome) && (((getE kv (((firstL (imin n 9223372036854775807) t.toL).getD default).ki)) != 0) || (decide ((getB kv (((firstL (imin n 9223372036854775807) t.toL).getD default).ki)) > n))))))), (82, (.slice al'8 ((sortK kv).length) cl'9)), (83, (i_ ((sortK kv).length : Int))), (84, (i_ 0))] [] T0 (by kernel_rfl) trivial ?_
          refine A.tn ?_
          refine A.block ?_
          refine A.loop (fun (zz : Nat) => match zz with | k2 => [(1, (u_ n)), (5, (p_ be1)), (8, (i_ (((firstL (imin n 9223372036854775807) t.toL).getD default).ki))), (10, (u_ (getA kv (((firstL (imin n 9223372036854775807) t.toL).getD default).ki)))), (82, (.slice al'8 ((sortK kv).length) cl'9)), (83, (i_ ((sortK kv).length : Int))), (84, (i_ (k2 : Int)))]) (fun (zz : Nat) => match zz with | k2 => [sl al'8 ((sortK kv).length) cl'9 3 1 (V.flat encI (sortK kv)), blk be1 [(p_ bt2), (.map (some mb3))] 82, blk bt2 [(.pointer (T.ptr t))] 86, treeI 92 t, mapI (fun k : Int => i_ k) (fun y : It => (.agg #[u_ y.ka, i_ y.ki, u_ y.va, i_ y.vi])) mb3 kv]) (fun (zz : Nat) => match zz with | k2 => (k2 ≤ (sortK kv).length)) (fun (zz : Nat) => match zz with | k2 => (sortK kv).length - k2) (0 : Nat) (by first | assumption | omega | (simp_all; done) | (simp_all; omega) | grind) ?_ ?_
          · exact A.hereK [0, 0, 0, 0, 0] (by exact ⟨rfl, rfl, rfl, rfl, rfl, rfl, rfl, trivial⟩) (by kernel_rfl)
          · rintro k2 hk2
            have hk2 : k2 ≤ (sortK kv).length := hk2
            have hskl := sortK_len kv
            refine A.norm [(1, (u_ n)), (5, (p_ be1)), (8, (i_ (((firstL (imin n 9223372036854775807) t.toL).getD default).ki))), (10, (u_ (getA kv (((firstL (imin n 9223372036854775807) t.toL).getD default).ki)))), (82, (.slice al'8 ((sortK kv).length) cl'9)), (83, (i_ ((sortK kv).length : Int))), (84, (i_ (k2 : Int)))] [sl al'8 ((sortK kv).length) cl'9 3 1 (V.flat encI (sortK kv)), blk be1 [(p_ bt2), (.map (some mb3))] 82, blk bt2 [(.pointer (T.ptr t))] 86, treeI 92 t, mapI (fun k : Int => i_ k) (fun y : It => (.agg #[u_ y.ka, i_ y.ki, u_ y.va, i_ y.vi])) mb3 kv] (by exact ⟨rfl, rfl, rfl, rfl, rfl, rfl, rfl, trivial⟩) rfl ?_
            refine A.seq ?_
            refine A.region (A.goA [.p] [(1, (u_ n)), (5, (p_ be1)), (8, (i_ (((firstL (imin n 9223372036854775807) t.toL).getD default).ki))), (10, (u_ (getA kv (((firstL (imin n 9223372036854775807) t.toL).getD default).ki)))), (82, (.slice al'8 ((sortK kv).length) cl'9)), (83, (i_ ((sortK kv).length : Int))), (84, (i_ (k2 : Int))), (85, (b_ (decide ((k2 : Int) < ((sortK kv).length : Int)))))] [] T0 (by kernel_rfl) trivial ?_)
            refine A.tn ?_
            refine A.seq ?_
            refine A.cond (E := decide ((k2 : Int) < ((sortK kv).length : Int))) rfl (fun e9 => ?_) (fun e9 => ?_)
            · skip
              have p9 := of_decide_eq_true e9
              refine A.skip ?_
              refine A.tn ?_
              refine A.seq ?_
              refine A.block ?_
              refine A.seq ?_
              refine A.region (A.goP [.ix] [(1, (u_ n)), (5, (p_ be1)), (8, (i_ (((firstL (imin n 9223372036854775807) t.toL).getD default).ki))), (10, (u_ (getA kv (((firstL (imin n 9223372036854775807) t.toL).getD default).ki)))), (82, (.slice al'8 ((sortK kv).length) cl'9)), (83, (i_ ((sortK kv).length : Int))), (84, (i_ (k2 : Int))), (85, (b_ (decide ((k2 : Int) < ((sortK kv).length : Int))))), (86, (.pointer (some ((at0 al'8).add (k2 * 1)))))] [] (fun κ => κ.ix al'8 ((sortK kv).length) (k2 : Int) ∧ True) (by kernel_rfl) ⟨(ixOf encI_len (by decide) (rd_sl (i := 0) rfl) (by first | omega | (simp; done))), trivial⟩ ?_)
              obtain ⟨x11, hx11⟩ : ∃ x, ((sortK kv))[k2]? = some x := ⟨_, List.getElem?_eq_getElem (by omega)⟩
              refine A.goA [.rd [(i_ x11)], .p] [(1, (u_ n)), (5, (p_ be1)), (8, (i_ (((firstL (imin n 9223372036854775807) t.toL).getD default).ki))), (10, (u_ (getA kv (((firstL (imin n 9223372036854775807) t.toL).getD default).ki)))), (82, (.slice al'8 ((sortK kv).length) cl'9)), (83, (i_ ((sortK kv).length : Int))), (84, (i_ (k2 : Int))), (85, (b_ (decide ((k2 : Int) < ((sortK kv).length : Int))))), (14, (i_ x11))] [] (fun κ => κ.rd ((at0 al'8).add (k2 * 1)) [(i_ x11)] ∧ True) (by kernel_rfl) ⟨(reads_at0 (vs := [(i_ x11)]) encI_len (rd_sl (i := 0) rfl) hx11 (by simp) rfl), trivial⟩ ?_
              refine A.tn ?_
              refine A.seq ?_
              refine A.region (A.goA [.p, .p, .cq (.tuple #[(u_ (getA kv x11)), (u_ (getB kv x11)), (i_ (getE kv x11))]), .p, .p, .p, .p, .p, .p, .p] [(1, (u_ n)), (5, (p_ be1)), (8, (i_ (((firstL (imin n 9223372036854775807) t.toL).getD default).ki))), (10, (u_ (getA kv (((firstL (imin n 9223372036854775807) t.toL).getD default).ki)))), (82, (.slice al'8 ((sortK kv).length) cl'9)), (83, (i_ ((sortK kv).length : Int))), (84, (i_ (k2 : Int))), (85, (b_ (decide ((k2 : Int) < ((sortK kv).length : Int))))), (14, (i_ x11)), (15, (u_ (getA kv x11))), (16, (u_ (getB kv x11))), (17, (i_ (getE kv x11)))] [] (fun κ => κ.call 28 [(p_ be1), (i_ x11)] (.tuple #[(u_ (getA kv x11)), (u_ (getB kv x11)), (i_ (getE kv x11))]) ∧ True) (by kernel_rfl) ⟨(fun ww ss => vt_get be1 bt2 mb3 t kv x11 ww (ss.mem (i := 1) rfl) (ss.mem (i := 2) rfl) (ss.mem (i := 3) rfl) (ss.mem (i := 4) rfl)), trivial⟩ ?_)
              refine A.tn ?_
              refine A.seq ?_
              refine A.region (A.goA [.p, .p, .p, .o, .p, .p, .p, .p, .o, .p, .p, .cl, .p, .o, .p, .p, .p, .p, .o, .p, .p, .p, .p, .o, .p, .p, .p, .cl, .cl, .cl, .cl] [(1, (u_ n)), (5, (p_ be1)), (8, (i_ (((firstL (imin n 9223372036854775807) t.toL).getD default).ki))), (10, (u_ (getA kv (((firstL (imin n 9223372036854775807) t.toL).getD default).ki)))), (82, (.slice al'8 ((sortK kv).length) cl'9)), (83, (i_ ((sortK kv).length : Int))), (84, (i_ (k2 : Int))), (85, (b_ (decide ((k2 : Int) < ((sortK kv).length : Int))))), (14, (i_ x11)), (15, (u_ (getA kv x11))), (16, (u_ (getB kv x11))), (17, (i_ (getE kv x11))), (120, (b_ (((getE kv x11) != 0) || (((decide ((getB kv x11) ≤ n)) && (decide ((getB kv x11) < 9223372036854775808))) && ((decide ((getA kv x11) < (getA kv (((firstL (imin n 9223372036854775807) t.toL).getD default).ki)))) || (((getA kv x11) == (getA kv (((firstL (imin n 9223372036854775807) t.toL).getD default).ki))) && (decide (x11 < (((firstL (imin n 9223372036854775807) t.toL).getD default).ki)))))))))] [] T0 (by kernel_rfl) trivial ?_)
              refine A.tn ?_
              refine A.cond (E := ((getE kv x11) != 0) || (((decide ((getB kv x11) ≤ n)) && (decide ((getB kv x11) < 9223372036854775808))) && ((decide ((getA kv x11) < (getA kv (((firstL (imin n 9223372036854775807) t.toL).getD default).ki)))) || (((getA kv x11) == (getA kv (((firstL (imin n 9223372036854775807) t.toL).getD default).ki))) && (decide (x11 < (((firstL (imin n 9223372036854775807) t.toL).getD default).ki))))))) rfl (fun e10 => ?_) (fun e10 => ?_)
              · exact absurd e10 (by (obtain ⟨y, hy, hyx⟩ := ids_get hE (List.mem_of_getElem? (by assumption)); subst hyx; obtain ⟨q1, q2, q3, q4⟩ := mem_get hE hy; rcases pf_get hE n with ⟨e, g5⟩ | ⟨m, e, hm, g1, g2, g3, g4, g5⟩; (have g6 := g5 y hy; simp only [e, q1, q2, q3]; simp; omega); (have g6 := g5 y hy; simp only [e, q1, q2, q3, Option.getD_some, g1, g2, g3]; simp; omega)))
              · skip
                have p10 := e10; try simp only [decide_eq_true_eq, decide_eq_false_iff_not, beq_iff_eq, beq_eq_false_iff_ne, bne_iff_ne, bne_eq_false_iff_eq, ne_eq, Bool.and_eq_true, Bool.or_eq_true, Bool.or_eq_false_iff, Bool.not_eq_true', Bool.not_eq_false', Int.not_lt, Int.not_le, gt_iff_lt, ge_iff_le, Classical.not_not] at p10
                refine A.skip ?_
                refine A.bn ?_
                refine A.tn ?_
                refine A.region (A.goA [.w ((k2 : Int) + 1), .p] [(1, (u_ n)), (5, (p_ be1)), (8, (i_ (((firstL (imin n 9223372036854775807) t.toL).getD default).ki))), (10, (u_ (getA kv (((firstL (imin n 9223372036854775807) t.toL).getD default).ki)))), (82, (.slice al'8 ((sortK kv).length) cl'9)), (83, (i_ ((sortK kv).length : Int))), (84, (i_ ((k2 : Int) + 1))), (85, (b_ (decide ((k2 : Int) < ((sortK kv).length : Int))))), (14, (i_ x11)), (15, (u_ (getA kv x11))), (16, (u_ (getB kv x11))), (17, (i_ (getE kv x11))), (120, (b_ (((getE kv x11) != 0) || (((decide ((getB kv x11) ≤ n)) && (decide ((getB kv x11) < 9223372036854775808))) && ((decide ((getA kv x11) < (getA kv (((firstL (imin n 9223372036854775807) t.toL).getD default).ki)))) || (((getA kv x11) == (getA kv (((firstL (imin n 9223372036854775807) t.toL).getD default).ki))) && (decide (x11 < (((firstL (imin n 9223372036854775807) t.toL).getD default).ki)))))))))] [] (fun κ => (IntKind.i64.wrap ((k2 : Int) + 1) = ((k2 : Int) + 1)) ∧ True) (by kernel_rfl) ⟨(wrap_i64 (e := (k2 : Int) + 1) (by constructor <;> omega)), trivial⟩ ?_)
                refine A.tn ?_
                refine A.next (k2 + 1) (by first | assumption | omega | (simp_all; done) | (simp_all; omega) | grind) (by first | omega | (simp; omega) | (simp_all; omega)) ?_
                exact A.hereK [0, 0, 0, 0, 0] (by exact ⟨rfl, rfl, rfl, rfl, rfl, rfl, rfl, trivial⟩) (by kernel_rfl)
            · skip
              have p9 := of_decide_eq_false e9
              refine A.exit ?_
              refine A.te ?_
              refine A.te ?_
              refine A.bh ?_
              refine A.tn ?_
              refine A.seq ?_
              refine A.region (A.goA [.cq (b_ true), .p] [(1, (u_ n)), (5, (p_ be1)), (8, (i_ (((firstL (imin n 9223372036854775807) t.toL).getD default).ki))), (10, (u_ (getA kv (((firstL (imin n 9223372036854775807) t.toL).getD default).ki)))), (82, (.slice al'8 ((sortK kv).length) cl'9)), (83, (i_ ((sortK kv).length : Int))), (84, (i_ (k2 : Int))), (85, (b_ (decide ((k2 : Int) < ((sortK kv).length : Int))))), (4, (b_ true))] [] (fun κ => κ.call 22 [] (b_ true) ∧ True) (by kernel_rfl) ⟨(fun ww ss => vt_two ww), trivial⟩ ?_)
              refine A.tn ?_
              refine A.ret ?_
              refine A.postQ [(b_ true)] (fun aa ww rr ss => ⟨rv_tmp rr rfl, trivial⟩) ?_
              rfl
end Go.Proofs.Ytdhcglflmkjneaa
