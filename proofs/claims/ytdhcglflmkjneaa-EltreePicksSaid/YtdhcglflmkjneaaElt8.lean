/- What the functions of this layer do, proved operation by operation, for all arguments, under the conditions that each theorem states. -/
import Derived.Test.YtdhcglflmkjneaaProg
import Derived.Test.YtdhcglflmkjneaaElt7
namespace Go.Proofs.Ytdhcglflmkjneaa
open Go V
set_option linter.unusedVariables false
set_option linter.unusedSimpArgs false
theorem getE_none {kv : List (Int × It)} {a : Int} (h : mget kv a = none) : getE kv a = 6 := (get_none h).2.2.symm
theorem getE_put (kv : List (Int × It)) (a : Int) (v : It) : getE (mput kv a v) a = 0 := by unfold getE; rw [mget_put, if_pos rfl]; rfl
theorem rwok_E {x : EA} (h : EAOk x) : RwOk ⟨x.ei, x.ea, x.eb⟩ := ⟨h.2.1, h.2.2.1, h.2.2.2.1⟩
theorem rwok_V {x : VA} (h : VAOk x) : RwOk ⟨x.wi, x.wa, x.wb⟩ := ⟨h.2.1, h.2.2.1, h.2.2.2.1⟩

set_option maxHeartbeats 4000000 in
set_option maxRecDepth 100000 in
theorem eltreeActs_walk (A0 : Option Addr) (l : List EA) (c0 : Nat) (hR : ∀ x ∈ l, EAOk x) (w : World) (r0 : arrAt w A0 (V.flat encEA l)) :
    Calls Try.prog 3 #[(.slice A0 l.length c0)] w fun e w' => e = .returned (b_ true) ∧ Fr [] w w' := by
  refine calls_of (args := [(.slice A0 l.length c0)]) (penv [(.slice A0 l.length c0)]) [] [] Try.func3 rfl rfl (look_penv _) (HS.nil w) ?_
  refine A.norm [(0, (.slice A0 l.length c0))] [] (by exact ⟨rfl, trivial⟩) rfl ?_
  refine A.seq ?_
  refine A.region (A.goA [.p] [(0, (.slice A0 l.length c0)), (2, (b_ false))] [] T0 (by kernel_rfl) trivial ?_)
  refine A.tn ?_
  refine A.seq ?_
  refine A.seq ?_
  refine A.region (A.goA [.p, .p, .p] [(0, (.slice A0 l.length c0)), (2, (b_ false)), (14, (b_ (decide ((l.length : Int) > 80))))] [] T0 (by kernel_rfl) trivial ?_)
  refine A.tn ?_
  refine A.cond (E := decide ((l.length : Int) > 80)) rfl (fun e1 => ?_) (fun e1 => ?_)
  · skip
    have p1 := of_decide_eq_true e1
    refine A.seq ?_
    refine A.region (A.goA [.cq (b_ true), .p] [(0, (.slice A0 l.length c0)), (2, (b_ true)), (14, (b_ (decide ((l.length : Int) > 80))))] [] (fun κ => κ.call 9 [] (b_ true) ∧ True) (by kernel_rfl) ⟨(fun ww ss => el_two ww), trivial⟩ ?_)
    refine A.tn ?_
    refine A.ret ?_
    refine A.tr ?_
    refine A.postQ [(b_ true)] (fun aa ww rr ss => ⟨rv_tmp rr rfl, trivial⟩) ?_
    rfl
  · skip
    have p1 := of_decide_eq_false e1
    refine A.skip ?_
    refine A.tn ?_
    refine A.seq ?_
    refine A.region ?_
    refine A.cons (A.callT (some 16) [] [] ((fun zz => match zz with | (be1, bt2, mb3) => (p_ be1))) ((fun zz => match zz with | (be1, bt2, mb3) => True)) ((fun zz => match zz with | (be1, bt2, mb3) => [blk be1 [(p_ bt2), (.map (some mb3))] 64, blk bt2 [(.pointer (T.ptr T.nil))] 86, treeI 92 T.nil, mapI (fun k : Int => i_ k) (fun y : It => (.agg #[u_ y.ka, i_ y.ki, u_ y.va, i_ y.vi])) mb3 ([] : List (Int × It))])) (fun zz => match zz with | (be1, bt2, mb3) => [blk be1 [(p_ bt2), (.map (some mb3))] 64, blk bt2 [(.pointer (T.ptr T.nil))] 86, treeI 92 T.nil, mapI (fun k : Int => i_ k) (fun y : It => (.agg #[u_ y.ka, i_ y.ki, u_ y.va, i_ y.vi])) mb3 ([] : List (Int × It))]) (by kernel_rfl) rfl rfl (fun ww ss hh => el_new ww hh) (fun _ => rfl) ?_)
    rintro ⟨be1, bt2, mb3⟩ -
    refine A.goA [.p] [(0, (.slice A0 l.length c0)), (2, (b_ false)), (14, (b_ (decide ((l.length : Int) > 80)))), (3, (p_ be1))] [] T0 (by kernel_rfl) trivial ?_
    refine A.tn ?_
    refine A.seq ?_
    refine A.region (A.goA [.p] [(0, (.slice A0 l.length c0)), (2, (b_ false)), (14, (b_ (decide ((l.length : Int) > 80)))), (3, (p_ be1)), (4, e_)] [] T0 (by kernel_rfl) trivial ?_)
    refine A.tn ?_
    refine A.seq ?_
    refine A.seq ?_
    refine A.region (A.goA [.p, .p, .p] [(0, (.slice A0 l.length c0)), (2, (b_ false)), (14, (b_ (decide ((l.length : Int) > 80)))), (3, (p_ be1)), (4, e_), (17, (.slice A0 l.length c0)), (18, (i_ (l.length : Int))), (19, (i_ 0))] [] T0 (by kernel_rfl) trivial ?_)
    refine A.tn ?_
    refine A.block ?_
    refine A.ownNil 37 3 [blk be1 [(p_ bt2), (.map (some mb3))] 64, blk bt2 [(.pointer (T.ptr T.nil))] 86, treeI 92 T.nil, mapI (fun k : Int => i_ k) (fun y : It => (.agg #[u_ y.ka, i_ y.ki, u_ y.va, i_ y.vi])) mb3 ([] : List (Int × It)), sl none (([] : List Rw).length) 0 37 3 (V.flat encRw ([] : List Rw))] rfl ?_
    refine A.loop (fun (zz : Nat × T × (List (Int × It)) × (List Rw) × (Option Addr) × Nat) => match zz with | (k, t, kv, R, ar, cr) => [(3, (p_ be1)), (17, (.slice A0 l.length c0)), (18, (i_ (l.length : Int))), (19, (i_ (k : Int))), (4, (.slice ar R.length cr))]) (fun (zz : Nat × T × (List (Int × It)) × (List Rw) × (Option Addr) × Nat) => match zz with | (k, t, kv, R, ar, cr) => [blk be1 [(p_ bt2), (.map (some mb3))] 64, blk bt2 [(.pointer (T.ptr t))] 86, treeI 92 t, mapI (fun k : Int => i_ k) (fun y : It => (.agg #[u_ y.ka, i_ y.ki, u_ y.va, i_ y.vi])) mb3 kv, sl ar (R.length) cr 37 3 (V.flat encRw R)]) (fun (zz : Nat × T × (List (Int × It)) × (List Rw) × (Option Addr) × Nat) => match zz with | (k, t, kv, R, ar, cr) => (k ≤ l.length) ∧ (ERel t kv) ∧ (KRel kv R) ∧ (R.length ≤ k)) (fun (zz : Nat × T × (List (Int × It)) × (List Rw) × (Option Addr) × Nat) => match zz with | (k, t, kv, R, ar, cr) => l.length - k) (0, T.nil, ([] : List (Int × It)), ([] : List Rw), none, 0) ⟨(by first | assumption | omega | (simp_all; done) | (simp_all; omega) | grind), (by exact erel_nil), (by exact krel_nil), (by simp)⟩ ?_ ?_
    · exact A.hereK [0, 0, 0, 0, 0] (by exact ⟨rfl, rfl, rfl, rfl, rfl, trivial⟩) (by kernel_rfl)
    · rintro ⟨k, t, kv, R, ar, cr⟩ ⟨hk, hE, hK, hL⟩
      have hkl := krel_len hE.nd hK; have hW := hE.wf; have hlt := hE.len
      refine A.norm [(3, (p_ be1)), (17, (.slice A0 l.length c0)), (18, (i_ (l.length : Int))), (19, (i_ (k : Int))), (4, (.slice ar R.length cr))] [blk be1 [(p_ bt2), (.map (some mb3))] 64, blk bt2 [(.pointer (T.ptr t))] 86, treeI 92 t, mapI (fun k : Int => i_ k) (fun y : It => (.agg #[u_ y.ka, i_ y.ki, u_ y.va, i_ y.vi])) mb3 kv, sl ar (R.length) cr 37 3 (V.flat encRw R)] (by exact ⟨rfl, rfl, rfl, rfl, rfl, trivial⟩) rfl ?_
      refine A.seq ?_
      refine A.region (A.goA [.p] [(3, (p_ be1)), (17, (.slice A0 l.length c0)), (18, (i_ (l.length : Int))), (19, (i_ (k : Int))), (4, (.slice ar R.length cr)), (20, (b_ (decide ((k : Int) < (l.length : Int)))))] [] T0 (by kernel_rfl) trivial ?_)
      refine A.tn ?_
      refine A.seq ?_
      refine A.cond (E := decide ((k : Int) < (l.length : Int))) rfl (fun e3 => ?_) (fun e3 => ?_)
      · skip
        have p3 := of_decide_eq_true e3
        refine A.skip ?_
        refine A.tn ?_
        refine A.seq ?_
        refine A.block ?_
        refine A.seq ?_
        refine A.region (A.goP [.ix] [(3, (p_ be1)), (17, (.slice A0 l.length c0)), (18, (i_ (l.length : Int))), (19, (i_ (k : Int))), (4, (.slice ar R.length cr)), (20, (b_ (decide ((k : Int) < (l.length : Int))))), (21, (.pointer (some ((at0 A0).add (k * 5)))))] [] (fun κ => κ.ix A0 l.length (k : Int) ∧ True) (by kernel_rfl) ⟨(ixOf encEA_len (by decide) (rd_old r0 (by simp [feet])) (by first | omega | (simp; done))), trivial⟩ ?_)
        obtain ⟨x5, hx5⟩ : ∃ x, (l)[k]? = some x := ⟨_, List.getElem?_eq_getElem (by omega)⟩
        refine A.goA1 [.rd [(i_ x5.ek), (i_ x5.ei), (u_ x5.ea), (u_ x5.eb), (u_ x5.en)], .al, .st 5] [3, 17, 18, 19, 4, 20, 6] (fun b6 => [(3, (p_ be1)), (17, (.slice A0 l.length c0)), (18, (i_ (l.length : Int))), (19, (i_ (k : Int))), (4, (.slice ar R.length cr)), (20, (b_ (decide ((k : Int) < (l.length : Int))))), (6, (p_ b6))]) (fun b6 => [blk be1 [(p_ bt2), (.map (some mb3))] 64, blk bt2 [(.pointer (T.ptr t))] 86, treeI 92 t, mapI (fun k : Int => i_ k) (fun y : It => (.agg #[u_ y.ka, i_ y.ki, u_ y.va, i_ y.vi])) mb3 kv, sl ar (R.length) cr 37 3 (V.flat encRw R), blk b6 [(i_ x5.ek), (i_ x5.ei), (u_ x5.ea), (u_ x5.eb), (u_ x5.en)] 29]) (fun b6 => [b6]) (fun _ => (fun κ => κ.rd ((at0 A0).add (k * 5)) [(i_ x5.ek), (i_ x5.ei), (u_ x5.ea), (u_ x5.eb), (u_ x5.en)] ∧ True)) (fun _ => by kernel_rfl) (fun b6 => ⟨(reads_at0 (vs := [(i_ x5.ek), (i_ x5.ei), (u_ x5.ea), (u_ x5.eb), (u_ x5.en)]) encEA_len (rd_old r0 (by simp [feet])) hx5 (by simp) rfl), trivial⟩) ?_
        intro b6
        refine A.tn ?_
        refine A.seq ?_
        refine A.region (A.goA [.p, .p, .ld 5, .cq (i_ (fdI x5.ei R)), .p, .p] [(3, (p_ be1)), (17, (.slice A0 l.length c0)), (18, (i_ (l.length : Int))), (19, (i_ (k : Int))), (4, (.slice ar R.length cr)), (20, (b_ (decide ((k : Int) < (l.length : Int))))), (6, (p_ b6)), (7, (b_ (decide ((fdI x5.ei R) ≥ 0))))] [b6] (fun κ => κ.call 11 [(.slice ar R.length cr), (i_ x5.ei)] (i_ (fdI x5.ei R)) ∧ True) (by kernel_rfl) ⟨(fun ww ss => wfind_spec ar R cr x5.ei (by first | assumption | omega | (simp; omega)) ww ((rd_sl (i := 4) rfl) ww ss)), trivial⟩ ?_)
        refine A.tn ?_
        refine A.seq ?_
        refine A.seq ?_
        refine A.region (A.goA [.p, .ld 5, .p] [(3, (p_ be1)), (17, (.slice A0 l.length c0)), (18, (i_ (l.length : Int))), (19, (i_ (k : Int))), (4, (.slice ar R.length cr)), (20, (b_ (decide ((k : Int) < (l.length : Int))))), (6, (p_ b6)), (7, (b_ (decide ((fdI x5.ei R) ≥ 0)))), (30, (b_ (x5.ek == 0)))] [b6] T0 (by kernel_rfl) trivial ?_)
        refine A.tn ?_
        refine A.cond (E := x5.ek == 0) rfl (fun e4 => ?_) (fun e4 => ?_)
        · skip
          have p4 := e4; try simp only [decide_eq_true_eq, decide_eq_false_iff_not, beq_iff_eq, beq_eq_false_iff_ne, bne_iff_ne, bne_eq_false_iff_eq, ne_eq, Bool.and_eq_true, Bool.or_eq_true, Bool.or_eq_false_iff, Bool.not_eq_true', Bool.not_eq_false', Int.not_lt, Int.not_le, gt_iff_lt, ge_iff_le, Classical.not_not] at p4
          refine A.seq ?_
          by_cases hd : mget kv x5.ei = none
          · skip
            refine A.sub [(3, (p_ be1)), (17, (.slice A0 l.length c0)), (18, (i_ (l.length : Int))), (19, (i_ (k : Int))), (4, (.slice ar R.length cr)), (20, (b_ (decide ((k : Int) < (l.length : Int))))), (6, (p_ b6)), (7, (b_ false)), (30, (b_ (x5.ek == 0)))] (by exact ⟨rfl, rfl, rfl, rfl, rfl, rfl, rfl, (congrArg (fun z_ => some (b_ z_)) (by first | exact decide_eq_false (fun h_ => (krel_find hK _).1 h_ hd) | exact decide_eq_true ((krel_find hK _).2 hd) : decide ((fdI x5.ei R) ≥ 0) = false)), rfl, trivial⟩) ?_
            refine A.region (A.goA [.p, .p, .ld 5, .cq (i_ 6), .p] [(3, (p_ be1)), (17, (.slice A0 l.length c0)), (18, (i_ (l.length : Int))), (19, (i_ (k : Int))), (4, (.slice ar R.length cr)), (20, (b_ (decide ((k : Int) < (l.length : Int))))), (6, (p_ b6)), (7, (b_ false)), (30, (b_ (x5.ek == 0))), (8, (i_ 6))] [b6] (fun κ => κ.call 12 [(p_ be1), (i_ x5.ei)] (i_ 6) ∧ True) (by kernel_rfl) ⟨(fun ww ss => el_drop_none be1 bt2 mb3 t kv x5.ei (by first | assumption | omega | (simp; omega)) ww (ss.mem (i := 0) rfl) (ss.mem (i := 1) rfl) (ss.mem (i := 2) rfl) (ss.mem (i := 3) rfl)), trivial⟩ ?_)
            refine A.tn ?_
            refine A.seq ?_
            refine A.seq ?_
            refine A.region (A.goA [.p, .p, .p, .eq, .p, .p, .p, .p, .p, .p, .p, .p] [(3, (p_ be1)), (17, (.slice A0 l.length c0)), (18, (i_ (l.length : Int))), (19, (i_ (k : Int))), (4, (.slice ar R.length cr)), (20, (b_ (decide ((k : Int) < (l.length : Int))))), (6, (p_ b6)), (7, (b_ false)), (30, (b_ (x5.ek == 0))), (8, (i_ 6)), (46, (b_ false))] [] T0 (by kernel_rfl) trivial ?_)
            refine A.tn ?_
            refine A.cond_f rfl ?_
            refine A.skip ?_
            refine A.tn ?_
            refine A.region (A.goP [.p, .p, .ld 5] [(3, (p_ be1)), (17, (.slice A0 l.length c0)), (18, (i_ (l.length : Int))), (19, (i_ (k : Int))), (4, (.slice ar R.length cr)), (20, (b_ (decide ((k : Int) < (l.length : Int))))), (6, (p_ b6)), (7, (b_ false)), (30, (b_ (x5.ek == 0))), (8, (i_ 6)), (46, (b_ false)), (47, (.slice ar R.length cr)), (49, (i_ x5.ei))] [b6] T0 (by kernel_rfl) trivial ?_)
            refine A.cons (A.callT (some 50) [(.slice ar R.length cr), (i_ x5.ei)] [] ((fun zz => match zz with | (al'7, cl'8) => (.slice al'7 ((wo x5.ei R).length) cl'8))) ((fun zz => match zz with | (al'7, cl'8) => True)) ((fun zz => match zz with | (al'7, cl'8) => [sl al'7 ((wo x5.ei R).length) cl'8 37 3 (V.flat encRw (wo x5.ei R))])) (fun zz => match zz with | (al'7, cl'8) => [sl al'7 ((wo x5.ei R).length) cl'8 37 3 (V.flat encRw (wo x5.ei R)), blk be1 [(p_ bt2), (.map (some mb3))] 64, blk bt2 [(.pointer (T.ptr t))] 86, treeI 92 t, mapI (fun k : Int => i_ k) (fun y : It => (.agg #[u_ y.ka, i_ y.ki, u_ y.va, i_ y.vi])) mb3 kv, sl ar (R.length) cr 37 3 (V.flat encRw R), blk b6 [(i_ x5.ek), (i_ x5.ei), (u_ x5.ea), (u_ x5.eb), (u_ x5.en)] 29]) (by kernel_rfl) rfl rfl (fun ww ss hh => wwithout_spec ar R cr x5.ei (by first | assumption | omega | (simp; omega)) ww ((rd_sl (i := 4) rfl) ww ss) hh) (fun _ => rfl) ?_)
            rintro ⟨al'7, cl'8⟩ -
            refine A.goA [.p] [(3, (p_ be1)), (17, (.slice A0 l.length c0)), (18, (i_ (l.length : Int))), (19, (i_ (k : Int))), (4, (.slice al'7 ((wo x5.ei R).length) cl'8)), (20, (b_ (decide ((k : Int) < (l.length : Int))))), (6, (p_ b6)), (7, (b_ false)), (30, (b_ (x5.ek == 0))), (8, (i_ 6)), (46, (b_ false))] [] T0 (by kernel_rfl) trivial ?_
            refine A.tn ?_
            refine A.seq ?_
            have hE2 : ERel t kv := by assumption
            have hK2 : KRel kv (wo x5.ei R) := by first | exact krel_del hE.nd hK _ | (have h_ := krel_del hE.nd hK x5.ei; rw [mdel_id hd] at h_; exact h_) | exact krel_setE (x := ⟨x5.ei, x5.ea, x5.eb⟩) hE.nd hK (rwok_E (hR _ (List.mem_of_getElem? (by assumption)))) | exact krel_setV (x := ⟨x5.ei, x5.ea, x5.eb⟩) hK (rwok_E (hR _ (List.mem_of_getElem? (by assumption))))
            have hL2 : ((wo x5.ei R)).length ≤ k + 1 := by first | exact Nat.le_trans (wo_len _ _) (by omega) | exact Nat.le_trans (setL_len _ _) (by omega)
            have hG : getE kv x5.ei = 6 ∨ getE kv x5.ei = 0 := by first | exact .inl (getE_none (mget_del_same hE.nd _)) | exact .inl (getE_none hd) | exact .inr (getE_put _ _ _)
            refine A.region (A.goA [.p, .p, .ld 6, .cq (.tuple #[(u_ (getA kv x5.ei)), (u_ (getB kv x5.ei)), (i_ (getE kv x5.ei))]), .p, .p, .p, .p, .p, .p, .p] [(3, (p_ be1)), (17, (.slice A0 l.length c0)), (18, (i_ (l.length : Int))), (19, (i_ (k : Int))), (4, (.slice al'7 ((wo x5.ei R).length) cl'8)), (20, (b_ (decide ((k : Int) < (l.length : Int))))), (6, (p_ b6)), (7, (b_ false)), (30, (b_ (x5.ek == 0))), (8, (i_ 6)), (46, (b_ false)), (11, (i_ (getE kv x5.ei)))] [b6] (fun κ => κ.call 16 [(p_ be1), (i_ x5.ei)] (.tuple #[(u_ (getA kv x5.ei)), (u_ (getB kv x5.ei)), (i_ (getE kv x5.ei))]) ∧ True) (by kernel_rfl) ⟨(fun ww ss => el_get be1 bt2 mb3 t kv x5.ei ww (ss.mem (i := 1) rfl) (ss.mem (i := 2) rfl) (ss.mem (i := 3) rfl) (ss.mem (i := 4) rfl)), trivial⟩ ?_)
            refine A.tn ?_
            refine A.seq ?_
            refine A.region (A.goA [.p, .p, .p, .ld 6, .cq (b_ true), .p, .p, .p, .p, .p, .ld 6, .p, .eq, .p] [(3, (p_ be1)), (17, (.slice A0 l.length c0)), (18, (i_ (l.length : Int))), (19, (i_ (k : Int))), (4, (.slice al'7 ((wo x5.ei R).length) cl'8)), (20, (b_ (decide ((k : Int) < (l.length : Int))))), (6, (p_ b6)), (7, (b_ false)), (30, (b_ (x5.ek == 0))), (8, (i_ 6)), (46, (b_ false)), (11, (i_ (getE kv x5.ei))), (90, (b_ (!(((getE kv x5.ei) == 0) == (x5.ek != 0)))))] [b6, b6] (fun κ => κ.call 17 [(p_ be1), (.slice al'7 ((wo x5.ei R).length) cl'8), (u_ x5.en)] (b_ true) ∧ True) (by kernel_rfl) ⟨(fun ww ss => elsame_spec be1 bt2 mb3 t kv al'7 (wo x5.ei R) cl'8 x5.en (by first | assumption | omega | (simp; omega)) (by first | assumption | omega | (simp; omega)) (by first | assumption | omega | (simp; omega)) ww (ss.mem (i := 1) rfl) (ss.mem (i := 2) rfl) (ss.mem (i := 3) rfl) (ss.mem (i := 4) rfl) ((rd_sl (i := 0) rfl) ww ss)), trivial⟩ ?_)
            refine A.tn ?_
            refine A.cond (E := !(((getE kv x5.ei) == 0) == (x5.ek != 0))) rfl (fun e6 => ?_) (fun e6 => ?_)
            · exact absurd e6 (by (first | (rw [show getE kv x5.ei = 6 from getE_none (mget_del_same hE.nd _)]; simp_all) | (rw [show getE kv x5.ei = 6 from getE_none hd]; simp_all) | (rw [show getE kv x5.ei = 0 from getE_put _ _ _]; simp_all)))
            · skip
              have p6 := e6; try simp only [decide_eq_true_eq, decide_eq_false_iff_not, beq_iff_eq, beq_eq_false_iff_ne, bne_iff_ne, bne_eq_false_iff_eq, ne_eq, Bool.and_eq_true, Bool.or_eq_true, Bool.or_eq_false_iff, Bool.not_eq_true', Bool.not_eq_false', Int.not_lt, Int.not_le, gt_iff_lt, ge_iff_le, Classical.not_not] at p6
              refine A.skip ?_
              refine A.bn ?_
              refine A.tn ?_
              refine A.region (A.goA [.w ((k : Int) + 1), .p] [(3, (p_ be1)), (17, (.slice A0 l.length c0)), (18, (i_ (l.length : Int))), (19, (i_ ((k : Int) + 1))), (4, (.slice al'7 ((wo x5.ei R).length) cl'8)), (20, (b_ (decide ((k : Int) < (l.length : Int))))), (6, (p_ b6)), (7, (b_ false)), (30, (b_ (x5.ek == 0))), (8, (i_ 6)), (46, (b_ false)), (11, (i_ (getE kv x5.ei))), (90, (b_ (!(((getE kv x5.ei) == 0) == (x5.ek != 0)))))] [] (fun κ => (IntKind.i64.wrap ((k : Int) + 1) = ((k : Int) + 1)) ∧ True) (by kernel_rfl) ⟨(wrap_i64 (e := (k : Int) + 1) (by constructor <;> omega)), trivial⟩ ?_)
              refine A.tn ?_
              refine A.next (k + 1, t, kv, (wo x5.ei R), al'7, cl'8) ⟨(by first | assumption | omega | (simp_all; done) | (simp_all; omega) | grind), (by assumption), (by exact hK2), (by exact hL2)⟩ (by first | omega | (simp; omega) | (simp_all; omega)) ?_
              exact A.hereK [1, 1, 1, 1, 0] (by exact ⟨rfl, rfl, rfl, rfl, rfl, trivial⟩) (by kernel_rfl)
          · skip
            refine A.sub [(3, (p_ be1)), (17, (.slice A0 l.length c0)), (18, (i_ (l.length : Int))), (19, (i_ (k : Int))), (4, (.slice ar R.length cr)), (20, (b_ (decide ((k : Int) < (l.length : Int))))), (6, (p_ b6)), (7, (b_ true)), (30, (b_ (x5.ek == 0)))] (by exact ⟨rfl, rfl, rfl, rfl, rfl, rfl, rfl, (congrArg (fun z_ => some (b_ z_)) (by first | exact decide_eq_false (fun h_ => (krel_find hK _).1 h_ hd) | exact decide_eq_true ((krel_find hK _).2 hd) : decide ((fdI x5.ei R) ≥ 0) = true)), rfl, trivial⟩) ?_
            refine A.region (A.goP [.p, .p, .ld 5] [(3, (p_ be1)), (17, (.slice A0 l.length c0)), (18, (i_ (l.length : Int))), (19, (i_ (k : Int))), (4, (.slice ar R.length cr)), (20, (b_ (decide ((k : Int) < (l.length : Int))))), (6, (p_ b6)), (7, (b_ true)), (30, (b_ (x5.ek == 0))), (31, (p_ be1)), (33, (i_ x5.ei))] [b6] T0 (by kernel_rfl) trivial ?_)
            refine A.cons (A.callT (some 34) [(p_ be1), (i_ x5.ei)] [0, 0, 0, 0] ((fun zt10 => (i_ 0))) ((fun zt10 => ERel zt10 (mdel kv x5.ei))) ((fun zt10 => [blk be1 [(p_ bt2), (.map (some mb3))] 64, blk bt2 [(.pointer (T.ptr zt10))] 86, treeI 92 zt10, mapI (fun k : Int => i_ k) (fun y : It => (.agg #[u_ y.ka, i_ y.ki, u_ y.va, i_ y.vi])) mb3 (mdel kv x5.ei)])) (fun zt10 => [blk be1 [(p_ bt2), (.map (some mb3))] 64, blk bt2 [(.pointer (T.ptr zt10))] 86, treeI 92 zt10, mapI (fun k : Int => i_ k) (fun y : It => (.agg #[u_ y.ka, i_ y.ki, u_ y.va, i_ y.vi])) mb3 (mdel kv x5.ei), sl ar (R.length) cr 37 3 (V.flat encRw R), blk b6 [(i_ x5.ek), (i_ x5.ei), (u_ x5.ea), (u_ x5.eb), (u_ x5.en)] 29]) (by kernel_rfl) rfl rfl (fun ww ss hh => el_drop_ok be1 bt2 mb3 t kv x5.ei (by first | assumption | omega | (simp; omega)) (by first | assumption | omega | (simp; omega)) (by first | assumption | omega | (simp; omega)) ww hh) (fun _ => rfl) ?_)
            rintro zt10 hz7
            have hz7W := hz7.wf; have hz7l := hz7.len
            refine A.goA [.p] [(3, (p_ be1)), (17, (.slice A0 l.length c0)), (18, (i_ (l.length : Int))), (19, (i_ (k : Int))), (4, (.slice ar R.length cr)), (20, (b_ (decide ((k : Int) < (l.length : Int))))), (6, (p_ b6)), (7, (b_ true)), (30, (b_ (x5.ek == 0))), (8, (i_ 0))] [] T0 (by kernel_rfl) trivial ?_
            refine A.tn ?_
            refine A.seq ?_
            refine A.seq ?_
            refine A.region (A.goA [.p, .p, .p, .eq, .p, .p, .p, .p, .sk, .sk, .p, .p] [(3, (p_ be1)), (17, (.slice A0 l.length c0)), (18, (i_ (l.length : Int))), (19, (i_ (k : Int))), (4, (.slice ar R.length cr)), (20, (b_ (decide ((k : Int) < (l.length : Int))))), (6, (p_ b6)), (7, (b_ true)), (30, (b_ (x5.ek == 0))), (8, (i_ 0)), (46, (b_ false))] [] T0 (by kernel_rfl) trivial ?_)
            refine A.tn ?_
            refine A.cond_f rfl ?_
            refine A.skip ?_
            refine A.tn ?_
            refine A.region (A.goP [.p, .p, .ld 5] [(3, (p_ be1)), (17, (.slice A0 l.length c0)), (18, (i_ (l.length : Int))), (19, (i_ (k : Int))), (4, (.slice ar R.length cr)), (20, (b_ (decide ((k : Int) < (l.length : Int))))), (6, (p_ b6)), (7, (b_ true)), (30, (b_ (x5.ek == 0))), (8, (i_ 0)), (46, (b_ false)), (47, (.slice ar R.length cr)), (49, (i_ x5.ei))] [b6] T0 (by kernel_rfl) trivial ?_)
            refine A.cons (A.callT (some 50) [(.slice ar R.length cr), (i_ x5.ei)] [] ((fun zz => match zz with | (al'11, cl'12) => (.slice al'11 ((wo x5.ei R).length) cl'12))) ((fun zz => match zz with | (al'11, cl'12) => True)) ((fun zz => match zz with | (al'11, cl'12) => [sl al'11 ((wo x5.ei R).length) cl'12 37 3 (V.flat encRw (wo x5.ei R))])) (fun zz => match zz with | (al'11, cl'12) => [sl al'11 ((wo x5.ei R).length) cl'12 37 3 (V.flat encRw (wo x5.ei R)), blk be1 [(p_ bt2), (.map (some mb3))] 64, blk bt2 [(.pointer (T.ptr zt10))] 86, treeI 92 zt10, mapI (fun k : Int => i_ k) (fun y : It => (.agg #[u_ y.ka, i_ y.ki, u_ y.va, i_ y.vi])) mb3 (mdel kv x5.ei), sl ar (R.length) cr 37 3 (V.flat encRw R), blk b6 [(i_ x5.ek), (i_ x5.ei), (u_ x5.ea), (u_ x5.eb), (u_ x5.en)] 29]) (by kernel_rfl) rfl rfl (fun ww ss hh => wwithout_spec ar R cr x5.ei (by first | assumption | omega | (simp; omega)) ww ((rd_sl (i := 4) rfl) ww ss) hh) (fun _ => rfl) ?_)
            rintro ⟨al'11, cl'12⟩ -
            refine A.goA [.p] [(3, (p_ be1)), (17, (.slice A0 l.length c0)), (18, (i_ (l.length : Int))), (19, (i_ (k : Int))), (4, (.slice al'11 ((wo x5.ei R).length) cl'12)), (20, (b_ (decide ((k : Int) < (l.length : Int))))), (6, (p_ b6)), (7, (b_ true)), (30, (b_ (x5.ek == 0))), (8, (i_ 0)), (46, (b_ false))] [] T0 (by kernel_rfl) trivial ?_
            refine A.tn ?_
            refine A.seq ?_
            have hE2 : ERel zt10 (mdel kv x5.ei) := by assumption
            have hK2 : KRel (mdel kv x5.ei) (wo x5.ei R) := by first | exact krel_del hE.nd hK _ | (have h_ := krel_del hE.nd hK x5.ei; rw [mdel_id hd] at h_; exact h_) | exact krel_setE (x := ⟨x5.ei, x5.ea, x5.eb⟩) hE.nd hK (rwok_E (hR _ (List.mem_of_getElem? (by assumption)))) | exact krel_setV (x := ⟨x5.ei, x5.ea, x5.eb⟩) hK (rwok_E (hR _ (List.mem_of_getElem? (by assumption))))
            have hL2 : ((wo x5.ei R)).length ≤ k + 1 := by first | exact Nat.le_trans (wo_len _ _) (by omega) | exact Nat.le_trans (setL_len _ _) (by omega)
            have hG : getE (mdel kv x5.ei) x5.ei = 6 ∨ getE (mdel kv x5.ei) x5.ei = 0 := by first | exact .inl (getE_none (mget_del_same hE.nd _)) | exact .inl (getE_none hd) | exact .inr (getE_put _ _ _)
            refine A.region (A.goA [.p, .p, .ld 6, .cq (.tuple #[(u_ (getA (mdel kv x5.ei) x5.ei)), (u_ (getB (mdel kv x5.ei) x5.ei)), (i_ (getE (mdel kv x5.ei) x5.ei))]), .p, .p, .p, .p, .p, .p, .p] [(3, (p_ be1)), (17, (.slice A0 l.length c0)), (18, (i_ (l.length : Int))), (19, (i_ (k : Int))), (4, (.slice al'11 ((wo x5.ei R).length) cl'12)), (20, (b_ (decide ((k : Int) < (l.length : Int))))), (6, (p_ b6)), (7, (b_ true)), (30, (b_ (x5.ek == 0))), (8, (i_ 0)), (46, (b_ false)), (11, (i_ (getE (mdel kv x5.ei) x5.ei)))] [b6] (fun κ => κ.call 16 [(p_ be1), (i_ x5.ei)] (.tuple #[(u_ (getA (mdel kv x5.ei) x5.ei)), (u_ (getB (mdel kv x5.ei) x5.ei)), (i_ (getE (mdel kv x5.ei) x5.ei))]) ∧ True) (by kernel_rfl) ⟨(fun ww ss => el_get be1 bt2 mb3 zt10 (mdel kv x5.ei) x5.ei ww (ss.mem (i := 1) rfl) (ss.mem (i := 2) rfl) (ss.mem (i := 3) rfl) (ss.mem (i := 4) rfl)), trivial⟩ ?_)
            refine A.tn ?_
            refine A.seq ?_
            refine A.region (A.goA [.p, .p, .p, .ld 6, .cq (b_ true), .p, .p, .p, .p, .p, .ld 6, .p, .eq, .p] [(3, (p_ be1)), (17, (.slice A0 l.length c0)), (18, (i_ (l.length : Int))), (19, (i_ (k : Int))), (4, (.slice al'11 ((wo x5.ei R).length) cl'12)), (20, (b_ (decide ((k : Int) < (l.length : Int))))), (6, (p_ b6)), (7, (b_ true)), (30, (b_ (x5.ek == 0))), (8, (i_ 0)), (46, (b_ false)), (11, (i_ (getE (mdel kv x5.ei) x5.ei))), (90, (b_ (!(((getE (mdel kv x5.ei) x5.ei) == 0) == (x5.ek != 0)))))] [b6, b6] (fun κ => κ.call 17 [(p_ be1), (.slice al'11 ((wo x5.ei R).length) cl'12), (u_ x5.en)] (b_ true) ∧ True) (by kernel_rfl) ⟨(fun ww ss => elsame_spec be1 bt2 mb3 zt10 (mdel kv x5.ei) al'11 (wo x5.ei R) cl'12 x5.en (by first | assumption | omega | (simp; omega)) (by first | assumption | omega | (simp; omega)) (by first | assumption | omega | (simp; omega)) ww (ss.mem (i := 1) rfl) (ss.mem (i := 2) rfl) (ss.mem (i := 3) rfl) (ss.mem (i := 4) rfl) ((rd_sl (i := 0) rfl) ww ss)), trivial⟩ ?_)
            refine A.tn ?_
            refine A.cond (E := !(((getE (mdel kv x5.ei) x5.ei) == 0) == (x5.ek != 0))) rfl (fun e9 => ?_) (fun e9 => ?_)
            · exact absurd e9 (by (first | (rw [show getE (mdel kv x5.ei) x5.ei = 6 from getE_none (mget_del_same hE.nd _)]; simp_all) | (rw [show getE (mdel kv x5.ei) x5.ei = 6 from getE_none hd]; simp_all) | (rw [show getE (mdel kv x5.ei) x5.ei = 0 from getE_put _ _ _]; simp_all)))
            · skip
              have p9 := e9; try simp only [decide_eq_true_eq, decide_eq_false_iff_not, beq_iff_eq, beq_eq_false_iff_ne, bne_iff_ne, bne_eq_false_iff_eq, ne_eq, Bool.and_eq_true, Bool.or_eq_true, Bool.or_eq_false_iff, Bool.not_eq_true', Bool.not_eq_false', Int.not_lt, Int.not_le, gt_iff_lt, ge_iff_le, Classical.not_not] at p9
              refine A.skip ?_
              refine A.bn ?_
              refine A.tn ?_
              refine A.region (A.goA [.w ((k : Int) + 1), .p] [(3, (p_ be1)), (17, (.slice A0 l.length c0)), (18, (i_ (l.length : Int))), (19, (i_ ((k : Int) + 1))), (4, (.slice al'11 ((wo x5.ei R).length) cl'12)), (20, (b_ (decide ((k : Int) < (l.length : Int))))), (6, (p_ b6)), (7, (b_ true)), (30, (b_ (x5.ek == 0))), (8, (i_ 0)), (46, (b_ false)), (11, (i_ (getE (mdel kv x5.ei) x5.ei))), (90, (b_ (!(((getE (mdel kv x5.ei) x5.ei) == 0) == (x5.ek != 0)))))] [] (fun κ => (IntKind.i64.wrap ((k : Int) + 1) = ((k : Int) + 1)) ∧ True) (by kernel_rfl) ⟨(wrap_i64 (e := (k : Int) + 1) (by constructor <;> omega)), trivial⟩ ?_)
              refine A.tn ?_
              refine A.next (k + 1, zt10, (mdel kv x5.ei), (wo x5.ei R), al'11, cl'12) ⟨(by first | assumption | omega | (simp_all; done) | (simp_all; omega) | grind), (by assumption), (by exact hK2), (by exact hL2)⟩ (by first | omega | (simp; omega) | (simp_all; omega)) ?_
              exact A.hereK [1, 1, 1, 1, 0] (by exact ⟨rfl, rfl, rfl, rfl, rfl, trivial⟩) (by kernel_rfl)
        · skip
          have p4 := e4; try simp only [decide_eq_true_eq, decide_eq_false_iff_not, beq_iff_eq, beq_eq_false_iff_ne, bne_iff_ne, bne_eq_false_iff_eq, ne_eq, Bool.and_eq_true, Bool.or_eq_true, Bool.or_eq_false_iff, Bool.not_eq_true', Bool.not_eq_false', Int.not_lt, Int.not_le, gt_iff_lt, ge_iff_le, Classical.not_not] at p4
          refine A.seq ?_
          refine A.seq ?_
          refine A.region (A.goP [.p, .p, .ld 5, .p, .ld 5, .p, .ld 5] [(3, (p_ be1)), (17, (.slice A0 l.length c0)), (18, (i_ (l.length : Int))), (19, (i_ (k : Int))), (4, (.slice ar R.length cr)), (20, (b_ (decide ((k : Int) < (l.length : Int))))), (6, (p_ b6)), (7, (b_ (decide ((fdI x5.ei R) ≥ 0)))), (30, (b_ (x5.ek == 0))), (51, (p_ be1)), (53, (i_ x5.ei)), (55, (u_ x5.ea)), (57, (u_ x5.eb))] [b6, b6, b6] T0 (by kernel_rfl) trivial ?_)
          refine A.cons (A.callT (some 58) [(p_ be1), (i_ x5.ei), (u_ x5.ea), (u_ x5.eb)] [0, 0, 0, 0] ((fun zt14 => (i_ 0))) ((fun zt14 => ERel zt14 (mput (mdel kv x5.ei) x5.ei ⟨x5.ea, x5.ei, x5.eb, x5.ei⟩))) ((fun zt14 => [blk be1 [(p_ bt2), (.map (some mb3))] 64, blk bt2 [(.pointer (T.ptr zt14))] 86, treeI 92 zt14, mapI (fun k : Int => i_ k) (fun y : It => (.agg #[u_ y.ka, i_ y.ki, u_ y.va, i_ y.vi])) mb3 (mput (mdel kv x5.ei) x5.ei ⟨x5.ea, x5.ei, x5.eb, x5.ei⟩)])) (fun zt14 => [blk be1 [(p_ bt2), (.map (some mb3))] 64, blk bt2 [(.pointer (T.ptr zt14))] 86, treeI 92 zt14, mapI (fun k : Int => i_ k) (fun y : It => (.agg #[u_ y.ka, i_ y.ki, u_ y.va, i_ y.vi])) mb3 (mput (mdel kv x5.ei) x5.ei ⟨x5.ea, x5.ei, x5.eb, x5.ei⟩), sl ar (R.length) cr 37 3 (V.flat encRw R), blk b6 [(i_ x5.ek), (i_ x5.ei), (u_ x5.ea), (u_ x5.eb), (u_ x5.en)] 29]) (by kernel_rfl) rfl rfl (fun ww ss hh => el_set be1 bt2 mb3 t kv x5.ei x5.ea x5.eb (by first | assumption | omega | (simp; omega)) (by first | assumption | omega | (simp; omega)) ww hh) (fun _ => rfl) ?_)
          rintro zt14 hz10
          have hz10W := hz10.wf; have hz10l := hz10.len
          refine A.goA [.p] [(3, (p_ be1)), (17, (.slice A0 l.length c0)), (18, (i_ (l.length : Int))), (19, (i_ (k : Int))), (4, (.slice ar R.length cr)), (20, (b_ (decide ((k : Int) < (l.length : Int))))), (6, (p_ b6)), (7, (b_ (decide ((fdI x5.ei R) ≥ 0)))), (30, (b_ (x5.ek == 0))), (59, (b_ false))] [] T0 (by kernel_rfl) trivial ?_
          refine A.tn ?_
          refine A.cond_f rfl ?_
          refine A.skip ?_
          refine A.tn ?_
          refine A.region (A.goP [.p, .p, .ld 5, .p, .ld 5, .p, .ld 5, .p] [(3, (p_ be1)), (17, (.slice A0 l.length c0)), (18, (i_ (l.length : Int))), (19, (i_ (k : Int))), (4, (.slice ar R.length cr)), (20, (b_ (decide ((k : Int) < (l.length : Int))))), (6, (p_ b6)), (7, (b_ (decide ((fdI x5.ei R) ≥ 0)))), (30, (b_ (x5.ek == 0))), (59, (b_ false)), (60, (.slice ar R.length cr)), (67, (.agg #[(i_ x5.ei), (u_ x5.ea), (u_ x5.eb)]))] [b6, b6, b6] T0 (by kernel_rfl) trivial ?_)
          refine A.cons (A.callT (some 68) [(.slice ar R.length cr), (.agg #[(i_ x5.ei), (u_ x5.ea), (u_ x5.eb)])] [] ((fun zz => match zz with | (al'15, cl'16) => (.slice al'15 ((setL (⟨x5.ei, x5.ea, x5.eb⟩ : Rw) R).length) cl'16))) ((fun zz => match zz with | (al'15, cl'16) => True)) ((fun zz => match zz with | (al'15, cl'16) => [sl al'15 ((setL (⟨x5.ei, x5.ea, x5.eb⟩ : Rw) R).length) cl'16 37 3 (V.flat encRw (setL (⟨x5.ei, x5.ea, x5.eb⟩ : Rw) R))])) (fun zz => match zz with | (al'15, cl'16) => [sl al'15 ((setL (⟨x5.ei, x5.ea, x5.eb⟩ : Rw) R).length) cl'16 37 3 (V.flat encRw (setL (⟨x5.ei, x5.ea, x5.eb⟩ : Rw) R)), blk be1 [(p_ bt2), (.map (some mb3))] 64, blk bt2 [(.pointer (T.ptr zt14))] 86, treeI 92 zt14, mapI (fun k : Int => i_ k) (fun y : It => (.agg #[u_ y.ka, i_ y.ki, u_ y.va, i_ y.vi])) mb3 (mput (mdel kv x5.ei) x5.ei ⟨x5.ea, x5.ei, x5.eb, x5.ei⟩), sl ar (R.length) cr 37 3 (V.flat encRw R), blk b6 [(i_ x5.ek), (i_ x5.ei), (u_ x5.ea), (u_ x5.eb), (u_ x5.en)] 29]) (by kernel_rfl) rfl rfl (fun ww ss hh => wset_spec ar R cr (⟨x5.ei, x5.ea, x5.eb⟩ : Rw) (by first | assumption | omega | (simp; omega)) ww ((rd_sl (i := 4) rfl) ww ss) hh) (fun _ => rfl) ?_)
          rintro ⟨al'15, cl'16⟩ -
          refine A.goA [.p] [(3, (p_ be1)), (17, (.slice A0 l.length c0)), (18, (i_ (l.length : Int))), (19, (i_ (k : Int))), (4, (.slice al'15 ((setL (⟨x5.ei, x5.ea, x5.eb⟩ : Rw) R).length) cl'16)), (20, (b_ (decide ((k : Int) < (l.length : Int))))), (6, (p_ b6)), (7, (b_ (decide ((fdI x5.ei R) ≥ 0)))), (30, (b_ (x5.ek == 0))), (59, (b_ false))] [] T0 (by kernel_rfl) trivial ?_
          refine A.tn ?_
          refine A.seq ?_
          have hE2 : ERel zt14 (mput (mdel kv x5.ei) x5.ei ⟨x5.ea, x5.ei, x5.eb, x5.ei⟩) := by assumption
          have hK2 : KRel (mput (mdel kv x5.ei) x5.ei ⟨x5.ea, x5.ei, x5.eb, x5.ei⟩) (setL (⟨x5.ei, x5.ea, x5.eb⟩ : Rw) R) := by first | exact krel_del hE.nd hK _ | (have h_ := krel_del hE.nd hK x5.ei; rw [mdel_id hd] at h_; exact h_) | exact krel_setE (x := ⟨x5.ei, x5.ea, x5.eb⟩) hE.nd hK (rwok_E (hR _ (List.mem_of_getElem? (by assumption)))) | exact krel_setV (x := ⟨x5.ei, x5.ea, x5.eb⟩) hK (rwok_E (hR _ (List.mem_of_getElem? (by assumption))))
          have hL2 : ((setL (⟨x5.ei, x5.ea, x5.eb⟩ : Rw) R)).length ≤ k + 1 := by first | exact Nat.le_trans (wo_len _ _) (by omega) | exact Nat.le_trans (setL_len _ _) (by omega)
          have hG : getE (mput (mdel kv x5.ei) x5.ei ⟨x5.ea, x5.ei, x5.eb, x5.ei⟩) x5.ei = 6 ∨ getE (mput (mdel kv x5.ei) x5.ei ⟨x5.ea, x5.ei, x5.eb, x5.ei⟩) x5.ei = 0 := by first | exact .inl (getE_none (mget_del_same hE.nd _)) | exact .inl (getE_none hd) | exact .inr (getE_put _ _ _)
          refine A.region (A.goA [.p, .p, .ld 6, .cq (.tuple #[(u_ (getA (mput (mdel kv x5.ei) x5.ei ⟨x5.ea, x5.ei, x5.eb, x5.ei⟩) x5.ei)), (u_ (getB (mput (mdel kv x5.ei) x5.ei ⟨x5.ea, x5.ei, x5.eb, x5.ei⟩) x5.ei)), (i_ (getE (mput (mdel kv x5.ei) x5.ei ⟨x5.ea, x5.ei, x5.eb, x5.ei⟩) x5.ei))]), .p, .p, .p, .p, .p, .p, .p] [(3, (p_ be1)), (17, (.slice A0 l.length c0)), (18, (i_ (l.length : Int))), (19, (i_ (k : Int))), (4, (.slice al'15 ((setL (⟨x5.ei, x5.ea, x5.eb⟩ : Rw) R).length) cl'16)), (20, (b_ (decide ((k : Int) < (l.length : Int))))), (6, (p_ b6)), (7, (b_ (decide ((fdI x5.ei R) ≥ 0)))), (30, (b_ (x5.ek == 0))), (59, (b_ false)), (11, (i_ (getE (mput (mdel kv x5.ei) x5.ei ⟨x5.ea, x5.ei, x5.eb, x5.ei⟩) x5.ei)))] [b6] (fun κ => κ.call 16 [(p_ be1), (i_ x5.ei)] (.tuple #[(u_ (getA (mput (mdel kv x5.ei) x5.ei ⟨x5.ea, x5.ei, x5.eb, x5.ei⟩) x5.ei)), (u_ (getB (mput (mdel kv x5.ei) x5.ei ⟨x5.ea, x5.ei, x5.eb, x5.ei⟩) x5.ei)), (i_ (getE (mput (mdel kv x5.ei) x5.ei ⟨x5.ea, x5.ei, x5.eb, x5.ei⟩) x5.ei))]) ∧ True) (by kernel_rfl) ⟨(fun ww ss => el_get be1 bt2 mb3 zt14 (mput (mdel kv x5.ei) x5.ei ⟨x5.ea, x5.ei, x5.eb, x5.ei⟩) x5.ei ww (ss.mem (i := 1) rfl) (ss.mem (i := 2) rfl) (ss.mem (i := 3) rfl) (ss.mem (i := 4) rfl)), trivial⟩ ?_)
          refine A.tn ?_
          refine A.seq ?_
          refine A.region (A.goA [.p, .p, .p, .ld 6, .cq (b_ true), .p, .p, .p, .p, .p, .ld 6, .p, .eq, .p] [(3, (p_ be1)), (17, (.slice A0 l.length c0)), (18, (i_ (l.length : Int))), (19, (i_ (k : Int))), (4, (.slice al'15 ((setL (⟨x5.ei, x5.ea, x5.eb⟩ : Rw) R).length) cl'16)), (20, (b_ (decide ((k : Int) < (l.length : Int))))), (6, (p_ b6)), (7, (b_ (decide ((fdI x5.ei R) ≥ 0)))), (30, (b_ (x5.ek == 0))), (59, (b_ false)), (11, (i_ (getE (mput (mdel kv x5.ei) x5.ei ⟨x5.ea, x5.ei, x5.eb, x5.ei⟩) x5.ei))), (90, (b_ (!(((getE (mput (mdel kv x5.ei) x5.ei ⟨x5.ea, x5.ei, x5.eb, x5.ei⟩) x5.ei) == 0) == (x5.ek != 0)))))] [b6, b6] (fun κ => κ.call 17 [(p_ be1), (.slice al'15 ((setL (⟨x5.ei, x5.ea, x5.eb⟩ : Rw) R).length) cl'16), (u_ x5.en)] (b_ true) ∧ True) (by kernel_rfl) ⟨(fun ww ss => elsame_spec be1 bt2 mb3 zt14 (mput (mdel kv x5.ei) x5.ei ⟨x5.ea, x5.ei, x5.eb, x5.ei⟩) al'15 (setL (⟨x5.ei, x5.ea, x5.eb⟩ : Rw) R) cl'16 x5.en (by first | assumption | omega | (simp; omega)) (by first | assumption | omega | (simp; omega)) (by first | assumption | omega | (simp; omega)) ww (ss.mem (i := 1) rfl) (ss.mem (i := 2) rfl) (ss.mem (i := 3) rfl) (ss.mem (i := 4) rfl) ((rd_sl (i := 0) rfl) ww ss)), trivial⟩ ?_)
          refine A.tn ?_
          refine A.cond (E := !(((getE (mput (mdel kv x5.ei) x5.ei ⟨x5.ea, x5.ei, x5.eb, x5.ei⟩) x5.ei) == 0) == (x5.ek != 0))) rfl (fun e12 => ?_) (fun e12 => ?_)
          · exact absurd e12 (by (first | (rw [show getE (mput (mdel kv x5.ei) x5.ei ⟨x5.ea, x5.ei, x5.eb, x5.ei⟩) x5.ei = 6 from getE_none (mget_del_same hE.nd _)]; simp_all) | (rw [show getE (mput (mdel kv x5.ei) x5.ei ⟨x5.ea, x5.ei, x5.eb, x5.ei⟩) x5.ei = 6 from getE_none hd]; simp_all) | (rw [show getE (mput (mdel kv x5.ei) x5.ei ⟨x5.ea, x5.ei, x5.eb, x5.ei⟩) x5.ei = 0 from getE_put _ _ _]; simp_all)))
          · skip
            have p12 := e12; try simp only [decide_eq_true_eq, decide_eq_false_iff_not, beq_iff_eq, beq_eq_false_iff_ne, bne_iff_ne, bne_eq_false_iff_eq, ne_eq, Bool.and_eq_true, Bool.or_eq_true, Bool.or_eq_false_iff, Bool.not_eq_true', Bool.not_eq_false', Int.not_lt, Int.not_le, gt_iff_lt, ge_iff_le, Classical.not_not] at p12
            refine A.skip ?_
            refine A.bn ?_
            refine A.tn ?_
            refine A.region (A.goA [.w ((k : Int) + 1), .p] [(3, (p_ be1)), (17, (.slice A0 l.length c0)), (18, (i_ (l.length : Int))), (19, (i_ ((k : Int) + 1))), (4, (.slice al'15 ((setL (⟨x5.ei, x5.ea, x5.eb⟩ : Rw) R).length) cl'16)), (20, (b_ (decide ((k : Int) < (l.length : Int))))), (6, (p_ b6)), (7, (b_ (decide ((fdI x5.ei R) ≥ 0)))), (30, (b_ (x5.ek == 0))), (59, (b_ false)), (11, (i_ (getE (mput (mdel kv x5.ei) x5.ei ⟨x5.ea, x5.ei, x5.eb, x5.ei⟩) x5.ei))), (90, (b_ (!(((getE (mput (mdel kv x5.ei) x5.ei ⟨x5.ea, x5.ei, x5.eb, x5.ei⟩) x5.ei) == 0) == (x5.ek != 0)))))] [] (fun κ => (IntKind.i64.wrap ((k : Int) + 1) = ((k : Int) + 1)) ∧ True) (by kernel_rfl) ⟨(wrap_i64 (e := (k : Int) + 1) (by constructor <;> omega)), trivial⟩ ?_)
            refine A.tn ?_
            refine A.next (k + 1, zt14, (mput (mdel kv x5.ei) x5.ei ⟨x5.ea, x5.ei, x5.eb, x5.ei⟩), (setL (⟨x5.ei, x5.ea, x5.eb⟩ : Rw) R), al'15, cl'16) ⟨(by first | assumption | omega | (simp_all; done) | (simp_all; omega) | grind), (by assumption), (by exact hK2), (by exact hL2)⟩ (by first | omega | (simp; omega) | (simp_all; omega)) ?_
            exact A.hereK [1, 1, 1, 1, 0] (by exact ⟨rfl, rfl, rfl, rfl, rfl, trivial⟩) (by kernel_rfl)
      · skip
        have p3 := of_decide_eq_false e3
        refine A.exit ?_
        refine A.te ?_
        refine A.te ?_
        refine A.bh ?_
        refine A.tn ?_
        refine A.seq ?_
        refine A.region (A.goA [.cq (b_ true), .p] [(3, (p_ be1)), (17, (.slice A0 l.length c0)), (18, (i_ (l.length : Int))), (19, (i_ (k : Int))), (4, (.slice ar R.length cr)), (20, (b_ (decide ((k : Int) < (l.length : Int))))), (2, (b_ true))] [] (fun κ => κ.call 9 [] (b_ true) ∧ True) (by kernel_rfl) ⟨(fun ww ss => el_two ww), trivial⟩ ?_)
        refine A.tn ?_
        refine A.ret ?_
        refine A.postQ [(b_ true)] (fun aa ww rr ss => ⟨rv_tmp rr rfl, trivial⟩) ?_
        rfl

set_option maxHeartbeats 4000000 in
set_option maxRecDepth 100000 in
theorem vtreeActs_walk (A0 : Option Addr) (l : List VA) (c0 : Nat) (hR : ∀ x ∈ l, VAOk x) (w : World) (r0 : arrAt w A0 (V.flat encVA l)) :
    Calls Try.prog 6 #[(.slice A0 l.length c0)] w fun e w' => e = .returned (b_ true) ∧ Fr [] w w' := by
  refine calls_of (args := [(.slice A0 l.length c0)]) (penv [(.slice A0 l.length c0)]) [] [] Try.func6 rfl rfl (look_penv _) (HS.nil w) ?_
  refine A.norm [(0, (.slice A0 l.length c0))] [] (by exact ⟨rfl, trivial⟩) rfl ?_
  refine A.seq ?_
  refine A.region (A.goA [.p] [(0, (.slice A0 l.length c0)), (2, (b_ false))] [] T0 (by kernel_rfl) trivial ?_)
  refine A.tn ?_
  refine A.seq ?_
  refine A.seq ?_
  refine A.region (A.goA [.p, .p, .p] [(0, (.slice A0 l.length c0)), (2, (b_ false)), (11, (b_ (decide ((l.length : Int) > 80))))] [] T0 (by kernel_rfl) trivial ?_)
  refine A.tn ?_
  refine A.cond (E := decide ((l.length : Int) > 80)) rfl (fun e1 => ?_) (fun e1 => ?_)
  · skip
    have p1 := of_decide_eq_true e1
    refine A.seq ?_
    refine A.region (A.goA [.cq (b_ true), .p] [(0, (.slice A0 l.length c0)), (2, (b_ true)), (11, (b_ (decide ((l.length : Int) > 80))))] [] (fun κ => κ.call 22 [] (b_ true) ∧ True) (by kernel_rfl) ⟨(fun ww ss => vt_two ww), trivial⟩ ?_)
    refine A.tn ?_
    refine A.ret ?_
    refine A.tr ?_
    refine A.postQ [(b_ true)] (fun aa ww rr ss => ⟨rv_tmp rr rfl, trivial⟩) ?_
    rfl
  · skip
    have p1 := of_decide_eq_false e1
    refine A.skip ?_
    refine A.tn ?_
    refine A.seq ?_
    refine A.region ?_
    refine A.cons (A.callT (some 13) [] [] ((fun zz => match zz with | (be1, bt2, mb3) => (p_ be1))) ((fun zz => match zz with | (be1, bt2, mb3) => True)) ((fun zz => match zz with | (be1, bt2, mb3) => [blk be1 [(p_ bt2), (.map (some mb3))] 82, blk bt2 [(.pointer (T.ptr T.nil))] 86, treeI 92 T.nil, mapI (fun k : Int => i_ k) (fun y : It => (.agg #[u_ y.ka, i_ y.ki, u_ y.va, i_ y.vi])) mb3 ([] : List (Int × It))])) (fun zz => match zz with | (be1, bt2, mb3) => [blk be1 [(p_ bt2), (.map (some mb3))] 82, blk bt2 [(.pointer (T.ptr T.nil))] 86, treeI 92 T.nil, mapI (fun k : Int => i_ k) (fun y : It => (.agg #[u_ y.ka, i_ y.ki, u_ y.va, i_ y.vi])) mb3 ([] : List (Int × It))]) (by kernel_rfl) rfl rfl (fun ww ss hh => vt_new ww hh) (fun _ => rfl) ?_)
    rintro ⟨be1, bt2, mb3⟩ -
    refine A.goA [.p] [(0, (.slice A0 l.length c0)), (2, (b_ false)), (11, (b_ (decide ((l.length : Int) > 80)))), (3, (p_ be1))] [] T0 (by kernel_rfl) trivial ?_
    refine A.tn ?_
    refine A.seq ?_
    refine A.region (A.goA [.p] [(0, (.slice A0 l.length c0)), (2, (b_ false)), (11, (b_ (decide ((l.length : Int) > 80)))), (3, (p_ be1)), (4, e_)] [] T0 (by kernel_rfl) trivial ?_)
    refine A.tn ?_
    refine A.seq ?_
    refine A.seq ?_
    refine A.region (A.goA [.p, .p, .p] [(0, (.slice A0 l.length c0)), (2, (b_ false)), (11, (b_ (decide ((l.length : Int) > 80)))), (3, (p_ be1)), (4, e_), (14, (.slice A0 l.length c0)), (15, (i_ (l.length : Int))), (16, (i_ 0))] [] T0 (by kernel_rfl) trivial ?_)
    refine A.tn ?_
    refine A.block ?_
    refine A.ownNil 37 3 [blk be1 [(p_ bt2), (.map (some mb3))] 82, blk bt2 [(.pointer (T.ptr T.nil))] 86, treeI 92 T.nil, mapI (fun k : Int => i_ k) (fun y : It => (.agg #[u_ y.ka, i_ y.ki, u_ y.va, i_ y.vi])) mb3 ([] : List (Int × It)), sl none (([] : List Rw).length) 0 37 3 (V.flat encRw ([] : List Rw))] rfl ?_
    refine A.loop (fun (zz : Nat × T × (List (Int × It)) × (List Rw) × (Option Addr) × Nat) => match zz with | (k, t, kv, R, ar, cr) => [(3, (p_ be1)), (14, (.slice A0 l.length c0)), (15, (i_ (l.length : Int))), (16, (i_ (k : Int))), (4, (.slice ar R.length cr))]) (fun (zz : Nat × T × (List (Int × It)) × (List Rw) × (Option Addr) × Nat) => match zz with | (k, t, kv, R, ar, cr) => [blk be1 [(p_ bt2), (.map (some mb3))] 82, blk bt2 [(.pointer (T.ptr t))] 86, treeI 92 t, mapI (fun k : Int => i_ k) (fun y : It => (.agg #[u_ y.ka, i_ y.ki, u_ y.va, i_ y.vi])) mb3 kv, sl ar (R.length) cr 37 3 (V.flat encRw R)]) (fun (zz : Nat × T × (List (Int × It)) × (List Rw) × (Option Addr) × Nat) => match zz with | (k, t, kv, R, ar, cr) => (k ≤ l.length) ∧ (ERel t kv) ∧ (KRel kv R) ∧ (R.length ≤ k)) (fun (zz : Nat × T × (List (Int × It)) × (List Rw) × (Option Addr) × Nat) => match zz with | (k, t, kv, R, ar, cr) => l.length - k) (0, T.nil, ([] : List (Int × It)), ([] : List Rw), none, 0) ⟨(by first | assumption | omega | (simp_all; done) | (simp_all; omega) | grind), (by exact erel_nil), (by exact krel_nil), (by simp)⟩ ?_ ?_
    · exact A.hereK [0, 0, 0, 0, 0] (by exact ⟨rfl, rfl, rfl, rfl, rfl, trivial⟩) (by kernel_rfl)
    · rintro ⟨k, t, kv, R, ar, cr⟩ ⟨hk, hE, hK, hL⟩
      have hkl := krel_len hE.nd hK; have hW := hE.wf; have hlt := hE.len
      refine A.norm [(3, (p_ be1)), (14, (.slice A0 l.length c0)), (15, (i_ (l.length : Int))), (16, (i_ (k : Int))), (4, (.slice ar R.length cr))] [blk be1 [(p_ bt2), (.map (some mb3))] 82, blk bt2 [(.pointer (T.ptr t))] 86, treeI 92 t, mapI (fun k : Int => i_ k) (fun y : It => (.agg #[u_ y.ka, i_ y.ki, u_ y.va, i_ y.vi])) mb3 kv, sl ar (R.length) cr 37 3 (V.flat encRw R)] (by exact ⟨rfl, rfl, rfl, rfl, rfl, trivial⟩) rfl ?_
      refine A.seq ?_
      refine A.region (A.goA [.p] [(3, (p_ be1)), (14, (.slice A0 l.length c0)), (15, (i_ (l.length : Int))), (16, (i_ (k : Int))), (4, (.slice ar R.length cr)), (17, (b_ (decide ((k : Int) < (l.length : Int)))))] [] T0 (by kernel_rfl) trivial ?_)
      refine A.tn ?_
      refine A.seq ?_
      refine A.cond (E := decide ((k : Int) < (l.length : Int))) rfl (fun e3 => ?_) (fun e3 => ?_)
      · skip
        have p3 := of_decide_eq_true e3
        refine A.skip ?_
        refine A.tn ?_
        refine A.seq ?_
        refine A.block ?_
        refine A.seq ?_
        refine A.region (A.goP [.ix] [(3, (p_ be1)), (14, (.slice A0 l.length c0)), (15, (i_ (l.length : Int))), (16, (i_ (k : Int))), (4, (.slice ar R.length cr)), (17, (b_ (decide ((k : Int) < (l.length : Int))))), (18, (.pointer (some ((at0 A0).add (k * 5)))))] [] (fun κ => κ.ix A0 l.length (k : Int) ∧ True) (by kernel_rfl) ⟨(ixOf encVA_len (by decide) (rd_old r0 (by simp [feet])) (by first | omega | (simp; done))), trivial⟩ ?_)
        obtain ⟨x5, hx5⟩ : ∃ x, (l)[k]? = some x := ⟨_, List.getElem?_eq_getElem (by omega)⟩
        refine A.goA1 [.rd [(i_ x5.wk), (i_ x5.wi), (u_ x5.wa), (u_ x5.wb), (u_ x5.wn)], .al, .st 5] [3, 14, 15, 16, 4, 17, 6] (fun b6 => [(3, (p_ be1)), (14, (.slice A0 l.length c0)), (15, (i_ (l.length : Int))), (16, (i_ (k : Int))), (4, (.slice ar R.length cr)), (17, (b_ (decide ((k : Int) < (l.length : Int))))), (6, (p_ b6))]) (fun b6 => [blk be1 [(p_ bt2), (.map (some mb3))] 82, blk bt2 [(.pointer (T.ptr t))] 86, treeI 92 t, mapI (fun k : Int => i_ k) (fun y : It => (.agg #[u_ y.ka, i_ y.ki, u_ y.va, i_ y.vi])) mb3 kv, sl ar (R.length) cr 37 3 (V.flat encRw R), blk b6 [(i_ x5.wk), (i_ x5.wi), (u_ x5.wa), (u_ x5.wb), (u_ x5.wn)] 53]) (fun b6 => [b6]) (fun _ => (fun κ => κ.rd ((at0 A0).add (k * 5)) [(i_ x5.wk), (i_ x5.wi), (u_ x5.wa), (u_ x5.wb), (u_ x5.wn)] ∧ True)) (fun _ => by kernel_rfl) (fun b6 => ⟨(reads_at0 (vs := [(i_ x5.wk), (i_ x5.wi), (u_ x5.wa), (u_ x5.wb), (u_ x5.wn)]) encVA_len (rd_old r0 (by simp [feet])) hx5 (by simp) rfl), trivial⟩) ?_
        intro b6
        refine A.tn ?_
        refine A.seq ?_
        refine A.region (A.goA [.p, .p, .ld 5, .cq (i_ (fdI x5.wi R)), .p, .p] [(3, (p_ be1)), (14, (.slice A0 l.length c0)), (15, (i_ (l.length : Int))), (16, (i_ (k : Int))), (4, (.slice ar R.length cr)), (17, (b_ (decide ((k : Int) < (l.length : Int))))), (6, (p_ b6)), (7, (b_ (decide ((fdI x5.wi R) ≥ 0))))] [b6] (fun κ => κ.call 11 [(.slice ar R.length cr), (i_ x5.wi)] (i_ (fdI x5.wi R)) ∧ True) (by kernel_rfl) ⟨(fun ww ss => wfind_spec ar R cr x5.wi (by first | assumption | omega | (simp; omega)) ww ((rd_sl (i := 4) rfl) ww ss)), trivial⟩ ?_)
        refine A.tn ?_
        refine A.seq ?_
        refine A.seq ?_
        refine A.region (A.goA [.p, .ld 5, .p] [(3, (p_ be1)), (14, (.slice A0 l.length c0)), (15, (i_ (l.length : Int))), (16, (i_ (k : Int))), (4, (.slice ar R.length cr)), (17, (b_ (decide ((k : Int) < (l.length : Int))))), (6, (p_ b6)), (7, (b_ (decide ((fdI x5.wi R) ≥ 0)))), (27, (b_ (x5.wk == 0)))] [b6] T0 (by kernel_rfl) trivial ?_)
        refine A.tn ?_
        refine A.cond (E := x5.wk == 0) rfl (fun e4 => ?_) (fun e4 => ?_)
        · skip
          have p4 := e4; try simp only [decide_eq_true_eq, decide_eq_false_iff_not, beq_iff_eq, beq_eq_false_iff_ne, bne_iff_ne, bne_eq_false_iff_eq, ne_eq, Bool.and_eq_true, Bool.or_eq_true, Bool.or_eq_false_iff, Bool.not_eq_true', Bool.not_eq_false', Int.not_lt, Int.not_le, gt_iff_lt, ge_iff_le, Classical.not_not] at p4
          refine A.seq ?_
          by_cases hd : mget kv x5.wi = none
          · skip
            refine A.sub [(3, (p_ be1)), (14, (.slice A0 l.length c0)), (15, (i_ (l.length : Int))), (16, (i_ (k : Int))), (4, (.slice ar R.length cr)), (17, (b_ (decide ((k : Int) < (l.length : Int))))), (6, (p_ b6)), (7, (b_ false)), (27, (b_ (x5.wk == 0)))] (by exact ⟨rfl, rfl, rfl, rfl, rfl, rfl, rfl, (congrArg (fun z_ => some (b_ z_)) (by first | exact decide_eq_false (fun h_ => (krel_find hK _).1 h_ hd) | exact decide_eq_true ((krel_find hK _).2 hd) : decide ((fdI x5.wi R) ≥ 0) = false)), rfl, trivial⟩) ?_
            refine A.region (A.goA [.p, .p, .ld 5, .cq (i_ 6), .p] [(3, (p_ be1)), (14, (.slice A0 l.length c0)), (15, (i_ (l.length : Int))), (16, (i_ (k : Int))), (4, (.slice ar R.length cr)), (17, (b_ (decide ((k : Int) < (l.length : Int))))), (6, (p_ b6)), (7, (b_ false)), (27, (b_ (x5.wk == 0))), (8, (i_ 6))] [b6] (fun κ => κ.call 24 [(p_ be1), (i_ x5.wi)] (i_ 6) ∧ True) (by kernel_rfl) ⟨(fun ww ss => vt_drop_none be1 bt2 mb3 t kv x5.wi (by first | assumption | omega | (simp; omega)) ww (ss.mem (i := 0) rfl) (ss.mem (i := 1) rfl) (ss.mem (i := 2) rfl) (ss.mem (i := 3) rfl)), trivial⟩ ?_)
            refine A.tn ?_
            refine A.seq ?_
            refine A.seq ?_
            refine A.region (A.goA [.p, .p, .p, .eq, .p, .p, .p, .p, .p, .p, .p, .p] [(3, (p_ be1)), (14, (.slice A0 l.length c0)), (15, (i_ (l.length : Int))), (16, (i_ (k : Int))), (4, (.slice ar R.length cr)), (17, (b_ (decide ((k : Int) < (l.length : Int))))), (6, (p_ b6)), (7, (b_ false)), (27, (b_ (x5.wk == 0))), (8, (i_ 6)), (43, (b_ false))] [] T0 (by kernel_rfl) trivial ?_)
            refine A.tn ?_
            refine A.cond_f rfl ?_
            refine A.skip ?_
            refine A.tn ?_
            refine A.region (A.goP [.p, .p, .ld 5] [(3, (p_ be1)), (14, (.slice A0 l.length c0)), (15, (i_ (l.length : Int))), (16, (i_ (k : Int))), (4, (.slice ar R.length cr)), (17, (b_ (decide ((k : Int) < (l.length : Int))))), (6, (p_ b6)), (7, (b_ false)), (27, (b_ (x5.wk == 0))), (8, (i_ 6)), (43, (b_ false)), (44, (.slice ar R.length cr)), (46, (i_ x5.wi))] [b6] T0 (by kernel_rfl) trivial ?_)
            refine A.cons (A.callT (some 47) [(.slice ar R.length cr), (i_ x5.wi)] [] ((fun zz => match zz with | (al'7, cl'8) => (.slice al'7 ((wo x5.wi R).length) cl'8))) ((fun zz => match zz with | (al'7, cl'8) => True)) ((fun zz => match zz with | (al'7, cl'8) => [sl al'7 ((wo x5.wi R).length) cl'8 37 3 (V.flat encRw (wo x5.wi R))])) (fun zz => match zz with | (al'7, cl'8) => [sl al'7 ((wo x5.wi R).length) cl'8 37 3 (V.flat encRw (wo x5.wi R)), blk be1 [(p_ bt2), (.map (some mb3))] 82, blk bt2 [(.pointer (T.ptr t))] 86, treeI 92 t, mapI (fun k : Int => i_ k) (fun y : It => (.agg #[u_ y.ka, i_ y.ki, u_ y.va, i_ y.vi])) mb3 kv, sl ar (R.length) cr 37 3 (V.flat encRw R), blk b6 [(i_ x5.wk), (i_ x5.wi), (u_ x5.wa), (u_ x5.wb), (u_ x5.wn)] 53]) (by kernel_rfl) rfl rfl (fun ww ss hh => wwithout_spec ar R cr x5.wi (by first | assumption | omega | (simp; omega)) ww ((rd_sl (i := 4) rfl) ww ss) hh) (fun _ => rfl) ?_)
            rintro ⟨al'7, cl'8⟩ -
            refine A.goA [.p] [(3, (p_ be1)), (14, (.slice A0 l.length c0)), (15, (i_ (l.length : Int))), (16, (i_ (k : Int))), (4, (.slice al'7 ((wo x5.wi R).length) cl'8)), (17, (b_ (decide ((k : Int) < (l.length : Int))))), (6, (p_ b6)), (7, (b_ false)), (27, (b_ (x5.wk == 0))), (8, (i_ 6)), (43, (b_ false))] [] T0 (by kernel_rfl) trivial ?_
            refine A.tn ?_
            refine A.seq ?_
            have hE2 : ERel t kv := by assumption
            have hK2 : KRel kv (wo x5.wi R) := by first | exact krel_del hE.nd hK _ | (have h_ := krel_del hE.nd hK x5.wi; rw [mdel_id hd] at h_; exact h_) | exact krel_setE (x := ⟨x5.wi, x5.wa, x5.wb⟩) hE.nd hK (rwok_V (hR _ (List.mem_of_getElem? (by assumption)))) | exact krel_setV (x := ⟨x5.wi, x5.wa, x5.wb⟩) hK (rwok_V (hR _ (List.mem_of_getElem? (by assumption))))
            have hL2 : ((wo x5.wi R)).length ≤ k + 1 := by first | exact Nat.le_trans (wo_len _ _) (by omega) | exact Nat.le_trans (setL_len _ _) (by omega)
            refine A.region (A.goA [.p, .p, .p, .ld 6, .cq (b_ true), .p] [(3, (p_ be1)), (14, (.slice A0 l.length c0)), (15, (i_ (l.length : Int))), (16, (i_ (k : Int))), (4, (.slice al'7 ((wo x5.wi R).length) cl'8)), (17, (b_ (decide ((k : Int) < (l.length : Int))))), (6, (p_ b6)), (7, (b_ false)), (27, (b_ (x5.wk == 0))), (8, (i_ 6)), (43, (b_ false)), (71, (b_ false))] [b6] (fun κ => κ.call 26 [(p_ be1), (.slice al'7 ((wo x5.wi R).length) cl'8), (u_ x5.wn)] (b_ true) ∧ True) (by kernel_rfl) ⟨(fun ww ss => vtsame_spec be1 bt2 mb3 t kv al'7 (wo x5.wi R) cl'8 x5.wn (by first | assumption | omega | (simp; omega)) (by first | assumption | omega | (simp; omega)) (by first | assumption | omega | (simp; omega)) ww (ss.mem (i := 1) rfl) (ss.mem (i := 2) rfl) (ss.mem (i := 3) rfl) (ss.mem (i := 4) rfl) ((rd_sl (i := 0) rfl) ww ss)), trivial⟩ ?_)
            refine A.tn ?_
            refine A.cond_f rfl ?_
            refine A.skip ?_
            refine A.bn ?_
            refine A.tn ?_
            refine A.region (A.goA [.w ((k : Int) + 1), .p] [(3, (p_ be1)), (14, (.slice A0 l.length c0)), (15, (i_ (l.length : Int))), (16, (i_ ((k : Int) + 1))), (4, (.slice al'7 ((wo x5.wi R).length) cl'8)), (17, (b_ (decide ((k : Int) < (l.length : Int))))), (6, (p_ b6)), (7, (b_ false)), (27, (b_ (x5.wk == 0))), (8, (i_ 6)), (43, (b_ false)), (71, (b_ false))] [] (fun κ => (IntKind.i64.wrap ((k : Int) + 1) = ((k : Int) + 1)) ∧ True) (by kernel_rfl) ⟨(wrap_i64 (e := (k : Int) + 1) (by constructor <;> omega)), trivial⟩ ?_)
            refine A.tn ?_
            refine A.next (k + 1, t, kv, (wo x5.wi R), al'7, cl'8) ⟨(by first | assumption | omega | (simp_all; done) | (simp_all; omega) | grind), (by assumption), (by exact hK2), (by exact hL2)⟩ (by first | omega | (simp; omega) | (simp_all; omega)) ?_
            exact A.hereK [1, 1, 1, 1, 0] (by exact ⟨rfl, rfl, rfl, rfl, rfl, trivial⟩) (by kernel_rfl)
          · skip
            refine A.sub [(3, (p_ be1)), (14, (.slice A0 l.length c0)), (15, (i_ (l.length : Int))), (16, (i_ (k : Int))), (4, (.slice ar R.length cr)), (17, (b_ (decide ((k : Int) < (l.length : Int))))), (6, (p_ b6)), (7, (b_ true)), (27, (b_ (x5.wk == 0)))] (by exact ⟨rfl, rfl, rfl, rfl, rfl, rfl, rfl, (congrArg (fun z_ => some (b_ z_)) (by first | exact decide_eq_false (fun h_ => (krel_find hK _).1 h_ hd) | exact decide_eq_true ((krel_find hK _).2 hd) : decide ((fdI x5.wi R) ≥ 0) = true)), rfl, trivial⟩) ?_
            refine A.region (A.goP [.p, .p, .ld 5] [(3, (p_ be1)), (14, (.slice A0 l.length c0)), (15, (i_ (l.length : Int))), (16, (i_ (k : Int))), (4, (.slice ar R.length cr)), (17, (b_ (decide ((k : Int) < (l.length : Int))))), (6, (p_ b6)), (7, (b_ true)), (27, (b_ (x5.wk == 0))), (28, (p_ be1)), (30, (i_ x5.wi))] [b6] T0 (by kernel_rfl) trivial ?_)
            refine A.cons (A.callT (some 31) [(p_ be1), (i_ x5.wi)] [0, 0, 0, 0] ((fun zt10 => (i_ 0))) ((fun zt10 => ERel zt10 (mdel kv x5.wi))) ((fun zt10 => [blk be1 [(p_ bt2), (.map (some mb3))] 82, blk bt2 [(.pointer (T.ptr zt10))] 86, treeI 92 zt10, mapI (fun k : Int => i_ k) (fun y : It => (.agg #[u_ y.ka, i_ y.ki, u_ y.va, i_ y.vi])) mb3 (mdel kv x5.wi)])) (fun zt10 => [blk be1 [(p_ bt2), (.map (some mb3))] 82, blk bt2 [(.pointer (T.ptr zt10))] 86, treeI 92 zt10, mapI (fun k : Int => i_ k) (fun y : It => (.agg #[u_ y.ka, i_ y.ki, u_ y.va, i_ y.vi])) mb3 (mdel kv x5.wi), sl ar (R.length) cr 37 3 (V.flat encRw R), blk b6 [(i_ x5.wk), (i_ x5.wi), (u_ x5.wa), (u_ x5.wb), (u_ x5.wn)] 53]) (by kernel_rfl) rfl rfl (fun ww ss hh => vt_drop_ok be1 bt2 mb3 t kv x5.wi (by first | assumption | omega | (simp; omega)) (by first | assumption | omega | (simp; omega)) (by first | assumption | omega | (simp; omega)) ww hh) (fun _ => rfl) ?_)
            rintro zt10 hz6
            have hz6W := hz6.wf; have hz6l := hz6.len
            refine A.goA [.p] [(3, (p_ be1)), (14, (.slice A0 l.length c0)), (15, (i_ (l.length : Int))), (16, (i_ (k : Int))), (4, (.slice ar R.length cr)), (17, (b_ (decide ((k : Int) < (l.length : Int))))), (6, (p_ b6)), (7, (b_ true)), (27, (b_ (x5.wk == 0))), (8, (i_ 0))] [] T0 (by kernel_rfl) trivial ?_
            refine A.tn ?_
            refine A.seq ?_
            refine A.seq ?_
            refine A.region (A.goA [.p, .p, .p, .eq, .p, .p, .p, .p, .sk, .sk, .p, .p] [(3, (p_ be1)), (14, (.slice A0 l.length c0)), (15, (i_ (l.length : Int))), (16, (i_ (k : Int))), (4, (.slice ar R.length cr)), (17, (b_ (decide ((k : Int) < (l.length : Int))))), (6, (p_ b6)), (7, (b_ true)), (27, (b_ (x5.wk == 0))), (8, (i_ 0)), (43, (b_ false))] [] T0 (by kernel_rfl) trivial ?_)
            refine A.tn ?_
            refine A.cond_f rfl ?_
            refine A.skip ?_
            refine A.tn ?_
            refine A.region (A.goP [.p, .p, .ld 5] [(3, (p_ be1)), (14, (.slice A0 l.length c0)), (15, (i_ (l.length : Int))), (16, (i_ (k : Int))), (4, (.slice ar R.length cr)), (17, (b_ (decide ((k : Int) < (l.length : Int))))), (6, (p_ b6)), (7, (b_ true)), (27, (b_ (x5.wk == 0))), (8, (i_ 0)), (43, (b_ false)), (44, (.slice ar R.length cr)), (46, (i_ x5.wi))] [b6] T0 (by kernel_rfl) trivial ?_)
            refine A.cons (A.callT (some 47) [(.slice ar R.length cr), (i_ x5.wi)] [] ((fun zz => match zz with | (al'11, cl'12) => (.slice al'11 ((wo x5.wi R).length) cl'12))) ((fun zz => match zz with | (al'11, cl'12) => True)) ((fun zz => match zz with | (al'11, cl'12) => [sl al'11 ((wo x5.wi R).length) cl'12 37 3 (V.flat encRw (wo x5.wi R))])) (fun zz => match zz with | (al'11, cl'12) => [sl al'11 ((wo x5.wi R).length) cl'12 37 3 (V.flat encRw (wo x5.wi R)), blk be1 [(p_ bt2), (.map (some mb3))] 82, blk bt2 [(.pointer (T.ptr zt10))] 86, treeI 92 zt10, mapI (fun k : Int => i_ k) (fun y : It => (.agg #[u_ y.ka, i_ y.ki, u_ y.va, i_ y.vi])) mb3 (mdel kv x5.wi), sl ar (R.length) cr 37 3 (V.flat encRw R), blk b6 [(i_ x5.wk), (i_ x5.wi), (u_ x5.wa), (u_ x5.wb), (u_ x5.wn)] 53]) (by kernel_rfl) rfl rfl (fun ww ss hh => wwithout_spec ar R cr x5.wi (by first | assumption | omega | (simp; omega)) ww ((rd_sl (i := 4) rfl) ww ss) hh) (fun _ => rfl) ?_)
            rintro ⟨al'11, cl'12⟩ -
            refine A.goA [.p] [(3, (p_ be1)), (14, (.slice A0 l.length c0)), (15, (i_ (l.length : Int))), (16, (i_ (k : Int))), (4, (.slice al'11 ((wo x5.wi R).length) cl'12)), (17, (b_ (decide ((k : Int) < (l.length : Int))))), (6, (p_ b6)), (7, (b_ true)), (27, (b_ (x5.wk == 0))), (8, (i_ 0)), (43, (b_ false))] [] T0 (by kernel_rfl) trivial ?_
            refine A.tn ?_
            refine A.seq ?_
            have hE2 : ERel zt10 (mdel kv x5.wi) := by assumption
            have hK2 : KRel (mdel kv x5.wi) (wo x5.wi R) := by first | exact krel_del hE.nd hK _ | (have h_ := krel_del hE.nd hK x5.wi; rw [mdel_id hd] at h_; exact h_) | exact krel_setE (x := ⟨x5.wi, x5.wa, x5.wb⟩) hE.nd hK (rwok_V (hR _ (List.mem_of_getElem? (by assumption)))) | exact krel_setV (x := ⟨x5.wi, x5.wa, x5.wb⟩) hK (rwok_V (hR _ (List.mem_of_getElem? (by assumption))))
            have hL2 : ((wo x5.wi R)).length ≤ k + 1 := by first | exact Nat.le_trans (wo_len _ _) (by omega) | exact Nat.le_trans (setL_len _ _) (by omega)
            refine A.region (A.goA [.p, .p, .p, .ld 6, .cq (b_ true), .p] [(3, (p_ be1)), (14, (.slice A0 l.length c0)), (15, (i_ (l.length : Int))), (16, (i_ (k : Int))), (4, (.slice al'11 ((wo x5.wi R).length) cl'12)), (17, (b_ (decide ((k : Int) < (l.length : Int))))), (6, (p_ b6)), (7, (b_ true)), (27, (b_ (x5.wk == 0))), (8, (i_ 0)), (43, (b_ false)), (71, (b_ false))] [b6] (fun κ => κ.call 26 [(p_ be1), (.slice al'11 ((wo x5.wi R).length) cl'12), (u_ x5.wn)] (b_ true) ∧ True) (by kernel_rfl) ⟨(fun ww ss => vtsame_spec be1 bt2 mb3 zt10 (mdel kv x5.wi) al'11 (wo x5.wi R) cl'12 x5.wn (by first | assumption | omega | (simp; omega)) (by first | assumption | omega | (simp; omega)) (by first | assumption | omega | (simp; omega)) ww (ss.mem (i := 1) rfl) (ss.mem (i := 2) rfl) (ss.mem (i := 3) rfl) (ss.mem (i := 4) rfl) ((rd_sl (i := 0) rfl) ww ss)), trivial⟩ ?_)
            refine A.tn ?_
            refine A.cond_f rfl ?_
            refine A.skip ?_
            refine A.bn ?_
            refine A.tn ?_
            refine A.region (A.goA [.w ((k : Int) + 1), .p] [(3, (p_ be1)), (14, (.slice A0 l.length c0)), (15, (i_ (l.length : Int))), (16, (i_ ((k : Int) + 1))), (4, (.slice al'11 ((wo x5.wi R).length) cl'12)), (17, (b_ (decide ((k : Int) < (l.length : Int))))), (6, (p_ b6)), (7, (b_ true)), (27, (b_ (x5.wk == 0))), (8, (i_ 0)), (43, (b_ false)), (71, (b_ false))] [] (fun κ => (IntKind.i64.wrap ((k : Int) + 1) = ((k : Int) + 1)) ∧ True) (by kernel_rfl) ⟨(wrap_i64 (e := (k : Int) + 1) (by constructor <;> omega)), trivial⟩ ?_)
            refine A.tn ?_
            refine A.next (k + 1, zt10, (mdel kv x5.wi), (wo x5.wi R), al'11, cl'12) ⟨(by first | assumption | omega | (simp_all; done) | (simp_all; omega) | grind), (by assumption), (by exact hK2), (by exact hL2)⟩ (by first | omega | (simp; omega) | (simp_all; omega)) ?_
            exact A.hereK [1, 1, 1, 1, 0] (by exact ⟨rfl, rfl, rfl, rfl, rfl, trivial⟩) (by kernel_rfl)
        · skip
          have p4 := e4; try simp only [decide_eq_true_eq, decide_eq_false_iff_not, beq_iff_eq, beq_eq_false_iff_ne, bne_iff_ne, bne_eq_false_iff_eq, ne_eq, Bool.and_eq_true, Bool.or_eq_true, Bool.or_eq_false_iff, Bool.not_eq_true', Bool.not_eq_false', Int.not_lt, Int.not_le, gt_iff_lt, ge_iff_le, Classical.not_not] at p4
          refine A.seq ?_
          refine A.seq ?_
          refine A.region (A.goP [.p, .p, .ld 5, .p, .ld 5, .p, .ld 5] [(3, (p_ be1)), (14, (.slice A0 l.length c0)), (15, (i_ (l.length : Int))), (16, (i_ (k : Int))), (4, (.slice ar R.length cr)), (17, (b_ (decide ((k : Int) < (l.length : Int))))), (6, (p_ b6)), (7, (b_ (decide ((fdI x5.wi R) ≥ 0)))), (27, (b_ (x5.wk == 0))), (48, (p_ be1)), (50, (i_ x5.wi)), (52, (u_ x5.wa)), (54, (u_ x5.wb))] [b6, b6, b6] T0 (by kernel_rfl) trivial ?_)
          refine A.cons (A.callT (some 55) [(p_ be1), (i_ x5.wi), (u_ x5.wa), (u_ x5.wb)] [0, 0, 0, 0] ((fun zt14 => (i_ 0))) ((fun zt14 => ERel zt14 (mput kv x5.wi ⟨x5.wa, x5.wi, x5.wb, x5.wi⟩))) ((fun zt14 => [blk be1 [(p_ bt2), (.map (some mb3))] 82, blk bt2 [(.pointer (T.ptr zt14))] 86, treeI 92 zt14, mapI (fun k : Int => i_ k) (fun y : It => (.agg #[u_ y.ka, i_ y.ki, u_ y.va, i_ y.vi])) mb3 (mput kv x5.wi ⟨x5.wa, x5.wi, x5.wb, x5.wi⟩)])) (fun zt14 => [blk be1 [(p_ bt2), (.map (some mb3))] 82, blk bt2 [(.pointer (T.ptr zt14))] 86, treeI 92 zt14, mapI (fun k : Int => i_ k) (fun y : It => (.agg #[u_ y.ka, i_ y.ki, u_ y.va, i_ y.vi])) mb3 (mput kv x5.wi ⟨x5.wa, x5.wi, x5.wb, x5.wi⟩), sl ar (R.length) cr 37 3 (V.flat encRw R), blk b6 [(i_ x5.wk), (i_ x5.wi), (u_ x5.wa), (u_ x5.wb), (u_ x5.wn)] 53]) (by kernel_rfl) rfl rfl (fun ww ss hh => vt_set be1 bt2 mb3 t kv x5.wi x5.wa x5.wb (by first | assumption | omega | (simp; omega)) (by first | assumption | omega | (simp; omega)) ww hh) (fun _ => rfl) ?_)
          rintro zt14 hz8
          have hz8W := hz8.wf; have hz8l := hz8.len
          refine A.goA [.p] [(3, (p_ be1)), (14, (.slice A0 l.length c0)), (15, (i_ (l.length : Int))), (16, (i_ (k : Int))), (4, (.slice ar R.length cr)), (17, (b_ (decide ((k : Int) < (l.length : Int))))), (6, (p_ b6)), (7, (b_ (decide ((fdI x5.wi R) ≥ 0)))), (27, (b_ (x5.wk == 0))), (56, (b_ false))] [] T0 (by kernel_rfl) trivial ?_
          refine A.tn ?_
          refine A.cond_f rfl ?_
          refine A.skip ?_
          refine A.tn ?_
          refine A.region (A.goP [.p, .p, .ld 5, .p, .ld 5, .p, .ld 5, .p] [(3, (p_ be1)), (14, (.slice A0 l.length c0)), (15, (i_ (l.length : Int))), (16, (i_ (k : Int))), (4, (.slice ar R.length cr)), (17, (b_ (decide ((k : Int) < (l.length : Int))))), (6, (p_ b6)), (7, (b_ (decide ((fdI x5.wi R) ≥ 0)))), (27, (b_ (x5.wk == 0))), (56, (b_ false)), (57, (.slice ar R.length cr)), (64, (.agg #[(i_ x5.wi), (u_ x5.wa), (u_ x5.wb)]))] [b6, b6, b6] T0 (by kernel_rfl) trivial ?_)
          refine A.cons (A.callT (some 65) [(.slice ar R.length cr), (.agg #[(i_ x5.wi), (u_ x5.wa), (u_ x5.wb)])] [] ((fun zz => match zz with | (al'15, cl'16) => (.slice al'15 ((setL (⟨x5.wi, x5.wa, x5.wb⟩ : Rw) R).length) cl'16))) ((fun zz => match zz with | (al'15, cl'16) => True)) ((fun zz => match zz with | (al'15, cl'16) => [sl al'15 ((setL (⟨x5.wi, x5.wa, x5.wb⟩ : Rw) R).length) cl'16 37 3 (V.flat encRw (setL (⟨x5.wi, x5.wa, x5.wb⟩ : Rw) R))])) (fun zz => match zz with | (al'15, cl'16) => [sl al'15 ((setL (⟨x5.wi, x5.wa, x5.wb⟩ : Rw) R).length) cl'16 37 3 (V.flat encRw (setL (⟨x5.wi, x5.wa, x5.wb⟩ : Rw) R)), blk be1 [(p_ bt2), (.map (some mb3))] 82, blk bt2 [(.pointer (T.ptr zt14))] 86, treeI 92 zt14, mapI (fun k : Int => i_ k) (fun y : It => (.agg #[u_ y.ka, i_ y.ki, u_ y.va, i_ y.vi])) mb3 (mput kv x5.wi ⟨x5.wa, x5.wi, x5.wb, x5.wi⟩), sl ar (R.length) cr 37 3 (V.flat encRw R), blk b6 [(i_ x5.wk), (i_ x5.wi), (u_ x5.wa), (u_ x5.wb), (u_ x5.wn)] 53]) (by kernel_rfl) rfl rfl (fun ww ss hh => wset_spec ar R cr (⟨x5.wi, x5.wa, x5.wb⟩ : Rw) (by first | assumption | omega | (simp; omega)) ww ((rd_sl (i := 4) rfl) ww ss) hh) (fun _ => rfl) ?_)
          rintro ⟨al'15, cl'16⟩ -
          refine A.goA [.p] [(3, (p_ be1)), (14, (.slice A0 l.length c0)), (15, (i_ (l.length : Int))), (16, (i_ (k : Int))), (4, (.slice al'15 ((setL (⟨x5.wi, x5.wa, x5.wb⟩ : Rw) R).length) cl'16)), (17, (b_ (decide ((k : Int) < (l.length : Int))))), (6, (p_ b6)), (7, (b_ (decide ((fdI x5.wi R) ≥ 0)))), (27, (b_ (x5.wk == 0))), (56, (b_ false))] [] T0 (by kernel_rfl) trivial ?_
          refine A.tn ?_
          refine A.seq ?_
          have hE2 : ERel zt14 (mput kv x5.wi ⟨x5.wa, x5.wi, x5.wb, x5.wi⟩) := by assumption
          have hK2 : KRel (mput kv x5.wi ⟨x5.wa, x5.wi, x5.wb, x5.wi⟩) (setL (⟨x5.wi, x5.wa, x5.wb⟩ : Rw) R) := by first | exact krel_del hE.nd hK _ | (have h_ := krel_del hE.nd hK x5.wi; rw [mdel_id hd] at h_; exact h_) | exact krel_setE (x := ⟨x5.wi, x5.wa, x5.wb⟩) hE.nd hK (rwok_V (hR _ (List.mem_of_getElem? (by assumption)))) | exact krel_setV (x := ⟨x5.wi, x5.wa, x5.wb⟩) hK (rwok_V (hR _ (List.mem_of_getElem? (by assumption))))
          have hL2 : ((setL (⟨x5.wi, x5.wa, x5.wb⟩ : Rw) R)).length ≤ k + 1 := by first | exact Nat.le_trans (wo_len _ _) (by omega) | exact Nat.le_trans (setL_len _ _) (by omega)
          refine A.region (A.goA [.p, .p, .p, .ld 6, .cq (b_ true), .p] [(3, (p_ be1)), (14, (.slice A0 l.length c0)), (15, (i_ (l.length : Int))), (16, (i_ (k : Int))), (4, (.slice al'15 ((setL (⟨x5.wi, x5.wa, x5.wb⟩ : Rw) R).length) cl'16)), (17, (b_ (decide ((k : Int) < (l.length : Int))))), (6, (p_ b6)), (7, (b_ (decide ((fdI x5.wi R) ≥ 0)))), (27, (b_ (x5.wk == 0))), (56, (b_ false)), (71, (b_ false))] [b6] (fun κ => κ.call 26 [(p_ be1), (.slice al'15 ((setL (⟨x5.wi, x5.wa, x5.wb⟩ : Rw) R).length) cl'16), (u_ x5.wn)] (b_ true) ∧ True) (by kernel_rfl) ⟨(fun ww ss => vtsame_spec be1 bt2 mb3 zt14 (mput kv x5.wi ⟨x5.wa, x5.wi, x5.wb, x5.wi⟩) al'15 (setL (⟨x5.wi, x5.wa, x5.wb⟩ : Rw) R) cl'16 x5.wn (by first | assumption | omega | (simp; omega)) (by first | assumption | omega | (simp; omega)) (by first | assumption | omega | (simp; omega)) ww (ss.mem (i := 1) rfl) (ss.mem (i := 2) rfl) (ss.mem (i := 3) rfl) (ss.mem (i := 4) rfl) ((rd_sl (i := 0) rfl) ww ss)), trivial⟩ ?_)
          refine A.tn ?_
          refine A.cond_f rfl ?_
          refine A.skip ?_
          refine A.bn ?_
          refine A.tn ?_
          refine A.region (A.goA [.w ((k : Int) + 1), .p] [(3, (p_ be1)), (14, (.slice A0 l.length c0)), (15, (i_ (l.length : Int))), (16, (i_ ((k : Int) + 1))), (4, (.slice al'15 ((setL (⟨x5.wi, x5.wa, x5.wb⟩ : Rw) R).length) cl'16)), (17, (b_ (decide ((k : Int) < (l.length : Int))))), (6, (p_ b6)), (7, (b_ (decide ((fdI x5.wi R) ≥ 0)))), (27, (b_ (x5.wk == 0))), (56, (b_ false)), (71, (b_ false))] [] (fun κ => (IntKind.i64.wrap ((k : Int) + 1) = ((k : Int) + 1)) ∧ True) (by kernel_rfl) ⟨(wrap_i64 (e := (k : Int) + 1) (by constructor <;> omega)), trivial⟩ ?_)
          refine A.tn ?_
          refine A.next (k + 1, zt14, (mput kv x5.wi ⟨x5.wa, x5.wi, x5.wb, x5.wi⟩), (setL (⟨x5.wi, x5.wa, x5.wb⟩ : Rw) R), al'15, cl'16) ⟨(by first | assumption | omega | (simp_all; done) | (simp_all; omega) | grind), (by assumption), (by exact hK2), (by exact hL2)⟩ (by first | omega | (simp; omega) | (simp_all; omega)) ?_
          exact A.hereK [1, 1, 1, 1, 0] (by exact ⟨rfl, rfl, rfl, rfl, rfl, trivial⟩) (by kernel_rfl)
      · skip
        have p3 := of_decide_eq_false e3
        refine A.exit ?_
        refine A.te ?_
        refine A.te ?_
        refine A.bh ?_
        refine A.tn ?_
        refine A.seq ?_
        refine A.region (A.goA [.cq (b_ true), .p] [(3, (p_ be1)), (14, (.slice A0 l.length c0)), (15, (i_ (l.length : Int))), (16, (i_ (k : Int))), (4, (.slice ar R.length cr)), (17, (b_ (decide ((k : Int) < (l.length : Int))))), (2, (b_ true))] [] (fun κ => κ.call 22 [] (b_ true) ∧ True) (by kernel_rfl) ⟨(fun ww ss => vt_two ww), trivial⟩ ?_)
        refine A.tn ?_
        refine A.ret ?_
        refine A.postQ [(b_ true)] (fun aa ww rr ss => ⟨rv_tmp rr rfl, trivial⟩) ?_
        rfl
end Go.Proofs.Ytdhcglflmkjneaa
