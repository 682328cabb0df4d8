/- What the functions of this layer do, proved operation by operation, for all arguments, under the conditions that each theorem states. -/
import Derived.Test.YtpodcfadcdnllaaProg
import Derived.Test.YtpodcfadcdnllaaHier6
import Derived.Test.YtpodcfadcdnllaaHier5
import Derived.Test.YtpodcfadcdnllaaHier1
namespace Go.Proofs.Ytpodcfadcdnllaa
open Go V
set_option linter.unusedVariables false
set_option linter.unusedSimpArgs false
theorem eq_lists {xs ys : List Int} (h : xs.length = ys.length) (hn : ∀ j, j < xs.length → xs[j]? = ys[j]?) : true = (xs == ys) := by
  have : xs = ys := List.ext_getElem? fun j => by
    rcases Nat.lt_or_ge j xs.length with g | g
    · exact hn j g
    · rw [List.getElem?_eq_none g, List.getElem?_eq_none (by omega)]
  simp [this]
theorem ne_lists {xs ys : List Int} {k : Nat} {x y : Int} (hx : xs[k]? = some x) (hy : ys[k]? = some y) (h : ¬ x = y) : false = (xs == ys) := by
  symm; rw [beq_eq_false_iff_ne]; rintro rfl; rw [hx] at hy; cases hy; exact h rfl
theorem ne_len {xs ys : List Int} (h : ¬ (xs.length : Int) = ys.length) : false = (xs == ys) := by
  symm; rw [beq_eq_false_iff_ne]; rintro rfl; exact h rfl
def tc1 : Cl := ⟨1, 0, false, 0, 0, 0, 5, 0, 5, 0, 0, 0, 0, 0⟩
def tc2 : Cl := ⟨2, 1, true, 5, 0, 5, 5, 0, 5, 0, 0, 0, 1, 9⟩
def tk1 : List (Int × Cl) := mput [] 1 tc1
def tk2 : List (Int × Cl) := mput tk1 2 tc2
theorem two_0 : HOk [] := fun k => by simp [dep, depN, mget]
theorem two_1 : HOk tk1 := fun k => by
  rcases Decidable.em (k = 1) with h | h
  · subst h; decide
  · have : ¬ (1 : Int) = k := fun e => h e.symm
    simp [dep, depN, tk1, mput, mget, this]
theorem two_2 : HOk tk2 := fun k => by
  rcases Decidable.em (k = 1) with h | h
  · subst h; decide
  · rcases Decidable.em (k = 2) with h' | h'
    · subst h'; decide
    · have q1 : ¬ (1 : Int) = k := fun e => h e.symm
      have q2 : ¬ (2 : Int) = k := fun e => h' e.symm
      simp [dep, depN, tk2, tk1, mput, mget, q1, q2]
theorem two_a : addE [] tc1 = 0 := by decide
theorem two_b : addE tk1 tc2 = 0 := by decide
theorem two_k1 : addK [] tc1 = tk1 := rfl
theorem two_k2 : addK tk1 tc2 = tk2 := rfl

set_option maxHeartbeats 4000000 in
set_option maxRecDepth 100000 in
theorem ints_spec (al : Option Addr) (xs : List Int) (cl : Nat) (bl : Option Addr) (ys : List Int) (dl : Nat) (hl : xs.length ≤ 100000) (w : World) (r0 : arrAt w al (V.flat encI xs)) (r1 : arrAt w bl (V.flat encI ys)) :
    Calls Try.prog 22 #[(.slice al xs.length cl), (.slice bl ys.length dl)] w fun e w' => e = .returned (b_ (xs == ys)) ∧ Fr [] w w' := by
  refine calls_of (args := [(.slice al xs.length cl), (.slice bl ys.length dl)]) (penv [(.slice al xs.length cl), (.slice bl ys.length dl)]) [] [] Try.func22 rfl rfl (look_penv _) (HS.nil w) ?_
  refine A.norm [(0, (.slice al xs.length cl)), (1, (.slice bl ys.length dl))] [] (by exact ⟨rfl, rfl, trivial⟩) rfl ?_
  refine A.seq ?_
  refine A.region (A.goA [.p] [(0, (.slice al xs.length cl)), (1, (.slice bl ys.length dl)), (4, (b_ false))] [] T0 (by kernel_rfl) trivial ?_)
  refine A.tn ?_
  refine A.seq ?_
  refine A.seq ?_
  refine A.region (A.goA [.p, .p, .p, .p, .p] [(0, (.slice al xs.length cl)), (1, (.slice bl ys.length dl)), (4, (b_ false)), (10, (b_ ((xs.length : Int) != (ys.length : Int))))] [] T0 (by kernel_rfl) trivial ?_)
  refine A.tn ?_
  refine A.cond (E := (xs.length : Int) != (ys.length : Int)) rfl (fun e1 => ?_) (fun e1 => ?_)
  · skip
    have p1 := e1; try simp only [decide_eq_true_eq, decide_eq_false_iff_not, beq_iff_eq, beq_eq_false_iff_ne, bne_iff_ne, bne_eq_false_iff_eq, ne_eq, Bool.and_eq_true, Bool.or_eq_true, Bool.or_eq_false_iff, Bool.not_eq_true', Bool.not_eq_false', Int.not_lt, Int.not_le, gt_iff_lt, ge_iff_le, Classical.not_not] at p1
    refine A.seq ?_
    refine A.region (A.goA [.p] [(0, (.slice al xs.length cl)), (1, (.slice bl ys.length dl)), (4, (b_ false)), (10, (b_ ((xs.length : Int) != (ys.length : Int))))] [] T0 (by kernel_rfl) trivial ?_)
    refine A.tn ?_
    refine A.ret ?_
    refine A.tr ?_
    refine A.postQ [(b_ false)] (fun aa ww rr ss => ⟨rv_tmp rr rfl, trivial⟩) ?_
    show ((b_ false) : Value) = (b_ (xs == ys))
    refine congrArg Value.bool ?_; first | exact ne_len (by assumption) | exact ne_lists (by assumption) (by assumption) (by assumption) | exact eq_lists (by omega) (fun j hj => hn j (by omega))
  · skip
    have p1 := e1; try simp only [decide_eq_true_eq, decide_eq_false_iff_not, beq_iff_eq, beq_eq_false_iff_ne, bne_iff_ne, bne_eq_false_iff_eq, ne_eq, Bool.and_eq_true, Bool.or_eq_true, Bool.or_eq_false_iff, Bool.not_eq_true', Bool.not_eq_false', Int.not_lt, Int.not_le, gt_iff_lt, ge_iff_le, Classical.not_not] at p1
    refine A.skip ?_
    refine A.tn ?_
    refine A.seq ?_
    refine A.seq ?_
    refine A.region (A.goA [.p, .p, .p] [(0, (.slice al xs.length cl)), (1, (.slice bl ys.length dl)), (4, (b_ false)), (10, (b_ ((xs.length : Int) != (ys.length : Int)))), (12, (i_ (xs.length : Int))), (13, (i_ 0))] [] T0 (by kernel_rfl) trivial ?_)
    refine A.tn ?_
    refine A.block ?_
    refine A.loop (fun (zz : Nat) => match zz with | k => [(0, (.slice al xs.length cl)), (1, (.slice bl ys.length dl)), (12, (i_ (xs.length : Int))), (13, (i_ (k : Int)))]) (fun (zz : Nat) => match zz with | k => []) (fun (zz : Nat) => match zz with | k => (k ≤ xs.length) ∧ (∀ j, j < k → xs[j]? = ys[j]?)) (fun (zz : Nat) => match zz with | k => xs.length - k) (0 : Nat) ⟨(by first | assumption | omega | (simp_all; done) | (simp_all; omega) | grind), (by intro j hj; omega)⟩ ?_ ?_
    · exact A.hereK [] (by exact ⟨rfl, rfl, rfl, rfl, trivial⟩) (by kernel_rfl)
    · rintro k ⟨hk, hn⟩
      refine A.norm [(0, (.slice al xs.length cl)), (1, (.slice bl ys.length dl)), (12, (i_ (xs.length : Int))), (13, (i_ (k : Int)))] [] (by exact ⟨rfl, rfl, rfl, rfl, trivial⟩) rfl ?_
      refine A.seq ?_
      refine A.region (A.goA [.p] [(0, (.slice al xs.length cl)), (1, (.slice bl ys.length dl)), (12, (i_ (xs.length : Int))), (13, (i_ (k : Int))), (14, (b_ (decide ((k : Int) < (xs.length : Int)))))] [] T0 (by kernel_rfl) trivial ?_)
      refine A.tn ?_
      refine A.seq ?_
      refine A.cond (E := decide ((k : Int) < (xs.length : Int))) rfl (fun e2 => ?_) (fun e2 => ?_)
      · skip
        have p2 := of_decide_eq_true e2
        refine A.skip ?_
        refine A.tn ?_
        refine A.seq ?_
        refine A.block ?_
        refine A.seq ?_
        refine A.region (A.goA [.p, .p] [(0, (.slice al xs.length cl)), (1, (.slice bl ys.length dl)), (12, (i_ (xs.length : Int))), (13, (i_ (k : Int))), (14, (b_ (decide ((k : Int) < (xs.length : Int))))), (5, (i_ (k : Int)))] [] T0 (by kernel_rfl) trivial ?_)
        refine A.tn ?_
        refine A.seq ?_
        obtain ⟨x1, hx1⟩ : ∃ x, (xs)[k]? = some x := ⟨_, List.getElem?_eq_getElem (by omega)⟩
        obtain ⟨x2, hx2⟩ : ∃ x, (ys)[k]? = some x := ⟨_, List.getElem?_eq_getElem (by omega)⟩
        refine A.drawA [.p, .p, .ix, .rd [(i_ x1)], .p, .p, .ix, .rd [(i_ x2)], .p] [0, 1, 2, 3, 4, 5, 6, 7, 8] [(0, (.slice al xs.length cl)), (1, (.slice bl ys.length dl)), (12, (i_ (xs.length : Int))), (13, (i_ (k : Int))), (14, (b_ (decide ((k : Int) < (xs.length : Int))))), (5, (i_ (k : Int))), (24, (b_ (x1 != x2)))] [] (fun κ => κ.ix al xs.length (k : Int) ∧ κ.rd ((at0 al).add (k * 1)) [(i_ x1)] ∧ κ.ix bl ys.length (k : Int) ∧ κ.rd ((at0 bl).add (k * 1)) [(i_ x2)] ∧ True) (by kernel_rfl) (by kernel_rfl) ⟨(ixOf encI_len (by decide) (rd_old r0 (by simp [feet])) (by first | omega | (simp; omega) | (simp; done))), (reads_at0 (vs := [(i_ x1)]) encI_len (rd_old r0 (by simp [feet])) hx1 (by simp) rfl), (ixOf encI_len (by decide) (rd_old r1 (by simp [feet])) (by first | omega | (simp; omega) | (simp; done))), (reads_at0 (vs := [(i_ x2)]) encI_len (rd_old r1 (by simp [feet])) hx2 (by simp) rfl), trivial⟩ ?_
        refine A.tn ?_
        refine A.cond (E := x1 != x2) rfl (fun e3 => ?_) (fun e3 => ?_)
        · skip
          have p3 := e3; try simp only [decide_eq_true_eq, decide_eq_false_iff_not, beq_iff_eq, beq_eq_false_iff_ne, bne_iff_ne, bne_eq_false_iff_eq, ne_eq, Bool.and_eq_true, Bool.or_eq_true, Bool.or_eq_false_iff, Bool.not_eq_true', Bool.not_eq_false', Int.not_lt, Int.not_le, gt_iff_lt, ge_iff_le, Classical.not_not] at p3
          refine A.seq ?_
          refine A.region (A.goA [.p] [(0, (.slice al xs.length cl)), (1, (.slice bl ys.length dl)), (12, (i_ (xs.length : Int))), (13, (i_ (k : Int))), (14, (b_ (decide ((k : Int) < (xs.length : Int))))), (5, (i_ (k : Int))), (24, (b_ (x1 != x2))), (4, (b_ false))] [] T0 (by kernel_rfl) trivial ?_)
          refine A.tn ?_
          refine A.ret ?_
          refine A.br ?_
          refine A.tr ?_
          refine A.tr ?_
          refine A.br ?_
          refine A.tr ?_
          refine A.postQ [(b_ false)] (fun aa ww rr ss => ⟨rv_tmp rr rfl, trivial⟩) ?_
          show ((b_ false) : Value) = (b_ (xs == ys))
          refine congrArg Value.bool ?_; first | exact ne_len (by assumption) | exact ne_lists (by assumption) (by assumption) (by assumption) | exact eq_lists (by omega) (fun j hj => hn j (by omega))
        · skip
          have p3 := e3; try simp only [decide_eq_true_eq, decide_eq_false_iff_not, beq_iff_eq, beq_eq_false_iff_ne, bne_iff_ne, bne_eq_false_iff_eq, ne_eq, Bool.and_eq_true, Bool.or_eq_true, Bool.or_eq_false_iff, Bool.not_eq_true', Bool.not_eq_false', Int.not_lt, Int.not_le, gt_iff_lt, ge_iff_le, Classical.not_not] at p3
          refine A.skip ?_
          refine A.bn ?_
          refine A.tn ?_
          refine A.region (A.goA [.w ((k : Int) + 1), .p] [(0, (.slice al xs.length cl)), (1, (.slice bl ys.length dl)), (12, (i_ (xs.length : Int))), (13, (i_ ((k : Int) + 1))), (14, (b_ (decide ((k : Int) < (xs.length : Int))))), (5, (i_ (k : Int))), (24, (b_ (x1 != x2)))] [] (fun κ => (IntKind.i64.wrap ((k : Int) + 1) = ((k : Int) + 1)) ∧ True) (by kernel_rfl) ⟨(wrap_i64 (e := (k : Int) + 1) (by constructor <;> omega)), trivial⟩ ?_)
          refine A.tn ?_
          refine A.next (k + 1) ⟨(by first | assumption | omega | (simp_all; done) | (simp_all; omega) | grind), (by (intro j hj; rcases Nat.lt_or_ge j k with g | g; exact hn j g; (have e_ : j = k := by omega); subst e_; simp_all))⟩ (by first | omega | (simp; omega) | (simp_all; omega)) ?_
          exact A.hereK [] (by exact ⟨rfl, rfl, rfl, rfl, trivial⟩) (by kernel_rfl)
      · skip
        have p2 := of_decide_eq_false e2
        refine A.exit ?_
        refine A.te ?_
        refine A.te ?_
        refine A.bh ?_
        refine A.tn ?_
        refine A.seq ?_
        refine A.region (A.goA [.p] [(0, (.slice al xs.length cl)), (1, (.slice bl ys.length dl)), (12, (i_ (xs.length : Int))), (13, (i_ (k : Int))), (14, (b_ (decide ((k : Int) < (xs.length : Int))))), (4, (b_ true))] [] T0 (by kernel_rfl) trivial ?_)
        refine A.tn ?_
        refine A.ret ?_
        refine A.postQ [(b_ true)] (fun aa ww rr ss => ⟨rv_tmp rr rfl, trivial⟩) ?_
        show ((b_ true) : Value) = (b_ (xs == ys))
        refine congrArg Value.bool ?_; first | exact ne_len (by assumption) | exact ne_lists (by assumption) (by assumption) (by assumption) | exact eq_lists (by omega) (fun j hj => hn j (by omega))

set_option maxHeartbeats 4000000 in
set_option maxRecDepth 100000 in
theorem two_spec (w : World) :
    Calls Try.prog 6 #[] w fun e w' => e = .returned (b_ true) ∧ Fr [] w w' := by
  refine calls_of (args := []) (penv []) [] [] Try.func6 rfl rfl (look_penv _) (HS.nil w) ?_
  refine A.norm [] [] trivial rfl ?_
  refine A.seq ?_
  refine A.region (A.goA [.p] [(0, (b_ false))] [] T0 (by kernel_rfl) trivial ?_)
  refine A.tn ?_
  refine A.seq ?_
  refine A.region ?_
  refine A.cons (A.callT (some 5) [] [] ((fun zz => match zz with | (bt1, mb2) => (p_ bt1))) ((fun zz => match zz with | (bt1, mb2) => True)) ((fun zz => match zz with | (bt1, mb2) => [blk bt1 [(.map (some mb2))] 55, mapI (fun k : Int => i_ k) (fun v_ : Cl => (.agg (encCl v_).toArray)) mb2 ([] : List (Int × Cl))])) (fun zz => match zz with | (bt1, mb2) => [blk bt1 [(.map (some mb2))] 55, mapI (fun k : Int => i_ k) (fun v_ : Cl => (.agg (encCl v_).toArray)) mb2 ([] : List (Int × Cl))]) (by kernel_rfl) rfl rfl (fun ww ss hh => hnew_spec ww hh) (fun _ => rfl) ?_)
  rintro ⟨bt1, mb2⟩ -
  refine A.goA [.p] [(0, (b_ false)), (1, (p_ bt1))] [] T0 (by kernel_rfl) trivial ?_
  refine A.tn ?_
  refine A.seq ?_
  refine A.region (A.goA1 [.p, .al, .st 2] [0, 1, 2] (fun b3 => [(0, (b_ false)), (1, (p_ bt1)), (2, (p_ b3))]) (fun b3 => [blk bt1 [(.map (some mb2))] 55, mapI (fun k : Int => i_ k) (fun v_ : Cl => (.agg (encCl v_).toArray)) mb2 ([] : List (Int × Cl)), blk b3 [(u_ 5), (u_ 0), (u_ 5)] 28]) (fun b3 => [b3]) (fun _ => T0) (fun _ => by kernel_rfl) (fun b3 => trivial) ?_)
  intro b3
  refine A.tn ?_
  refine A.seq ?_
  refine A.region (A.goP [.p, .ld 2, .p] [(0, (b_ false)), (1, (p_ bt1)), (2, (p_ b3)), (7, (p_ bt1)), (9, (.agg #[(i_ 1), (i_ 0), (b_ false), (u_ 0), (u_ 0), (u_ 0), (u_ 5), (u_ 0), (u_ 5), (u_ 0), (u_ 0), (u_ 0), (i_ 0), (i_ 0)]))] [b3] T0 (by kernel_rfl) trivial ?_)
  refine A.cons (A.callT (some 10) [(p_ bt1), (.agg #[(i_ 1), (i_ 0), (b_ false), (u_ 0), (u_ 0), (u_ 0), (u_ 5), (u_ 0), (u_ 5), (u_ 0), (u_ 0), (u_ 0), (i_ 0), (i_ 0)])] [0, 0] ((fun kv'4 => (i_ (addE ([] : List (Int × Cl)) (⟨1, 0, false, 0, 0, 0, 5, 0, 5, 0, 0, 0, 0, 0⟩ : Cl))))) ((fun kv'4 => kv'4 = addK ([] : List (Int × Cl)) (⟨1, 0, false, 0, 0, 0, 5, 0, 5, 0, 0, 0, 0, 0⟩ : Cl))) ((fun kv'4 => [blk bt1 [(.map (some mb2))] 55, mapI (fun k : Int => i_ k) (fun v_ : Cl => (.agg (encCl v_).toArray)) mb2 kv'4])) (fun kv'4 => [blk bt1 [(.map (some mb2))] 55, mapI (fun k : Int => i_ k) (fun v_ : Cl => (.agg (encCl v_).toArray)) mb2 kv'4, blk b3 [(u_ 5), (u_ 0), (u_ 5)] 28]) (by kernel_rfl) rfl rfl (fun ww ss hh => add_ok bt1 mb2 ([] : List (Int × Cl)) (⟨1, 0, false, 0, 0, 0, 5, 0, 5, 0, 0, 0, 0, 0⟩ : Cl) (by first | assumption | exact two_0 | exact (hO2.lt _).1 | exact (hO2.lt _).2.1 | exact (hO2.lt _).2.2 | omega | (rw [upL_len]; have := hO2 2; omega) | exact Nat.le_trans (keysF_len _ _) (by omega) | (simp; done)) (by first | assumption | exact two_0 | exact (hO2.lt _).1 | exact (hO2.lt _).2.1 | exact (hO2.lt _).2.2 | omega | (rw [upL_len]; have := hO2 2; omega) | exact Nat.le_trans (keysF_len _ _) (by omega) | (simp; done)) ww hh) (fun _ => rfl) ?_)
  rintro kv'4 hz2
  have hz21 := hz2.trans two_k1
  have hO1 := two_1; rw [← hz21] at hO1; have hL1 : tk1.length ≤ 64 := (by decide); rw [← hz21] at hL1
  refine A.goA [.p] [(0, (b_ false)), (1, (p_ bt1)), (2, (p_ b3)), (3, (i_ (addE ([] : List (Int × Cl)) (⟨1, 0, false, 0, 0, 0, 5, 0, 5, 0, 0, 0, 0, 0⟩ : Cl))))] [] T0 (by kernel_rfl) trivial ?_
  refine A.tn ?_
  refine A.seq ?_
  refine A.region (A.goP [.p, .ld 2, .ld 2, .p] [(0, (b_ false)), (1, (p_ bt1)), (2, (p_ b3)), (3, (i_ (addE ([] : List (Int × Cl)) (⟨1, 0, false, 0, 0, 0, 5, 0, 5, 0, 0, 0, 0, 0⟩ : Cl)))), (11, (p_ bt1)), (14, (.agg #[(i_ 2), (i_ 1), (b_ true), (u_ 5), (u_ 0), (u_ 5), (u_ 5), (u_ 0), (u_ 5), (u_ 0), (u_ 0), (u_ 0), (i_ 1), (i_ 9)]))] [b3, b3] T0 (by kernel_rfl) trivial ?_)
  refine A.cons (A.callT (some 15) [(p_ bt1), (.agg #[(i_ 2), (i_ 1), (b_ true), (u_ 5), (u_ 0), (u_ 5), (u_ 5), (u_ 0), (u_ 5), (u_ 0), (u_ 0), (u_ 0), (i_ 1), (i_ 9)])] [0, 0] ((fun kv'5 => (i_ (addE kv'4 (⟨2, 1, true, 5, 0, 5, 5, 0, 5, 0, 0, 0, 1, 9⟩ : Cl))))) ((fun kv'5 => kv'5 = addK kv'4 (⟨2, 1, true, 5, 0, 5, 5, 0, 5, 0, 0, 0, 1, 9⟩ : Cl))) ((fun kv'5 => [blk bt1 [(.map (some mb2))] 55, mapI (fun k : Int => i_ k) (fun v_ : Cl => (.agg (encCl v_).toArray)) mb2 kv'5])) (fun kv'5 => [blk bt1 [(.map (some mb2))] 55, mapI (fun k : Int => i_ k) (fun v_ : Cl => (.agg (encCl v_).toArray)) mb2 kv'5, blk b3 [(u_ 5), (u_ 0), (u_ 5)] 28]) (by kernel_rfl) rfl rfl (fun ww ss hh => add_ok bt1 mb2 kv'4 (⟨2, 1, true, 5, 0, 5, 5, 0, 5, 0, 0, 0, 1, 9⟩ : Cl) (by first | assumption | exact two_0 | exact (hO2.lt _).1 | exact (hO2.lt _).2.1 | exact (hO2.lt _).2.2 | omega | (rw [upL_len]; have := hO2 2; omega) | exact Nat.le_trans (keysF_len _ _) (by omega) | (simp; done)) (by first | assumption | exact two_0 | exact (hO2.lt _).1 | exact (hO2.lt _).2.1 | exact (hO2.lt _).2.2 | omega | (rw [upL_len]; have := hO2 2; omega) | exact Nat.le_trans (keysF_len _ _) (by omega) | (simp; done)) ww hh) (fun _ => rfl) ?_)
  rintro kv'5 hz3
  have hz31 := hz3; rw [hz21] at hz31; have hz32 := hz31.trans two_k2
  have hO2 := two_2; rw [← hz32] at hO2; have hL2 : tk2.length ≤ 64 := (by decide); rw [← hz32] at hL2; have hA1 := two_a; have hA2 := two_b; rw [← hz21] at hA2; unfold tc1 at hA1; unfold tc2 at hA2
  refine A.goA [.p] [(0, (b_ false)), (1, (p_ bt1)), (2, (p_ b3)), (3, (i_ (addE ([] : List (Int × Cl)) (⟨1, 0, false, 0, 0, 0, 5, 0, 5, 0, 0, 0, 0, 0⟩ : Cl)))), (4, (i_ (addE kv'4 (⟨2, 1, true, 5, 0, 5, 5, 0, 5, 0, 0, 0, 1, 9⟩ : Cl))))] [] T0 (by kernel_rfl) trivial ?_
  refine A.tn ?_
  refine A.seq ?_
  refine A.region (A.goP [.p, .p, .p, .o, .p, .p, .cl, .p] [(0, (b_ false)), (1, (p_ bt1)), (2, (p_ b3)), (3, (i_ (addE ([] : List (Int × Cl)) (⟨1, 0, false, 0, 0, 0, 5, 0, 5, 0, 0, 0, 0, 0⟩ : Cl)))), (4, (i_ (addE kv'4 (⟨2, 1, true, 5, 0, 5, 5, 0, 5, 0, 0, 0, 1, 9⟩ : Cl)))), (22, (b_ (((addE ([] : List (Int × Cl)) (⟨1, 0, false, 0, 0, 0, 5, 0, 5, 0, 0, 0, 0, 0⟩ : Cl)) == 0) && ((addE kv'4 (⟨2, 1, true, 5, 0, 5, 5, 0, 5, 0, 0, 0, 1, 9⟩ : Cl)) == 0))))] [] T0 (by kernel_rfl) trivial ?_)
  refine A.bool (((addE ([] : List (Int × Cl)) (⟨1, 0, false, 0, 0, 0, 5, 0, 5, 0, 0, 0, 0, 0⟩ : Cl)) == 0) && ((addE kv'4 (⟨2, 1, true, 5, 0, 5, 5, 0, 5, 0, 0, 0, 1, 9⟩ : Cl)) == 0)) (fun e4 => ?_) (fun e4 => ?_)
  · skip
    refine A.sub [(0, (b_ false)), (1, (p_ bt1)), (2, (p_ b3)), (3, (i_ (addE ([] : List (Int × Cl)) (⟨1, 0, false, 0, 0, 0, 5, 0, 5, 0, 0, 0, 0, 0⟩ : Cl)))), (4, (i_ (addE kv'4 (⟨2, 1, true, 5, 0, 5, 5, 0, 5, 0, 0, 0, 1, 9⟩ : Cl)))), (22, (b_ true))] (by exact ⟨rfl, rfl, rfl, rfl, rfl, (congrArg (fun z => some (Value.bool z)) e4), trivial⟩) ?_
    refine A.goP [.p] [(0, (b_ false)), (1, (p_ bt1)), (2, (p_ b3)), (3, (i_ (addE ([] : List (Int × Cl)) (⟨1, 0, false, 0, 0, 0, 5, 0, 5, 0, 0, 0, 0, 0⟩ : Cl)))), (4, (i_ (addE kv'4 (⟨2, 1, true, 5, 0, 5, 5, 0, 5, 0, 0, 0, 1, 9⟩ : Cl)))), (22, (b_ true)), (23, (p_ bt1))] [] T0 (by kernel_rfl) trivial ?_
    refine A.cons (A.callT (some 24) [(p_ bt1), (i_ 2)] [] ((fun zz => match zz with | (al'6, cl'7) => (.slice al'6 ((upL kv'5 2 (dep kv'5 2)).length) cl'7))) ((fun zz => match zz with | (al'6, cl'7) => True)) ((fun zz => match zz with | (al'6, cl'7) => [sl al'6 ((upL kv'5 2 (dep kv'5 2)).length) cl'7 3 1 (V.flat encI (upL kv'5 2 (dep kv'5 2)))])) (fun zz => match zz with | (al'6, cl'7) => [sl al'6 ((upL kv'5 2 (dep kv'5 2)).length) cl'7 3 1 (V.flat encI (upL kv'5 2 (dep kv'5 2))), blk bt1 [(.map (some mb2))] 55, mapI (fun k : Int => i_ k) (fun v_ : Cl => (.agg (encCl v_).toArray)) mb2 kv'5, blk b3 [(u_ 5), (u_ 0), (u_ 5)] 28]) (by kernel_rfl) rfl rfl (fun ww ss hh => up_ok bt1 mb2 kv'5 2 (dep kv'5 2) (by first | assumption | exact two_0 | exact (hO2.lt _).1 | exact (hO2.lt _).2.1 | exact (hO2.lt _).2.2 | omega | (rw [upL_len]; have := hO2 2; omega) | exact Nat.le_trans (keysF_len _ _) (by omega) | (simp; done)) (by first | assumption | exact two_0 | exact (hO2.lt _).1 | exact (hO2.lt _).2.1 | exact (hO2.lt _).2.2 | omega | (rw [upL_len]; have := hO2 2; omega) | exact Nat.le_trans (keysF_len _ _) (by omega) | (simp; done)) (by first | assumption | exact two_0 | exact (hO2.lt _).1 | exact (hO2.lt _).2.1 | exact (hO2.lt _).2.2 | omega | (rw [upL_len]; have := hO2 2; omega) | exact Nat.le_trans (keysF_len _ _) (by omega) | (simp; done)) ww (ss.mem (i := 0) rfl) (ss.mem (i := 1) rfl) hh) (fun _ => rfl) ?_)
    rintro ⟨al'6, cl'7⟩ -
    refine A.cons (A.buildSlice 25 (e := 3) [(i_ 2), (i_ 1)] (by kernel_rfl) rfl (fun _ => by kernel_rfl) (fun b9 => [sl al'6 ((upL kv'5 2 (dep kv'5 2)).length) cl'7 3 1 (V.flat encI (upL kv'5 2 (dep kv'5 2))), blk bt1 [(.map (some mb2))] 55, mapI (fun k : Int => i_ k) (fun v_ : Cl => (.agg (encCl v_).toArray)) mb2 kv'5, blk b3 [(u_ 5), (u_ 0), (u_ 5)] 28, blk b9 [(i_ 2), (i_ 1)] 3]) (fun _ => rfl) ?_)
    intro b9
    refine A.goP [.cq (b_ ((upL kv'5 2 (dep kv'5 2)) == ([2, 1]))), .p, .p, .o, .p, .cq (i_ ((dep kv'5 2) : Int)), .p, .cl, .p] [(0, (b_ false)), (1, (p_ bt1)), (2, (p_ b3)), (3, (i_ (addE ([] : List (Int × Cl)) (⟨1, 0, false, 0, 0, 0, 5, 0, 5, 0, 0, 0, 0, 0⟩ : Cl)))), (4, (i_ (addE kv'4 (⟨2, 1, true, 5, 0, 5, 5, 0, 5, 0, 0, 0, 1, 9⟩ : Cl)))), (33, (b_ (((upL kv'5 2 (dep kv'5 2)) == ([2, 1])) && (((dep kv'5 2) : Int) == 2))))] [] (fun κ => κ.call 22 [(.slice al'6 ((upL kv'5 2 (dep kv'5 2)).length) cl'7), (.slice (some ⟨b9, 0, none⟩) 2 2)] (b_ ((upL kv'5 2 (dep kv'5 2)) == ([2, 1]))) ∧ ((true && (((upL kv'5 2 (dep kv'5 2)) == ([2, 1])) == true)) = true → κ.call 20 [(p_ bt1), (i_ 2)] (i_ ((dep kv'5 2) : Int))) ∧ True) (by kernel_rfl) ⟨(fun ww ss => ints_spec al'6 (upL kv'5 2 (dep kv'5 2)) cl'7 (some ⟨b9, 0, none⟩) ([2, 1]) 2 (by first | assumption | exact two_0 | exact (hO2.lt _).1 | exact (hO2.lt _).2.1 | exact (hO2.lt _).2.2 | omega | (rw [upL_len]; have := hO2 2; omega) | exact Nat.le_trans (keysF_len _ _) (by omega) | (simp; done)) ww ((rd_sl (i := 0) rfl) ww ss) ((rd_blk (i := 4) rfl) ww ss)), (fun h_ => (fun ww ss => depth_ok bt1 mb2 kv'5 2 (dep kv'5 2) (by first | assumption | exact two_0 | exact (hO2.lt _).1 | exact (hO2.lt _).2.1 | exact (hO2.lt _).2.2 | omega | (rw [upL_len]; have := hO2 2; omega) | exact Nat.le_trans (keysF_len _ _) (by omega) | (simp; done)) (by first | assumption | exact two_0 | exact (hO2.lt _).1 | exact (hO2.lt _).2.1 | exact (hO2.lt _).2.2 | omega | (rw [upL_len]; have := hO2 2; omega) | exact Nat.le_trans (keysF_len _ _) (by omega) | (simp; done)) (by first | assumption | exact two_0 | exact (hO2.lt _).1 | exact (hO2.lt _).2.1 | exact (hO2.lt _).2.2 | omega | (rw [upL_len]; have := hO2 2; omega) | exact Nat.le_trans (keysF_len _ _) (by omega) | (simp; done)) ww (ss.mem (i := 1) rfl) (ss.mem (i := 2) rfl))), trivial⟩ ?_
    refine A.bool (((upL kv'5 2 (dep kv'5 2)) == ([2, 1])) && (((dep kv'5 2) : Int) == 2)) (fun e6 => ?_) (fun e6 => ?_)
    · skip
      refine A.sub [(0, (b_ false)), (1, (p_ bt1)), (2, (p_ b3)), (3, (i_ (addE ([] : List (Int × Cl)) (⟨1, 0, false, 0, 0, 0, 5, 0, 5, 0, 0, 0, 0, 0⟩ : Cl)))), (4, (i_ (addE kv'4 (⟨2, 1, true, 5, 0, 5, 5, 0, 5, 0, 0, 0, 1, 9⟩ : Cl)))), (33, (b_ true))] (by exact ⟨rfl, rfl, rfl, rfl, rfl, (congrArg (fun z => some (Value.bool z)) e6), trivial⟩) ?_
      refine A.goP [.p] [(0, (b_ false)), (1, (p_ bt1)), (2, (p_ b3)), (3, (i_ (addE ([] : List (Int × Cl)) (⟨1, 0, false, 0, 0, 0, 5, 0, 5, 0, 0, 0, 0, 0⟩ : Cl)))), (4, (i_ (addE kv'4 (⟨2, 1, true, 5, 0, 5, 5, 0, 5, 0, 0, 0, 1, 9⟩ : Cl)))), (33, (b_ true)), (34, (p_ bt1))] [] T0 (by kernel_rfl) trivial ?_
      refine A.cons (A.callT (some 35) [(p_ bt1)] [] ((fun zz => match zz with | (al'10, cl'11) => (.slice al'10 ((realsL kv'5).length) cl'11))) ((fun zz => match zz with | (al'10, cl'11) => True)) ((fun zz => match zz with | (al'10, cl'11) => [sl al'10 ((realsL kv'5).length) cl'11 28 3 (V.flat encCv (realsL kv'5))])) (fun zz => match zz with | (al'10, cl'11) => [sl al'10 ((realsL kv'5).length) cl'11 28 3 (V.flat encCv (realsL kv'5)), sl al'6 ((upL kv'5 2 (dep kv'5 2)).length) cl'7 3 1 (V.flat encI (upL kv'5 2 (dep kv'5 2))), blk bt1 [(.map (some mb2))] 55, mapI (fun k : Int => i_ k) (fun v_ : Cl => (.agg (encCl v_).toArray)) mb2 kv'5, blk b3 [(u_ 5), (u_ 0), (u_ 5)] 28, blk b9 [(i_ 2), (i_ 1)] 3]) (by kernel_rfl) rfl rfl (fun ww ss hh => reals_ok bt1 mb2 kv'5 (by first | assumption | exact two_0 | exact (hO2.lt _).1 | exact (hO2.lt _).2.1 | exact (hO2.lt _).2.2 | omega | (rw [upL_len]; have := hO2 2; omega) | exact Nat.le_trans (keysF_len _ _) (by omega) | (simp; done)) ww (ss.mem (i := 1) rfl) (ss.mem (i := 2) rfl) hh) (fun _ => rfl) ?_)
      rintro ⟨al'10, cl'11⟩ -
      refine A.goP [.p, .p, .p, .p] [(0, (b_ false)), (1, (p_ bt1)), (2, (p_ b3)), (3, (i_ (addE ([] : List (Int × Cl)) (⟨1, 0, false, 0, 0, 0, 5, 0, 5, 0, 0, 0, 0, 0⟩ : Cl)))), (4, (i_ (addE kv'4 (⟨2, 1, true, 5, 0, 5, 5, 0, 5, 0, 0, 0, 1, 9⟩ : Cl)))), (39, (b_ (((realsL kv'5).length : Int) == 1)))] [] T0 (by kernel_rfl) trivial ?_
      refine A.bool (((realsL kv'5).length : Int) == 1) (fun e8 => ?_) (fun e8 => ?_)
      · skip
        refine A.sub [(0, (b_ false)), (1, (p_ bt1)), (2, (p_ b3)), (3, (i_ (addE ([] : List (Int × Cl)) (⟨1, 0, false, 0, 0, 0, 5, 0, 5, 0, 0, 0, 0, 0⟩ : Cl)))), (4, (i_ (addE kv'4 (⟨2, 1, true, 5, 0, 5, 5, 0, 5, 0, 0, 0, 1, 9⟩ : Cl)))), (39, (b_ true))] (by exact ⟨rfl, rfl, rfl, rfl, rfl, (congrArg (fun z => some (Value.bool z)) e8), trivial⟩) ?_
        refine A.goP [.p] [(0, (b_ false)), (1, (p_ bt1)), (2, (p_ b3)), (3, (i_ (addE ([] : List (Int × Cl)) (⟨1, 0, false, 0, 0, 0, 5, 0, 5, 0, 0, 0, 0, 0⟩ : Cl)))), (4, (i_ (addE kv'4 (⟨2, 1, true, 5, 0, 5, 5, 0, 5, 0, 0, 0, 1, 9⟩ : Cl)))), (39, (b_ true)), (40, (p_ bt1))] [] T0 (by kernel_rfl) trivial ?_
        refine A.cons (A.callT (some 41) [(p_ bt1), (i_ 0)] [] ((fun zz => match zz with | (al'13, cl'14) => (.slice al'13 ((keysF kv'5 (fun y => y.hp == 0)).length) cl'14))) ((fun zz => match zz with | (al'13, cl'14) => True)) ((fun zz => match zz with | (al'13, cl'14) => [sl al'13 ((keysF kv'5 (fun y => y.hp == 0)).length) cl'14 3 1 (V.flat encI (keysF kv'5 (fun y => y.hp == 0)))])) (fun zz => match zz with | (al'13, cl'14) => [sl al'13 ((keysF kv'5 (fun y => y.hp == 0)).length) cl'14 3 1 (V.flat encI (keysF kv'5 (fun y => y.hp == 0))), sl al'10 ((realsL kv'5).length) cl'11 28 3 (V.flat encCv (realsL kv'5)), sl al'6 ((upL kv'5 2 (dep kv'5 2)).length) cl'7 3 1 (V.flat encI (upL kv'5 2 (dep kv'5 2))), blk bt1 [(.map (some mb2))] 55, mapI (fun k : Int => i_ k) (fun v_ : Cl => (.agg (encCl v_).toArray)) mb2 kv'5, blk b3 [(u_ 5), (u_ 0), (u_ 5)] 28, blk b9 [(i_ 2), (i_ 1)] 3]) (by kernel_rfl) rfl rfl (fun ww ss hh => children_ok bt1 mb2 kv'5 0 (by first | assumption | exact two_0 | exact (hO2.lt _).1 | exact (hO2.lt _).2.1 | exact (hO2.lt _).2.2 | omega | (rw [upL_len]; have := hO2 2; omega) | exact Nat.le_trans (keysF_len _ _) (by omega) | (simp; done)) ww (ss.mem (i := 2) rfl) (ss.mem (i := 3) rfl) hh) (fun _ => rfl) ?_)
        rintro ⟨al'13, cl'14⟩ -
        refine A.cons (A.buildSlice 42 (e := 3) [(i_ 1)] (by kernel_rfl) rfl (fun _ => by kernel_rfl) (fun b16 => [sl al'13 ((keysF kv'5 (fun y => y.hp == 0)).length) cl'14 3 1 (V.flat encI (keysF kv'5 (fun y => y.hp == 0))), sl al'10 ((realsL kv'5).length) cl'11 28 3 (V.flat encCv (realsL kv'5)), sl al'6 ((upL kv'5 2 (dep kv'5 2)).length) cl'7 3 1 (V.flat encI (upL kv'5 2 (dep kv'5 2))), blk bt1 [(.map (some mb2))] 55, mapI (fun k : Int => i_ k) (fun v_ : Cl => (.agg (encCl v_).toArray)) mb2 kv'5, blk b3 [(u_ 5), (u_ 0), (u_ 5)] 28, blk b9 [(i_ 2), (i_ 1)] 3, blk b16 [(i_ 1)] 3]) (fun _ => rfl) ?_)
        intro b16
        refine A.goA [.cq (b_ ((keysF kv'5 (fun y => y.hp == 0)) == ([1]))), .p, .p] [(0, (b_ ((keysF kv'5 (fun y => y.hp == 0)) == ([1])))), (1, (p_ bt1)), (2, (p_ b3)), (3, (i_ (addE ([] : List (Int × Cl)) (⟨1, 0, false, 0, 0, 0, 5, 0, 5, 0, 0, 0, 0, 0⟩ : Cl)))), (4, (i_ (addE kv'4 (⟨2, 1, true, 5, 0, 5, 5, 0, 5, 0, 0, 0, 1, 9⟩ : Cl))))] [] (fun κ => κ.call 22 [(.slice al'13 ((keysF kv'5 (fun y => y.hp == 0)).length) cl'14), (.slice (some ⟨b16, 0, none⟩) 1 1)] (b_ ((keysF kv'5 (fun y => y.hp == 0)) == ([1]))) ∧ True) (by kernel_rfl) ⟨(fun ww ss => ints_spec al'13 (keysF kv'5 (fun y => y.hp == 0)) cl'14 (some ⟨b16, 0, none⟩) ([1]) 1 (by first | assumption | exact two_0 | exact (hO2.lt _).1 | exact (hO2.lt _).2.1 | exact (hO2.lt _).2.2 | omega | (rw [upL_len]; have := hO2 2; omega) | exact Nat.le_trans (keysF_len _ _) (by omega) | (simp; done)) ww ((rd_sl (i := 0) rfl) ww ss) ((rd_blk (i := 7) rfl) ww ss)), trivial⟩ ?_
        refine A.tn ?_
        refine A.ret ?_
        refine A.postQ [(b_ ((keysF kv'5 (fun y => y.hp == 0)) == ([1])))] (fun aa ww rr ss => ⟨rv_tmp rr rfl, trivial⟩) ?_
        show ((b_ ((keysF kv'5 (fun y => y.hp == 0)) == ([1]))) : Value) = (b_ true)
        (simp only [hA1, hA2, hz32]; first | decide | (simp [keysF, sortI, realsL]; done) | (simp [keysF, sortI, realsL, tk2, tk1, mput, tc1, tc2]; done) | (simp [keysF, sortI, realsL, tk2, tk1, mput, tc1, tc2]; decide))
      · exact absurd e8 (by (simp only [hA1, hA2, hz32]; first | decide | (simp [keysF, sortI, realsL]; done) | (simp [keysF, sortI, realsL, tk2, tk1, mput, tc1, tc2]; done) | (simp [keysF, sortI, realsL, tk2, tk1, mput, tc1, tc2]; decide)))
    · exact absurd e6 (by (simp only [hA1, hA2, hz32]; first | decide | (simp [keysF, sortI, realsL]; done) | (simp [keysF, sortI, realsL, tk2, tk1, mput, tc1, tc2]; done) | (simp [keysF, sortI, realsL, tk2, tk1, mput, tc1, tc2]; decide)))
  · exact absurd e4 (by (simp only [hA1, hA2, hz32]; first | decide | (simp [keysF, sortI, realsL]; done) | (simp [keysF, sortI, realsL, tk2, tk1, mput, tc1, tc2]; done) | (simp [keysF, sortI, realsL, tk2, tk1, mput, tc1, tc2]; decide)))
end Go.Proofs.Ytpodcfadcdnllaa
