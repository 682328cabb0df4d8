/- What the functions of this layer do, proved operation by operation, for all arguments, under the conditions that each theorem states. -/
import Derived.Test.YtinnnoimmioaiaaProg
import Derived.Test.YtinnnoimmioaiaaHier6
import Derived.Test.YtinnnoimmioaiaaHier5
import Derived.Test.YtinnnoimmioaiaaHier1
import Derived.Test.YtinnnoimmioaiaaL2
namespace Go.Proofs.Ytinnnoimmioaiaa
open Go V
set_option linter.unusedVariables false
set_option linter.unusedSimpArgs false
set_option maxHeartbeats 4000000
set_option maxRecDepth 100000
theorem eq_lists {xs ys : List Int} (h : xs.length = ys.length) (hn : ∀ j, j < xs.length → xs[j]? = ys[j]?) : true = (xs == ys) := by
  have : xs = ys := List.ext_getElem? fun j => by
    rcases Nat.lt_or_ge j xs.length with g | g
    · exact hn j g
    · rw [List.getElem?_eq_none g, List.getElem?_eq_none (by omega)]
  simp [this]
theorem ne_lists {xs ys : List Int} {k : Nat} {x y : Int} (hx : xs[k]? = some x) (hy : ys[k]? = some y) (h : ¬ x = y) : false = (xs == ys) := by
  symm; rw [beq_eq_false_iff_ne]; rintro rfl; rw [hx] at hy; cases hy; exact h rfl
theorem ne_len {xs ys : List Int} (h : ¬ (xs.length : Int) = ys.length) : false = (xs == ys) := by
  symm; rw [beq_eq_false_iff_ne]; rintro rfl; exact h rfl
def tc1 : Cl := ⟨1, 0, false, 0, 0, 0, 5, 0, 5, 0, 0, 0, 0, 0⟩
def tc2 : Cl := ⟨2, 1, true, 5, 0, 5, 5, 0, 5, 0, 0, 0, 1, 9⟩
def tk1 : List (Int × Cl) := mput [] 1 tc1
def tk2 : List (Int × Cl) := mput tk1 2 tc2
theorem two_0 : HOk [] := fun k => by simp [dep, depN, mget]
theorem two_1 : HOk tk1 := fun k => by
  rcases Decidable.em (k = 1) with h | h
  · subst h; decide
  · have : ¬ (1 : Int) = k := fun e => h e.symm
    simp [dep, depN, tk1, mput, mget, this]
theorem two_2 : HOk tk2 := fun k => by
  rcases Decidable.em (k = 1) with h | h
  · subst h; decide
  · rcases Decidable.em (k = 2) with h' | h'
    · subst h'; decide
    · have q1 : ¬ (1 : Int) = k := fun e => h e.symm
      have q2 : ¬ (2 : Int) = k := fun e => h' e.symm
      simp [dep, depN, tk2, tk1, mput, mget, q1, q2]
theorem two_a : addE [] tc1 = 0 := by decide
theorem two_b : addE tk1 tc2 = 0 := by decide
theorem two_k1 : addK [] tc1 = tk1 := rfl
theorem two_k2 : addK tk1 tc2 = tk2 := rfl

theorem ints_spec (al : Option Addr) (xs : List Int) (cl : Nat) (bl : Option Addr) (ys : List Int) (dl : Nat) (hl : xs.length ≤ 100000) (w : World) (r0 : arrAt w al (V.flat encI xs)) (r1 : arrAt w bl (V.flat encI ys)) :
    Calls Try.prog 29 #[vS al xs cl, vS bl ys dl] w fun e w' => e = .returned (b_ (xs == ys)) ∧ Fr [] w w' := by
  refine calls_of (args := [vS al xs cl, vS bl ys dl]) (penv [vS al xs cl, vS bl ys dl]) [] [] Try.func29 rfl rfl (look_penv _) (HS.nil w) ?_
  refine A.sr (A.g [.p] [] [] ?_)
  refine A.tn (A.seq (A.sr (A.g [.p, .p, .p, .p, .p] [] [(10, b_ ((xs.length : Int) != (ys.length : Int)))] ?_)))
  refine A.tn (A.cn ((xs.length : Int) != (ys.length : Int)) (fun e1 => ?_) (fun e1 => ?_))
  · have p1 := e1; try simp only [nrm] at p1
    refine A.sr (A.g [.p] [0, 1, 10] [(4, b_ false)] ?_)
    refine A.tn (A.ret (A.tr (A.pQ [b_ false] ?_)))
    show ((b_ false) : Value) = (b_ (xs == ys))
    refine congrArg Value.bool ?_; exact ne_len (by assumption)
  have p1 := e1; try simp only [nrm] at p1
  refine A.skip (A.tn (A.seq (A.sr (A.g [.p, .p, .p] [10] [(12, c_ xs.length), (13, i_ 0)] ?_))))
  refine A.tn (A.block (A.loop (fun (zz : Nat) => match zz with | k => [(0, vS al xs cl), (1, vS bl ys dl), (12, c_ xs.length), (13, c_ k)]) (fun (zz : Nat) => match zz with | k => []) (fun (zz : Nat) => match zz with | k => (k ≤ xs.length) ∧ (∀ j, j < k → xs[j]? = ys[j]?)) (fun (zz : Nat) => match zz with | k => xs.length - k) (0 : Nat) ⟨(by omega), (by intro j hj; omega)⟩ ?_ ?_))
  · exact A.hK []
  rintro k ⟨hk, hn⟩
  refine A.sr (A.g [.p] [] [(14, b_ (decide ((k : Int) < (xs.length : Int))))] ?_)
  refine A.tn (A.seq (A.cn (decide ((k : Int) < (xs.length : Int))) (fun e2 => ?_) (fun e2 => ?_)))
  · have p2 := of_decide_eq_true e2
    refine A.skip (A.tn (A.seq (A.block (A.sr (A.g [.p, .p] [14] [(5, c_ k)] ?_)))))
    refine A.tn (A.seq ?_)
    obtain ⟨x1, hx1⟩ : ∃ x, (xs)[k]? = some x := ⟨_, List.getElem?_eq_getElem (by omega)⟩
    obtain ⟨x2, hx2⟩ : ∃ x, (ys)[k]? = some x := ⟨_, List.getElem?_eq_getElem (by omega)⟩
    refine A.dA [.p, .p, .ix, .rd [i_ x1], .p, .p, .ix, .rd [i_ x2], .p] [0, 1, 2, 3, 4, 5, 6, 7, 8] [5] [(24, b_ (x1 != x2))] [] (fun κ => κ.ix al xs.length (k : Int) ∧ κ.rd ((at0 al).add (k * 1)) [i_ x1] ∧ κ.ix bl ys.length (k : Int) ∧ κ.rd ((at0 bl).add (k * 1)) [i_ x2] ∧ True) ⟨(ixOf encI_len (by decide) (rd_old r0 (by simp [feet])) (by omega)), reads_at0 (vs := [i_ x1]) encI_len (rd_old r0 (by simp [feet])) hx1 (Nat.le_of_ble_eq_true rfl) rfl, ixOf encI_len (by decide) (rd_old r1 (by simp [feet])) (by omega), reads_at0 (vs := [i_ x2]) encI_len (rd_old r1 (by simp [feet])) hx2 (Nat.le_of_ble_eq_true rfl) rfl, trivial⟩ ?_
    refine A.tn (A.cn (x1 != x2) (fun e3 => ?_) (fun e3 => ?_))
    · have p3 := e3; try simp only [nrm] at p3
      refine A.sr (A.g [.p] [0, 1, 12, 13, 24] [(4, b_ false)] ?_)
      refine A.tn (A.ret (A.br (A.tr (A.tr (A.br (A.tr (A.pQ [b_ false] ?_)))))))
      show ((b_ false) : Value) = (b_ (xs == ys))
      refine congrArg Value.bool ?_; exact ne_lists (by assumption) (by assumption) (by assumption)
    have p3 := e3; try simp only [nrm] at p3
    refine A.skip (A.bn (tr (A.gk [.w ((k : Int) + 1), .p] [24] [(13, i_ ((k : Int) + 1))] [] (fun κ => (IntKind.i64.wrap ((k : Int) + 1) = ((k : Int) + 1)) ∧ True) ⟨(wrap_i64 (e := (k : Int) + 1) (by constructor <;> omega)), trivial⟩ ?_)))
    refine A.tn (A.next (k + 1) ⟨(by omega), (by (intro j hj; rcases Nat.lt_or_ge j k with g | g; exact hn j g; (have e_ : j = k := by omega); subst e_; simp_all))⟩ (by (simp; omega)) ?_)
    exact A.hK []
  have p2 := of_decide_eq_false e2
  refine A.exit (A.te (A.te (A.bh (tsr (A.g [.p] [0, 1, 12, 13, 14] [(4, b_ true)] ?_)))))
  refine A.tn (A.ret (A.pQ [b_ true] ?_))
  show ((b_ true) : Value) = (b_ (xs == ys))
  refine congrArg Value.bool ?_; exact eq_lists (by omega) (fun j hj => hn j (by omega))
end Go.Proofs.Ytinnnoimmioaiaa
