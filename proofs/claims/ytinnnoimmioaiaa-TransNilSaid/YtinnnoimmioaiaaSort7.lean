/- What the functions of the sort of numbers do, proved operation by operation, for all arguments, under the conditions that each theorem states. -/
import Derived.Shelf.SlicesE.Compact
import Derived.Ground.SlgnProg
import Derived.Sort.LotA
import Derived.Sort.LotB
import Derived.Sort.LotC
import Derived.Sort.LotD1
import Derived.Sort.LotD3
import Derived.Sort.LotD4
import Derived.Test.YtinnnoimmioaiaaProg
import Derived.Test.YtinnnoimmioaiaaSort6
import Derived.Test.YtinnnoimmioaiaaL2
namespace Go.Proofs.Ytinnnoimmioaiaa
open Go V Go.Sort
set_option linter.unusedVariables false
set_option linter.unusedSimpArgs false
open Go.RowKit Go.Shelf Go.Lib
def cmpct (l : List Int) : List Int := compactUpTo l.toArray l.toArray.size
theorem cmpct_le (l : List Int) : (cmpct l).length ≤ l.length := by
  unfold cmpct compactUpTo; rw [List.length_map]
  exact Nat.le_trans (List.length_filter_le _ _) (by simp)

def Try.cmpU_ren : Go.Shelf.Ren := ⟨fun | 43 => 88 | n => n, fun | 22 => 74 | 23 => 24 | 3 => 3 | 4 => 4 | 0 => 0 | n => n, fun | n => n⟩
theorem Try.cmpU : Go.Proofs.SlLaysE.n43 Try.prog Try.cmpU_ren := {
  mixed := by kernel_rfl,
  f43 := ⟨Try.f88.name, by decide, Try.func88.trans (congrArg some (by kernel_rfl))⟩,
  t0 := Try.underlying0,
  a0 := Try.isAgg0,
  z0 := Try.sizeOf0,
  v0 := Try.zeroValue0,
  t3 := Try.underlying3,
  a3 := Try.isAgg3,
  z3 := Try.sizeOf3,
  v3 := Try.zeroValue3,
  t4 := Try.underlying4,
  a4 := Try.isAgg4,
  z4 := Try.sizeOf4,
  v4 := Try.zeroValue4,
  t22 := Try.underlying74,
  a22 := Try.isAgg74,
  z22 := Try.sizeOf74,
  v22 := Try.zeroValue74,
  a23 := Try.isAgg24,
  z23 := Try.sizeOf24 }


set_option maxHeartbeats 4000000 in
set_option maxRecDepth 100000 in
theorem cmpctU_nil (w : World) :
    Calls Try.prog 88 #[e_] w fun e w' => e = .returned e_ ∧ Fr [] w w' := by
  refine calls_of (args := [e_]) (penv [e_]) [] [] Try.func88 rfl rfl (look_penv _) (HS.nil w) ?_
  refine A.norm [(0, e_)] [] (by exact ⟨rfl, trivial⟩) rfl ?_
  refine A.seq (A.region (A.goA [.p] [(0, e_)] [] T0 (by kernel_rfl) trivial ?_))
  refine A.tn (A.seq (A.seq (A.region (A.goA [.p, .p, .p] [(0, e_), (8, b_ true)] [] T0 (by kernel_rfl) trivial ?_))))
  refine A.tn (A.cond_t rfl (A.seq (A.region (A.goA [.p, .p] [(2, e_)] [] T0 (by kernel_rfl) trivial ?_))))
  refine A.tn (A.ret (A.tr (A.postQ [e_] (fun aa ww rr ss => ⟨rv_tmp rr rfl, trivial⟩) ?_)))
  rfl

theorem cmpctU_spec (ah : Option Addr) (l : List Int) (c : Nat) (hl : l.length ≤ 100000) (w : World) (hs : HS w (feet [sU ah l c]) [sU ah l c] w) :
    Calls Try.prog 88 #[vS ah l c] w fun e w' => ∃ zz, e = .returned ((fun (zz : Unit) => (vS ah (cmpct l) c)) zz) ∧ (fun (zz : Unit) => True) zz ∧ Turn [sU ah l c] ((fun (zz : Unit) => [sU ah (cmpct l) c]) zz) w w' := by
  have h0 : (sU ah l c).holds w := hs.all _ (by simp)
  cases ah with
  | none =>
    have hl0 : l = [] ∧ c = 0 := by
      obtain ⟨_, h2, _, ⟨_, h4⟩ | ⟨_, _, _, h4, _⟩⟩ := h0
      · exact ⟨List.eq_nil_of_length_eq_zero (by omega), h4⟩
      · cases h4
    obtain ⟨rfl, rfl⟩ := hl0
    refine (cmpctU_nil w).mono ?_
    rintro e w' ⟨rfl, hf⟩
    refine ⟨(), rfl, trivial, ?_⟩
    exact Turn.of (hs.kept hf) (List.Sublist.refl _)
  | some a =>
    obtain ⟨g, off, rfl⟩ : ∃ g off, a = ⟨g, off, none⟩ := by
      obtain ⟨_, _, _, ⟨h4, _⟩ | ⟨g, off, _, h4, _⟩⟩ := id h0
      · cases h4
      · cases h4; exact ⟨g, off, rfl⟩
    obtain ⟨hH, hlt⟩ := sl_HoldsK (k := .u64) (fun _ => rfl) h0
    have hcap : l.length ≤ c := h0.2.1
    have hC := AnyE.slices_Compact Try.cmpU (Value.int .u64) (fun _ => rfl) (EqlAt.intD _ _ _) (NeqAt.intD _ _ _) 0 (fun w => Try.zeroValue24 w) g off c l.toArray w hH (by simp; omega) (by simpa using hcap)
    rw [show l.toArray.size = l.length by simp] at hC
    refine hC.mono ?_
    rintro e w' ⟨rfl, q, rfl⟩
    refine ⟨(), by show Ending.returned _ = _; simp only [cmpct]; simp, trivial, ?_⟩
    have hle := cmpct_le l
    have hlen : (cmpct l).length + (List.replicate (l.length - (cmpct l).length) (0 : Int)).length = l.length := by simp; omega
    have := sl_row (enc := encU) (k := .u64) (q := q) (rest := List.replicate (l.length - (cmpct l).length) (0 : Int)) (ts := cmpct l) (fun _ => rfl) hlen h0
    have e2 : compactUpTo l.toArray l.length = cmpct l := by unfold cmpct; simp
    rw [e2]; exact this
end Go.Proofs.Ytinnnoimmioaiaa
