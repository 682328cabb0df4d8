/- What the functions of this layer do, proved operation by operation, for all arguments, under the conditions that each theorem states. -/
import Derived.Shelf.SortM.Plain
import Derived.Shelf.SortM.SortNone
import Derived.Ground.SlgmProg
import Derived.Test.YtinnnoimmioaiaaProg
import Derived.Test.YtinnnoimmioaiaaL2
namespace Go.Proofs.Ytinnnoimmioaiaa
open Go V
set_option linter.unusedVariables false
set_option linter.unusedSimpArgs false
def encI (x : Int) : List Value := [(i_ x)]
theorem encI_len (x : Int) : (encI x).length = 1 := rfl
theorem encI_one (x : Int) : (encI x).all Value.oneCell' = true := rfl
abbrev sI (A : Option Addr) (xs : List Int) (c : Nat) : V.Item := sl A xs.length c 3 1 (V.flat encI xs)
structure Cl where
  hi : Int
  hp : Int
  hl : Bool
  ra : Int
  rb : Int
  rc : Int
  la : Int
  lb : Int
  lc : Int
  ua : Int
  ub : Int
  uc : Int
  hk : Int
  hq : Int
  deriving Inhabited, DecidableEq
def encCl (x : Cl) : List Value := [(i_ x.hi), (i_ x.hp), (b_ x.hl), (u_ x.ra), (u_ x.rb), (u_ x.rc), (u_ x.la), (u_ x.lb), (u_ x.lc), (u_ x.ua), (u_ x.ub), (u_ x.uc), (i_ x.hk), (i_ x.hq)]
theorem encCl_len (x : Cl) : (encCl x).length = 14 := rfl
theorem encCl_one (x : Cl) : (encCl x).all Value.oneCell' = true := rfl
abbrev sCl (A : Option Addr) (xs : List Cl) (c : Nat) : V.Item := sl A xs.length c 98 14 (V.flat encCl xs)
def cl0 : Cl := ⟨0, 0, false, 0, 0, 0, 0, 0, 0, 0, 0, 0, 0, 0⟩
theorem keyOk_I : KeyOk Try.prog 3 (fun k : Int => i_ k) := keyOk_int (by kernel_rfl)
def sortI (l : List Int) : List Int := l.mergeSort fun x y => decide (x ≤ y)
/-- of the entries that have come, in that order, the keys of those of which something is so -/
def selK (kv : List (Int × Cl)) (f : Cl → Bool) (seen : List Nat) : List Int := seen.filterMap fun j => match kv[j]? with | some p => if f p.2 then some p.1 else none | none => none
theorem selK_t {kv : List (Int × Cl)} {f : Cl → Bool} {seen : List Nat} {j : Nat} {k : Int} {v : Cl} (h : kv[j]? = some (k, v)) (hf : f v = true) : selK kv f seen ++ [k] = selK kv f (seen ++ [j]) := by unfold selK; rw [List.filterMap_append]; simp [h, hf]
theorem selK_f {kv : List (Int × Cl)} {f : Cl → Bool} {seen : List Nat} {j : Nat} {k : Int} {v : Cl} (h : kv[j]? = some (k, v)) (hf : f v = false) : selK kv f seen = selK kv f (seen ++ [j]) := by unfold selK; rw [List.filterMap_append]; simp [h, hf]
theorem selK_len (kv : List (Int × Cl)) (f : Cl → Bool) (seen : List Nat) : (selK kv f seen).length ≤ seen.length := List.length_filterMap_le _ _
theorem nodup_le : ∀ {n : Nat} {l : List Nat}, l.Nodup → (∀ j ∈ l, j < n) → l.length ≤ n
  | 0, l, _, h => by
    cases l with
    | nil => simp
    | cons a l => exact absurd (h a (by simp)) (by omega)
  | n + 1, l, hn, h => by
    have h1 := nodup_le (n := n) (l := l.erase n) (hn.erase n) (fun j hj => by have h2 := (hn.mem_erase_iff).1 hj; have := h j h2.2; have := h2.1; omega)
    rw [List.length_erase] at h1; split at h1 <;> omega
def keysF (kv : List (Int × Cl)) (f : Cl → Bool) : List Int := sortI ((kv.filter fun p => f p.2).map (·.1))
theorem sortI_perm {a b : List Int} (h : a.Perm b) : sortI a = sortI b := by
  have tr : ∀ a b c : Int, decide (a ≤ b) = true → decide (b ≤ c) = true → decide (a ≤ c) = true := fun a b c h1 h2 => by simp only [decide_eq_true_eq] at *; omega
  have to : ∀ a b : Int, (decide (a ≤ b) || decide (b ≤ a)) = true := fun a b => by simp only [Bool.or_eq_true, decide_eq_true_eq]; omega
  unfold sortI
  refine List.Perm.eq_of_pairwise (le := fun a b : Int => decide (a ≤ b) = true) (fun a b _ _ h1 h2 => ?_) (List.pairwise_mergeSort tr to _) (List.pairwise_mergeSort tr to _) (((List.mergeSort_perm _ _).trans h).trans (List.mergeSort_perm _ _).symm)
  simp only [decide_eq_true_eq] at h1 h2; omega
theorem selK_range (f : Cl → Bool) : ∀ (kv : List (Int × Cl)), selK kv f (List.range kv.length) = (kv.filter fun p => f p.2).map (·.1)
  | [] => rfl
  | p :: kv => by
    have ih := selK_range f kv
    unfold selK at ih ⊢
    rw [List.length_cons, List.range_succ_eq_map, List.filterMap_cons, List.filterMap_map]
    have e : ((fun j => match (p :: kv)[j]? with | some p => if f p.2 then some p.1 else none | none => none) ∘ Nat.succ) = fun j => match kv[j]? with | some p => if f p.2 then some p.1 else none | none => none := by
      funext j; simp
    rw [e, ih]; simp only [List.getElem?_cons_zero, List.filter_cons]
    cases f p.2 <;> simp
theorem sel_all {kv : List (Int × Cl)} {f : Cl → Bool} {seen : List Nat} (hn : seen.Nodup) (hb : ∀ j ∈ seen, j < kv.length) (ha : ∀ j, j < kv.length → j ∈ seen) : sortI (selK kv f seen) = keysF kv f := by
  unfold keysF; rw [← selK_range]; refine sortI_perm ?_
  have hp : seen.Perm (List.range kv.length) := (List.perm_ext_iff_of_nodup hn List.nodup_range).2 fun j => by rw [List.mem_range]; exact ⟨hb j, ha j⟩
  exact hp.filterMap _
theorem sortI_len (l : List Int) : (sortI l).length = l.length := by unfold sortI; simp
theorem walk_lt {kv : List (Int × Cl)} {seen : List Nat} {j : Nat} {p : Int × Cl} (hn : seen.Nodup) (hb : ∀ j ∈ seen, j < kv.length) (hj : kv[j]? = some p) (hs : j ∉ seen) : (seen ++ [j]).Nodup ∧ (∀ i ∈ seen ++ [j], i < kv.length) ∧ seen.length < kv.length := by
  have hl := (List.getElem?_eq_some_iff.1 hj).1
  have h1 : (seen ++ [j]).Nodup := List.nodup_append.2 ⟨hn, by simp, fun a ha b hb e => by simp at hb; subst hb; subst e; exact hs ha⟩
  have h2 : ∀ i ∈ seen ++ [j], i < kv.length := fun i hi => by
    rcases List.mem_append.1 hi with hi | hi
    · exact hb i hi
    · simp at hi; omega
  have := nodup_le h1 h2
  exact ⟨h1, h2, by simp at this; omega⟩
theorem sort_nil : sortI [] = [] := by simp [sortI]
abbrev mHI (b : Nat) (kv : List (Int × Cl)) : V.Item := mapI (fun k : Int => i_ k) (fun v_ : Cl => (.agg (encCl v_).toArray)) b kv

open Go.RowKit Go.Maps Go.Sort Go.Shelf
def Try.sortA_ren : Go.Shelf.Ren := ⟨fun | 5 => 61 | 8 => 110 | 7 => 109 | 19 => 139 | 20 => 140 | 10 => 130 | 11 => 131 | 12 => 132 | 13 => 133 | 14 => 134 | 15 => 135 | 16 => 136 | 17 => 137 | 18 => 138 | 30 => 159 | 31 => 160 | 32 => 161 | 33 => 162 | 34 => 163 | 35 => 164 | 40 => 169 | n => n, fun | 23 => 45 | 25 => 3 | 3 => 3 | 32 => 153 | 22 => 45 | 0 => 0 | 44 => 177 | 46 => 24 | 4 => 4 | 36 => 170 | 35 => 169 | 41 => 102 | 5 => 5 | 9 => 9 | 53 => 190 | 57 => 194 | 63 => 198 | 64 => 199 | n => n, fun | n => n⟩
theorem Try.sortA : Go.Proofs.SlLaysM.n5 Try.prog Try.sortA_ren := {
  mixed := by kernel_rfl,
  f5 := ⟨Try.f61.name, by decide, Try.func61.trans (congrArg some (by kernel_rfl))⟩,
  f7 := ⟨Try.f109.name, by decide, Try.func109.trans (congrArg some (by kernel_rfl))⟩,
  f8 := Try.func110.trans (congrArg some (by kernel_rfl)),
  f10 := ⟨Try.f130.name, by decide, Try.func130.trans (congrArg some (by kernel_rfl))⟩,
  f11 := ⟨Try.f131.name, by decide, Try.func131.trans (congrArg some (by kernel_rfl))⟩,
  f12 := ⟨Try.f132.name, by decide, Try.func132.trans (congrArg some (by kernel_rfl))⟩,
  f13 := ⟨Try.f133.name, by decide, Try.func133.trans (congrArg some (by kernel_rfl))⟩,
  f14 := ⟨Try.f134.name, by decide, Try.func134.trans (congrArg some (by kernel_rfl))⟩,
  f15 := ⟨Try.f135.name, by decide, Try.func135.trans (congrArg some (by kernel_rfl))⟩,
  f16 := ⟨Try.f136.name, by decide, Try.func136.trans (congrArg some (by kernel_rfl))⟩,
  f17 := ⟨Try.f137.name, by decide, Try.func137.trans (congrArg some (by kernel_rfl))⟩,
  f18 := ⟨Try.f138.name, by decide, Try.func138.trans (congrArg some (by kernel_rfl))⟩,
  f19 := Try.func139.trans (congrArg some (by kernel_rfl)),
  f20 := Try.func140.trans (congrArg some (by kernel_rfl)),
  f30 := ⟨Try.f159.name, by decide, Try.func159.trans (congrArg some (by kernel_rfl))⟩,
  f31 := Try.func160.trans (congrArg some (by kernel_rfl)),
  f32 := Try.func161.trans (congrArg some (by kernel_rfl)),
  f33 := ⟨Try.f162.name, by decide, Try.func162.trans (congrArg some (by kernel_rfl))⟩,
  f34 := ⟨Try.f163.name, by decide, Try.func163.trans (congrArg some (by kernel_rfl))⟩,
  f35 := ⟨Try.f164.name, by decide, Try.func164.trans (congrArg some (by kernel_rfl))⟩,
  f40 := ⟨Try.f169.name, by decide, Try.func169.trans (congrArg some (by kernel_rfl))⟩,
  t0 := Try.underlying0,
  a0 := Try.isAgg0,
  z0 := Try.sizeOf0,
  v0 := Try.zeroValue0,
  t3 := Try.underlying3,
  a3 := Try.isAgg3,
  z3 := Try.sizeOf3,
  v3 := Try.zeroValue3,
  t4 := Try.underlying4,
  a4 := Try.isAgg4,
  z4 := Try.sizeOf4,
  v4 := Try.zeroValue4,
  t5 := Try.underlying5,
  a5 := Try.isAgg5,
  z5 := Try.sizeOf5,
  v5 := Try.zeroValue5,
  t9 := Try.underlying9,
  a9 := Try.isAgg9,
  z9 := Try.sizeOf9,
  v9 := Try.zeroValue9,
  t22 := Try.underlying45,
  a22 := Try.isAgg45,
  z22 := Try.sizeOf45,
  v22 := Try.zeroValue45,
  t23 := Try.underlying45,
  a23 := Try.isAgg45,
  z23 := Try.sizeOf45,
  v23 := Try.zeroValue45,
  t25 := Try.underlying3,
  a25 := Try.isAgg3,
  z25 := Try.sizeOf3,
  v25 := Try.zeroValue3,
  t32 := Try.underlying153,
  a32 := Try.isAgg153,
  z32 := Try.sizeOf153,
  v32 := Try.zeroValue153,
  t35 := Try.underlying169,
  a35 := Try.isAgg169,
  z35 := Try.sizeOf169,
  v35 := Try.zeroValue169,
  t36 := Try.underlying170,
  a36 := Try.isAgg170,
  z36 := Try.sizeOf170,
  v36 := Try.zeroValue170,
  t41 := Try.underlying102,
  a41 := Try.isAgg102,
  z41 := Try.sizeOf102,
  v41 := Try.zeroValue102,
  t44 := Try.underlying177,
  a44 := Try.isAgg177,
  z44 := Try.sizeOf177,
  v44 := Try.zeroValue177,
  t46 := Try.underlying24,
  a46 := Try.isAgg24,
  z46 := Try.sizeOf24,
  v46 := Try.zeroValue24,
  t53 := Try.underlying190,
  a53 := Try.isAgg190,
  z53 := Try.sizeOf190,
  v53 := Try.zeroValue190,
  t57 := Try.underlying194,
  a57 := Try.isAgg194,
  z57 := Try.sizeOf194,
  v57 := Try.zeroValue194,
  t63 := Try.underlying198,
  a63 := Try.isAgg198,
  z63 := Try.sizeOf198,
  v63 := Try.zeroValue198,
  t64 := Try.underlying199,
  a64 := Try.isAgg199,
  z64 := Try.sizeOf199,
  v64 := Try.zeroValue199 }


theorem sort_spec (A : Option Addr) (l : List Int) (c : Nat) (hl : l.length ≤ 100000) (w : World) (hs : HS w (feet [sI A l c]) [sI A l c] w) :
    Calls Try.prog 61 #[vS A l c] w fun e w' => ∃ zz, e = .returned ((fun (zz : Unit) => (.tuple #[])) zz) ∧ (fun (zz : Unit) => True) zz ∧ Turn [sI A l c] ((fun (zz : Unit) => [sI A (sortI l) c]) zz) w w' := by
  have h0 : (sI A l c).holds w := hs.all _ (by simp)
  cases A with
  | none =>
    have hl0 : l = [] := by
      obtain ⟨_, h2, _, ⟨_, h4⟩ | ⟨_, _, _, h4, _⟩⟩ := h0
      · exact List.eq_nil_of_length_eq_zero (by omega)
      · cases h4
    subst hl0
    refine (AnyM.slices_Sort_int_none Try.sortA none c w).mono ?_
    rintro e w' ⟨rfl, rfl⟩
    refine ⟨(), rfl, trivial, ?_⟩
    show Turn _ [sl none (sortI []).length c 3 1 (V.flat encI (sortI []))] _ _
    rw [sort_nil]; exact Turn.of hs (List.Sublist.refl _)
  | some a =>
    obtain ⟨g, off, rfl⟩ : ∃ g off, a = ⟨g, off, none⟩ := by
      obtain ⟨_, _, _, ⟨h4, _⟩ | ⟨g, off, _, h4, _⟩⟩ := id h0
      · cases h4
      · cases h4; exact ⟨g, off, rfl⟩
    obtain ⟨hH, hlt⟩ := sl_Holds (fun _ => rfl) h0
    refine (AnyM.slices_Sort_int Try.sortA g off c l w hH hlt (by omega)).mono ?_
    rintro e w' ⟨rfl, k, os, rfl⟩
    exact ⟨(), rfl, trivial, sl_sorted (fun _ => rfl) (by simp [sortI]) h0⟩
end Go.Proofs.Ytinnnoimmioaiaa
