/- What the functions of this layer do, proved operation by operation, for all arguments, under the conditions that each theorem states. -/
import Derived.Shelf.SortM.Plain
import Derived.Shelf.SortM.SortNone
import Derived.Ground.SlgmProg
import Derived.Test.YtinnnoimmioaiaaGreatProg
import Derived.Test.YtinnnoimmioaiaaGreatL2
namespace Go.Proofs.YtinnnoimmioaiaaGreat
open Go V
set_option linter.unusedVariables false
set_option linter.unusedSimpArgs false
set_option maxHeartbeats 4000000
set_option maxRecDepth 100000
def encI (x : Int) : List Value := [(i_ x)]
theorem encI_len (x : Int) : (encI x).length = 1 := rfl
theorem encI_one (x : Int) : (encI x).all Value.oneCell' = true := rfl
abbrev sI (A : Option Addr) (xs : List Int) (c : Nat) : V.Item := sl A xs.length c 3 1 (V.flat encI xs)
structure Cl where
  hi : Int
  hp : Int
  hl : Bool
  ra : Int
  rb : Int
  rc : Int
  la : Int
  lb : Int
  lc : Int
  ua : Int
  ub : Int
  uc : Int
  hk : Int
  hq : Int
  deriving Inhabited, DecidableEq
def encCl (x : Cl) : List Value := [(i_ x.hi), (i_ x.hp), (b_ x.hl), (u_ x.ra), (u_ x.rb), (u_ x.rc), (u_ x.la), (u_ x.lb), (u_ x.lc), (u_ x.ua), (u_ x.ub), (u_ x.uc), (i_ x.hk), (i_ x.hq)]
theorem encCl_len (x : Cl) : (encCl x).length = 14 := rfl
theorem encCl_one (x : Cl) : (encCl x).all Value.oneCell' = true := rfl
abbrev sCl (A : Option Addr) (xs : List Cl) (c : Nat) : V.Item := sl A xs.length c 48 14 (V.flat encCl xs)
def cl0 : Cl := ⟨0, 0, false, 0, 0, 0, 0, 0, 0, 0, 0, 0, 0, 0⟩
theorem keyOk_I : KeyOk Tryz.prog 3 (fun k : Int => i_ k) := keyOk_int (by kernel_rfl)
def sortI (l : List Int) : List Int := l.mergeSort fun x y => decide (x ≤ y)
/-- of the entries that have come, in that order, the keys of those of which something is so -/
def selK (kv : List (Int × Cl)) (f : Cl → Bool) (seen : List Nat) : List Int := seen.filterMap fun j => match kv[j]? with | some p => if f p.2 then some p.1 else none | none => none
theorem selK_t {kv : List (Int × Cl)} {f : Cl → Bool} {seen : List Nat} {j : Nat} {k : Int} {v : Cl} (h : kv[j]? = some (k, v)) (hf : f v = true) : selK kv f seen ++ [k] = selK kv f (seen ++ [j]) := by unfold selK; rw [List.filterMap_append]; simp [h, hf]
theorem selK_f {kv : List (Int × Cl)} {f : Cl → Bool} {seen : List Nat} {j : Nat} {k : Int} {v : Cl} (h : kv[j]? = some (k, v)) (hf : f v = false) : selK kv f seen = selK kv f (seen ++ [j]) := by unfold selK; rw [List.filterMap_append]; simp [h, hf]
theorem selK_len (kv : List (Int × Cl)) (f : Cl → Bool) (seen : List Nat) : (selK kv f seen).length ≤ seen.length := List.length_filterMap_le _ _
theorem nodup_le : ∀ {n : Nat} {l : List Nat}, l.Nodup → (∀ j ∈ l, j < n) → l.length ≤ n
  | 0, l, _, h => by
    cases l with
    | nil => simp
    | cons a l => exact absurd (h a (by simp)) (by omega)
  | n + 1, l, hn, h => by
    have h1 := nodup_le (n := n) (l := l.erase n) (hn.erase n) (fun j hj => by have h2 := (hn.mem_erase_iff).1 hj; have := h j h2.2; have := h2.1; omega)
    rw [List.length_erase] at h1; split at h1 <;> omega
def keysF (kv : List (Int × Cl)) (f : Cl → Bool) : List Int := sortI ((kv.filter fun p => f p.2).map (·.1))
theorem sortI_perm {a b : List Int} (h : a.Perm b) : sortI a = sortI b := by
  have tr : ∀ a b c : Int, decide (a ≤ b) = true → decide (b ≤ c) = true → decide (a ≤ c) = true := fun a b c h1 h2 => by simp only [decide_eq_true_eq] at *; omega
  have to : ∀ a b : Int, (decide (a ≤ b) || decide (b ≤ a)) = true := fun a b => by simp only [Bool.or_eq_true, decide_eq_true_eq]; omega
  unfold sortI
  refine List.Perm.eq_of_pairwise (le := fun a b : Int => decide (a ≤ b) = true) (fun a b _ _ h1 h2 => ?_) (List.pairwise_mergeSort tr to _) (List.pairwise_mergeSort tr to _) (((List.mergeSort_perm _ _).trans h).trans (List.mergeSort_perm _ _).symm)
  simp only [decide_eq_true_eq] at h1 h2; omega
theorem selK_range (f : Cl → Bool) : ∀ (kv : List (Int × Cl)), selK kv f (List.range kv.length) = (kv.filter fun p => f p.2).map (·.1)
  | [] => rfl
  | p :: kv => by
    have ih := selK_range f kv
    unfold selK at ih ⊢
    rw [List.length_cons, List.range_succ_eq_map, List.filterMap_cons, List.filterMap_map]
    have e : ((fun j => match (p :: kv)[j]? with | some p => if f p.2 then some p.1 else none | none => none) ∘ Nat.succ) = fun j => match kv[j]? with | some p => if f p.2 then some p.1 else none | none => none := by
      funext j; simp
    rw [e, ih]; simp only [List.getElem?_cons_zero, List.filter_cons]
    cases f p.2 <;> simp
theorem sel_all {kv : List (Int × Cl)} {f : Cl → Bool} {seen : List Nat} (hn : seen.Nodup) (hb : ∀ j ∈ seen, j < kv.length) (ha : ∀ j, j < kv.length → j ∈ seen) : sortI (selK kv f seen) = keysF kv f := by
  unfold keysF; rw [← selK_range]; refine sortI_perm ?_
  have hp : seen.Perm (List.range kv.length) := (List.perm_ext_iff_of_nodup hn List.nodup_range).2 fun j => by rw [List.mem_range]; exact ⟨hb j, ha j⟩
  exact hp.filterMap _
theorem sortI_len (l : List Int) : (sortI l).length = l.length := by unfold sortI; simp
theorem walk_lt {kv : List (Int × Cl)} {seen : List Nat} {j : Nat} {p : Int × Cl} (hn : seen.Nodup) (hb : ∀ j ∈ seen, j < kv.length) (hj : kv[j]? = some p) (hs : j ∉ seen) : (seen ++ [j]).Nodup ∧ (∀ i ∈ seen ++ [j], i < kv.length) ∧ seen.length < kv.length := by
  have hl := (List.getElem?_eq_some_iff.1 hj).1
  have h1 : (seen ++ [j]).Nodup := List.nodup_append.2 ⟨hn, by simp, fun a ha b hb e => by simp at hb; subst hb; subst e; exact hs ha⟩
  have h2 : ∀ i ∈ seen ++ [j], i < kv.length := fun i hi => by
    rcases List.mem_append.1 hi with hi | hi
    · exact hb i hi
    · simp at hi; omega
  have := nodup_le h1 h2
  exact ⟨h1, h2, by simp at this; omega⟩
theorem sort_nil : sortI [] = [] := by simp [sortI]
abbrev mHI (b : Nat) (kv : List (Int × Cl)) : V.Item := mapI (fun k : Int => i_ k) (fun v_ : Cl => (.agg (encCl v_).toArray)) b kv

open Go.RowKit Go.Maps Go.Sort Go.Shelf
def Tryz.sortA_ren : Go.Shelf.Ren := ⟨fun | 5 => 32 | 8 => 59 | 7 => 58 | 19 => 96 | 20 => 97 | 10 => 87 | 11 => 88 | 12 => 89 | 13 => 90 | 14 => 91 | 15 => 92 | 16 => 93 | 17 => 94 | 18 => 95 | 30 => 115 | 31 => 116 | 32 => 117 | 33 => 118 | 34 => 119 | 35 => 120 | 40 => 127 | n => n, fun | 23 => 36 | 25 => 3 | 3 => 3 | 32 => 94 | 22 => 36 | 0 => 0 | 44 => 131 | 46 => 44 | 4 => 4 | 36 => 123 | 35 => 122 | 41 => 128 | 5 => 5 | 9 => 9 | 53 => 149 | 57 => 153 | 63 => 161 | 64 => 162 | n => n, fun | n => n⟩
theorem Tryz.sortA : Go.Proofs.SlLaysM.n5 Tryz.prog Tryz.sortA_ren := {
  mixed := by kernel_rfl,
  f5 := ⟨Tryz.f32.name, by decide, Tryz.func32.trans (congrArg some (by kernel_rfl))⟩,
  f7 := ⟨Tryz.f58.name, by decide, Tryz.func58.trans (congrArg some (by kernel_rfl))⟩,
  f8 := Tryz.func59.trans (congrArg some (by kernel_rfl)),
  f10 := ⟨Tryz.f87.name, by decide, Tryz.func87.trans (congrArg some (by kernel_rfl))⟩,
  f11 := ⟨Tryz.f88.name, by decide, Tryz.func88.trans (congrArg some (by kernel_rfl))⟩,
  f12 := ⟨Tryz.f89.name, by decide, Tryz.func89.trans (congrArg some (by kernel_rfl))⟩,
  f13 := ⟨Tryz.f90.name, by decide, Tryz.func90.trans (congrArg some (by kernel_rfl))⟩,
  f14 := ⟨Tryz.f91.name, by decide, Tryz.func91.trans (congrArg some (by kernel_rfl))⟩,
  f15 := ⟨Tryz.f92.name, by decide, Tryz.func92.trans (congrArg some (by kernel_rfl))⟩,
  f16 := ⟨Tryz.f93.name, by decide, Tryz.func93.trans (congrArg some (by kernel_rfl))⟩,
  f17 := ⟨Tryz.f94.name, by decide, Tryz.func94.trans (congrArg some (by kernel_rfl))⟩,
  f18 := ⟨Tryz.f95.name, by decide, Tryz.func95.trans (congrArg some (by kernel_rfl))⟩,
  f19 := Tryz.func96.trans (congrArg some (by kernel_rfl)),
  f20 := Tryz.func97.trans (congrArg some (by kernel_rfl)),
  f30 := ⟨Tryz.f115.name, by decide, Tryz.func115.trans (congrArg some (by kernel_rfl))⟩,
  f31 := Tryz.func116.trans (congrArg some (by kernel_rfl)),
  f32 := Tryz.func117.trans (congrArg some (by kernel_rfl)),
  f33 := ⟨Tryz.f118.name, by decide, Tryz.func118.trans (congrArg some (by kernel_rfl))⟩,
  f34 := ⟨Tryz.f119.name, by decide, Tryz.func119.trans (congrArg some (by kernel_rfl))⟩,
  f35 := ⟨Tryz.f120.name, by decide, Tryz.func120.trans (congrArg some (by kernel_rfl))⟩,
  f40 := ⟨Tryz.f127.name, by decide, Tryz.func127.trans (congrArg some (by kernel_rfl))⟩,
  t0 := Tryz.underlying0,
  a0 := Tryz.isAgg0,
  z0 := Tryz.sizeOf0,
  v0 := Tryz.zeroValue0,
  t3 := Tryz.underlying3,
  a3 := Tryz.isAgg3,
  z3 := Tryz.sizeOf3,
  v3 := Tryz.zeroValue3,
  t4 := Tryz.underlying4,
  a4 := Tryz.isAgg4,
  z4 := Tryz.sizeOf4,
  v4 := Tryz.zeroValue4,
  t5 := Tryz.underlying5,
  a5 := Tryz.isAgg5,
  z5 := Tryz.sizeOf5,
  v5 := Tryz.zeroValue5,
  t9 := Tryz.underlying9,
  a9 := Tryz.isAgg9,
  z9 := Tryz.sizeOf9,
  v9 := Tryz.zeroValue9,
  t22 := Tryz.underlying36,
  a22 := Tryz.isAgg36,
  z22 := Tryz.sizeOf36,
  v22 := Tryz.zeroValue36,
  t23 := Tryz.underlying36,
  a23 := Tryz.isAgg36,
  z23 := Tryz.sizeOf36,
  v23 := Tryz.zeroValue36,
  t25 := Tryz.underlying3,
  a25 := Tryz.isAgg3,
  z25 := Tryz.sizeOf3,
  v25 := Tryz.zeroValue3,
  t32 := Tryz.underlying94,
  a32 := Tryz.isAgg94,
  z32 := Tryz.sizeOf94,
  v32 := Tryz.zeroValue94,
  t35 := Tryz.underlying122,
  a35 := Tryz.isAgg122,
  z35 := Tryz.sizeOf122,
  v35 := Tryz.zeroValue122,
  t36 := Tryz.underlying123,
  a36 := Tryz.isAgg123,
  z36 := Tryz.sizeOf123,
  v36 := Tryz.zeroValue123,
  t41 := Tryz.underlying128,
  a41 := Tryz.isAgg128,
  z41 := Tryz.sizeOf128,
  v41 := Tryz.zeroValue128,
  t44 := Tryz.underlying131,
  a44 := Tryz.isAgg131,
  z44 := Tryz.sizeOf131,
  v44 := Tryz.zeroValue131,
  t46 := Tryz.underlying44,
  a46 := Tryz.isAgg44,
  z46 := Tryz.sizeOf44,
  v46 := Tryz.zeroValue44,
  t53 := Tryz.underlying149,
  a53 := Tryz.isAgg149,
  z53 := Tryz.sizeOf149,
  v53 := Tryz.zeroValue149,
  t57 := Tryz.underlying153,
  a57 := Tryz.isAgg153,
  z57 := Tryz.sizeOf153,
  v57 := Tryz.zeroValue153,
  t63 := Tryz.underlying161,
  a63 := Tryz.isAgg161,
  z63 := Tryz.sizeOf161,
  v63 := Tryz.zeroValue161,
  t64 := Tryz.underlying162,
  a64 := Tryz.isAgg162,
  z64 := Tryz.sizeOf162,
  v64 := Tryz.zeroValue162 }


theorem sort_spec (A : Option Addr) (l : List Int) (c : Nat) (hl : l.length ≤ 100000) (w : World) (hs : HS w (feet [sI A l c]) [sI A l c] w) :
    Calls Tryz.prog 32 #[vS A l c] w fun e w' => ∃ zz, e = .returned ((fun (zz : Unit) => (.tuple #[])) zz) ∧ (fun (zz : Unit) => True) zz ∧ Turn [sI A l c] ((fun (zz : Unit) => [sI A (sortI l) c]) zz) w w' := by
  have h0 : (sI A l c).holds w := hs.all _ (by simp)
  cases A with
  | none =>
    have hl0 : l = [] := by
      obtain ⟨_, h2, _, ⟨_, h4⟩ | ⟨_, _, _, h4, _⟩⟩ := h0
      · exact List.eq_nil_of_length_eq_zero (by omega)
      · cases h4
    subst hl0
    refine (AnyM.slices_Sort_int_none Tryz.sortA none c w).mono ?_
    rintro e w' ⟨rfl, rfl⟩
    refine ⟨(), rfl, trivial, ?_⟩
    show Turn _ [sl none (sortI []).length c 3 1 (V.flat encI (sortI []))] _ _
    rw [sort_nil]; exact Turn.of hs (List.Sublist.refl _)
  | some a =>
    obtain ⟨g, off, rfl⟩ : ∃ g off, a = ⟨g, off, none⟩ := by
      obtain ⟨_, _, _, ⟨h4, _⟩ | ⟨g, off, _, h4, _⟩⟩ := id h0
      · cases h4
      · cases h4; exact ⟨g, off, rfl⟩
    obtain ⟨hH, hlt⟩ := sl_Holds (fun _ => rfl) h0
    refine (AnyM.slices_Sort_int Tryz.sortA g off c l w hH hlt (by omega)).mono ?_
    rintro e w' ⟨rfl, k, os, rfl⟩
    exact ⟨(), rfl, trivial, sl_sorted (fun _ => rfl) (by simp [sortI]) h0⟩
end Go.Proofs.YtinnnoimmioaiaaGreat
