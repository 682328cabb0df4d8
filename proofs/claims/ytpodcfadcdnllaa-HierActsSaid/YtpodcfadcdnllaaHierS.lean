/- What the functions of this layer do, proved operation by operation, for all arguments, under the conditions that each theorem states. -/
import Derived.Shelf.SortM.Plain
import Derived.Shelf.SortM.SortNone
import Derived.Ground.SlgmProg
import Derived.Test.YtpodcfadcdnllaaProg
import Derived.Test.YtpodcfadcdnllaaVr
import Derived.Test.YtpodcfadcdnllaaVo
namespace Go.Proofs.Ytpodcfadcdnllaa
open Go V
set_option linter.unusedVariables false
set_option linter.unusedSimpArgs false
def encI (x : Int) : List Value := [(i_ x)]
theorem encI_len (x : Int) : (encI x).length = 1 := rfl
theorem encI_one (x : Int) : (encI x).all Value.oneCell' = true := rfl
structure Cl where
  hi : Int
  hp : Int
  hl : Bool
  ra : Int
  rb : Int
  rc : Int
  la : Int
  lb : Int
  lc : Int
  ua : Int
  ub : Int
  uc : Int
  hk : Int
  hq : Int
  deriving Inhabited, DecidableEq
def encCl (x : Cl) : List Value := [(i_ x.hi), (i_ x.hp), (b_ x.hl), (u_ x.ra), (u_ x.rb), (u_ x.rc), (u_ x.la), (u_ x.lb), (u_ x.lc), (u_ x.ua), (u_ x.ub), (u_ x.uc), (i_ x.hk), (i_ x.hq)]
theorem encCl_len (x : Cl) : (encCl x).length = 14 := rfl
theorem encCl_one (x : Cl) : (encCl x).all Value.oneCell' = true := rfl
def cl0 : Cl := ⟨0, 0, false, 0, 0, 0, 0, 0, 0, 0, 0, 0, 0, 0⟩
theorem keyOk_I : KeyOk Try.prog 3 (fun k : Int => i_ k) := keyOk_int (by kernel_rfl)
def sortI (l : List Int) : List Int := l.mergeSort fun x y => decide (x ≤ y)
/-- of the entries that have come, in that order, the keys of those of which something is so -/
def selK (kv : List (Int × Cl)) (f : Cl → Bool) (seen : List Nat) : List Int := seen.filterMap fun j => match kv[j]? with | some p => if f p.2 then some p.1 else none | none => none
theorem selK_t {kv : List (Int × Cl)} {f : Cl → Bool} {seen : List Nat} {j : Nat} {k : Int} {v : Cl} (h : kv[j]? = some (k, v)) (hf : f v = true) : selK kv f seen ++ [k] = selK kv f (seen ++ [j]) := by unfold selK; rw [List.filterMap_append]; simp [h, hf]
theorem selK_f {kv : List (Int × Cl)} {f : Cl → Bool} {seen : List Nat} {j : Nat} {k : Int} {v : Cl} (h : kv[j]? = some (k, v)) (hf : f v = false) : selK kv f seen = selK kv f (seen ++ [j]) := by unfold selK; rw [List.filterMap_append]; simp [h, hf]
theorem selK_len (kv : List (Int × Cl)) (f : Cl → Bool) (seen : List Nat) : (selK kv f seen).length ≤ seen.length := List.length_filterMap_le _ _
theorem nodup_le : ∀ {n : Nat} {l : List Nat}, l.Nodup → (∀ j ∈ l, j < n) → l.length ≤ n
  | 0, l, _, h => by
    cases l with
    | nil => simp
    | cons a l => exact absurd (h a (by simp)) (by omega)
  | n + 1, l, hn, h => by
    have h1 := nodup_le (n := n) (l := l.erase n) (hn.erase n) (fun j hj => by have h2 := (hn.mem_erase_iff).1 hj; have := h j h2.2; have := h2.1; omega)
    rw [List.length_erase] at h1; split at h1 <;> omega
def keysF (kv : List (Int × Cl)) (f : Cl → Bool) : List Int := sortI ((kv.filter fun p => f p.2).map (·.1))
theorem sortI_perm {a b : List Int} (h : a.Perm b) : sortI a = sortI b := by
  have tr : ∀ a b c : Int, decide (a ≤ b) = true → decide (b ≤ c) = true → decide (a ≤ c) = true := fun a b c h1 h2 => by simp only [decide_eq_true_eq] at *; omega
  have to : ∀ a b : Int, (decide (a ≤ b) || decide (b ≤ a)) = true := fun a b => by simp only [Bool.or_eq_true, decide_eq_true_eq]; omega
  unfold sortI
  refine List.Perm.eq_of_pairwise (le := fun a b : Int => decide (a ≤ b) = true) (fun a b _ _ h1 h2 => ?_) (List.pairwise_mergeSort tr to _) (List.pairwise_mergeSort tr to _) (((List.mergeSort_perm _ _).trans h).trans (List.mergeSort_perm _ _).symm)
  simp only [decide_eq_true_eq] at h1 h2; omega
theorem selK_range (f : Cl → Bool) : ∀ (kv : List (Int × Cl)), selK kv f (List.range kv.length) = (kv.filter fun p => f p.2).map (·.1)
  | [] => rfl
  | p :: kv => by
    have ih := selK_range f kv
    unfold selK at ih ⊢
    rw [List.length_cons, List.range_succ_eq_map, List.filterMap_cons, List.filterMap_map]
    have e : ((fun j => match (p :: kv)[j]? with | some p => if f p.2 then some p.1 else none | none => none) ∘ Nat.succ) = fun j => match kv[j]? with | some p => if f p.2 then some p.1 else none | none => none := by
      funext j; simp
    rw [e, ih]; simp only [List.getElem?_cons_zero, List.filter_cons]
    cases f p.2 <;> simp
theorem sel_all {kv : List (Int × Cl)} {f : Cl → Bool} {seen : List Nat} (hn : seen.Nodup) (hb : ∀ j ∈ seen, j < kv.length) (ha : ∀ j, j < kv.length → j ∈ seen) : sortI (selK kv f seen) = keysF kv f := by
  unfold keysF; rw [← selK_range]; refine sortI_perm ?_
  have hp : seen.Perm (List.range kv.length) := (List.perm_ext_iff_of_nodup hn List.nodup_range).2 fun j => by rw [List.mem_range]; exact ⟨hb j, ha j⟩
  exact hp.filterMap _
theorem sortI_len (l : List Int) : (sortI l).length = l.length := by unfold sortI; simp
theorem walk_lt {kv : List (Int × Cl)} {seen : List Nat} {j : Nat} {p : Int × Cl} (hn : seen.Nodup) (hb : ∀ j ∈ seen, j < kv.length) (hj : kv[j]? = some p) (hs : j ∉ seen) : (seen ++ [j]).Nodup ∧ (∀ i ∈ seen ++ [j], i < kv.length) ∧ seen.length < kv.length := by
  have hl := (List.getElem?_eq_some_iff.1 hj).1
  have h1 : (seen ++ [j]).Nodup := List.nodup_append.2 ⟨hn, by simp, fun a ha b hb e => by simp at hb; subst hb; subst e; exact hs ha⟩
  have h2 : ∀ i ∈ seen ++ [j], i < kv.length := fun i hi => by
    rcases List.mem_append.1 hi with hi | hi
    · exact hb i hi
    · simp at hi; omega
  have := nodup_le h1 h2
  exact ⟨h1, h2, by simp at this; omega⟩
theorem sort_nil : sortI [] = [] := by simp [sortI]

open Go.RowKit Go.Maps Go.Sort Go.Shelf
def Try.sortA_ren : Go.Shelf.Ren := ⟨fun | 5 => 40 | 8 => 54 | 7 => 53 | 19 => 64 | 20 => 65 | 10 => 55 | 11 => 56 | 12 => 57 | 13 => 58 | 14 => 59 | 15 => 60 | 16 => 61 | 17 => 62 | 18 => 63 | 30 => 66 | 31 => 67 | 32 => 68 | 33 => 69 | 34 => 70 | 35 => 71 | 40 => 72 | n => n, fun | 23 => 35 | 25 => 3 | 3 => 3 | 32 => 81 | 22 => 35 | 0 => 0 | 44 => 92 | 46 => 26 | 4 => 4 | 36 => 84 | 35 => 83 | 41 => 89 | 5 => 5 | 9 => 9 | 53 => 94 | 57 => 98 | 63 => 100 | 64 => 101 | n => n, fun | n => n⟩
theorem Try.sortA : Go.Proofs.SlLaysM.n5 Try.prog Try.sortA_ren := {
  mixed := by kernel_rfl,
  f5 := ⟨Try.f40.name, by decide, Try.func40.trans (congrArg some (by kernel_rfl))⟩,
  f7 := ⟨Try.f53.name, by decide, Try.func53.trans (congrArg some (by kernel_rfl))⟩,
  f8 := Try.func54.trans (congrArg some (by kernel_rfl)),
  f10 := ⟨Try.f55.name, by decide, Try.func55.trans (congrArg some (by kernel_rfl))⟩,
  f11 := ⟨Try.f56.name, by decide, Try.func56.trans (congrArg some (by kernel_rfl))⟩,
  f12 := ⟨Try.f57.name, by decide, Try.func57.trans (congrArg some (by kernel_rfl))⟩,
  f13 := ⟨Try.f58.name, by decide, Try.func58.trans (congrArg some (by kernel_rfl))⟩,
  f14 := ⟨Try.f59.name, by decide, Try.func59.trans (congrArg some (by kernel_rfl))⟩,
  f15 := ⟨Try.f60.name, by decide, Try.func60.trans (congrArg some (by kernel_rfl))⟩,
  f16 := ⟨Try.f61.name, by decide, Try.func61.trans (congrArg some (by kernel_rfl))⟩,
  f17 := ⟨Try.f62.name, by decide, Try.func62.trans (congrArg some (by kernel_rfl))⟩,
  f18 := ⟨Try.f63.name, by decide, Try.func63.trans (congrArg some (by kernel_rfl))⟩,
  f19 := Try.func64.trans (congrArg some (by kernel_rfl)),
  f20 := Try.func65.trans (congrArg some (by kernel_rfl)),
  f30 := ⟨Try.f66.name, by decide, Try.func66.trans (congrArg some (by kernel_rfl))⟩,
  f31 := Try.func67.trans (congrArg some (by kernel_rfl)),
  f32 := Try.func68.trans (congrArg some (by kernel_rfl)),
  f33 := ⟨Try.f69.name, by decide, Try.func69.trans (congrArg some (by kernel_rfl))⟩,
  f34 := ⟨Try.f70.name, by decide, Try.func70.trans (congrArg some (by kernel_rfl))⟩,
  f35 := ⟨Try.f71.name, by decide, Try.func71.trans (congrArg some (by kernel_rfl))⟩,
  f40 := ⟨Try.f72.name, by decide, Try.func72.trans (congrArg some (by kernel_rfl))⟩,
  t0 := Try.underlying0,
  a0 := Try.isAgg0,
  z0 := Try.sizeOf0,
  v0 := Try.zeroValue0,
  t3 := Try.underlying3,
  a3 := Try.isAgg3,
  z3 := Try.sizeOf3,
  v3 := Try.zeroValue3,
  t4 := Try.underlying4,
  a4 := Try.isAgg4,
  z4 := Try.sizeOf4,
  v4 := Try.zeroValue4,
  t5 := Try.underlying5,
  a5 := Try.isAgg5,
  z5 := Try.sizeOf5,
  v5 := Try.zeroValue5,
  t9 := Try.underlying9,
  a9 := Try.isAgg9,
  z9 := Try.sizeOf9,
  v9 := Try.zeroValue9,
  t22 := Try.underlying35,
  a22 := Try.isAgg35,
  z22 := Try.sizeOf35,
  v22 := Try.zeroValue35,
  t23 := Try.underlying35,
  a23 := Try.isAgg35,
  z23 := Try.sizeOf35,
  v23 := Try.zeroValue35,
  t25 := Try.underlying3,
  a25 := Try.isAgg3,
  z25 := Try.sizeOf3,
  v25 := Try.zeroValue3,
  t32 := Try.underlying81,
  a32 := Try.isAgg81,
  z32 := Try.sizeOf81,
  v32 := Try.zeroValue81,
  t35 := Try.underlying83,
  a35 := Try.isAgg83,
  z35 := Try.sizeOf83,
  v35 := Try.zeroValue83,
  t36 := Try.underlying84,
  a36 := Try.isAgg84,
  z36 := Try.sizeOf84,
  v36 := Try.zeroValue84,
  t41 := Try.underlying89,
  a41 := Try.isAgg89,
  z41 := Try.sizeOf89,
  v41 := Try.zeroValue89,
  t44 := Try.underlying92,
  a44 := Try.isAgg92,
  z44 := Try.sizeOf92,
  v44 := Try.zeroValue92,
  t46 := Try.underlying26,
  a46 := Try.isAgg26,
  z46 := Try.sizeOf26,
  v46 := Try.zeroValue26,
  t53 := Try.underlying94,
  a53 := Try.isAgg94,
  z53 := Try.sizeOf94,
  v53 := Try.zeroValue94,
  t57 := Try.underlying98,
  a57 := Try.isAgg98,
  z57 := Try.sizeOf98,
  v57 := Try.zeroValue98,
  t63 := Try.underlying100,
  a63 := Try.isAgg100,
  z63 := Try.sizeOf100,
  v63 := Try.zeroValue100,
  t64 := Try.underlying101,
  a64 := Try.isAgg101,
  z64 := Try.sizeOf101,
  v64 := Try.zeroValue101 }


theorem sort_spec (A : Option Addr) (l : List Int) (c : Nat) (hl : l.length ≤ 100000) (w : World) (hs : HS w (feet [sl A (l.length) c 3 1 (V.flat encI l)]) [sl A (l.length) c 3 1 (V.flat encI l)] w) :
    Calls Try.prog 40 #[(.slice A l.length c)] w fun e w' => ∃ zz, e = .returned ((fun (zz : Unit) => (.tuple #[])) zz) ∧ (fun (zz : Unit) => True) zz ∧ Turn [sl A (l.length) c 3 1 (V.flat encI l)] ((fun (zz : Unit) => [sl A ((sortI l).length) c 3 1 (V.flat encI (sortI l))]) zz) w w' := by
  have h0 : (sl A l.length c 3 1 (V.flat encI l)).holds w := hs.all _ (by simp)
  cases A with
  | none =>
    have hl0 : l = [] := by
      obtain ⟨_, h2, _, ⟨_, h4⟩ | ⟨_, _, _, h4, _⟩⟩ := h0
      · exact List.eq_nil_of_length_eq_zero (by omega)
      · cases h4
    subst hl0
    refine (AnyM.slices_Sort_int_none Try.sortA none c w).mono ?_
    rintro e w' ⟨rfl, rfl⟩
    refine ⟨(), rfl, trivial, ?_⟩
    show Turn _ [sl none (sortI []).length c 3 1 (V.flat encI (sortI []))] _ _
    rw [sort_nil]; exact Turn.of hs (List.Sublist.refl _)
  | some a =>
    obtain ⟨g, off, rfl⟩ : ∃ g off, a = ⟨g, off, none⟩ := by
      obtain ⟨_, _, _, ⟨h4, _⟩ | ⟨g, off, _, h4, _⟩⟩ := id h0
      · cases h4
      · cases h4; exact ⟨g, off, rfl⟩
    obtain ⟨hH, hlt⟩ := sl_Holds (fun _ => rfl) h0
    refine (AnyM.slices_Sort_int Try.sortA g off c l w hH hlt (by omega)).mono ?_
    rintro e w' ⟨rfl, k, os, rfl⟩
    exact ⟨(), rfl, trivial, sl_sorted (fun _ => rfl) (by simp [sortI]) h0⟩
end Go.Proofs.Ytpodcfadcdnllaa
