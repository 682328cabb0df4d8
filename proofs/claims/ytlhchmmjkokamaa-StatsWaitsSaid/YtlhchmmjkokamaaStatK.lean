/- What the functions of this layer do, proved operation by operation, for all arguments, under the conditions that each theorem states. -/
import Derived.Shelf.SlIterI.Nil
import Derived.Shelf.SortM.Plain
import Derived.Shelf.SortM.SortNone
import Derived.Ground.GgzProg
import Derived.Ground.SlgmProg
import Derived.Test.YtlhchmmjkokamaaProg
import Derived.Test.YtlhchmmjkokamaaStat3
namespace Go.Proofs.Ytlhchmmjkokamaa
open Go V
set_option linter.unusedVariables false
set_option linter.unusedSimpArgs false

open Go.RowKit Go.Maps Go.Sort Go.Shelf
def Try.keysA_ren : Go.Shelf.Ren := ⟨fun | 7 => 23 | 10 => 26 | n => n, fun | 23 => 55 | 26 => 3 | 3 => 52 | 28 => 61 | 0 => 0 | 27 => 60 | 33 => 64 | 4 => 4 | n => n, fun | n => n⟩
theorem Try.keysA : Go.Proofs.SlLaysZI.n7 Try.prog Try.keysA_ren := {
  mixed := by kernel_rfl,
  f7 := ⟨Try.f23.name, by decide, Try.func23.trans (congrArg some (by kernel_rfl))⟩,
  f10 := ⟨Try.f26.name, by decide, Try.func26.trans (congrArg some (by kernel_rfl))⟩,
  t0 := Try.underlying0,
  a0 := Try.isAgg0,
  z0 := Try.sizeOf0,
  v0 := Try.zeroValue0,
  t4 := Try.underlying4,
  a4 := Try.isAgg4,
  z4 := Try.sizeOf4,
  v4 := Try.zeroValue4,
  t23 := Try.underlying55,
  a23 := Try.isAgg55,
  z23 := Try.sizeOf55,
  v23 := Try.zeroValue55,
  t26 := Try.underlying3,
  a26 := Try.isAgg3,
  z26 := Try.sizeOf3,
  v26 := Try.zeroValue3,
  t27 := Try.underlying60,
  a27 := Try.isAgg60,
  z27 := Try.sizeOf60,
  v27 := Try.zeroValue60,
  t28 := Try.underlying61,
  a28 := Try.isAgg61,
  z28 := Try.sizeOf61,
  v28 := Try.zeroValue61,
  t33 := Try.underlying64,
  a33 := Try.isAgg64,
  z33 := Try.sizeOf64,
  v33 := Try.zeroValue64 }

def Try.sortedA_ren : Go.Shelf.Ren := ⟨fun | 6 => 22 | 8 => 24 | 9 => 25 | 11 => 27 | 13 => 29 | 12 => 28 | 23 => 39 | 24 => 40 | 14 => 30 | 15 => 31 | 16 => 32 | 17 => 33 | 18 => 34 | 19 => 35 | 20 => 36 | 21 => 37 | 22 => 38 | 25 => 41 | 26 => 42 | 27 => 43 | 28 => 44 | 29 => 45 | 30 => 46 | 31 => 47 | n => n, fun | 26 => 3 | 28 => 61 | 24 => 48 | 0 => 0 | 3 => 3 | 37 => 68 | 48 => 79 | 50 => 27 | 4 => 4 | 40 => 71 | 39 => 70 | 45 => 76 | 5 => 5 | 9 => 9 | 51 => 81 | 55 => 85 | 57 => 87 | 58 => 88 | 33 => 64 | n => n, fun | n => n⟩
theorem Try.sortedA : Go.Proofs.SlLaysZI.n6 Try.prog Try.sortedA_ren := {
  mixed := by kernel_rfl,
  f6 := ⟨Try.f22.name, by decide, Try.func22.trans (congrArg some (by kernel_rfl))⟩,
  f8 := ⟨Try.f24.name, by decide, Try.func24.trans (congrArg some (by kernel_rfl))⟩,
  f11 := ⟨Try.f27.name, by decide, Try.func27.trans (congrArg some (by kernel_rfl))⟩,
  t0 := Try.underlying0,
  a0 := Try.isAgg0,
  z0 := Try.sizeOf0,
  v0 := Try.zeroValue0,
  t24 := Try.underlying48,
  a24 := Try.isAgg48,
  z24 := Try.sizeOf48,
  v24 := Try.zeroValue48,
  t26 := Try.underlying3,
  a26 := Try.isAgg3,
  z26 := Try.sizeOf3,
  v26 := Try.zeroValue3,
  t28 := Try.underlying61,
  a28 := Try.isAgg61,
  z28 := Try.sizeOf61,
  v28 := Try.zeroValue61,
  i26 := by kernel_rfl }

def Try.sortA_ren : Go.Shelf.Ren := ⟨fun | 5 => 25 | 8 => 29 | 7 => 28 | 19 => 39 | 20 => 40 | 10 => 30 | 11 => 31 | 12 => 32 | 13 => 33 | 14 => 34 | 15 => 35 | 16 => 36 | 17 => 37 | 18 => 38 | 30 => 41 | 31 => 42 | 32 => 43 | 33 => 44 | 34 => 45 | 35 => 46 | 40 => 47 | n => n, fun | 23 => 48 | 25 => 3 | 3 => 3 | 32 => 68 | 22 => 48 | 0 => 0 | 44 => 79 | 46 => 27 | 4 => 4 | 36 => 71 | 35 => 70 | 41 => 76 | 5 => 5 | 9 => 9 | 53 => 81 | 57 => 85 | 63 => 87 | 64 => 88 | n => n, fun | n => n⟩
theorem Try.sortA : Go.Proofs.SlLaysM.n5 Try.prog Try.sortA_ren := {
  mixed := by kernel_rfl,
  f5 := ⟨Try.f25.name, by decide, Try.func25.trans (congrArg some (by kernel_rfl))⟩,
  f7 := ⟨Try.f28.name, by decide, Try.func28.trans (congrArg some (by kernel_rfl))⟩,
  f8 := Try.func29.trans (congrArg some (by kernel_rfl)),
  f10 := ⟨Try.f30.name, by decide, Try.func30.trans (congrArg some (by kernel_rfl))⟩,
  f11 := ⟨Try.f31.name, by decide, Try.func31.trans (congrArg some (by kernel_rfl))⟩,
  f12 := ⟨Try.f32.name, by decide, Try.func32.trans (congrArg some (by kernel_rfl))⟩,
  f13 := ⟨Try.f33.name, by decide, Try.func33.trans (congrArg some (by kernel_rfl))⟩,
  f14 := ⟨Try.f34.name, by decide, Try.func34.trans (congrArg some (by kernel_rfl))⟩,
  f15 := ⟨Try.f35.name, by decide, Try.func35.trans (congrArg some (by kernel_rfl))⟩,
  f16 := ⟨Try.f36.name, by decide, Try.func36.trans (congrArg some (by kernel_rfl))⟩,
  f17 := ⟨Try.f37.name, by decide, Try.func37.trans (congrArg some (by kernel_rfl))⟩,
  f18 := ⟨Try.f38.name, by decide, Try.func38.trans (congrArg some (by kernel_rfl))⟩,
  f19 := Try.func39.trans (congrArg some (by kernel_rfl)),
  f20 := Try.func40.trans (congrArg some (by kernel_rfl)),
  f30 := ⟨Try.f41.name, by decide, Try.func41.trans (congrArg some (by kernel_rfl))⟩,
  f31 := Try.func42.trans (congrArg some (by kernel_rfl)),
  f32 := Try.func43.trans (congrArg some (by kernel_rfl)),
  f33 := ⟨Try.f44.name, by decide, Try.func44.trans (congrArg some (by kernel_rfl))⟩,
  f34 := ⟨Try.f45.name, by decide, Try.func45.trans (congrArg some (by kernel_rfl))⟩,
  f35 := ⟨Try.f46.name, by decide, Try.func46.trans (congrArg some (by kernel_rfl))⟩,
  f40 := ⟨Try.f47.name, by decide, Try.func47.trans (congrArg some (by kernel_rfl))⟩,
  t0 := Try.underlying0,
  a0 := Try.isAgg0,
  z0 := Try.sizeOf0,
  v0 := Try.zeroValue0,
  t3 := Try.underlying3,
  a3 := Try.isAgg3,
  z3 := Try.sizeOf3,
  v3 := Try.zeroValue3,
  t4 := Try.underlying4,
  a4 := Try.isAgg4,
  z4 := Try.sizeOf4,
  v4 := Try.zeroValue4,
  t5 := Try.underlying5,
  a5 := Try.isAgg5,
  z5 := Try.sizeOf5,
  v5 := Try.zeroValue5,
  t9 := Try.underlying9,
  a9 := Try.isAgg9,
  z9 := Try.sizeOf9,
  v9 := Try.zeroValue9,
  t22 := Try.underlying48,
  a22 := Try.isAgg48,
  z22 := Try.sizeOf48,
  v22 := Try.zeroValue48,
  t23 := Try.underlying48,
  a23 := Try.isAgg48,
  z23 := Try.sizeOf48,
  v23 := Try.zeroValue48,
  t25 := Try.underlying3,
  a25 := Try.isAgg3,
  z25 := Try.sizeOf3,
  v25 := Try.zeroValue3,
  t32 := Try.underlying68,
  a32 := Try.isAgg68,
  z32 := Try.sizeOf68,
  v32 := Try.zeroValue68,
  t35 := Try.underlying70,
  a35 := Try.isAgg70,
  z35 := Try.sizeOf70,
  v35 := Try.zeroValue70,
  t36 := Try.underlying71,
  a36 := Try.isAgg71,
  z36 := Try.sizeOf71,
  v36 := Try.zeroValue71,
  t41 := Try.underlying76,
  a41 := Try.isAgg76,
  z41 := Try.sizeOf76,
  v41 := Try.zeroValue76,
  t44 := Try.underlying79,
  a44 := Try.isAgg79,
  z44 := Try.sizeOf79,
  v44 := Try.zeroValue79,
  t46 := Try.underlying27,
  a46 := Try.isAgg27,
  z46 := Try.sizeOf27,
  v46 := Try.zeroValue27,
  t53 := Try.underlying81,
  a53 := Try.isAgg81,
  z53 := Try.sizeOf81,
  v53 := Try.zeroValue81,
  t57 := Try.underlying85,
  a57 := Try.isAgg85,
  z57 := Try.sizeOf85,
  v57 := Try.zeroValue85,
  t63 := Try.underlying87,
  a63 := Try.isAgg87,
  z63 := Try.sizeOf87,
  v63 := Try.zeroValue87,
  t64 := Try.underlying88,
  a64 := Try.isAgg88,
  z64 := Try.sizeOf88,
  v64 := Try.zeroValue88 }


theorem sortsA (m : Nat) : AnyZI.SortsIn Try.prog Try.sortedA_ren Fence.wide m :=
  ⟨fun blk off cap ss W hH hblk hsz => callsIn_wide.2 (AnyM.slices_Sort_int Try.sortA blk off cap ss W hH hblk hsz),
   fun p cap W => callsIn_wide.2 (AnyM.slices_Sort_int_none Try.sortA p cap W)⟩

theorem keys_spec (mb : Nat) (w : World) (hs : HS w (feet []) [] w) :
    Calls Try.prog 23 #[(.map (some mb))] w fun e w' => ∃ zz, e = .returned ((fun (bx : Nat) => (.func (.func 26) #[] #[(p_ bx)])) zz) ∧ (fun (bx : Nat) => True) zz ∧ Turn [] ((fun (bx : Nat) => [blk bx [(.map (some mb))] 55]) zz) w w' := by
  have cK : CallsIn Fence.wide 5 Try.prog 23 #[.map (some mb)] w fun e w' => e = .returned (.func (.func 26) #[] #[.pointer (some ⟨w.heap.size, 0, none⟩)]) ∧ w' = w.alloc (.cells #[.map (some mb)] 55) := AnyZI.keys_in Try.keysA Fence.wide 5 trivial rfl (some mb) w
  refine ((callsIn_wide (n := 5)).1 cK).mono ?_
  rintro e w' ⟨rfl, rfl⟩
  refine ⟨w.heap.size, rfl, trivial, ⟨Fr.alloc _ _ _, ?_, by simp [feet, blk], by simp [feet, blk]⟩⟩
  intro it hi; simp only [List.mem_singleton] at hi; subst hi
  exact heap_alloc_new w _

theorem sorted_spec (bx mb : Nat) (cv : List (Int × SL)) (hr_ : ∀ p ∈ cv, I64 p.1) (hl_ : cv.length ≤ 1000000) (w : World) (r0 : (blk bx [(.map (some mb))] 55).holds w) (r1 : (mapI (fun k : Int => i_ k) slV mb cv).holds w) (hs : HS w (feet []) [] w) :
    Calls Try.prog 22 #[(.func (.func 26) #[] #[(p_ bx)])] w fun e w' => ∃ zz, e = .returned ((fun (zz : (Option Addr) × Nat) => match zz with | (al', cl') => (.slice al' ((sortK cv).length) cl')) zz) ∧ (fun (zz : (Option Addr) × Nat) => match zz with | (al', cl') => True) zz ∧ Turn [] ((fun (zz : (Option Addr) × Nat) => match zz with | (al', cl') => [sl al' ((sortK cv).length) cl' 3 1 (V.flat encI (sortK cv))]) zz) w w' := by
  have hbx : w.cell? ⟨bx, 0, none⟩ = some (.map (some mb)) := by have h : w.heap[bx]? = _ := r0; simp [World.cell?, h]
  have hlt : bx < w.heap.size := by have h : w.heap[bx]? = _ := r0; exact (Array.getElem?_eq_some_iff.1 h).1
  obtain ⟨D0, hown, hperm, hsize⟩ := mapOwned (P := Try.prog) (kt := 3) (by kernel_rfl) r1 hr_ hl_
  have hseq : SeqGives Fence.wide 2 Try.prog 26 #[.pointer (some ⟨bx, 0, none⟩)] encZ (fun ss => ss.Perm (intKeys D0)) (Maps.size D0) w :=
    AnyZI.keys_gives (ρ := Try.keysA_ren) { Try.keysA with } Fence.wide _ trivial rfl (by omega) bx mb cv.length D0 w hlt hbx hown
  have cS := AnyZI.sorted_in Try.sortedA Fence.wide 5 trivial trivial trivial trivial rfl (by omega) (sortsA _) (enters_of Try.func25 (by kernel_rfl) rfl) 26 #[.pointer (some ⟨bx, 0, none⟩)] trivial (enters_of Try.func26 (by kernel_rfl) rfl) _ _ (by rw [hsize]; simp only [maxLen]; omega) (by omega) _ hseq
  change CallsIn _ _ Try.prog 22 _ _ _ at cS
  refine ((callsIn_wide (n := 5)).1 cS).mono ?_
  rintro e w' ⟨v, ss, rfl, hS, hrow, -, hb⟩
  have e1 : (ss.mergeSort fun x y => decide (x ≤ y)) = sortK cv := mergeSort_of_perm_i (hS.trans hperm)
  have e2 : ss.length = (sortK cv).length := by rw [← e1]; simp
  rw [e1, e2] at hrow
  obtain ⟨A, c, rfl, ht⟩ := turn_of_row (enc := encI) (fun x => rfl) hrow hb
  exact ⟨(A, c), rfl, trivial, ht⟩
end Go.Proofs.Ytlhchmmjkokamaa
