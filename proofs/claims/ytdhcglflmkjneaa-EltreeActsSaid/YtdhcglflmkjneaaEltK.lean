/- What the functions of this layer do, proved operation by operation, for all arguments, under the conditions that each theorem states. -/
import Derived.Shelf.SlIterI.Nil
import Derived.Shelf.SortM.Plain
import Derived.Shelf.SortM.SortNone
import Derived.Ground.GgzProg
import Derived.Ground.SlgmProg
import Derived.Test.YtdhcglflmkjneaaProg
import Derived.Test.YtdhcglflmkjneaaElt4
import Derived.Test.YtdhcglflmkjneaaVk
namespace Go.Proofs.Ytdhcglflmkjneaa
open Go V
set_option linter.unusedVariables false
set_option linter.unusedSimpArgs false

open Go.RowKit Go.Maps Go.Sort Go.Shelf
def Try.keysA_ren : Go.Shelf.Ren := ⟨fun | 7 => 42 | 10 => 56 | n => n, fun | 23 => 62 | 26 => 3 | 3 => 68 | 28 => 78 | 0 => 0 | 27 => 77 | 33 => 96 | 4 => 4 | n => n, fun | n => n⟩
theorem Try.keysA : Go.Proofs.SlLaysZI.n7 Try.prog Try.keysA_ren := {
  mixed := by kernel_rfl,
  f7 := ⟨Try.f42.name, by decide, Try.func42.trans (congrArg some (by kernel_rfl))⟩,
  f10 := ⟨Try.f56.name, by decide, Try.func56.trans (congrArg some (by kernel_rfl))⟩,
  t0 := Try.underlying0,
  a0 := Try.isAgg0,
  z0 := Try.sizeOf0,
  v0 := Try.zeroValue0,
  t4 := Try.underlying4,
  a4 := Try.isAgg4,
  z4 := Try.sizeOf4,
  v4 := Try.zeroValue4,
  t23 := Try.underlying62,
  a23 := Try.isAgg62,
  z23 := Try.sizeOf62,
  v23 := Try.zeroValue62,
  t26 := Try.underlying3,
  a26 := Try.isAgg3,
  z26 := Try.sizeOf3,
  v26 := Try.zeroValue3,
  t27 := Try.underlying77,
  a27 := Try.isAgg77,
  z27 := Try.sizeOf77,
  v27 := Try.zeroValue77,
  t28 := Try.underlying78,
  a28 := Try.isAgg78,
  z28 := Try.sizeOf78,
  v28 := Try.zeroValue78,
  t33 := Try.underlying96,
  a33 := Try.isAgg96,
  z33 := Try.sizeOf96,
  v33 := Try.zeroValue96 }

def Try.sortedA_ren : Go.Shelf.Ren := ⟨fun | 6 => 41 | 8 => 54 | 9 => 55 | 11 => 64 | 13 => 66 | 12 => 65 | 23 => 77 | 24 => 78 | 14 => 68 | 15 => 69 | 16 => 70 | 17 => 71 | 18 => 72 | 19 => 73 | 20 => 74 | 21 => 75 | 22 => 76 | 25 => 79 | 26 => 80 | 27 => 81 | 28 => 82 | 29 => 83 | 30 => 84 | 31 => 85 | n => n, fun | 26 => 3 | 28 => 78 | 24 => 44 | 0 => 0 | 3 => 3 | 37 => 104 | 48 => 115 | 50 => 27 | 4 => 4 | 40 => 108 | 39 => 107 | 45 => 42 | 5 => 5 | 9 => 9 | 51 => 117 | 55 => 120 | 57 => 122 | 58 => 123 | 33 => 96 | n => n, fun | n => n⟩
theorem Try.sortedA : Go.Proofs.SlLaysZI.n6 Try.prog Try.sortedA_ren := {
  mixed := by kernel_rfl,
  f6 := ⟨Try.f41.name, by decide, Try.func41.trans (congrArg some (by kernel_rfl))⟩,
  f8 := ⟨Try.f54.name, by decide, Try.func54.trans (congrArg some (by kernel_rfl))⟩,
  f11 := ⟨Try.f64.name, by decide, Try.func64.trans (congrArg some (by kernel_rfl))⟩,
  t0 := Try.underlying0,
  a0 := Try.isAgg0,
  z0 := Try.sizeOf0,
  v0 := Try.zeroValue0,
  t24 := Try.underlying44,
  a24 := Try.isAgg44,
  z24 := Try.sizeOf44,
  v24 := Try.zeroValue44,
  t26 := Try.underlying3,
  a26 := Try.isAgg3,
  z26 := Try.sizeOf3,
  v26 := Try.zeroValue3,
  t28 := Try.underlying78,
  a28 := Try.isAgg78,
  z28 := Try.sizeOf78,
  v28 := Try.zeroValue78,
  i26 := by kernel_rfl }

def Try.sortA_ren : Go.Shelf.Ren := ⟨fun | 5 => 55 | 8 => 66 | 7 => 65 | 19 => 77 | 20 => 78 | 10 => 68 | 11 => 69 | 12 => 70 | 13 => 71 | 14 => 72 | 15 => 73 | 16 => 74 | 17 => 75 | 18 => 76 | 30 => 79 | 31 => 80 | 32 => 81 | 33 => 82 | 34 => 83 | 35 => 84 | 40 => 85 | n => n, fun | 23 => 44 | 25 => 3 | 3 => 3 | 32 => 104 | 22 => 44 | 0 => 0 | 44 => 115 | 46 => 27 | 4 => 4 | 36 => 108 | 35 => 107 | 41 => 42 | 5 => 5 | 9 => 9 | 53 => 117 | 57 => 120 | 63 => 122 | 64 => 123 | n => n, fun | n => n⟩
theorem Try.sortA : Go.Proofs.SlLaysM.n5 Try.prog Try.sortA_ren := {
  mixed := by kernel_rfl,
  f5 := ⟨Try.f55.name, by decide, Try.func55.trans (congrArg some (by kernel_rfl))⟩,
  f7 := ⟨Try.f65.name, by decide, Try.func65.trans (congrArg some (by kernel_rfl))⟩,
  f8 := Try.func66.trans (congrArg some (by kernel_rfl)),
  f10 := ⟨Try.f68.name, by decide, Try.func68.trans (congrArg some (by kernel_rfl))⟩,
  f11 := ⟨Try.f69.name, by decide, Try.func69.trans (congrArg some (by kernel_rfl))⟩,
  f12 := ⟨Try.f70.name, by decide, Try.func70.trans (congrArg some (by kernel_rfl))⟩,
  f13 := ⟨Try.f71.name, by decide, Try.func71.trans (congrArg some (by kernel_rfl))⟩,
  f14 := ⟨Try.f72.name, by decide, Try.func72.trans (congrArg some (by kernel_rfl))⟩,
  f15 := ⟨Try.f73.name, by decide, Try.func73.trans (congrArg some (by kernel_rfl))⟩,
  f16 := ⟨Try.f74.name, by decide, Try.func74.trans (congrArg some (by kernel_rfl))⟩,
  f17 := ⟨Try.f75.name, by decide, Try.func75.trans (congrArg some (by kernel_rfl))⟩,
  f18 := ⟨Try.f76.name, by decide, Try.func76.trans (congrArg some (by kernel_rfl))⟩,
  f19 := Try.func77.trans (congrArg some (by kernel_rfl)),
  f20 := Try.func78.trans (congrArg some (by kernel_rfl)),
  f30 := ⟨Try.f79.name, by decide, Try.func79.trans (congrArg some (by kernel_rfl))⟩,
  f31 := Try.func80.trans (congrArg some (by kernel_rfl)),
  f32 := Try.func81.trans (congrArg some (by kernel_rfl)),
  f33 := ⟨Try.f82.name, by decide, Try.func82.trans (congrArg some (by kernel_rfl))⟩,
  f34 := ⟨Try.f83.name, by decide, Try.func83.trans (congrArg some (by kernel_rfl))⟩,
  f35 := ⟨Try.f84.name, by decide, Try.func84.trans (congrArg some (by kernel_rfl))⟩,
  f40 := ⟨Try.f85.name, by decide, Try.func85.trans (congrArg some (by kernel_rfl))⟩,
  t0 := Try.underlying0,
  a0 := Try.isAgg0,
  z0 := Try.sizeOf0,
  v0 := Try.zeroValue0,
  t3 := Try.underlying3,
  a3 := Try.isAgg3,
  z3 := Try.sizeOf3,
  v3 := Try.zeroValue3,
  t4 := Try.underlying4,
  a4 := Try.isAgg4,
  z4 := Try.sizeOf4,
  v4 := Try.zeroValue4,
  t5 := Try.underlying5,
  a5 := Try.isAgg5,
  z5 := Try.sizeOf5,
  v5 := Try.zeroValue5,
  t9 := Try.underlying9,
  a9 := Try.isAgg9,
  z9 := Try.sizeOf9,
  v9 := Try.zeroValue9,
  t22 := Try.underlying44,
  a22 := Try.isAgg44,
  z22 := Try.sizeOf44,
  v22 := Try.zeroValue44,
  t23 := Try.underlying44,
  a23 := Try.isAgg44,
  z23 := Try.sizeOf44,
  v23 := Try.zeroValue44,
  t25 := Try.underlying3,
  a25 := Try.isAgg3,
  z25 := Try.sizeOf3,
  v25 := Try.zeroValue3,
  t32 := Try.underlying104,
  a32 := Try.isAgg104,
  z32 := Try.sizeOf104,
  v32 := Try.zeroValue104,
  t35 := Try.underlying107,
  a35 := Try.isAgg107,
  z35 := Try.sizeOf107,
  v35 := Try.zeroValue107,
  t36 := Try.underlying108,
  a36 := Try.isAgg108,
  z36 := Try.sizeOf108,
  v36 := Try.zeroValue108,
  t41 := Try.underlying42,
  a41 := Try.isAgg42,
  z41 := Try.sizeOf42,
  v41 := Try.zeroValue42,
  t44 := Try.underlying115,
  a44 := Try.isAgg115,
  z44 := Try.sizeOf115,
  v44 := Try.zeroValue115,
  t46 := Try.underlying27,
  a46 := Try.isAgg27,
  z46 := Try.sizeOf27,
  v46 := Try.zeroValue27,
  t53 := Try.underlying117,
  a53 := Try.isAgg117,
  z53 := Try.sizeOf117,
  v53 := Try.zeroValue117,
  t57 := Try.underlying120,
  a57 := Try.isAgg120,
  z57 := Try.sizeOf120,
  v57 := Try.zeroValue120,
  t63 := Try.underlying122,
  a63 := Try.isAgg122,
  z63 := Try.sizeOf122,
  v63 := Try.zeroValue122,
  t64 := Try.underlying123,
  a64 := Try.isAgg123,
  z64 := Try.sizeOf123,
  v64 := Try.zeroValue123 }


theorem sortsA (m : Nat) : AnyZI.SortsIn Try.prog Try.sortedA_ren Fence.wide m :=
  ⟨fun blk off cap ss W hH hblk hsz => callsIn_wide.2 (AnyM.slices_Sort_int Try.sortA blk off cap ss W hH hblk hsz),
   fun p cap W => callsIn_wide.2 (AnyM.slices_Sort_int_none Try.sortA p cap W)⟩

theorem keys_spec (mb : Nat) (w : World) (hs : HS w (feet []) [] w) :
    Calls Try.prog 42 #[(.map (some mb))] w fun e w' => ∃ zz, e = .returned ((fun (bx : Nat) => (.func (.func 56) #[] #[(p_ bx)])) zz) ∧ (fun (bx : Nat) => True) zz ∧ Turn [] ((fun (bx : Nat) => [blk bx [(.map (some mb))] 62]) zz) w w' := by
  have cK : CallsIn Fence.wide 5 Try.prog 42 #[.map (some mb)] w fun e w' => e = .returned (.func (.func 56) #[] #[.pointer (some ⟨w.heap.size, 0, none⟩)]) ∧ w' = w.alloc (.cells #[.map (some mb)] 62) := AnyZI.keys_in Try.keysA Fence.wide 5 trivial rfl (some mb) w
  refine ((callsIn_wide (n := 5)).1 cK).mono ?_
  rintro e w' ⟨rfl, rfl⟩
  refine ⟨w.heap.size, rfl, trivial, ⟨Fr.alloc _ _ _, ?_, by simp [feet, blk], by simp [feet, blk]⟩⟩
  intro it hi; simp only [List.mem_singleton] at hi; subst hi
  exact heap_alloc_new w _

theorem sorted_spec (bx mb : Nat) (kv : List (Int × It)) (hr_ : ∀ p ∈ kv, I64 p.1) (hl_ : kv.length ≤ 1000000) (w : World) (r0 : (blk bx [(.map (some mb))] 62).holds w) (r1 : (mapI (fun k : Int => i_ k) (fun y : It => (.agg #[u_ y.ka, i_ y.ki, u_ y.va, i_ y.vi])) mb kv).holds w) (hs : HS w (feet []) [] w) :
    Calls Try.prog 41 #[(.func (.func 56) #[] #[(p_ bx)])] w fun e w' => ∃ zz, e = .returned ((fun (zz : (Option Addr) × Nat) => match zz with | (al', cl') => (.slice al' ((sortK kv).length) cl')) zz) ∧ (fun (zz : (Option Addr) × Nat) => match zz with | (al', cl') => True) zz ∧ Turn [] ((fun (zz : (Option Addr) × Nat) => match zz with | (al', cl') => [sl al' ((sortK kv).length) cl' 3 1 (V.flat encI (sortK kv))]) zz) w w' := by
  have hbx : w.cell? ⟨bx, 0, none⟩ = some (.map (some mb)) := by have h : w.heap[bx]? = _ := r0; simp [World.cell?, h]
  have hlt : bx < w.heap.size := by have h : w.heap[bx]? = _ := r0; exact (Array.getElem?_eq_some_iff.1 h).1
  obtain ⟨D0, hown, hperm, hsize⟩ := mapOwned (P := Try.prog) (kt := 3) (by kernel_rfl) r1 hr_ hl_
  have hseq : SeqGives Fence.wide 2 Try.prog 56 #[.pointer (some ⟨bx, 0, none⟩)] encZ (fun ss => ss.Perm (intKeys D0)) (Maps.size D0) w :=
    AnyZI.keys_gives (ρ := Try.keysA_ren) { Try.keysA with } Fence.wide _ trivial rfl (by omega) bx mb kv.length D0 w hlt hbx hown
  have cS := AnyZI.sorted_in Try.sortedA Fence.wide 5 trivial trivial trivial trivial rfl (by omega) (sortsA _) (enters_of Try.func55 (by kernel_rfl) rfl) 56 #[.pointer (some ⟨bx, 0, none⟩)] trivial (enters_of Try.func56 (by kernel_rfl) rfl) _ _ (by rw [hsize]; simp only [maxLen]; omega) (by omega) _ hseq
  change CallsIn _ _ Try.prog 41 _ _ _ at cS
  refine ((callsIn_wide (n := 5)).1 cS).mono ?_
  rintro e w' ⟨v, ss, rfl, hS, hrow, -, hb⟩
  have e1 : (ss.mergeSort fun x y => decide (x ≤ y)) = sortK kv := mergeSort_of_perm_i (hS.trans hperm)
  have e2 : ss.length = (sortK kv).length := by rw [← e1]; simp
  rw [e1, e2] at hrow
  obtain ⟨A, c, rfl, ht⟩ := turn_of_row (enc := encI) (fun x => rfl) hrow hb
  exact ⟨(A, c), rfl, trivial, ht⟩
end Go.Proofs.Ytdhcglflmkjneaa
