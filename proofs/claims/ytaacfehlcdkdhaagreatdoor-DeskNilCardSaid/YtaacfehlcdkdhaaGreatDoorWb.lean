/- My own verifier: Go's strings.Split at a sign of one byte, strings.CutSuffix: as lists of bytes, over the shelf's contracts. Generic: nothing of the dump. -/
import Derived.Test.YtaacfehlcdkdhaaGreatDoorWa
import Derived.Shelf.Strings.Split
import Derived.Shelf.Small.Wraps
namespace Go.Proofs.YtaacfehlcdkdhaaGreatDoor.V
set_option linter.unusedVariables false
set_option linter.unusedSimpArgs false
open Go Go.Shelf Go.RowKit Go.Proofs
/-- a text cut at a sign -/
def words (c : UInt8) : List UInt8 → List (List UInt8)
  | [] => [[]]
  | b :: l => if b = c then [] :: words c l else match words c l with
    | [] => [[b]]
    | w :: ws => (b :: w) :: ws
theorem words_ne (c : UInt8) : ∀ l, words c l ≠ []
  | [] => by simp [words]
  | b :: l => by unfold words; split; simp; split <;> simp
theorem splitK_words (c : UInt8) : ∀ l : List UInt8, Lib.splitK [c] 0 (l.count c) l = words c l
  | [] => rfl
  | b :: t => by
    have ih := splitK_words c t
    by_cases hb : b = c
    · subst hb
      have h0 : Lib.index (b :: t) [b] = 0 := by rw [Lib.index_one]; simp [Lib.indexByte]
      rw [List.count_cons_self, Lib.splitK, if_neg (by rw [h0]; decide), h0]
      simp [words, ih]
    · have hbc : (b == c) = false := by simpa using hb
      rw [List.count_cons_of_ne hb]
      cases hk : t.count c with
      | zero =>
        rw [hk] at ih
        simp only [Lib.splitK] at ih ⊢
        rw [words, if_neg hb, ← ih]
      | succ k =>
        rw [hk] at ih
        have hm : Lib.index t [c] ≠ -1 := by
          intro e; rw [Lib.index_one] at e
          have : c ∈ t := List.count_pos_iff.1 (by omega)
          obtain ⟨j, hj⟩ := List.getElem?_of_mem this
          exact Lib.indexByte_none e j hj
        have hge : -1 ≤ Lib.index t [c] := by rw [Lib.index_one]; exact Lib.indexByte_ge t c
        have h1 : Lib.index (b :: t) [c] = Lib.index t [c] + 1 := by
          rw [Lib.index_one] at hm ⊢; rw [Lib.index_one]
          show (if b == c then 0 else if Lib.indexByte t c == -1 then -1 else Lib.indexByte t c + 1) = _
          rw [if_neg (by simpa using hb), if_neg (by simpa using hm)]
        rw [Lib.splitK, if_neg (by simpa using hm)] at ih
        rw [Lib.splitK, if_neg (by rw [h1]; simp; omega), h1, words, if_neg hb, ← ih]
        have e : (Lib.index t [c] + 1).toNat = (Lib.index t [c]).toNat + 1 := by omega
        rw [e]
        simp [Nat.add_right_comm]
theorem flat_str {enc : List UInt8 → List Value} (he : ∀ x, enc x = [.string (bs x)]) (xs : List (List UInt8)) : flat enc xs = xs.map fun x => Value.string (bs x) := by
  induction xs with
  | nil => rfl
  | cons x xs ih => simp only [flat, List.flatMap_cons, he, List.map_cons] at ih ⊢; rw [ih]; rfl
section
variable {P : Program} {ρ : Ren}
set_option maxHeartbeats 1000000 in
/-- strings.Split at a sign of one byte -/
theorem split_one (L : Lays.n146 P ρ) (hi9 : (P.info? (ρ.t 9)).map (fun i => (i.zero, i.size, i.bytes)) = some (some (.string ByteArray.empty), 1, 16)) (s : ByteArray) (ch : UInt8) (w : World)
    (hs : s.size < 4294967281) :
    Calls P (ρ.f 146) #[.string s, .string ⟨#[ch]⟩] w fun e w' =>
      e = .returned (.slice (some ⟨w.heap.size, 0, none⟩) (Lib.countB s ⟨#[ch]⟩ + 1) (Lib.countB s ⟨#[ch]⟩ + 1)) ∧ w' = w.alloc (.cells ((Lib.splitB ⟨#[ch]⟩ 0 (Lib.countB s ⟨#[ch]⟩) s).map Value.string).toArray (ρ.t 9)) := by
  have h1 : 1 ≤ (⟨#[ch]⟩ : ByteArray).size := Nat.le_refl 1
  have hle := Lib.countB_le ⟨#[ch]⟩ h1 s.size s (Nat.le_refl _)
  have hlen := Lib.splitB_all ⟨#[ch]⟩ h1 0 _ s rfl
  have hC : Calls P (ρ.f 138) #[.string s, .string ⟨#[ch]⟩] w fun e w' => e = .returned (.int .i64 (Lib.countB s ⟨#[ch]⟩)) ∧ w' = w := by
    refine (Any.strings_Count_one { L with } s ch w).mono fun e w' ⟨he, hw⟩ => ⟨?_, hw⟩
    rw [he]
    show _ = Ending.returned (Value.int .i64 ((Lib.count s.data.toList [ch] : Nat) : Int))
    rw [Lib.count_one]; rfl
  have hI : ∀ (x : ByteArray) (c : Array Value), x.size ≤ s.size → Calls P (ρ.f 143) #[.string x, .string ⟨#[ch]⟩] (w.alloc (.cells c (ρ.t 9))) fun e w' => e = .returned (.int .i64 (Lib.indexB x ⟨#[ch]⟩)) ∧ w' = w.alloc (.cells c (ρ.t 9)) := by
    intro x c _
    refine (Any.strings_Index_one { L with } x ch _).mono fun e w' ⟨he, hw⟩ => ⟨?_, hw⟩
    rw [he]
    show _ = Ending.returned (Value.int .i64 (Lib.index x.data.toList [ch]))
    rw [Lib.index_one]
  have c := Any.strings_genSplit_core { L with } hi9 s ⟨#[ch]⟩ 0 (-1) (Lib.countB s ⟨#[ch]⟩ + 1) w hs h1 (Nat.zero_le _) hI hC (by decide) (by decide) (by rw [if_pos (by decide)]; omega)
  rw [Nat.add_sub_cancel, hlen] at c
  have e2 : Lib.cellsOf (Lib.splitB ⟨#[ch]⟩ 0 (Lib.countB s ⟨#[ch]⟩) s) (Lib.countB s ⟨#[ch]⟩ + 1) = ((Lib.splitB ⟨#[ch]⟩ 0 (Lib.countB s ⟨#[ch]⟩) s).map Value.string).toArray := by rw [← hlen]; exact Lib.cellsOf_full _
  rw [e2] at c
  have t3 := L.t3; have t9 := L.t9; have t31 := L.t31
  have a3 := L.a3; have a9 := L.a9; have a31 := L.a31
  have z3 := L.z3; have v3 := L.v3; have z9 := L.z9; have v9 := L.v9; have z31 := L.z31; have v31 := L.v31
  have e221 : ∀ args w, (callFunc (ρ.f 221) args).run P w = .ok (.enter (ρ.f 221) args) w := enters_of L.f221 (by kernel_rfl) rfl
  go_enter L.f146, Body.n146_ntmps ρ
  go_wp2_with (go_at_fn (ρ.f 221); refine c.mono ?_; rintro e w' ⟨rfl, hw⟩; rw [hw])
  go_ret
  exact ⟨rfl, rfl⟩
/-- .. as a slice of the call's own -/
theorem split_turn (L : Lays.n146 P ρ) (hi9 : (P.info? (ρ.t 9)).map (fun i => (i.zero, i.size, i.bytes)) = some (some (.string ByteArray.empty), 1, 16)) {enc : List UInt8 → List Value} (he : ∀ x, enc x = [.string (bs x)]) (l : List UInt8) (ch : UInt8) (w : World)
    (hl : l.length < 4294967281) :
    Calls P (ρ.f 146) #[.string (bs l), .string (bs [ch])] w fun e w' => ∃ zz : Option Addr × Nat, e = .returned (.slice zz.1 (words ch l).length zz.2) ∧ True ∧ Turn [] [sl zz.1 (words ch l).length zz.2 (ρ.t 9) 1 (flat enc (words ch l))] w w' := by
  refine (split_one L hi9 (bs l) ch w hl).mono fun e w' ⟨h1, h2⟩ => ?_
  have hw : (Lib.splitB ⟨#[ch]⟩ 0 (Lib.countB (bs l) ⟨#[ch]⟩) (bs l)).map (fun s => s.data.toList) = words ch l := by
    rw [Lib.splitB_data]
    show Lib.splitK [ch] 0 (Lib.count l [ch]) l = _
    rw [Lib.count_one, splitK_words]
  have hmap : (Lib.splitB ⟨#[ch]⟩ 0 (Lib.countB (bs l) ⟨#[ch]⟩) (bs l)).map Value.string = flat enc (words ch l) := by
    rw [flat_str he, ← hw, List.map_map]
    refine List.map_congr_left fun s _ => ?_
    show Value.string s = Value.string (bs s.data.toList); rw [bs_of]
  have hlen : (words ch l).length = Lib.countB (bs l) ⟨#[ch]⟩ + 1 := by
    rw [← hw, List.length_map]; exact Lib.splitB_all ⟨#[ch]⟩ (Nat.le_refl 1) 0 _ _ rfl
  have hle := Lib.countB_le ⟨#[ch]⟩ (Nat.le_refl 1) (bs l).size (bs l) (Nat.le_refl _)
  rw [hmap] at h2
  subst h1 h2
  refine ⟨(some ⟨w.heap.size, 0, none⟩, Lib.countB (bs l) ⟨#[ch]⟩ + 1), by rw [hlen], trivial, ⟨Fr.alloc _ _ _, ?_, by simp [feet, sl, slFoot], by simp [feet, sl, slFoot]⟩⟩
  have hfl : (flat enc (words ch l)).length = (words ch l).length := by rw [flat_str he]; simp
  intro it hi; simp only [List.mem_singleton] at hi; subst hi
  have hb : (bs l).size = l.length := rfl
  refine ⟨by rw [hfl]; simp, by omega, by simp only [maxLen]; omega, .inr ⟨w.heap.size, 0, _, rfl, heap_alloc_new w _, ?_, ?_⟩⟩
  · show 0 + (Lib.countB (bs l) ⟨#[ch]⟩ + 1) * 1 ≤ (flat enc (words ch l)).length
    rw [hfl]; omega
  · show ((flat enc (words ch l)).drop 0).take ((words ch l).length * 1) = _
    rw [List.drop_zero, Nat.mul_one, ← hfl, List.take_length]
/-- strings.CutSuffix -/
theorem cut_qt (L : Lays.n104 P ρ) (l p : List UInt8) (w : World) (hl : l.length ≤ 9223372036854775807) :
    Calls P (ρ.f 104) #[.string (bs l), .string (bs p)] w fun e w' => e = .returned (.tuple #[.string (bs (Lib.trimSuffix l p)), .bool (Lib.hasSuffix l p)]) ∧ Fr [] w w' :=
  (Any.strings_CutSuffix L (bs l) (bs p) w hl).mono fun e w' ⟨h1, h2⟩ => ⟨h1, h2 ▸ Fr.refl _ _⟩
end
end Go.Proofs.YtaacfehlcdkdhaaGreatDoor.V
