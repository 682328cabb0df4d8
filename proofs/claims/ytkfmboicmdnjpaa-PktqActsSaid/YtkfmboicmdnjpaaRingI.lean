/- What the functions of this layer do, proved operation by operation, for all arguments, under the conditions that each theorem states. -/
import Derived.Test.YtkfmboicmdnjpaaProg
import Derived.Test.YtkfmboicmdnjpaaVe
namespace Go.Proofs.Ytkfmboicmdnjpaa
open Go V
set_option linter.unusedVariables false
set_option linter.unusedSimpArgs false

section
variable {α : Type}
/-- a ring as it lies -/
structure RingW (enc : α → List Value) (TR TE b s room : Nat) (slots : List α) (first n : Nat) (w : World) : Prop where
  hb : w.heap[b]? = some (.cells [.slice (some ⟨s, 0, none⟩) room room, .int .i64 (first : Int), .int .i64 (n : Int)].toArray TR (0, 0))
  hs : w.heap[s]? = some (.cells (V.flat enc slots).toArray TE (0, 0))
  len : slots.length = room
  lo : 1 ≤ room
  hi : room ≤ 64
  fst : first < room
  cnt : n ≤ room
  ne : b ≠ s
/-- .. and what it holds, in order -/
structure RingH (enc : α → List Value) (TR TE b s room : Nat) (q : List α) (w : World) : Prop where
  has : ∃ slots first, RingW enc TR TE b s room slots first q.length w ∧ ∀ i x, q[i]? = some x → slots[(first + i) % room]? = some x
def ringI (enc : α → List Value) (TR TE b s room : Nat) (q : List α) : V.Item where
  foot := [b, s]
  holds := RingH enc TR TE b s room q
  loc w w' h hw := by
    obtain ⟨slots, first, r, v⟩ := hw
    exact ⟨slots, first, ⟨by rw [h b (by simp)]; exact r.hb, by rw [h s (by simp)]; exact r.hs, r.len, r.lo, r.hi, r.fst, r.cnt, r.ne⟩, v⟩
  here w hw c hc := by
    obtain ⟨slots, first, r, v⟩ := hw
    simp at hc
    rcases hc with rfl | rfl
    · exact (Array.getElem?_eq_some_iff.1 r.hb).1
    · exact (Array.getElem?_eq_some_iff.1 r.hs).1
theorem RingH.bounds {enc : α → List Value} {TR TE b s room : Nat} {q : List α} {w : World} (h : RingH enc TR TE b s room q w) : 1 ≤ room ∧ room ≤ 64 ∧ q.length ≤ room ∧ b ≠ s := by
  obtain ⟨slots, first, r, _⟩ := h; exact ⟨r.lo, r.hi, r.cnt, r.ne⟩
theorem hw_old {enc : α → List Value} {TR TE b s room : Nat} {slots : List α} {first n : Nat} {w0 w : World} {H : List V.Item} (s0 : HS w0 [] H w) (h : RingW enc TR TE b s room slots first n w0) : RingW enc TR TE b s room slots first n w :=
  ⟨old_blk s0 h.hb, old_blk s0 h.hs, h.len, h.lo, h.hi, h.fst, h.cnt, h.ne⟩
theorem ringHS {enc : α → List Value} {TR TE b s room : Nat} {slots : List α} {first n : Nat} {w : World} (h : RingW enc TR TE b s room slots first n w) :
    HS w [b, s] [blk b [.slice (some ⟨s, 0, none⟩) room room, .int .i64 (first : Int), .int .i64 (n : Int)] TR, blk s (V.flat enc slots) TE] w :=
  HS.start w [blk b [.slice (some ⟨s, 0, none⟩) room room, .int .i64 (first : Int), .int .i64 (n : Int)] TR, blk s (V.flat enc slots) TE] (by intro it hi; simp at hi; rcases hi with rfl | rfl; exact h.hb; exact h.hs) (by simpa [feet, blk] using h.ne)
end

theorem ring_push_view {α : Type} {q : List α} {slots : List α} {first room : Nat} {x : α} (hl : slots.length = room) (hf : first < room) (hn : q.length < room)
    (v : ∀ i y, q[i]? = some y → slots[(first + i) % room]? = some y) : ∀ i y, (q ++ [x])[i]? = some y → (slots.set ((first + q.length) % room) x)[(first + i) % room]? = some y := by
  intro i y hy
  have hlt : i < q.length + 1 := by have := (List.getElem?_eq_some_iff.1 hy).1; simpa using this
  rw [List.getElem?_set]
  by_cases hi : i = q.length
  · subst hi
    rw [if_pos rfl, if_pos (by rw [hl]; exact Nat.mod_lt _ (by omega))]
    simpa using hy
  · rw [if_neg, v i y (by rw [List.getElem?_append_left (by omega)] at hy; exact hy)]
    intro e
    have h1 : (first + q.length) % room = if first + q.length < room then first + q.length else first + q.length - room := by
      split
      · exact Nat.mod_eq_of_lt ‹_›
      · rw [Nat.mod_eq_sub_mod (by omega), Nat.mod_eq_of_lt (by omega)]
    have h2 : (first + i) % room = if first + i < room then first + i else first + i - room := by
      split
      · exact Nat.mod_eq_of_lt ‹_›
      · rw [Nat.mod_eq_sub_mod (by omega), Nat.mod_eq_of_lt (by omega)]
    rw [h1, h2] at e
    split at e <;> split at e <;> omega
theorem ring_pop_view {α : Type} {q : List α} {slots : List α} {first room : Nat} {x z : α} (hf : first < room) (hn : q.length + 1 ≤ room)
    (v : ∀ i y, (x :: q)[i]? = some y → slots[(first + i) % room]? = some y) : ∀ i y, q[i]? = some y → (slots.set first z)[((first + 1) % room + i) % room]? = some y := by
  intro i y hy
  have hlt : i < q.length := (List.getElem?_eq_some_iff.1 hy).1
  have h0 : ((first + 1) % room + i) % room = (first + (i + 1)) % room := by
    rw [Nat.mod_add_mod]; congr 1; omega
  rw [h0, List.getElem?_set, if_neg, v (i + 1) y (by simpa using hy)]
  have h2 : (first + (i + 1)) % room = if first + (i + 1) < room then first + (i + 1) else first + (i + 1) - room := by
    split
    · exact Nat.mod_eq_of_lt ‹_›
    · rw [Nat.mod_eq_sub_mod (by omega), Nat.mod_eq_of_lt (by omega)]
  rw [h2]; split <;> omega
def encI (x : Int) : List Value := [(.int .i64 x)]
theorem encI_len (x : Int) : (encI x).length = 1 := rfl
theorem encI_one (x : Int) : (encI x).all Value.oneCell' = true := rfl

set_option maxRecDepth 100000 in
theorem ringI_place_spec (b s room first n : Nat) (i : Nat) (w : World) (hb : w.heap[b]? = some (.cells [(.slice (some ⟨s, 0, none⟩) room room), (.int .i64 (first : Int)), (.int .i64 (n : Int))].toArray 93 (0, 0))) (h1 : 1 ≤ room ∧ room ≤ 64 ∧ first < room ∧ n ≤ room) (hi : i ≤ 64) :
    Calls Try.prog 54 #[(.pointer (some ⟨b, 0, none⟩)), (.int .i64 (i : Int))] w fun e w' => e = .returned (.int .i64 (((first + i) % room : Nat) : Int)) ∧ Fr [] w w' := by
  refine calls_of (args := [(.pointer (some ⟨b, 0, none⟩)), (.int .i64 (i : Int))]) (penv [(.pointer (some ⟨b, 0, none⟩)), (.int .i64 (i : Int))]) [] [] Try.func54 rfl rfl (look_penv _) (HS.nil w) ?_
  refine A.norm [(0, (.pointer (some ⟨b, 0, none⟩))), (1, (.int .i64 (i : Int)))] [] (by exact ⟨rfl, rfl, trivial⟩) rfl ?_
  refine A.seq ?_
  refine A.region ?_
  refine A.cons (A.q (some 4) (.int .i64 0) (by kernel_rfl) (qt_assign rfl rfl) ?_)
  refine A.done ?_
  refine A.norm [(0, (.pointer (some ⟨b, 0, none⟩))), (1, (.int .i64 (i : Int))), (4, (.int .i64 0))] [] (by exact ⟨rfl, rfl, rfl, trivial⟩) rfl ?_
  refine A.tn ?_
  refine A.seq ?_
  refine A.draw [] (by kernel_rfl) ?_
  refine A.take 0 (some 5) (.pointer (some ⟨b, 0, none⟩)) rfl (by kernel_rfl) (by kernel_rfl) (List.Sublist.refl _) (qt_move rfl rfl) ?_
  refine A.take 1 (some 6) (.pointer (some ⟨b, 0, none⟩)) rfl (by kernel_rfl) (by kernel_rfl) (List.Sublist.refl _) (qt_pure (by kernel_rfl) fun _ => by kernel_rfl) ?_
  refine A.take 2 (some 7) (.pointer (some ⟨b, 1, none⟩)) rfl (by kernel_rfl) (by kernel_rfl) (List.Sublist.refl _) (qt_pure (by kernel_rfl) fun _ => by kernel_rfl) ?_
  refine A.take 3 (some 8) (.int .i64 (first : Int)) rfl (by kernel_rfl) (by kernel_rfl) (List.Sublist.refl _) (qt_load1 rfl rfl (by kernel_rfl) (reads_oldblk hb rfl)) ?_
  refine A.take 4 (some 9) (.int .i64 (i : Int)) rfl (by kernel_rfl) (by kernel_rfl) (List.Sublist.refl _) (qt_move rfl rfl) ?_
  refine A.take 5 (some 10) (.int .i64 ((first : Int) + (i : Int))) rfl (by kernel_rfl) (by kernel_rfl) (List.Sublist.refl _) (qt_as (congrArg (Value.int .i64) (wrap_i64 (e := (first : Int) + (i : Int)) (by constructor <;> omega))) (qt_pure (v := .int .i64 (IntKind.i64.wrap ((first : Int) + (i : Int)))) (by kernel_rfl) fun _ => by kernel_rfl)) ?_
  refine A.take 6 (some 11) (.pointer (some ⟨b, 0, none⟩)) rfl (by kernel_rfl) (by kernel_rfl) (List.Sublist.refl _) (qt_move rfl rfl) ?_
  refine A.take 7 (some 12) (.pointer (some ⟨b, 0, none⟩)) rfl (by kernel_rfl) (by kernel_rfl) (List.Sublist.refl _) (qt_pure (by kernel_rfl) fun _ => by kernel_rfl) ?_
  refine A.take 8 (some 13) (.pointer (some ⟨b, 0, none⟩)) rfl (by kernel_rfl) (by kernel_rfl) (List.Sublist.refl _) (qt_pure (by kernel_rfl) fun _ => by kernel_rfl) ?_
  refine A.take 9 (some 14) (.slice (some ⟨s, 0, none⟩) room room) rfl (by kernel_rfl) (by kernel_rfl) (List.Sublist.refl _) (qt_load1 rfl rfl (by kernel_rfl) (reads_oldblk hb rfl)) ?_
  refine A.take 10 (some 15) (.int .i64 (room : Int)) rfl (by kernel_rfl) (by kernel_rfl) (List.Sublist.refl _) (qt_pure (by kernel_rfl) fun _ => by kernel_rfl) ?_
  refine A.take 11 (some 16) (.int .i64 (((first : Int) + (i : Int)).tmod (room : Int))) rfl (by kernel_rfl) (by kernel_rfl) (List.Sublist.refl _) (qt_rem rfl rfl rfl (by omega)) ?_
  refine A.take 12 (some 4) (.int .i64 (((first : Int) + (i : Int)).tmod (room : Int))) rfl (by kernel_rfl) (by kernel_rfl) (List.Sublist.refl _) (qt_assign rfl rfl) ?_
  refine A.fin (by kernel_rfl) ?_
  refine A.norm [(0, (.pointer (some ⟨b, 0, none⟩))), (1, (.int .i64 (i : Int))), (4, (.int .i64 (((first : Int) + (i : Int)).tmod (room : Int))))] [] (by exact ⟨rfl, rfl, rfl, trivial⟩) rfl ?_
  refine A.tn ?_
  refine A.ret ?_
  refine A.post [(.int .i64 (((first : Int) + (i : Int)).tmod (room : Int)))] (fun a w r s => ⟨rv_tmp r rfl, trivial⟩) (fun w1 s => ?_)
  refine ⟨congrArg Ending.returned (?_ : ((.int .i64 (((first : Int) + (i : Int)).tmod (room : Int))) : Value) = _), s.fr⟩
  refine congrArg (Value.int .i64) ?_; rw [Int.tmod_eq_emod_of_nonneg (by omega)]; norm_cast

set_option maxRecDepth 100000 in
theorem ringI_len_w (b s room first n : Nat) (w : World) (hb : w.heap[b]? = some (.cells [(.slice (some ⟨s, 0, none⟩) room room), (.int .i64 (first : Int)), (.int .i64 (n : Int))].toArray 93 (0, 0))) :
    Calls Try.prog 24 #[(.pointer (some ⟨b, 0, none⟩))] w fun e w' => e = .returned (.int .i64 (n : Int)) ∧ Fr [] w w' := by
  refine calls_of (args := [(.pointer (some ⟨b, 0, none⟩))]) (penv [(.pointer (some ⟨b, 0, none⟩))]) [] [] Try.func24 rfl rfl (look_penv _) (HS.nil w) ?_
  refine A.norm [(0, (.pointer (some ⟨b, 0, none⟩)))] [] (by exact ⟨rfl, trivial⟩) rfl ?_
  refine A.seq ?_
  refine A.region ?_
  refine A.cons (A.q (some 2) (.int .i64 0) (by kernel_rfl) (qt_assign rfl rfl) ?_)
  refine A.done ?_
  refine A.norm [(0, (.pointer (some ⟨b, 0, none⟩))), (2, (.int .i64 0))] [] (by exact ⟨rfl, rfl, trivial⟩) rfl ?_
  refine A.tn ?_
  refine A.seq ?_
  refine A.seq ?_
  refine A.region ?_
  refine A.cons (A.q (some 3) (.pointer (some ⟨b, 0, none⟩)) (by kernel_rfl) (qt_move rfl rfl) ?_)
  refine A.cons (A.q (some 4) (.bool false) (by kernel_rfl) (qt_pure (by kernel_rfl) fun _ => by kernel_rfl) ?_)
  refine A.done ?_
  refine A.norm [(0, (.pointer (some ⟨b, 0, none⟩))), (2, (.int .i64 0)), (4, (.bool false))] [] (by exact ⟨rfl, rfl, rfl, trivial⟩) rfl ?_
  refine A.tn ?_
  refine A.cond_f rfl ?_
  refine A.skip ?_
  refine A.tn ?_
  refine A.seq ?_
  refine A.region ?_
  refine A.cons (A.q (some 5) (.pointer (some ⟨b, 0, none⟩)) (by kernel_rfl) (qt_move rfl rfl) ?_)
  refine A.cons (A.q (some 6) (.pointer (some ⟨b, 0, none⟩)) (by kernel_rfl) (qt_pure (by kernel_rfl) fun _ => by kernel_rfl) ?_)
  refine A.cons (A.q (some 7) (.pointer (some ⟨b, 2, none⟩)) (by kernel_rfl) (qt_pure (by kernel_rfl) fun _ => by kernel_rfl) ?_)
  refine A.cons (A.q (some 8) (.int .i64 (n : Int)) (by kernel_rfl) (qt_load1 rfl rfl (by kernel_rfl) (reads_oldblk hb rfl)) ?_)
  refine A.cons (A.q (some 2) (.int .i64 (n : Int)) (by kernel_rfl) (qt_assign rfl rfl) ?_)
  refine A.done ?_
  refine A.norm [(0, (.pointer (some ⟨b, 0, none⟩))), (2, (.int .i64 (n : Int))), (4, (.bool false))] [] (by exact ⟨rfl, rfl, rfl, trivial⟩) rfl ?_
  refine A.tn ?_
  refine A.ret ?_
  refine A.post [(.int .i64 (n : Int))] (fun a w r s => ⟨rv_tmp r rfl, trivial⟩) (fun w1 s => ?_)
  exact ⟨rfl, s.fr⟩

set_option maxRecDepth 100000 in
theorem ringI_room_w (b s room first n : Nat) (w : World) (hb : w.heap[b]? = some (.cells [(.slice (some ⟨s, 0, none⟩) room room), (.int .i64 (first : Int)), (.int .i64 (n : Int))].toArray 93 (0, 0))) (h1 : 1 ≤ room ∧ room ≤ 64 ∧ first < room ∧ n ≤ room) :
    Calls Try.prog 25 #[(.pointer (some ⟨b, 0, none⟩))] w fun e w' => e = .returned (.int .i64 ((room : Int) - (n : Int))) ∧ Fr [] w w' := by
  refine calls_of (args := [(.pointer (some ⟨b, 0, none⟩))]) (penv [(.pointer (some ⟨b, 0, none⟩))]) [] [] Try.func25 rfl rfl (look_penv _) (HS.nil w) ?_
  refine A.norm [(0, (.pointer (some ⟨b, 0, none⟩)))] [] (by exact ⟨rfl, trivial⟩) rfl ?_
  refine A.seq ?_
  refine A.region ?_
  refine A.cons (A.q (some 2) (.int .i64 0) (by kernel_rfl) (qt_assign rfl rfl) ?_)
  refine A.done ?_
  refine A.norm [(0, (.pointer (some ⟨b, 0, none⟩))), (2, (.int .i64 0))] [] (by exact ⟨rfl, rfl, trivial⟩) rfl ?_
  refine A.tn ?_
  refine A.seq ?_
  refine A.seq ?_
  refine A.region ?_
  refine A.cons (A.q (some 3) (.pointer (some ⟨b, 0, none⟩)) (by kernel_rfl) (qt_move rfl rfl) ?_)
  refine A.cons (A.q (some 4) (.bool false) (by kernel_rfl) (qt_pure (by kernel_rfl) fun _ => by kernel_rfl) ?_)
  refine A.done ?_
  refine A.norm [(0, (.pointer (some ⟨b, 0, none⟩))), (2, (.int .i64 0)), (4, (.bool false))] [] (by exact ⟨rfl, rfl, rfl, trivial⟩) rfl ?_
  refine A.tn ?_
  refine A.cond_f rfl ?_
  refine A.skip ?_
  refine A.tn ?_
  refine A.seq ?_
  refine A.draw [] (by kernel_rfl) ?_
  refine A.take 0 (some 5) (.pointer (some ⟨b, 0, none⟩)) rfl (by kernel_rfl) (by kernel_rfl) (List.Sublist.refl _) (qt_move rfl rfl) ?_
  refine A.take 1 (some 6) (.pointer (some ⟨b, 0, none⟩)) rfl (by kernel_rfl) (by kernel_rfl) (List.Sublist.refl _) (qt_pure (by kernel_rfl) fun _ => by kernel_rfl) ?_
  refine A.take 2 (some 7) (.pointer (some ⟨b, 0, none⟩)) rfl (by kernel_rfl) (by kernel_rfl) (List.Sublist.refl _) (qt_pure (by kernel_rfl) fun _ => by kernel_rfl) ?_
  refine A.take 3 (some 8) (.slice (some ⟨s, 0, none⟩) room room) rfl (by kernel_rfl) (by kernel_rfl) (List.Sublist.refl _) (qt_load1 rfl rfl (by kernel_rfl) (reads_oldblk hb rfl)) ?_
  refine A.take 4 (some 9) (.int .i64 (room : Int)) rfl (by kernel_rfl) (by kernel_rfl) (List.Sublist.refl _) (qt_pure (by kernel_rfl) fun _ => by kernel_rfl) ?_
  refine A.take 5 (some 10) (.pointer (some ⟨b, 0, none⟩)) rfl (by kernel_rfl) (by kernel_rfl) (List.Sublist.refl _) (qt_move rfl rfl) ?_
  refine A.take 6 (some 11) (.pointer (some ⟨b, 0, none⟩)) rfl (by kernel_rfl) (by kernel_rfl) (List.Sublist.refl _) (qt_pure (by kernel_rfl) fun _ => by kernel_rfl) ?_
  refine A.take 7 (some 12) (.pointer (some ⟨b, 2, none⟩)) rfl (by kernel_rfl) (by kernel_rfl) (List.Sublist.refl _) (qt_pure (by kernel_rfl) fun _ => by kernel_rfl) ?_
  refine A.take 8 (some 13) (.int .i64 (n : Int)) rfl (by kernel_rfl) (by kernel_rfl) (List.Sublist.refl _) (qt_load1 rfl rfl (by kernel_rfl) (reads_oldblk hb rfl)) ?_
  refine A.take 9 (some 14) (.int .i64 ((room : Int) - (n : Int))) rfl (by kernel_rfl) (by kernel_rfl) (List.Sublist.refl _) (qt_as (congrArg (Value.int .i64) (wrap_i64 (e := (room : Int) - (n : Int)) (by constructor <;> omega))) (qt_pure (v := .int .i64 (IntKind.i64.wrap ((room : Int) - (n : Int)))) (by kernel_rfl) fun _ => by kernel_rfl)) ?_
  refine A.take 10 (some 2) (.int .i64 ((room : Int) - (n : Int))) rfl (by kernel_rfl) (by kernel_rfl) (List.Sublist.refl _) (qt_assign rfl rfl) ?_
  refine A.fin (by kernel_rfl) ?_
  refine A.norm [(0, (.pointer (some ⟨b, 0, none⟩))), (2, (.int .i64 ((room : Int) - (n : Int)))), (4, (.bool false))] [] (by exact ⟨rfl, rfl, rfl, trivial⟩) rfl ?_
  refine A.tn ?_
  refine A.ret ?_
  refine A.post [(.int .i64 ((room : Int) - (n : Int)))] (fun a w r s => ⟨rv_tmp r rfl, trivial⟩) (fun w1 s => ?_)
  exact ⟨rfl, s.fr⟩

set_option maxRecDepth 100000 in
theorem ringI_at_ok (b s room first n : Nat) (slots : List Int) (k : Nat) (x : Int) (w : World) (hw : RingW encI 93 3 b s room slots first n w) (hk : k < n) (hx : slots[(first + k) % room]? = some x) :
    Calls Try.prog 26 #[(.pointer (some ⟨b, 0, none⟩)), (.int .i64 (k : Int))] w fun e w' => e = .returned (.tuple #[(.int .i64 x), (.int .i64 0)]) ∧ Fr [] w w' := by
  have hlo := hw.lo; have hhi := hw.hi; have hft := hw.fst; have hct := hw.cnt; have hln := hw.len; have hne := hw.ne
  refine calls_of (args := [(.pointer (some ⟨b, 0, none⟩)), (.int .i64 (k : Int))]) (penv [(.pointer (some ⟨b, 0, none⟩)), (.int .i64 (k : Int))]) [] [] Try.func26 rfl rfl (look_penv _) (HS.nil w) ?_
  refine A.norm [(0, (.pointer (some ⟨b, 0, none⟩))), (1, (.int .i64 (k : Int)))] [] (by exact ⟨rfl, rfl, trivial⟩) rfl ?_
  refine A.seq ?_
  refine A.region ?_
  refine A.cons (A.q (some 4) (.int .i64 0) (by kernel_rfl) (qt_assign rfl rfl) ?_)
  refine A.cons (A.q (some 5) (.int .i64 0) (by kernel_rfl) (qt_assign rfl rfl) ?_)
  refine A.done ?_
  refine A.norm [(0, (.pointer (some ⟨b, 0, none⟩))), (1, (.int .i64 (k : Int))), (4, (.int .i64 0)), (5, (.int .i64 0))] [] (by exact ⟨rfl, rfl, rfl, rfl, trivial⟩) rfl ?_
  refine A.tn ?_
  refine A.seq ?_
  refine A.region ?_
  refine A.cons (A.q (some 6) (.int .i64 0) (by kernel_rfl) (qt_assign rfl rfl) ?_)
  refine A.done ?_
  refine A.norm [(0, (.pointer (some ⟨b, 0, none⟩))), (1, (.int .i64 (k : Int))), (4, (.int .i64 0)), (5, (.int .i64 0)), (6, (.int .i64 0))] [] (by exact ⟨rfl, rfl, rfl, rfl, rfl, trivial⟩) rfl ?_
  refine A.tn ?_
  refine A.seq ?_
  refine A.block ?_
  refine A.seq ?_
  refine A.region ?_
  refine A.cons (A.q (some 8) (.pointer (some ⟨b, 0, none⟩)) (by kernel_rfl) (qt_move rfl rfl) ?_)
  refine A.cons (A.q (some 9) (.bool false) (by kernel_rfl) (qt_pure (by kernel_rfl) fun _ => by kernel_rfl) ?_)
  refine A.cons (A.q (some 7) (.bool false) (by kernel_rfl) (qt_assign rfl rfl) ?_)
  refine A.done ?_
  refine A.norm [(0, (.pointer (some ⟨b, 0, none⟩))), (1, (.int .i64 (k : Int))), (4, (.int .i64 0)), (5, (.int .i64 0)), (6, (.int .i64 0)), (7, (.bool false))] [] (by exact ⟨rfl, rfl, rfl, rfl, rfl, rfl, trivial⟩) rfl ?_
  refine A.tn ?_
  refine A.cond_f rfl ?_
  refine A.seq ?_
  refine A.region ?_
  refine A.cons (A.q (some 12) (.int .i64 (k : Int)) (by kernel_rfl) (qt_move rfl rfl) ?_)
  refine A.cons (A.q (some 13) (.bool (decide ((k : Int) < 0))) (by kernel_rfl) (qt_pure (by kernel_rfl) fun _ => by kernel_rfl) ?_)
  refine A.cons (A.q (some 14) (.bool (decide ((k : Int) < 0))) (by kernel_rfl) (qt_move rfl rfl) ?_)
  refine A.bool (decide ((k : Int) < 0)) (fun e1 => ?_) (fun e1 => ?_)
  · exact absurd e1 (by first | (simp; done) | (simp; omega) | grind)
  · skip
    refine A.sub [(0, (.pointer (some ⟨b, 0, none⟩))), (1, (.int .i64 (k : Int))), (4, (.int .i64 0)), (5, (.int .i64 0)), (6, (.int .i64 0)), (7, (.bool false)), (12, (.int .i64 (k : Int))), (13, (.bool false)), (14, (.bool false))] (by exact ⟨rfl, rfl, rfl, rfl, rfl, rfl, rfl, (congrArg (fun z => some (Value.bool z)) e1), (congrArg (fun z => some (Value.bool z)) e1), trivial⟩) ?_
    refine A.cons (A.q (some 15) (.int .i64 (k : Int)) (by kernel_rfl) (qt_move rfl rfl) ?_)
    refine A.cons (A.q (some 16) (.pointer (some ⟨b, 0, none⟩)) (by kernel_rfl) (qt_move rfl rfl) ?_)
    refine A.cons (A.q (some 17) (.pointer (some ⟨b, 0, none⟩)) (by kernel_rfl) (qt_pure (by kernel_rfl) fun _ => by kernel_rfl) ?_)
    refine A.cons (A.q (some 18) (.pointer (some ⟨b, 2, none⟩)) (by kernel_rfl) (qt_pure (by kernel_rfl) fun _ => by kernel_rfl) ?_)
    refine A.cons (A.q (some 19) (.int .i64 (n : Int)) (by kernel_rfl) (qt_load1 rfl rfl (by kernel_rfl) (reads_oldblk hw.hb rfl)) ?_)
    refine A.cons (A.q (some 20) (.bool (decide ((k : Int) ≥ (n : Int)))) (by kernel_rfl) (qt_pure (by kernel_rfl) fun _ => by kernel_rfl) ?_)
    refine A.cons (A.q (some 21) (.bool (decide ((k : Int) ≥ (n : Int)))) (by kernel_rfl) (qt_pure (by kernel_rfl) fun _ => by kernel_rfl) ?_)
    refine A.cons (A.q (some 11) (.bool (decide ((k : Int) ≥ (n : Int)))) (by kernel_rfl) (qt_assign rfl rfl) ?_)
    refine A.done ?_
    refine A.norm [(0, (.pointer (some ⟨b, 0, none⟩))), (1, (.int .i64 (k : Int))), (4, (.int .i64 0)), (5, (.int .i64 0)), (6, (.int .i64 0)), (7, (.bool false)), (11, (.bool (decide ((k : Int) ≥ (n : Int)))))] [] (by exact ⟨rfl, rfl, rfl, rfl, rfl, rfl, rfl, trivial⟩) rfl ?_
    refine A.tn ?_
    refine A.cond (E := decide ((k : Int) ≥ (n : Int))) rfl (fun e2 => ?_) (fun e2 => ?_)
    · exact absurd e2 (by first | (simp; done) | (simp; omega) | grind)
    · skip
      have p2 := e2; try simp only [decide_eq_true_eq, decide_eq_false_iff_not, beq_iff_eq, beq_eq_false_iff_ne, bne_iff_ne, bne_eq_false_iff_eq, ne_eq, Bool.and_eq_true, Bool.or_eq_true, Bool.or_eq_false_iff, Bool.not_eq_true', Bool.not_eq_false', Int.not_lt, Int.not_le, gt_iff_lt, ge_iff_le, Classical.not_not] at p2
      refine A.skip ?_
      refine A.bn ?_
      refine A.tn ?_
      refine A.seq ?_
      refine A.draw [] (by kernel_rfl) ?_
      refine A.take 0 (some 23) (.pointer (some ⟨b, 0, none⟩)) rfl (by kernel_rfl) (by kernel_rfl) (List.Sublist.refl _) (qt_move rfl rfl) ?_
      refine A.take 1 (some 24) (.pointer (some ⟨b, 0, none⟩)) rfl (by kernel_rfl) (by kernel_rfl) (List.Sublist.refl _) (qt_pure (by kernel_rfl) fun _ => by kernel_rfl) ?_
      refine A.take 2 (some 25) (.pointer (some ⟨b, 0, none⟩)) rfl (by kernel_rfl) (by kernel_rfl) (List.Sublist.refl _) (qt_pure (by kernel_rfl) fun _ => by kernel_rfl) ?_
      refine A.take 3 (some 26) (.slice (some ⟨s, 0, none⟩) room room) rfl (by kernel_rfl) (by kernel_rfl) (List.Sublist.refl _) (qt_load1 rfl rfl (by kernel_rfl) (reads_oldblk hw.hb rfl)) ?_
      refine A.take 4 (some 27) (.pointer (some ⟨b, 0, none⟩)) rfl (by kernel_rfl) (by kernel_rfl) (List.Sublist.refl _) (qt_move rfl rfl) ?_
      refine A.take 5 (some 28) (.int .i64 (k : Int)) rfl (by kernel_rfl) (by kernel_rfl) (List.Sublist.refl _) (qt_move rfl rfl) ?_
      refine A.take 6 (some 29) (.int .i64 (((first + k) % room : Nat) : Int)) rfl (by kernel_rfl) (by kernel_rfl) (List.Sublist.refl _) (qt_call [(.pointer (some ⟨b, 0, none⟩)), (.int .i64 (k : Int))] rfl (by kernel_rfl) rfl (fun w s0 => ringI_place_spec b s room first n k w (old_blk s0 hw.hb) ⟨hlo, hhi, hft, hct⟩ (by omega))) ?_
      refine A.take 7 (some 30) (.pointer (some ⟨s, ((first + k) % room : Nat) * 1, none⟩)) rfl (by kernel_rfl) (by kernel_rfl) (List.Sublist.refl _) (qt_index0 (el := 3) (m := ((first + k) % room : Nat)) rfl rfl rfl (by kernel_rfl) (by kernel_rfl) (Nat.mod_lt _ (by omega))) ?_
      refine A.take 8 (some 31) (.int .i64 x) rfl (by kernel_rfl) (by kernel_rfl) (List.Sublist.refl _) (qt_load1 rfl rfl (by kernel_rfl) (reads_oldblk hw.hs (by have := V.flat_at encI_len hx 0 1 (by decide); simpa [encI] using this))) ?_
      refine A.take 9 (some 4) (.int .i64 x) rfl (by kernel_rfl) (by kernel_rfl) (List.Sublist.refl _) (qt_assign rfl rfl) ?_
      refine A.take 10 (some 5) (.int .i64 0) rfl (by kernel_rfl) (by kernel_rfl) (List.Sublist.refl _) (qt_assign rfl rfl) ?_
      refine A.fin (by kernel_rfl) ?_
      refine A.norm [(0, (.pointer (some ⟨b, 0, none⟩))), (1, (.int .i64 (k : Int))), (4, (.int .i64 x)), (5, (.int .i64 0)), (6, (.int .i64 0)), (7, (.bool false)), (11, (.bool (decide ((k : Int) ≥ (n : Int)))))] [] (by exact ⟨rfl, rfl, rfl, rfl, rfl, rfl, rfl, trivial⟩) rfl ?_
      refine A.tn ?_
      refine A.ret ?_
      refine A.post [(.int .i64 x), (.int .i64 0)] (fun a w r s => ⟨rv_tmp r rfl, rv_tmp r rfl, trivial⟩) (fun w1 s => ?_)
      exact ⟨rfl, s.fr⟩

set_option maxRecDepth 100000 in
theorem ringI_at_none (b s room first n : Nat) (slots : List Int) (i : Int) (w : World) (hw : RingW encI 93 3 b s room slots first n w) (hi : ¬ (0 ≤ i ∧ i < (n : Int))) :
    Calls Try.prog 26 #[(.pointer (some ⟨b, 0, none⟩)), (.int .i64 i)] w fun e w' => e = .returned (.tuple #[(.int .i64 0), (.int .i64 6)]) ∧ Fr [] w w' := by
  have hlo := hw.lo; have hhi := hw.hi; have hft := hw.fst; have hct := hw.cnt; have hln := hw.len; have hne := hw.ne
  refine calls_of (args := [(.pointer (some ⟨b, 0, none⟩)), (.int .i64 i)]) (penv [(.pointer (some ⟨b, 0, none⟩)), (.int .i64 i)]) [] [] Try.func26 rfl rfl (look_penv _) (HS.nil w) ?_
  refine A.norm [(0, (.pointer (some ⟨b, 0, none⟩))), (1, (.int .i64 i))] [] (by exact ⟨rfl, rfl, trivial⟩) rfl ?_
  refine A.seq ?_
  refine A.region ?_
  refine A.cons (A.q (some 4) (.int .i64 0) (by kernel_rfl) (qt_assign rfl rfl) ?_)
  refine A.cons (A.q (some 5) (.int .i64 0) (by kernel_rfl) (qt_assign rfl rfl) ?_)
  refine A.done ?_
  refine A.norm [(0, (.pointer (some ⟨b, 0, none⟩))), (1, (.int .i64 i)), (4, (.int .i64 0)), (5, (.int .i64 0))] [] (by exact ⟨rfl, rfl, rfl, rfl, trivial⟩) rfl ?_
  refine A.tn ?_
  refine A.seq ?_
  refine A.region ?_
  refine A.cons (A.q (some 6) (.int .i64 0) (by kernel_rfl) (qt_assign rfl rfl) ?_)
  refine A.done ?_
  refine A.norm [(0, (.pointer (some ⟨b, 0, none⟩))), (1, (.int .i64 i)), (4, (.int .i64 0)), (5, (.int .i64 0)), (6, (.int .i64 0))] [] (by exact ⟨rfl, rfl, rfl, rfl, rfl, trivial⟩) rfl ?_
  refine A.tn ?_
  refine A.seq ?_
  refine A.block ?_
  refine A.seq ?_
  refine A.region ?_
  refine A.cons (A.q (some 8) (.pointer (some ⟨b, 0, none⟩)) (by kernel_rfl) (qt_move rfl rfl) ?_)
  refine A.cons (A.q (some 9) (.bool false) (by kernel_rfl) (qt_pure (by kernel_rfl) fun _ => by kernel_rfl) ?_)
  refine A.cons (A.q (some 7) (.bool false) (by kernel_rfl) (qt_assign rfl rfl) ?_)
  refine A.done ?_
  refine A.norm [(0, (.pointer (some ⟨b, 0, none⟩))), (1, (.int .i64 i)), (4, (.int .i64 0)), (5, (.int .i64 0)), (6, (.int .i64 0)), (7, (.bool false))] [] (by exact ⟨rfl, rfl, rfl, rfl, rfl, rfl, trivial⟩) rfl ?_
  refine A.tn ?_
  refine A.cond_f rfl ?_
  refine A.seq ?_
  refine A.cutR (fun _ : Unit => [(0, (.pointer (some ⟨b, 0, none⟩))), (1, (.int .i64 i)), (4, (.int .i64 0)), (5, (.int .i64 0)), (6, (.int .i64 0)), (7, (.bool false)), (11, (.bool ((decide (i < 0)) || (decide (i ≥ (n : Int))))))]) (fun _ => []) (fun _ => True) ?_ (fun _ _ => ?_)
  · skip
    refine A.region ?_
    refine A.cons (A.q (some 12) (.int .i64 i) (by kernel_rfl) (qt_move rfl rfl) ?_)
    refine A.cons (A.q (some 13) (.bool (decide (i < 0))) (by kernel_rfl) (qt_pure (by kernel_rfl) fun _ => by kernel_rfl) ?_)
    refine A.cons (A.q (some 14) (.bool (decide (i < 0))) (by kernel_rfl) (qt_move rfl rfl) ?_)
    refine A.bool (decide (i < 0)) (fun e1 => ?_) (fun e1 => ?_)
    · skip
      refine A.sub [(0, (.pointer (some ⟨b, 0, none⟩))), (1, (.int .i64 i)), (4, (.int .i64 0)), (5, (.int .i64 0)), (6, (.int .i64 0)), (7, (.bool false)), (12, (.int .i64 i)), (13, (.bool true)), (14, (.bool true))] (by exact ⟨rfl, rfl, rfl, rfl, rfl, rfl, rfl, (congrArg (fun z => some (Value.bool z)) e1), (congrArg (fun z => some (Value.bool z)) e1), trivial⟩) ?_
      refine A.cons (A.jump (some 15) rfl rfl (by intro x hx; cases hx; rfl) ?_)
      refine A.cons (A.jump (some 16) rfl rfl (by intro x hx; cases hx; rfl) ?_)
      refine A.cons (A.jump (some 17) rfl rfl (by intro x hx; cases hx; rfl) ?_)
      refine A.cons (A.jump (some 18) rfl rfl (by intro x hx; cases hx; rfl) ?_)
      refine A.cons (A.jump (some 19) rfl rfl (by intro x hx; cases hx; rfl) ?_)
      refine A.cons (A.jump (some 20) rfl rfl (by intro x hx; cases hx; rfl) ?_)
      refine A.cons (A.q (some 21) (.bool true) (by kernel_rfl) (qt_pure (by kernel_rfl) fun _ => by kernel_rfl) ?_)
      refine A.cons (A.q (some 11) (.bool true) (by kernel_rfl) (qt_assign rfl rfl) ?_)
      refine A.done ?_
      exact A.meet () trivial (A.here (by exact ⟨rfl, rfl, rfl, rfl, rfl, rfl, (by rw [e1]; rfl), trivial⟩) (List.Sublist.refl _))
    · skip
      refine A.sub [(0, (.pointer (some ⟨b, 0, none⟩))), (1, (.int .i64 i)), (4, (.int .i64 0)), (5, (.int .i64 0)), (6, (.int .i64 0)), (7, (.bool false)), (12, (.int .i64 i)), (13, (.bool false)), (14, (.bool false))] (by exact ⟨rfl, rfl, rfl, rfl, rfl, rfl, rfl, (congrArg (fun z => some (Value.bool z)) e1), (congrArg (fun z => some (Value.bool z)) e1), trivial⟩) ?_
      refine A.cons (A.q (some 15) (.int .i64 i) (by kernel_rfl) (qt_move rfl rfl) ?_)
      refine A.cons (A.q (some 16) (.pointer (some ⟨b, 0, none⟩)) (by kernel_rfl) (qt_move rfl rfl) ?_)
      refine A.cons (A.q (some 17) (.pointer (some ⟨b, 0, none⟩)) (by kernel_rfl) (qt_pure (by kernel_rfl) fun _ => by kernel_rfl) ?_)
      refine A.cons (A.q (some 18) (.pointer (some ⟨b, 2, none⟩)) (by kernel_rfl) (qt_pure (by kernel_rfl) fun _ => by kernel_rfl) ?_)
      refine A.cons (A.q (some 19) (.int .i64 (n : Int)) (by kernel_rfl) (qt_load1 rfl rfl (by kernel_rfl) (reads_oldblk hw.hb rfl)) ?_)
      refine A.cons (A.q (some 20) (.bool (decide (i ≥ (n : Int)))) (by kernel_rfl) (qt_pure (by kernel_rfl) fun _ => by kernel_rfl) ?_)
      refine A.cons (A.q (some 21) (.bool (decide (i ≥ (n : Int)))) (by kernel_rfl) (qt_pure (by kernel_rfl) fun _ => by kernel_rfl) ?_)
      refine A.cons (A.q (some 11) (.bool (decide (i ≥ (n : Int)))) (by kernel_rfl) (qt_assign rfl rfl) ?_)
      refine A.done ?_
      exact A.meet () trivial (A.here (by exact ⟨rfl, rfl, rfl, rfl, rfl, rfl, (by rw [e1]; rfl), trivial⟩) (List.Sublist.refl _))
  · skip
    refine A.tn ?_
    refine A.cond (E := (decide (i < 0)) || (decide (i ≥ (n : Int)))) rfl (fun e2 => ?_) (fun e2 => ?_)
    · skip
      have p2 := e2; try simp only [decide_eq_true_eq, decide_eq_false_iff_not, beq_iff_eq, beq_eq_false_iff_ne, bne_iff_ne, bne_eq_false_iff_eq, ne_eq, Bool.and_eq_true, Bool.or_eq_true, Bool.or_eq_false_iff, Bool.not_eq_true', Bool.not_eq_false', Int.not_lt, Int.not_le, gt_iff_lt, ge_iff_le, Classical.not_not] at p2
      refine A.seq ?_
      refine A.region ?_
      refine A.cons (A.q (some 22) (.int .i64 0) (by kernel_rfl) (qt_move rfl rfl) ?_)
      refine A.cons (A.q (some 4) (.int .i64 0) (by kernel_rfl) (qt_assign rfl rfl) ?_)
      refine A.cons (A.q (some 5) (.int .i64 6) (by kernel_rfl) (qt_assign rfl rfl) ?_)
      refine A.done ?_
      refine A.norm [(0, (.pointer (some ⟨b, 0, none⟩))), (1, (.int .i64 i)), (4, (.int .i64 0)), (5, (.int .i64 6)), (6, (.int .i64 0)), (7, (.bool false)), (11, (.bool ((decide (i < 0)) || (decide (i ≥ (n : Int))))))] [] (by exact ⟨rfl, rfl, rfl, rfl, rfl, rfl, rfl, trivial⟩) rfl ?_
      refine A.tn ?_
      refine A.ret ?_
      refine A.br ?_
      refine A.tr ?_
      refine A.post [(.int .i64 0), (.int .i64 6)] (fun a w r s => ⟨rv_tmp r rfl, rv_tmp r rfl, trivial⟩) (fun w1 s => ?_)
      exact ⟨rfl, s.fr⟩
    · exact absurd e2 (by first | (simp; done) | (simp; omega) | grind)

set_option maxRecDepth 100000 in
theorem ringI_new_bad (r : Int) (w : World) (h : r < 1 ∨ 64 < r) :
    Calls Try.prog 21 #[(.int .i64 r)] w fun e w' => e = .returned (.tuple #[(.pointer none), (.int .i64 1)]) ∧ Fr [] w w' := by
  refine calls_of (args := [(.int .i64 r)]) (penv [(.int .i64 r)]) [] [] Try.func21 rfl rfl (look_penv _) (HS.nil w) ?_
  refine A.norm [(0, (.int .i64 r))] [] (by exact ⟨rfl, trivial⟩) rfl ?_
  refine A.seq ?_
  refine A.region ?_
  refine A.cons (A.q (some 2) (.pointer none) (by kernel_rfl) (qt_assign rfl rfl) ?_)
  refine A.cons (A.q (some 3) (.int .i64 0) (by kernel_rfl) (qt_assign rfl rfl) ?_)
  refine A.done ?_
  refine A.norm [(0, (.int .i64 r)), (2, (.pointer none)), (3, (.int .i64 0))] [] (by exact ⟨rfl, rfl, rfl, trivial⟩) rfl ?_
  refine A.tn ?_
  refine A.seq ?_
  refine A.seq ?_
  refine A.cutR (fun _ : Unit => [(0, (.int .i64 r)), (2, (.pointer none)), (3, (.int .i64 0)), (9, (.bool ((decide (r < 1)) || (decide (r > 64)))))]) (fun _ => []) (fun _ => True) ?_ (fun _ _ => ?_)
  · skip
    refine A.region ?_
    refine A.cons (A.q (some 4) (.int .i64 r) (by kernel_rfl) (qt_move rfl rfl) ?_)
    refine A.cons (A.q (some 5) (.bool (decide (r < 1))) (by kernel_rfl) (qt_pure (by kernel_rfl) fun _ => by kernel_rfl) ?_)
    refine A.cons (A.q (some 6) (.bool (decide (r < 1))) (by kernel_rfl) (qt_move rfl rfl) ?_)
    refine A.bool (decide (r < 1)) (fun e1 => ?_) (fun e1 => ?_)
    · skip
      refine A.sub [(0, (.int .i64 r)), (2, (.pointer none)), (3, (.int .i64 0)), (4, (.int .i64 r)), (5, (.bool true)), (6, (.bool true))] (by exact ⟨rfl, rfl, rfl, rfl, (congrArg (fun z => some (Value.bool z)) e1), (congrArg (fun z => some (Value.bool z)) e1), trivial⟩) ?_
      refine A.cons (A.jump (some 7) rfl rfl (by intro x hx; cases hx; rfl) ?_)
      refine A.cons (A.jump (some 8) rfl rfl (by intro x hx; cases hx; rfl) ?_)
      refine A.cons (A.q (some 9) (.bool true) (by kernel_rfl) (qt_pure (by kernel_rfl) fun _ => by kernel_rfl) ?_)
      refine A.done ?_
      exact A.meet () trivial (A.here (by exact ⟨rfl, rfl, rfl, (by rw [e1]; rfl), trivial⟩) (List.Sublist.refl _))
    · skip
      refine A.sub [(0, (.int .i64 r)), (2, (.pointer none)), (3, (.int .i64 0)), (4, (.int .i64 r)), (5, (.bool false)), (6, (.bool false))] (by exact ⟨rfl, rfl, rfl, rfl, (congrArg (fun z => some (Value.bool z)) e1), (congrArg (fun z => some (Value.bool z)) e1), trivial⟩) ?_
      refine A.cons (A.q (some 7) (.int .i64 r) (by kernel_rfl) (qt_move rfl rfl) ?_)
      refine A.cons (A.q (some 8) (.bool (decide (r > 64))) (by kernel_rfl) (qt_pure (by kernel_rfl) fun _ => by kernel_rfl) ?_)
      refine A.cons (A.q (some 9) (.bool (decide (r > 64))) (by kernel_rfl) (qt_pure (by kernel_rfl) fun _ => by kernel_rfl) ?_)
      refine A.done ?_
      exact A.meet () trivial (A.here (by exact ⟨rfl, rfl, rfl, (by rw [e1]; rfl), trivial⟩) (List.Sublist.refl _))
  · skip
    refine A.tn ?_
    refine A.cond (E := (decide (r < 1)) || (decide (r > 64))) rfl (fun e2 => ?_) (fun e2 => ?_)
    · skip
      have p2 := e2; try simp only [decide_eq_true_eq, decide_eq_false_iff_not, beq_iff_eq, beq_eq_false_iff_ne, bne_iff_ne, bne_eq_false_iff_eq, ne_eq, Bool.and_eq_true, Bool.or_eq_true, Bool.or_eq_false_iff, Bool.not_eq_true', Bool.not_eq_false', Int.not_lt, Int.not_le, gt_iff_lt, ge_iff_le, Classical.not_not] at p2
      refine A.seq ?_
      refine A.region ?_
      refine A.cons (A.q (some 2) (.pointer none) (by kernel_rfl) (qt_assign rfl rfl) ?_)
      refine A.cons (A.q (some 3) (.int .i64 1) (by kernel_rfl) (qt_assign rfl rfl) ?_)
      refine A.done ?_
      refine A.norm [(0, (.int .i64 r)), (2, (.pointer none)), (3, (.int .i64 1)), (9, (.bool ((decide (r < 1)) || (decide (r > 64)))))] [] (by exact ⟨rfl, rfl, rfl, rfl, trivial⟩) rfl ?_
      refine A.tn ?_
      refine A.ret ?_
      refine A.tr ?_
      refine A.post [(.pointer none), (.int .i64 1)] (fun a w r s => ⟨rv_tmp r rfl, rv_tmp r rfl, trivial⟩) (fun w1 s => ?_)
      exact ⟨rfl, s.fr⟩
    · exact absurd e2 (by first | (simp; done) | (simp; omega) | grind)

set_option maxRecDepth 100000 in
theorem ringI_new_ok (room : Nat) (w : World) (h1 : 1 ≤ room) (h2 : room ≤ 64) :
    Calls Try.prog 21 #[(.int .i64 (room : Int))] w fun e w' => ∃ b s, e = .returned (.tuple #[(.pointer (some ⟨b, 0, none⟩)), (.int .i64 0)]) ∧ RingH encI 93 3 b s room ([] : List Int) w' ∧ Fr [] w w' ∧ w.heap.size ≤ b ∧ w.heap.size ≤ s := by
  refine calls_of (args := [(.int .i64 (room : Int))]) (penv [(.int .i64 (room : Int))]) [] [] Try.func21 rfl rfl (look_penv _) (HS.nil w) ?_
  refine A.norm [(0, (.int .i64 (room : Int)))] [] (by exact ⟨rfl, trivial⟩) rfl ?_
  refine A.seq ?_
  refine A.region ?_
  refine A.cons (A.q (some 2) (.pointer none) (by kernel_rfl) (qt_assign rfl rfl) ?_)
  refine A.cons (A.q (some 3) (.int .i64 0) (by kernel_rfl) (qt_assign rfl rfl) ?_)
  refine A.done ?_
  refine A.norm [(0, (.int .i64 (room : Int))), (2, (.pointer none)), (3, (.int .i64 0))] [] (by exact ⟨rfl, rfl, rfl, trivial⟩) rfl ?_
  refine A.tn ?_
  refine A.seq ?_
  refine A.seq ?_
  refine A.region ?_
  refine A.cons (A.q (some 4) (.int .i64 (room : Int)) (by kernel_rfl) (qt_move rfl rfl) ?_)
  refine A.cons (A.q (some 5) (.bool (decide ((room : Int) < 1))) (by kernel_rfl) (qt_pure (by kernel_rfl) fun _ => by kernel_rfl) ?_)
  refine A.cons (A.q (some 6) (.bool (decide ((room : Int) < 1))) (by kernel_rfl) (qt_move rfl rfl) ?_)
  refine A.bool (decide ((room : Int) < 1)) (fun e1 => ?_) (fun e1 => ?_)
  · exact absurd e1 (by first | (simp; done) | (simp; omega) | grind)
  · skip
    refine A.sub [(0, (.int .i64 (room : Int))), (2, (.pointer none)), (3, (.int .i64 0)), (4, (.int .i64 (room : Int))), (5, (.bool false)), (6, (.bool false))] (by exact ⟨rfl, rfl, rfl, rfl, (congrArg (fun z => some (Value.bool z)) e1), (congrArg (fun z => some (Value.bool z)) e1), trivial⟩) ?_
    refine A.cons (A.q (some 7) (.int .i64 (room : Int)) (by kernel_rfl) (qt_move rfl rfl) ?_)
    refine A.cons (A.q (some 8) (.bool (decide ((room : Int) > 64))) (by kernel_rfl) (qt_pure (by kernel_rfl) fun _ => by kernel_rfl) ?_)
    refine A.cons (A.q (some 9) (.bool (decide ((room : Int) > 64))) (by kernel_rfl) (qt_pure (by kernel_rfl) fun _ => by kernel_rfl) ?_)
    refine A.done ?_
    refine A.norm [(0, (.int .i64 (room : Int))), (2, (.pointer none)), (3, (.int .i64 0)), (9, (.bool (decide ((room : Int) > 64))))] [] (by exact ⟨rfl, rfl, rfl, rfl, trivial⟩) rfl ?_
    refine A.tn ?_
    refine A.cond (E := decide ((room : Int) > 64)) rfl (fun e2 => ?_) (fun e2 => ?_)
    · exact absurd e2 (by first | (simp; done) | (simp; omega) | grind)
    · skip
      have p2 := e2; try simp only [decide_eq_true_eq, decide_eq_false_iff_not, beq_iff_eq, beq_eq_false_iff_ne, bne_iff_ne, bne_eq_false_iff_eq, ne_eq, Bool.and_eq_true, Bool.or_eq_true, Bool.or_eq_false_iff, Bool.not_eq_true', Bool.not_eq_false', Int.not_lt, Int.not_le, gt_iff_lt, ge_iff_le, Classical.not_not] at p2
      refine A.skip ?_
      refine A.tn ?_
      refine A.seq ?_
      refine A.region ?_
      refine A.cons (A.q (some 10) (.int .i64 (room : Int)) (by kernel_rfl) (qt_move rfl rfl) ?_)
      refine A.cons (A.make encI 0 11 (e := 3) (sz := 1) (by_ := 8) (z := (.int .i64 0)) room (by kernel_rfl) rfl rfl rfl (by kernel_rfl) (by kernel_rfl) rfl (by rfl) (by omega) (by omega) (fun b1 => [blk b1 (V.flat encI (List.replicate room 0)) 3]) (fun _ => rfl) ?_)
      intro b1
      refine A.cons (A.q (some 12) (.agg #[(.slice (some ⟨b1, 0, none⟩) room room), (.int .i64 0), (.int .i64 0)]) (by kernel_rfl) (qt_pure (by kernel_rfl) fun _ => by kernel_rfl) ?_)
      refine A.cons (A.box 13 [(.slice (some ⟨b1, 0, none⟩) room room), (.int .i64 0), (.int .i64 0)] (by kernel_rfl) rfl rfl rfl (fun b2 => [blk b1 (V.flat encI (List.replicate room 0)) 3, blk b2 [(.slice (some ⟨b1, 0, none⟩) room room), (.int .i64 0), (.int .i64 0)] 93]) (fun _ => rfl) ?_)
      intro b2
      refine A.cons (A.q (some 2) (.pointer (some ⟨b2, 0, none⟩)) (by kernel_rfl) (qt_assign rfl rfl) ?_)
      refine A.cons (A.q (some 3) (.int .i64 0) (by kernel_rfl) (qt_assign rfl rfl) ?_)
      refine A.done ?_
      refine A.norm [(0, (.int .i64 (room : Int))), (2, (.pointer (some ⟨b2, 0, none⟩))), (3, (.int .i64 0)), (9, (.bool (decide ((room : Int) > 64))))] [blk b1 (V.flat encI (List.replicate room 0)) 3, blk b2 [(.slice (some ⟨b1, 0, none⟩) room room), (.int .i64 0), (.int .i64 0)] 93] (by exact ⟨rfl, rfl, rfl, rfl, trivial⟩) rfl ?_
      refine A.tn ?_
      refine A.ret ?_
      refine A.post [(.pointer (some ⟨b2, 0, none⟩)), (.int .i64 0)] (fun a w r s => ⟨rv_tmp r rfl, rv_tmp r rfl, trivial⟩) (fun w1 s => ?_)
      have hne := s.nodup
      simp only [feet, blk, List.flatMap_cons, List.flatMap_nil, List.nodup_cons, List.mem_cons, List.append_nil, List.cons_append, List.nil_append] at hne
      exact ⟨b2, b1, rfl, ⟨List.replicate room 0, 0, ⟨s.mem (i := 1) rfl, s.mem (i := 0) rfl, by simp, h1, h2, by omega, by simp, by rintro rfl; simp at hne⟩, by simp⟩, s.fr, s.new (by simp [feet, blk]), s.new (by simp [feet, blk])⟩

set_option maxRecDepth 100000 in
theorem ringI_push_full (b s room first n : Nat) (slots : List Int) (x : Int) (w : World) (hw : RingW encI 93 3 b s room slots first n w) (hn : n = room) :
    Calls Try.prog 23 #[(.pointer (some ⟨b, 0, none⟩)), (.int .i64 x)] w fun e w' => e = .returned (.int .i64 5) ∧ Fr [] w w' := by
  have hlo := hw.lo; have hhi := hw.hi; have hft := hw.fst; have hct := hw.cnt; have hln := hw.len; have hne := hw.ne
  refine calls_of (args := [(.pointer (some ⟨b, 0, none⟩)), (.int .i64 x)]) (penv [(.pointer (some ⟨b, 0, none⟩)), (.int .i64 x)]) [] [] Try.func23 rfl rfl (look_penv _) (HS.nil w) ?_
  refine A.norm [(0, (.pointer (some ⟨b, 0, none⟩))), (1, (.int .i64 x))] [] (by exact ⟨rfl, rfl, trivial⟩) rfl ?_
  refine A.seq ?_
  refine A.region ?_
  refine A.cons (A.q (some 4) (.int .i64 0) (by kernel_rfl) (qt_assign rfl rfl) ?_)
  refine A.done ?_
  refine A.norm [(0, (.pointer (some ⟨b, 0, none⟩))), (1, (.int .i64 x)), (4, (.int .i64 0))] [] (by exact ⟨rfl, rfl, rfl, trivial⟩) rfl ?_
  refine A.tn ?_
  refine A.seq ?_
  refine A.block ?_
  refine A.seq ?_
  refine A.region ?_
  refine A.cons (A.q (some 6) (.pointer (some ⟨b, 0, none⟩)) (by kernel_rfl) (qt_move rfl rfl) ?_)
  refine A.cons (A.q (some 7) (.bool false) (by kernel_rfl) (qt_pure (by kernel_rfl) fun _ => by kernel_rfl) ?_)
  refine A.cons (A.q (some 5) (.bool false) (by kernel_rfl) (qt_assign rfl rfl) ?_)
  refine A.done ?_
  refine A.norm [(0, (.pointer (some ⟨b, 0, none⟩))), (1, (.int .i64 x)), (4, (.int .i64 0)), (5, (.bool false))] [] (by exact ⟨rfl, rfl, rfl, rfl, trivial⟩) rfl ?_
  refine A.tn ?_
  refine A.cond_f rfl ?_
  refine A.seq ?_
  refine A.region ?_
  refine A.cons (A.q (some 9) (.pointer (some ⟨b, 0, none⟩)) (by kernel_rfl) (qt_move rfl rfl) ?_)
  refine A.cons (A.q (some 10) (.int .i64 ((room : Int) - (n : Int))) (by kernel_rfl) (qt_call [(.pointer (some ⟨b, 0, none⟩))] rfl (by kernel_rfl) rfl (fun w s0 => ringI_room_w b s room first n w (old_blk s0 hw.hb) ⟨hlo, hhi, hft, hct⟩)) ?_)
  refine A.cons (A.q (some 11) (.bool (((room : Int) - (n : Int)) == 0)) (by kernel_rfl) (qt_pure (by kernel_rfl) fun _ => by kernel_rfl) ?_)
  refine A.cons (A.q (some 8) (.bool (((room : Int) - (n : Int)) == 0)) (by kernel_rfl) (qt_assign rfl rfl) ?_)
  refine A.done ?_
  refine A.norm [(0, (.pointer (some ⟨b, 0, none⟩))), (1, (.int .i64 x)), (4, (.int .i64 0)), (5, (.bool false)), (8, (.bool (((room : Int) - (n : Int)) == 0)))] [] (by exact ⟨rfl, rfl, rfl, rfl, rfl, trivial⟩) rfl ?_
  refine A.tn ?_
  refine A.cond (E := ((room : Int) - (n : Int)) == 0) rfl (fun e1 => ?_) (fun e1 => ?_)
  · skip
    have p1 := e1; try simp only [decide_eq_true_eq, decide_eq_false_iff_not, beq_iff_eq, beq_eq_false_iff_ne, bne_iff_ne, bne_eq_false_iff_eq, ne_eq, Bool.and_eq_true, Bool.or_eq_true, Bool.or_eq_false_iff, Bool.not_eq_true', Bool.not_eq_false', Int.not_lt, Int.not_le, gt_iff_lt, ge_iff_le, Classical.not_not] at p1
    refine A.seq ?_
    refine A.region ?_
    refine A.cons (A.q (some 4) (.int .i64 5) (by kernel_rfl) (qt_assign rfl rfl) ?_)
    refine A.done ?_
    refine A.norm [(0, (.pointer (some ⟨b, 0, none⟩))), (1, (.int .i64 x)), (4, (.int .i64 5)), (5, (.bool false)), (8, (.bool (((room : Int) - (n : Int)) == 0)))] [] (by exact ⟨rfl, rfl, rfl, rfl, rfl, trivial⟩) rfl ?_
    refine A.tn ?_
    refine A.ret ?_
    refine A.br ?_
    refine A.tr ?_
    refine A.post [(.int .i64 5)] (fun a w r s => ⟨rv_tmp r rfl, trivial⟩) (fun w1 s => ?_)
    exact ⟨rfl, s.fr⟩
  · exact absurd e1 (by first | (simp; done) | (simp; omega) | grind)

set_option maxRecDepth 100000 in
theorem ringI_push_w (b s room first n : Nat) (slots : List Int) (x : Int) (w : World) (hw : RingW encI 93 3 b s room slots first n w) (hn : n < room) :
    Calls Try.prog 23 #[(.pointer (some ⟨b, 0, none⟩)), (.int .i64 x)] w fun e w' => e = .returned (.int .i64 0) ∧ RingW encI 93 3 b s room (slots.set ((first + n) % room) x) first (n + 1) w' ∧ Fr [b, s] w w' := by
  have hlo := hw.lo; have hhi := hw.hi; have hft := hw.fst; have hct := hw.cnt; have hln := hw.len; have hne := hw.ne
  refine calls_of (args := [(.pointer (some ⟨b, 0, none⟩)), (.int .i64 x)]) (penv [(.pointer (some ⟨b, 0, none⟩)), (.int .i64 x)]) [b, s] [blk b [(.slice (some ⟨s, 0, none⟩) room room), (.int .i64 (first : Int)), (.int .i64 (n : Int))] 93, blk s (V.flat encI slots) 3] Try.func23 rfl rfl (look_penv _) (ringHS hw) ?_
  refine A.norm [(0, (.pointer (some ⟨b, 0, none⟩))), (1, (.int .i64 x))] [blk b [(.slice (some ⟨s, 0, none⟩) room room), (.int .i64 (first : Int)), (.int .i64 (n : Int))] 93, blk s (V.flat encI slots) 3] (by exact ⟨rfl, rfl, trivial⟩) rfl ?_
  refine A.seq ?_
  refine A.region ?_
  refine A.cons (A.q (some 4) (.int .i64 0) (by kernel_rfl) (qt_assign rfl rfl) ?_)
  refine A.done ?_
  refine A.norm [(0, (.pointer (some ⟨b, 0, none⟩))), (1, (.int .i64 x)), (4, (.int .i64 0))] [blk b [(.slice (some ⟨s, 0, none⟩) room room), (.int .i64 (first : Int)), (.int .i64 (n : Int))] 93, blk s (V.flat encI slots) 3] (by exact ⟨rfl, rfl, rfl, trivial⟩) rfl ?_
  refine A.tn ?_
  refine A.seq ?_
  refine A.block ?_
  refine A.seq ?_
  refine A.region ?_
  refine A.cons (A.q (some 6) (.pointer (some ⟨b, 0, none⟩)) (by kernel_rfl) (qt_move rfl rfl) ?_)
  refine A.cons (A.q (some 7) (.bool false) (by kernel_rfl) (qt_pure (by kernel_rfl) fun _ => by kernel_rfl) ?_)
  refine A.cons (A.q (some 5) (.bool false) (by kernel_rfl) (qt_assign rfl rfl) ?_)
  refine A.done ?_
  refine A.norm [(0, (.pointer (some ⟨b, 0, none⟩))), (1, (.int .i64 x)), (4, (.int .i64 0)), (5, (.bool false))] [blk b [(.slice (some ⟨s, 0, none⟩) room room), (.int .i64 (first : Int)), (.int .i64 (n : Int))] 93, blk s (V.flat encI slots) 3] (by exact ⟨rfl, rfl, rfl, rfl, trivial⟩) rfl ?_
  refine A.tn ?_
  refine A.cond_f rfl ?_
  refine A.seq ?_
  refine A.region ?_
  refine A.cons (A.q (some 9) (.pointer (some ⟨b, 0, none⟩)) (by kernel_rfl) (qt_move rfl rfl) ?_)
  refine A.cons (A.q (some 10) (.int .i64 ((room : Int) - (n : Int))) (by kernel_rfl) (qt_call [(.pointer (some ⟨b, 0, none⟩))] rfl (by kernel_rfl) rfl (fun w s0 => ringI_room_w b s room first n w (s0.mem (i := 0) rfl) ⟨hlo, hhi, hft, hct⟩)) ?_)
  refine A.cons (A.q (some 11) (.bool (((room : Int) - (n : Int)) == 0)) (by kernel_rfl) (qt_pure (by kernel_rfl) fun _ => by kernel_rfl) ?_)
  refine A.cons (A.q (some 8) (.bool (((room : Int) - (n : Int)) == 0)) (by kernel_rfl) (qt_assign rfl rfl) ?_)
  refine A.done ?_
  refine A.norm [(0, (.pointer (some ⟨b, 0, none⟩))), (1, (.int .i64 x)), (4, (.int .i64 0)), (5, (.bool false)), (8, (.bool (((room : Int) - (n : Int)) == 0)))] [blk b [(.slice (some ⟨s, 0, none⟩) room room), (.int .i64 (first : Int)), (.int .i64 (n : Int))] 93, blk s (V.flat encI slots) 3] (by exact ⟨rfl, rfl, rfl, rfl, rfl, trivial⟩) rfl ?_
  refine A.tn ?_
  refine A.cond (E := ((room : Int) - (n : Int)) == 0) rfl (fun e1 => ?_) (fun e1 => ?_)
  · exact absurd e1 (by first | (simp; done) | (simp; omega) | grind)
  · skip
    have p1 := e1; try simp only [decide_eq_true_eq, decide_eq_false_iff_not, beq_iff_eq, beq_eq_false_iff_ne, bne_iff_ne, bne_eq_false_iff_eq, ne_eq, Bool.and_eq_true, Bool.or_eq_true, Bool.or_eq_false_iff, Bool.not_eq_true', Bool.not_eq_false', Int.not_lt, Int.not_le, gt_iff_lt, ge_iff_le, Classical.not_not] at p1
    refine A.skip ?_
    refine A.bn ?_
    refine A.tn ?_
    refine A.seq ?_
    refine A.draw [blk b [(.slice (some ⟨s, 0, none⟩) room room), (.int .i64 (first : Int)), (.int .i64 (n : Int))] 93] (by kernel_rfl) ?_
    refine A.take 0 (some 12) (.pointer (some ⟨b, 0, none⟩)) rfl (by kernel_rfl) (by kernel_rfl) (List.Sublist.cons_cons _ (List.Sublist.cons _ (List.Sublist.slnil))) (qt_move rfl rfl) ?_
    refine A.take 1 (some 13) (.pointer (some ⟨b, 0, none⟩)) rfl (by kernel_rfl) (by kernel_rfl) (List.Sublist.cons_cons _ (List.Sublist.cons _ (List.Sublist.slnil))) (qt_pure (by kernel_rfl) fun _ => by kernel_rfl) ?_
    refine A.take 2 (some 14) (.pointer (some ⟨b, 0, none⟩)) rfl (by kernel_rfl) (by kernel_rfl) (List.Sublist.cons_cons _ (List.Sublist.cons _ (List.Sublist.slnil))) (qt_pure (by kernel_rfl) fun _ => by kernel_rfl) ?_
    refine A.take 3 (some 15) (.slice (some ⟨s, 0, none⟩) room room) rfl (by kernel_rfl) (by kernel_rfl) (List.Sublist.cons_cons _ (List.Sublist.cons _ (List.Sublist.slnil))) (qt_load1 rfl rfl (by kernel_rfl) (reads_blk (i := 0) rfl rfl)) ?_
    refine A.take 4 (some 16) (.pointer (some ⟨b, 0, none⟩)) rfl (by kernel_rfl) (by kernel_rfl) (List.Sublist.cons_cons _ (List.Sublist.cons _ (List.Sublist.slnil))) (qt_move rfl rfl) ?_
    refine A.take 5 (some 17) (.pointer (some ⟨b, 0, none⟩)) rfl (by kernel_rfl) (by kernel_rfl) (List.Sublist.cons_cons _ (List.Sublist.cons _ (List.Sublist.slnil))) (qt_move rfl rfl) ?_
    refine A.take 6 (some 18) (.pointer (some ⟨b, 0, none⟩)) rfl (by kernel_rfl) (by kernel_rfl) (List.Sublist.cons_cons _ (List.Sublist.cons _ (List.Sublist.slnil))) (qt_pure (by kernel_rfl) fun _ => by kernel_rfl) ?_
    refine A.take 7 (some 19) (.pointer (some ⟨b, 2, none⟩)) rfl (by kernel_rfl) (by kernel_rfl) (List.Sublist.cons_cons _ (List.Sublist.cons _ (List.Sublist.slnil))) (qt_pure (by kernel_rfl) fun _ => by kernel_rfl) ?_
    refine A.take 8 (some 20) (.int .i64 (n : Int)) rfl (by kernel_rfl) (by kernel_rfl) (List.Sublist.cons_cons _ (List.Sublist.cons _ (List.Sublist.slnil))) (qt_load1 rfl rfl (by kernel_rfl) (reads_blk (i := 0) rfl rfl)) ?_
    refine A.take 9 (some 21) (.int .i64 (((first + n) % room : Nat) : Int)) rfl (by kernel_rfl) (by kernel_rfl) (List.Sublist.cons_cons _ (List.Sublist.cons _ (List.Sublist.slnil))) (qt_call [(.pointer (some ⟨b, 0, none⟩)), (.int .i64 (n : Int))] rfl (by kernel_rfl) rfl (fun w s0 => ringI_place_spec b s room first n n w (s0.mem (i := 0) rfl) ⟨hlo, hhi, hft, hct⟩ (by omega))) ?_
    refine A.take 10 (some 22) (.int .i64 x) rfl (by kernel_rfl) (by kernel_rfl) (List.Sublist.cons_cons _ (List.Sublist.cons _ (List.Sublist.slnil))) (qt_move rfl rfl) ?_
    refine A.take 11 (some 23) (.pointer (some ⟨s, ((first + n) % room : Nat) * 1, none⟩)) rfl (by kernel_rfl) (by kernel_rfl) (List.Sublist.cons_cons _ (List.Sublist.cons _ (List.Sublist.slnil))) (qt_index0 (el := 3) (m := ((first + n) % room : Nat)) rfl rfl rfl (by kernel_rfl) (by kernel_rfl) (by first | exact Nat.mod_lt _ (by omega) | omega)) ?_
    refine A.only 12 rfl (by kernel_rfl) (A.storeAt 1 ((first + n) % room : Nat) x [blk b [(.slice (some ⟨s, 0, none⟩) room room), (.int .i64 (first : Int)), (.int .i64 (n : Int))] 93, blk s (V.flat encI (slots.set ((first + n) % room : Nat) x)) 3] (by kernel_rfl) rfl rfl rfl rfl (by kernel_rfl) rfl encI_len rfl (by rw [hln]; first | exact Nat.mod_lt _ (by omega) | omega) rfl ?_)
    refine A.and (List.Sublist.cons_cons _ (List.Sublist.cons _ (List.Sublist.slnil))) ?_
    refine A.fin (by kernel_rfl) ?_
    refine A.norm [(0, (.pointer (some ⟨b, 0, none⟩))), (1, (.int .i64 x)), (4, (.int .i64 0)), (5, (.bool false)), (8, (.bool (((room : Int) - (n : Int)) == 0)))] [blk b [(.slice (some ⟨s, 0, none⟩) room room), (.int .i64 (first : Int)), (.int .i64 (n : Int))] 93, blk s (V.flat encI (slots.set ((first + n) % room : Nat) x)) 3] (by exact ⟨rfl, rfl, rfl, rfl, rfl, trivial⟩) rfl ?_
    refine A.tn ?_
    refine A.seq ?_
    refine A.region ?_
    refine A.cons (A.q (some 24) (.pointer (some ⟨b, 0, none⟩)) (by kernel_rfl) (qt_move rfl rfl) ?_)
    refine A.cons (A.q (some 25) (.pointer (some ⟨b, 0, none⟩)) (by kernel_rfl) (qt_pure (by kernel_rfl) fun _ => by kernel_rfl) ?_)
    refine A.cons (A.q (some 26) (.pointer (some ⟨b, 2, none⟩)) (by kernel_rfl) (qt_pure (by kernel_rfl) fun _ => by kernel_rfl) ?_)
    refine A.cons (A.q (some 27) (.int .i64 (n : Int)) (by kernel_rfl) (qt_load1 rfl rfl (by kernel_rfl) (reads_blk (i := 0) rfl rfl)) ?_)
    refine A.cons (A.q (some 28) (.int .i64 ((n : Int) + 1)) (by kernel_rfl) (qt_as (congrArg (Value.int .i64) (wrap_i64 (e := (n : Int) + 1) (by constructor <;> omega))) (qt_pure (v := .int .i64 (IntKind.i64.wrap ((n : Int) + 1))) (by kernel_rfl) fun _ => by kernel_rfl)) ?_)
    refine A.cons (A.q (some 29) (.pointer (some ⟨b, 0, none⟩)) (by kernel_rfl) (qt_pure (by kernel_rfl) fun _ => by kernel_rfl) ?_)
    refine A.cons (A.q (some 30) (.pointer (some ⟨b, 2, none⟩)) (by kernel_rfl) (qt_pure (by kernel_rfl) fun _ => by kernel_rfl) ?_)
    refine A.cons (A.store 0 (vs := [(.int .i64 ((n : Int) + 1))]) [blk b [(.slice (some ⟨s, 0, none⟩) room room), (.int .i64 (first : Int)), (.int .i64 ((n : Int) + 1))] 93, blk s (V.flat encI (slots.set ((first + n) % room : Nat) x)) 3] (by kernel_rfl) rfl rfl rfl rfl (by kernel_rfl) rfl rfl (by kernel_rfl) rfl ?_)
    refine A.done ?_
    refine A.norm [(0, (.pointer (some ⟨b, 0, none⟩))), (1, (.int .i64 x)), (4, (.int .i64 0)), (5, (.bool false)), (8, (.bool (((room : Int) - (n : Int)) == 0)))] [blk b [(.slice (some ⟨s, 0, none⟩) room room), (.int .i64 (first : Int)), (.int .i64 ((n : Int) + 1))] 93, blk s (V.flat encI (slots.set ((first + n) % room : Nat) x)) 3] (by exact ⟨rfl, rfl, rfl, rfl, rfl, trivial⟩) rfl ?_
    refine A.tn ?_
    refine A.seq ?_
    refine A.region ?_
    refine A.cons (A.q (some 4) (.int .i64 0) (by kernel_rfl) (qt_assign rfl rfl) ?_)
    refine A.done ?_
    refine A.norm [(0, (.pointer (some ⟨b, 0, none⟩))), (1, (.int .i64 x)), (4, (.int .i64 0)), (5, (.bool false)), (8, (.bool (((room : Int) - (n : Int)) == 0)))] [blk b [(.slice (some ⟨s, 0, none⟩) room room), (.int .i64 (first : Int)), (.int .i64 ((n : Int) + 1))] 93, blk s (V.flat encI (slots.set ((first + n) % room : Nat) x)) 3] (by exact ⟨rfl, rfl, rfl, rfl, rfl, trivial⟩) rfl ?_
    refine A.tn ?_
    refine A.ret ?_
    refine A.post [(.int .i64 0)] (fun a w r s => ⟨rv_tmp r rfl, trivial⟩) (fun w1 s => ?_)
    exact ⟨rfl, ⟨s.mem (i := 0) rfl, s.mem (i := 1) rfl, by simp [hln], hlo, hhi, hft, by omega, hne⟩, s.fr⟩

set_option maxRecDepth 100000 in
theorem ringI_pop_w (b s room first m : Nat) (slots : List Int) (x : Int) (w : World) (hw : RingW encI 93 3 b s room slots first (m + 1) w) (hx : slots[(first + 0) % room]? = some x) :
    Calls Try.prog 22 #[(.pointer (some ⟨b, 0, none⟩))] w fun e w' => e = .returned (.tuple #[(.int .i64 x), (.int .i64 0)]) ∧ RingW encI 93 3 b s room (slots.set first 0) ((first + 1) % room) m w' ∧ Fr [b, s] w w' := by
  have hlo := hw.lo; have hhi := hw.hi; have hft := hw.fst; have hct := hw.cnt; have hln := hw.len; have hne := hw.ne
  refine calls_of (args := [(.pointer (some ⟨b, 0, none⟩))]) (penv [(.pointer (some ⟨b, 0, none⟩))]) [b, s] [blk b [(.slice (some ⟨s, 0, none⟩) room room), (.int .i64 (first : Int)), (.int .i64 ((m + 1 : Nat) : Int))] 93, blk s (V.flat encI slots) 3] Try.func22 rfl rfl (look_penv _) (ringHS hw) ?_
  refine A.norm [(0, (.pointer (some ⟨b, 0, none⟩)))] [blk b [(.slice (some ⟨s, 0, none⟩) room room), (.int .i64 (first : Int)), (.int .i64 ((m + 1 : Nat) : Int))] 93, blk s (V.flat encI slots) 3] (by exact ⟨rfl, trivial⟩) rfl ?_
  refine A.seq ?_
  refine A.region ?_
  refine A.cons (A.q (some 2) (.int .i64 0) (by kernel_rfl) (qt_assign rfl rfl) ?_)
  refine A.cons (A.q (some 3) (.int .i64 0) (by kernel_rfl) (qt_assign rfl rfl) ?_)
  refine A.done ?_
  refine A.norm [(0, (.pointer (some ⟨b, 0, none⟩))), (2, (.int .i64 0)), (3, (.int .i64 0))] [blk b [(.slice (some ⟨s, 0, none⟩) room room), (.int .i64 (first : Int)), (.int .i64 ((m + 1 : Nat) : Int))] 93, blk s (V.flat encI slots) 3] (by exact ⟨rfl, rfl, rfl, trivial⟩) rfl ?_
  refine A.tn ?_
  refine A.seq ?_
  refine A.region ?_
  refine A.cons (A.q (some 8) (.pointer (some ⟨b, 0, none⟩)) (by kernel_rfl) (qt_move rfl rfl) ?_)
  refine A.cons (A.q (some 9) (.tuple #[(.int .i64 x), (.int .i64 0)]) (by kernel_rfl) (qt_call [(.pointer (some ⟨b, 0, none⟩)), (.int .i64 0)] rfl (by kernel_rfl) rfl (fun w s0 => ringI_at_ok b s room first (m + 1) slots 0 x w ⟨s0.mem (i := 0) rfl, s0.mem (i := 1) rfl, hw.len, hw.lo, hw.hi, hw.fst, hw.cnt, hw.ne⟩ (by omega) hx)) ?_)
  refine A.cons (A.q (some 7) (.tuple #[(.int .i64 x), (.int .i64 0)]) (by kernel_rfl) (qt_move rfl rfl) ?_)
  refine A.cons (A.q (some 10) (.int .i64 x) (by kernel_rfl) (qt_pure (by kernel_rfl) fun _ => by kernel_rfl) ?_)
  refine A.cons (A.q (some 11) (.int .i64 0) (by kernel_rfl) (qt_pure (by kernel_rfl) fun _ => by kernel_rfl) ?_)
  refine A.cons (A.q (some 4) (.int .i64 x) (by kernel_rfl) (qt_assign rfl rfl) ?_)
  refine A.cons (A.q (some 5) (.int .i64 0) (by kernel_rfl) (qt_assign rfl rfl) ?_)
  refine A.done ?_
  refine A.norm [(0, (.pointer (some ⟨b, 0, none⟩))), (2, (.int .i64 0)), (3, (.int .i64 0)), (4, (.int .i64 x)), (5, (.int .i64 0))] [blk b [(.slice (some ⟨s, 0, none⟩) room room), (.int .i64 (first : Int)), (.int .i64 ((m + 1 : Nat) : Int))] 93, blk s (V.flat encI slots) 3] (by exact ⟨rfl, rfl, rfl, rfl, rfl, trivial⟩) rfl ?_
  refine A.tn ?_
  refine A.seq ?_
  refine A.seq ?_
  refine A.region ?_
  refine A.cons (A.q (some 12) (.int .i64 0) (by kernel_rfl) (qt_move rfl rfl) ?_)
  refine A.cons (A.q (some 13) (.bool false) (by kernel_rfl) (qt_pure (by kernel_rfl) fun _ => by kernel_rfl) ?_)
  refine A.done ?_
  refine A.norm [(0, (.pointer (some ⟨b, 0, none⟩))), (2, (.int .i64 0)), (3, (.int .i64 0)), (4, (.int .i64 x)), (5, (.int .i64 0)), (13, (.bool false))] [blk b [(.slice (some ⟨s, 0, none⟩) room room), (.int .i64 (first : Int)), (.int .i64 ((m + 1 : Nat) : Int))] 93, blk s (V.flat encI slots) 3] (by exact ⟨rfl, rfl, rfl, rfl, rfl, rfl, trivial⟩) rfl ?_
  refine A.tn ?_
  refine A.cond_f rfl ?_
  refine A.skip ?_
  refine A.tn ?_
  refine A.seq ?_
  refine A.region ?_
  refine A.cons (A.q (some 6) (.int .i64 0) (by kernel_rfl) (qt_assign rfl rfl) ?_)
  refine A.done ?_
  refine A.norm [(0, (.pointer (some ⟨b, 0, none⟩))), (2, (.int .i64 0)), (3, (.int .i64 0)), (4, (.int .i64 x)), (5, (.int .i64 0)), (13, (.bool false)), (6, (.int .i64 0))] [blk b [(.slice (some ⟨s, 0, none⟩) room room), (.int .i64 (first : Int)), (.int .i64 ((m + 1 : Nat) : Int))] 93, blk s (V.flat encI slots) 3] (by exact ⟨rfl, rfl, rfl, rfl, rfl, rfl, rfl, trivial⟩) rfl ?_
  refine A.tn ?_
  refine A.seq ?_
  refine A.draw [blk b [(.slice (some ⟨s, 0, none⟩) room room), (.int .i64 (first : Int)), (.int .i64 ((m + 1 : Nat) : Int))] 93] (by kernel_rfl) ?_
  refine A.take 0 (some 16) (.pointer (some ⟨b, 0, none⟩)) rfl (by kernel_rfl) (by kernel_rfl) (List.Sublist.cons_cons _ (List.Sublist.cons _ (List.Sublist.slnil))) (qt_move rfl rfl) ?_
  refine A.take 1 (some 17) (.pointer (some ⟨b, 0, none⟩)) rfl (by kernel_rfl) (by kernel_rfl) (List.Sublist.cons_cons _ (List.Sublist.cons _ (List.Sublist.slnil))) (qt_pure (by kernel_rfl) fun _ => by kernel_rfl) ?_
  refine A.take 2 (some 18) (.pointer (some ⟨b, 0, none⟩)) rfl (by kernel_rfl) (by kernel_rfl) (List.Sublist.cons_cons _ (List.Sublist.cons _ (List.Sublist.slnil))) (qt_pure (by kernel_rfl) fun _ => by kernel_rfl) ?_
  refine A.take 3 (some 19) (.slice (some ⟨s, 0, none⟩) room room) rfl (by kernel_rfl) (by kernel_rfl) (List.Sublist.cons_cons _ (List.Sublist.cons _ (List.Sublist.slnil))) (qt_load1 rfl rfl (by kernel_rfl) (reads_blk (i := 0) rfl rfl)) ?_
  refine A.take 4 (some 20) (.pointer (some ⟨b, 0, none⟩)) rfl (by kernel_rfl) (by kernel_rfl) (List.Sublist.cons_cons _ (List.Sublist.cons _ (List.Sublist.slnil))) (qt_move rfl rfl) ?_
  refine A.take 5 (some 21) (.pointer (some ⟨b, 0, none⟩)) rfl (by kernel_rfl) (by kernel_rfl) (List.Sublist.cons_cons _ (List.Sublist.cons _ (List.Sublist.slnil))) (qt_pure (by kernel_rfl) fun _ => by kernel_rfl) ?_
  refine A.take 6 (some 22) (.pointer (some ⟨b, 1, none⟩)) rfl (by kernel_rfl) (by kernel_rfl) (List.Sublist.cons_cons _ (List.Sublist.cons _ (List.Sublist.slnil))) (qt_pure (by kernel_rfl) fun _ => by kernel_rfl) ?_
  refine A.take 7 (some 23) (.int .i64 (first : Int)) rfl (by kernel_rfl) (by kernel_rfl) (List.Sublist.cons_cons _ (List.Sublist.cons _ (List.Sublist.slnil))) (qt_load1 rfl rfl (by kernel_rfl) (reads_blk (i := 0) rfl rfl)) ?_
  refine A.take 8 (some 24) (.int .i64 0) rfl (by kernel_rfl) (by kernel_rfl) (List.Sublist.cons_cons _ (List.Sublist.cons _ (List.Sublist.slnil))) (qt_move rfl rfl) ?_
  refine A.take 9 (some 25) (.pointer (some ⟨s, first * 1, none⟩)) rfl (by kernel_rfl) (by kernel_rfl) (List.Sublist.cons_cons _ (List.Sublist.cons _ (List.Sublist.slnil))) (qt_index0 (el := 3) (m := first) rfl rfl rfl (by kernel_rfl) (by kernel_rfl) (by first | exact Nat.mod_lt _ (by omega) | omega)) ?_
  refine A.only 10 rfl (by kernel_rfl) (A.storeAt 1 first 0 [blk b [(.slice (some ⟨s, 0, none⟩) room room), (.int .i64 (first : Int)), (.int .i64 ((m + 1 : Nat) : Int))] 93, blk s (V.flat encI (slots.set first 0)) 3] (by kernel_rfl) rfl rfl rfl rfl (by kernel_rfl) rfl encI_len rfl (by rw [hln]; first | exact Nat.mod_lt _ (by omega) | omega) rfl ?_)
  refine A.and (List.Sublist.cons_cons _ (List.Sublist.cons _ (List.Sublist.slnil))) ?_
  refine A.fin (by kernel_rfl) ?_
  refine A.norm [(0, (.pointer (some ⟨b, 0, none⟩))), (2, (.int .i64 0)), (3, (.int .i64 0)), (4, (.int .i64 x)), (5, (.int .i64 0)), (13, (.bool false)), (6, (.int .i64 0))] [blk b [(.slice (some ⟨s, 0, none⟩) room room), (.int .i64 (first : Int)), (.int .i64 ((m + 1 : Nat) : Int))] 93, blk s (V.flat encI (slots.set first 0)) 3] (by exact ⟨rfl, rfl, rfl, rfl, rfl, rfl, rfl, trivial⟩) rfl ?_
  refine A.tn ?_
  refine A.seq ?_
  refine A.region ?_
  refine A.cons (A.q (some 26) (.pointer (some ⟨b, 0, none⟩)) (by kernel_rfl) (qt_move rfl rfl) ?_)
  refine A.cons (A.q (some 27) (.pointer (some ⟨b, 0, none⟩)) (by kernel_rfl) (qt_move rfl rfl) ?_)
  refine A.cons (A.q (some 28) (.int .i64 (((first + 1) % room : Nat) : Int)) (by kernel_rfl) (qt_call [(.pointer (some ⟨b, 0, none⟩)), (.int .i64 1)] rfl (by kernel_rfl) rfl (fun w s0 => ringI_place_spec b s room first (m + 1) 1 w (s0.mem (i := 0) rfl) ⟨hlo, hhi, hft, hct⟩ (by omega))) ?_)
  refine A.cons (A.q (some 29) (.pointer (some ⟨b, 0, none⟩)) (by kernel_rfl) (qt_pure (by kernel_rfl) fun _ => by kernel_rfl) ?_)
  refine A.cons (A.q (some 30) (.pointer (some ⟨b, 1, none⟩)) (by kernel_rfl) (qt_pure (by kernel_rfl) fun _ => by kernel_rfl) ?_)
  refine A.cons (A.store 0 (vs := [(.int .i64 (((first + 1) % room : Nat) : Int))]) [blk b [(.slice (some ⟨s, 0, none⟩) room room), (.int .i64 (((first + 1) % room : Nat) : Int)), (.int .i64 ((m + 1 : Nat) : Int))] 93, blk s (V.flat encI (slots.set first 0)) 3] (by kernel_rfl) rfl rfl rfl rfl (by kernel_rfl) rfl rfl (by kernel_rfl) rfl ?_)
  refine A.done ?_
  refine A.norm [(0, (.pointer (some ⟨b, 0, none⟩))), (2, (.int .i64 0)), (3, (.int .i64 0)), (4, (.int .i64 x)), (5, (.int .i64 0)), (13, (.bool false)), (6, (.int .i64 0))] [blk b [(.slice (some ⟨s, 0, none⟩) room room), (.int .i64 (((first + 1) % room : Nat) : Int)), (.int .i64 ((m + 1 : Nat) : Int))] 93, blk s (V.flat encI (slots.set first 0)) 3] (by exact ⟨rfl, rfl, rfl, rfl, rfl, rfl, rfl, trivial⟩) rfl ?_
  refine A.tn ?_
  refine A.seq ?_
  refine A.region ?_
  refine A.cons (A.q (some 31) (.pointer (some ⟨b, 0, none⟩)) (by kernel_rfl) (qt_move rfl rfl) ?_)
  refine A.cons (A.q (some 32) (.pointer (some ⟨b, 0, none⟩)) (by kernel_rfl) (qt_pure (by kernel_rfl) fun _ => by kernel_rfl) ?_)
  refine A.cons (A.q (some 33) (.pointer (some ⟨b, 2, none⟩)) (by kernel_rfl) (qt_pure (by kernel_rfl) fun _ => by kernel_rfl) ?_)
  refine A.cons (A.q (some 34) (.int .i64 ((m + 1 : Nat) : Int)) (by kernel_rfl) (qt_load1 rfl rfl (by kernel_rfl) (reads_blk (i := 0) rfl rfl)) ?_)
  refine A.cons (A.q (some 35) (.int .i64 (m : Int)) (by kernel_rfl) (qt_as (congrArg (Value.int .i64) ((wrap_i64 (e := ((m + 1 : Nat) : Int) - 1) (by constructor <;> omega)).trans (by first | rfl | omega : (((m + 1 : Nat) : Int) - 1 : Int) = (m : Int)))) (qt_pure (v := .int .i64 (IntKind.i64.wrap (((m + 1 : Nat) : Int) - 1))) (by kernel_rfl) fun _ => by kernel_rfl)) ?_)
  refine A.cons (A.q (some 36) (.pointer (some ⟨b, 0, none⟩)) (by kernel_rfl) (qt_pure (by kernel_rfl) fun _ => by kernel_rfl) ?_)
  refine A.cons (A.q (some 37) (.pointer (some ⟨b, 2, none⟩)) (by kernel_rfl) (qt_pure (by kernel_rfl) fun _ => by kernel_rfl) ?_)
  refine A.cons (A.store 0 (vs := [(.int .i64 (m : Int))]) [blk b [(.slice (some ⟨s, 0, none⟩) room room), (.int .i64 (((first + 1) % room : Nat) : Int)), (.int .i64 (m : Int))] 93, blk s (V.flat encI (slots.set first 0)) 3] (by kernel_rfl) rfl rfl rfl rfl (by kernel_rfl) rfl rfl (by kernel_rfl) rfl ?_)
  refine A.done ?_
  refine A.norm [(0, (.pointer (some ⟨b, 0, none⟩))), (2, (.int .i64 0)), (3, (.int .i64 0)), (4, (.int .i64 x)), (5, (.int .i64 0)), (13, (.bool false)), (6, (.int .i64 0))] [blk b [(.slice (some ⟨s, 0, none⟩) room room), (.int .i64 (((first + 1) % room : Nat) : Int)), (.int .i64 (m : Int))] 93, blk s (V.flat encI (slots.set first 0)) 3] (by exact ⟨rfl, rfl, rfl, rfl, rfl, rfl, rfl, trivial⟩) rfl ?_
  refine A.tn ?_
  refine A.seq ?_
  refine A.region ?_
  refine A.cons (A.q (some 38) (.int .i64 x) (by kernel_rfl) (qt_move rfl rfl) ?_)
  refine A.cons (A.q (some 2) (.int .i64 x) (by kernel_rfl) (qt_assign rfl rfl) ?_)
  refine A.cons (A.q (some 3) (.int .i64 0) (by kernel_rfl) (qt_assign rfl rfl) ?_)
  refine A.done ?_
  refine A.norm [(0, (.pointer (some ⟨b, 0, none⟩))), (2, (.int .i64 x)), (3, (.int .i64 0)), (4, (.int .i64 x)), (5, (.int .i64 0)), (13, (.bool false)), (6, (.int .i64 0))] [blk b [(.slice (some ⟨s, 0, none⟩) room room), (.int .i64 (((first + 1) % room : Nat) : Int)), (.int .i64 (m : Int))] 93, blk s (V.flat encI (slots.set first 0)) 3] (by exact ⟨rfl, rfl, rfl, rfl, rfl, rfl, rfl, trivial⟩) rfl ?_
  refine A.tn ?_
  refine A.ret ?_
  refine A.post [(.int .i64 x), (.int .i64 0)] (fun a w r s => ⟨rv_tmp r rfl, rv_tmp r rfl, trivial⟩) (fun w1 s => ?_)
  exact ⟨rfl, ⟨s.mem (i := 0) rfl, s.mem (i := 1) rfl, by simp [hln], hlo, hhi, Nat.mod_lt _ (by omega), by omega, hne⟩, s.fr⟩

set_option maxRecDepth 100000 in
theorem ringI_pop_none (b s room first : Nat) (slots : List Int) (w : World) (hw : RingW encI 93 3 b s room slots first 0 w) :
    Calls Try.prog 22 #[(.pointer (some ⟨b, 0, none⟩))] w fun e w' => e = .returned (.tuple #[(.int .i64 0), (.int .i64 6)]) ∧ Fr [] w w' := by
  have hlo := hw.lo; have hhi := hw.hi; have hft := hw.fst; have hct := hw.cnt; have hln := hw.len; have hne := hw.ne
  refine calls_of (args := [(.pointer (some ⟨b, 0, none⟩))]) (penv [(.pointer (some ⟨b, 0, none⟩))]) [] [] Try.func22 rfl rfl (look_penv _) (HS.nil w) ?_
  refine A.norm [(0, (.pointer (some ⟨b, 0, none⟩)))] [] (by exact ⟨rfl, trivial⟩) rfl ?_
  refine A.seq ?_
  refine A.region ?_
  refine A.cons (A.q (some 2) (.int .i64 0) (by kernel_rfl) (qt_assign rfl rfl) ?_)
  refine A.cons (A.q (some 3) (.int .i64 0) (by kernel_rfl) (qt_assign rfl rfl) ?_)
  refine A.done ?_
  refine A.norm [(0, (.pointer (some ⟨b, 0, none⟩))), (2, (.int .i64 0)), (3, (.int .i64 0))] [] (by exact ⟨rfl, rfl, rfl, trivial⟩) rfl ?_
  refine A.tn ?_
  refine A.seq ?_
  refine A.region ?_
  refine A.cons (A.q (some 8) (.pointer (some ⟨b, 0, none⟩)) (by kernel_rfl) (qt_move rfl rfl) ?_)
  refine A.cons (A.q (some 9) (.tuple #[(.int .i64 0), (.int .i64 6)]) (by kernel_rfl) (qt_call [(.pointer (some ⟨b, 0, none⟩)), (.int .i64 0)] rfl (by kernel_rfl) rfl (fun w s0 => ringI_at_none b s room first 0 slots 0 w (hw_old s0 hw) (by omega))) ?_)
  refine A.cons (A.q (some 7) (.tuple #[(.int .i64 0), (.int .i64 6)]) (by kernel_rfl) (qt_move rfl rfl) ?_)
  refine A.cons (A.q (some 10) (.int .i64 0) (by kernel_rfl) (qt_pure (by kernel_rfl) fun _ => by kernel_rfl) ?_)
  refine A.cons (A.q (some 11) (.int .i64 6) (by kernel_rfl) (qt_pure (by kernel_rfl) fun _ => by kernel_rfl) ?_)
  refine A.cons (A.q (some 4) (.int .i64 0) (by kernel_rfl) (qt_assign rfl rfl) ?_)
  refine A.cons (A.q (some 5) (.int .i64 6) (by kernel_rfl) (qt_assign rfl rfl) ?_)
  refine A.done ?_
  refine A.norm [(0, (.pointer (some ⟨b, 0, none⟩))), (2, (.int .i64 0)), (3, (.int .i64 0)), (4, (.int .i64 0)), (5, (.int .i64 6))] [] (by exact ⟨rfl, rfl, rfl, rfl, rfl, trivial⟩) rfl ?_
  refine A.tn ?_
  refine A.seq ?_
  refine A.seq ?_
  refine A.region ?_
  refine A.cons (A.q (some 12) (.int .i64 6) (by kernel_rfl) (qt_move rfl rfl) ?_)
  refine A.cons (A.q (some 13) (.bool true) (by kernel_rfl) (qt_pure (by kernel_rfl) fun _ => by kernel_rfl) ?_)
  refine A.done ?_
  refine A.norm [(0, (.pointer (some ⟨b, 0, none⟩))), (2, (.int .i64 0)), (3, (.int .i64 0)), (4, (.int .i64 0)), (5, (.int .i64 6)), (13, (.bool true))] [] (by exact ⟨rfl, rfl, rfl, rfl, rfl, rfl, trivial⟩) rfl ?_
  refine A.tn ?_
  refine A.cond_t rfl ?_
  refine A.seq ?_
  refine A.region ?_
  refine A.cons (A.q (some 14) (.int .i64 0) (by kernel_rfl) (qt_move rfl rfl) ?_)
  refine A.cons (A.q (some 15) (.int .i64 6) (by kernel_rfl) (qt_move rfl rfl) ?_)
  refine A.cons (A.q (some 2) (.int .i64 0) (by kernel_rfl) (qt_assign rfl rfl) ?_)
  refine A.cons (A.q (some 3) (.int .i64 6) (by kernel_rfl) (qt_assign rfl rfl) ?_)
  refine A.done ?_
  refine A.norm [(0, (.pointer (some ⟨b, 0, none⟩))), (2, (.int .i64 0)), (3, (.int .i64 6)), (4, (.int .i64 0)), (5, (.int .i64 6)), (13, (.bool true))] [] (by exact ⟨rfl, rfl, rfl, rfl, rfl, rfl, trivial⟩) rfl ?_
  refine A.tn ?_
  refine A.ret ?_
  refine A.tr ?_
  refine A.post [(.int .i64 0), (.int .i64 6)] (fun a w r s => ⟨rv_tmp r rfl, rv_tmp r rfl, trivial⟩) (fun w1 s => ?_)
  exact ⟨rfl, s.fr⟩

set_option maxRecDepth 100000 in
theorem ringI_at_nil (i : Int) (w : World) :
    Calls Try.prog 26 #[(.pointer none), (.int .i64 i)] w fun e w' => e = .returned (.tuple #[(.int .i64 0), (.int .i64 7)]) ∧ Fr [] w w' := by
  refine calls_of (args := [(.pointer none), (.int .i64 i)]) (penv [(.pointer none), (.int .i64 i)]) [] [] Try.func26 rfl rfl (look_penv _) (HS.nil w) ?_
  refine A.norm [(0, (.pointer none)), (1, (.int .i64 i))] [] (by exact ⟨rfl, rfl, trivial⟩) rfl ?_
  refine A.seq ?_
  refine A.region ?_
  refine A.cons (A.q (some 4) (.int .i64 0) (by kernel_rfl) (qt_assign rfl rfl) ?_)
  refine A.cons (A.q (some 5) (.int .i64 0) (by kernel_rfl) (qt_assign rfl rfl) ?_)
  refine A.done ?_
  refine A.norm [(0, (.pointer none)), (1, (.int .i64 i)), (4, (.int .i64 0)), (5, (.int .i64 0))] [] (by exact ⟨rfl, rfl, rfl, rfl, trivial⟩) rfl ?_
  refine A.tn ?_
  refine A.seq ?_
  refine A.region ?_
  refine A.cons (A.q (some 6) (.int .i64 0) (by kernel_rfl) (qt_assign rfl rfl) ?_)
  refine A.done ?_
  refine A.norm [(0, (.pointer none)), (1, (.int .i64 i)), (4, (.int .i64 0)), (5, (.int .i64 0)), (6, (.int .i64 0))] [] (by exact ⟨rfl, rfl, rfl, rfl, rfl, trivial⟩) rfl ?_
  refine A.tn ?_
  refine A.seq ?_
  refine A.block ?_
  refine A.seq ?_
  refine A.region ?_
  refine A.cons (A.q (some 8) (.pointer none) (by kernel_rfl) (qt_move rfl rfl) ?_)
  refine A.cons (A.q (some 9) (.bool true) (by kernel_rfl) (qt_pure (by kernel_rfl) fun _ => by kernel_rfl) ?_)
  refine A.cons (A.q (some 7) (.bool true) (by kernel_rfl) (qt_assign rfl rfl) ?_)
  refine A.done ?_
  refine A.norm [(0, (.pointer none)), (1, (.int .i64 i)), (4, (.int .i64 0)), (5, (.int .i64 0)), (6, (.int .i64 0)), (7, (.bool true))] [] (by exact ⟨rfl, rfl, rfl, rfl, rfl, rfl, trivial⟩) rfl ?_
  refine A.tn ?_
  refine A.cond_t rfl ?_
  refine A.seq ?_
  refine A.region ?_
  refine A.cons (A.q (some 10) (.int .i64 0) (by kernel_rfl) (qt_move rfl rfl) ?_)
  refine A.cons (A.q (some 4) (.int .i64 0) (by kernel_rfl) (qt_assign rfl rfl) ?_)
  refine A.cons (A.q (some 5) (.int .i64 7) (by kernel_rfl) (qt_assign rfl rfl) ?_)
  refine A.done ?_
  refine A.norm [(0, (.pointer none)), (1, (.int .i64 i)), (4, (.int .i64 0)), (5, (.int .i64 7)), (6, (.int .i64 0)), (7, (.bool true))] [] (by exact ⟨rfl, rfl, rfl, rfl, rfl, rfl, trivial⟩) rfl ?_
  refine A.tn ?_
  refine A.ret ?_
  refine A.br ?_
  refine A.tr ?_
  refine A.post [(.int .i64 0), (.int .i64 7)] (fun a w r s => ⟨rv_tmp r rfl, rv_tmp r rfl, trivial⟩) (fun w1 s => ?_)
  exact ⟨rfl, s.fr⟩

set_option maxRecDepth 100000 in
theorem ringI_pop_nil (w : World) :
    Calls Try.prog 22 #[(.pointer none)] w fun e w' => e = .returned (.tuple #[(.int .i64 0), (.int .i64 7)]) ∧ Fr [] w w' := by
  refine calls_of (args := [(.pointer none)]) (penv [(.pointer none)]) [] [] Try.func22 rfl rfl (look_penv _) (HS.nil w) ?_
  refine A.norm [(0, (.pointer none))] [] (by exact ⟨rfl, trivial⟩) rfl ?_
  refine A.seq ?_
  refine A.region ?_
  refine A.cons (A.q (some 2) (.int .i64 0) (by kernel_rfl) (qt_assign rfl rfl) ?_)
  refine A.cons (A.q (some 3) (.int .i64 0) (by kernel_rfl) (qt_assign rfl rfl) ?_)
  refine A.done ?_
  refine A.norm [(0, (.pointer none)), (2, (.int .i64 0)), (3, (.int .i64 0))] [] (by exact ⟨rfl, rfl, rfl, trivial⟩) rfl ?_
  refine A.tn ?_
  refine A.seq ?_
  refine A.region ?_
  refine A.cons (A.q (some 8) (.pointer none) (by kernel_rfl) (qt_move rfl rfl) ?_)
  refine A.cons (A.q (some 9) (.tuple #[(.int .i64 0), (.int .i64 7)]) (by kernel_rfl) (qt_call [(.pointer none), (.int .i64 0)] rfl (by kernel_rfl) rfl (fun w s0 => ringI_at_nil 0 w)) ?_)
  refine A.cons (A.q (some 7) (.tuple #[(.int .i64 0), (.int .i64 7)]) (by kernel_rfl) (qt_move rfl rfl) ?_)
  refine A.cons (A.q (some 10) (.int .i64 0) (by kernel_rfl) (qt_pure (by kernel_rfl) fun _ => by kernel_rfl) ?_)
  refine A.cons (A.q (some 11) (.int .i64 7) (by kernel_rfl) (qt_pure (by kernel_rfl) fun _ => by kernel_rfl) ?_)
  refine A.cons (A.q (some 4) (.int .i64 0) (by kernel_rfl) (qt_assign rfl rfl) ?_)
  refine A.cons (A.q (some 5) (.int .i64 7) (by kernel_rfl) (qt_assign rfl rfl) ?_)
  refine A.done ?_
  refine A.norm [(0, (.pointer none)), (2, (.int .i64 0)), (3, (.int .i64 0)), (4, (.int .i64 0)), (5, (.int .i64 7))] [] (by exact ⟨rfl, rfl, rfl, rfl, rfl, trivial⟩) rfl ?_
  refine A.tn ?_
  refine A.seq ?_
  refine A.seq ?_
  refine A.region ?_
  refine A.cons (A.q (some 12) (.int .i64 7) (by kernel_rfl) (qt_move rfl rfl) ?_)
  refine A.cons (A.q (some 13) (.bool true) (by kernel_rfl) (qt_pure (by kernel_rfl) fun _ => by kernel_rfl) ?_)
  refine A.done ?_
  refine A.norm [(0, (.pointer none)), (2, (.int .i64 0)), (3, (.int .i64 0)), (4, (.int .i64 0)), (5, (.int .i64 7)), (13, (.bool true))] [] (by exact ⟨rfl, rfl, rfl, rfl, rfl, rfl, trivial⟩) rfl ?_
  refine A.tn ?_
  refine A.cond_t rfl ?_
  refine A.seq ?_
  refine A.region ?_
  refine A.cons (A.q (some 14) (.int .i64 0) (by kernel_rfl) (qt_move rfl rfl) ?_)
  refine A.cons (A.q (some 15) (.int .i64 7) (by kernel_rfl) (qt_move rfl rfl) ?_)
  refine A.cons (A.q (some 2) (.int .i64 0) (by kernel_rfl) (qt_assign rfl rfl) ?_)
  refine A.cons (A.q (some 3) (.int .i64 7) (by kernel_rfl) (qt_assign rfl rfl) ?_)
  refine A.done ?_
  refine A.norm [(0, (.pointer none)), (2, (.int .i64 0)), (3, (.int .i64 7)), (4, (.int .i64 0)), (5, (.int .i64 7)), (13, (.bool true))] [] (by exact ⟨rfl, rfl, rfl, rfl, rfl, rfl, trivial⟩) rfl ?_
  refine A.tn ?_
  refine A.ret ?_
  refine A.tr ?_
  refine A.post [(.int .i64 0), (.int .i64 7)] (fun a w r s => ⟨rv_tmp r rfl, rv_tmp r rfl, trivial⟩) (fun w1 s => ?_)
  exact ⟨rfl, s.fr⟩

set_option maxRecDepth 100000 in
theorem ringI_len_nil (w : World) :
    Calls Try.prog 24 #[(.pointer none)] w fun e w' => e = .returned (.int .i64 0) ∧ Fr [] w w' := by
  refine calls_of (args := [(.pointer none)]) (penv [(.pointer none)]) [] [] Try.func24 rfl rfl (look_penv _) (HS.nil w) ?_
  refine A.norm [(0, (.pointer none))] [] (by exact ⟨rfl, trivial⟩) rfl ?_
  refine A.seq ?_
  refine A.region ?_
  refine A.cons (A.q (some 2) (.int .i64 0) (by kernel_rfl) (qt_assign rfl rfl) ?_)
  refine A.done ?_
  refine A.norm [(0, (.pointer none)), (2, (.int .i64 0))] [] (by exact ⟨rfl, rfl, trivial⟩) rfl ?_
  refine A.tn ?_
  refine A.seq ?_
  refine A.seq ?_
  refine A.region ?_
  refine A.cons (A.q (some 3) (.pointer none) (by kernel_rfl) (qt_move rfl rfl) ?_)
  refine A.cons (A.q (some 4) (.bool true) (by kernel_rfl) (qt_pure (by kernel_rfl) fun _ => by kernel_rfl) ?_)
  refine A.done ?_
  refine A.norm [(0, (.pointer none)), (2, (.int .i64 0)), (4, (.bool true))] [] (by exact ⟨rfl, rfl, rfl, trivial⟩) rfl ?_
  refine A.tn ?_
  refine A.cond_t rfl ?_
  refine A.seq ?_
  refine A.region ?_
  refine A.cons (A.q (some 2) (.int .i64 0) (by kernel_rfl) (qt_assign rfl rfl) ?_)
  refine A.done ?_
  refine A.norm [(0, (.pointer none)), (2, (.int .i64 0)), (4, (.bool true))] [] (by exact ⟨rfl, rfl, rfl, trivial⟩) rfl ?_
  refine A.tn ?_
  refine A.ret ?_
  refine A.tr ?_
  refine A.post [(.int .i64 0)] (fun a w r s => ⟨rv_tmp r rfl, trivial⟩) (fun w1 s => ?_)
  exact ⟨rfl, s.fr⟩

set_option maxRecDepth 100000 in
theorem ringI_room_nil (w : World) :
    Calls Try.prog 25 #[(.pointer none)] w fun e w' => e = .returned (.int .i64 0) ∧ Fr [] w w' := by
  refine calls_of (args := [(.pointer none)]) (penv [(.pointer none)]) [] [] Try.func25 rfl rfl (look_penv _) (HS.nil w) ?_
  refine A.norm [(0, (.pointer none))] [] (by exact ⟨rfl, trivial⟩) rfl ?_
  refine A.seq ?_
  refine A.region ?_
  refine A.cons (A.q (some 2) (.int .i64 0) (by kernel_rfl) (qt_assign rfl rfl) ?_)
  refine A.done ?_
  refine A.norm [(0, (.pointer none)), (2, (.int .i64 0))] [] (by exact ⟨rfl, rfl, trivial⟩) rfl ?_
  refine A.tn ?_
  refine A.seq ?_
  refine A.seq ?_
  refine A.region ?_
  refine A.cons (A.q (some 3) (.pointer none) (by kernel_rfl) (qt_move rfl rfl) ?_)
  refine A.cons (A.q (some 4) (.bool true) (by kernel_rfl) (qt_pure (by kernel_rfl) fun _ => by kernel_rfl) ?_)
  refine A.done ?_
  refine A.norm [(0, (.pointer none)), (2, (.int .i64 0)), (4, (.bool true))] [] (by exact ⟨rfl, rfl, rfl, trivial⟩) rfl ?_
  refine A.tn ?_
  refine A.cond_t rfl ?_
  refine A.seq ?_
  refine A.region ?_
  refine A.cons (A.q (some 2) (.int .i64 0) (by kernel_rfl) (qt_assign rfl rfl) ?_)
  refine A.done ?_
  refine A.norm [(0, (.pointer none)), (2, (.int .i64 0)), (4, (.bool true))] [] (by exact ⟨rfl, rfl, rfl, trivial⟩) rfl ?_
  refine A.tn ?_
  refine A.ret ?_
  refine A.tr ?_
  refine A.post [(.int .i64 0)] (fun a w r s => ⟨rv_tmp r rfl, trivial⟩) (fun w1 s => ?_)
  exact ⟨rfl, s.fr⟩

set_option maxRecDepth 100000 in
theorem ringI_push_nil (x : Int) (w : World) :
    Calls Try.prog 23 #[(.pointer none), (.int .i64 x)] w fun e w' => e = .returned (.int .i64 7) ∧ Fr [] w w' := by
  refine calls_of (args := [(.pointer none), (.int .i64 x)]) (penv [(.pointer none), (.int .i64 x)]) [] [] Try.func23 rfl rfl (look_penv _) (HS.nil w) ?_
  refine A.norm [(0, (.pointer none)), (1, (.int .i64 x))] [] (by exact ⟨rfl, rfl, trivial⟩) rfl ?_
  refine A.seq ?_
  refine A.region ?_
  refine A.cons (A.q (some 4) (.int .i64 0) (by kernel_rfl) (qt_assign rfl rfl) ?_)
  refine A.done ?_
  refine A.norm [(0, (.pointer none)), (1, (.int .i64 x)), (4, (.int .i64 0))] [] (by exact ⟨rfl, rfl, rfl, trivial⟩) rfl ?_
  refine A.tn ?_
  refine A.seq ?_
  refine A.block ?_
  refine A.seq ?_
  refine A.region ?_
  refine A.cons (A.q (some 6) (.pointer none) (by kernel_rfl) (qt_move rfl rfl) ?_)
  refine A.cons (A.q (some 7) (.bool true) (by kernel_rfl) (qt_pure (by kernel_rfl) fun _ => by kernel_rfl) ?_)
  refine A.cons (A.q (some 5) (.bool true) (by kernel_rfl) (qt_assign rfl rfl) ?_)
  refine A.done ?_
  refine A.norm [(0, (.pointer none)), (1, (.int .i64 x)), (4, (.int .i64 0)), (5, (.bool true))] [] (by exact ⟨rfl, rfl, rfl, rfl, trivial⟩) rfl ?_
  refine A.tn ?_
  refine A.cond_t rfl ?_
  refine A.seq ?_
  refine A.region ?_
  refine A.cons (A.q (some 4) (.int .i64 7) (by kernel_rfl) (qt_assign rfl rfl) ?_)
  refine A.done ?_
  refine A.norm [(0, (.pointer none)), (1, (.int .i64 x)), (4, (.int .i64 7)), (5, (.bool true))] [] (by exact ⟨rfl, rfl, rfl, rfl, trivial⟩) rfl ?_
  refine A.tn ?_
  refine A.ret ?_
  refine A.br ?_
  refine A.tr ?_
  refine A.post [(.int .i64 7)] (fun a w r s => ⟨rv_tmp r rfl, trivial⟩) (fun w1 s => ?_)
  exact ⟨rfl, s.fr⟩

theorem ringI_push (b s room : Nat) (q : List Int) (x : Int) (w : World) (h : RingH encI 93 3 b s room q w) (hn : q.length < room) :
    Calls Try.prog 23 #[(.pointer (some ⟨b, 0, none⟩)), (.int .i64 x)] w fun e w' => e = .returned (.int .i64 0) ∧ RingH encI 93 3 b s room (q ++ [x]) w' ∧ Fr [b, s] w w' := by
  obtain ⟨slots, first, r, v⟩ := h
  refine (ringI_push_w b s room first q.length slots x w r hn).mono fun e w' ⟨he, hr, hf⟩ => ⟨he, ⟨_, first, by simpa using hr, ring_push_view r.len r.fst hn v⟩, hf⟩
theorem ringI_pushFull (b s room : Nat) (q : List Int) (x : Int) (w : World) (h : RingH encI 93 3 b s room q w) (hn : q.length = room) :
    Calls Try.prog 23 #[(.pointer (some ⟨b, 0, none⟩)), (.int .i64 x)] w fun e w' => e = .returned (.int .i64 5) ∧ Fr [] w w' := by
  obtain ⟨slots, first, r, v⟩ := h
  exact ringI_push_full b s room first q.length slots x w r hn
theorem ringI_pop (b s room : Nat) (q : List Int) (x : Int) (w : World) (h : RingH encI 93 3 b s room (x :: q) w) :
    Calls Try.prog 22 #[(.pointer (some ⟨b, 0, none⟩))] w fun e w' => e = .returned (.tuple #[(.int .i64 x), (.int .i64 0)]) ∧ RingH encI 93 3 b s room q w' ∧ Fr [b, s] w w' := by
  obtain ⟨slots, first, r, v⟩ := h
  refine (ringI_pop_w b s room first q.length slots x w (by simpa using r) (v 0 x rfl)).mono fun e w' ⟨he, hr, hf⟩ => ⟨he, ⟨_, _, hr, ring_pop_view r.fst (by have := r.cnt; simpa using this) v⟩, hf⟩
theorem ringI_popNone (b s room : Nat) (w : World) (h : RingH encI 93 3 b s room ([] : List Int) w) :
    Calls Try.prog 22 #[(.pointer (some ⟨b, 0, none⟩))] w fun e w' => e = .returned (.tuple #[(.int .i64 0), (.int .i64 6)]) ∧ Fr [] w w' := by
  obtain ⟨slots, first, r, v⟩ := h
  exact ringI_pop_none b s room first slots w r
theorem ringI_at (b s room k : Nat) (q : List Int) (x : Int) (w : World) (h : RingH encI 93 3 b s room q w) (hx : q[k]? = some x) :
    Calls Try.prog 26 #[(.pointer (some ⟨b, 0, none⟩)), .int .i64 (k : Int)] w fun e w' => e = .returned (.tuple #[(.int .i64 x), (.int .i64 0)]) ∧ Fr [] w w' := by
  obtain ⟨slots, first, r, v⟩ := h
  exact ringI_at_ok b s room first q.length slots k x w r (List.getElem?_eq_some_iff.1 hx).1 (v k x hx)
theorem ringI_atNone (b s room : Nat) (i : Int) (q : List Int) (w : World) (h : RingH encI 93 3 b s room q w) (hi : ¬ (0 ≤ i ∧ i < (q.length : Int))) :
    Calls Try.prog 26 #[(.pointer (some ⟨b, 0, none⟩)), .int .i64 i] w fun e w' => e = .returned (.tuple #[(.int .i64 0), (.int .i64 6)]) ∧ Fr [] w w' := by
  obtain ⟨slots, first, r, v⟩ := h
  exact ringI_at_none b s room first q.length slots i w r hi
theorem ringI_len (b s room : Nat) (q : List Int) (w : World) (h : RingH encI 93 3 b s room q w) :
    Calls Try.prog 24 #[(.pointer (some ⟨b, 0, none⟩))] w fun e w' => e = .returned (.int .i64 (q.length : Int)) ∧ Fr [] w w' := by
  obtain ⟨slots, first, r, v⟩ := h
  exact ringI_len_w b s room first q.length w r.hb
theorem ringI_room (b s room : Nat) (q : List Int) (w : World) (h : RingH encI 93 3 b s room q w) :
    Calls Try.prog 25 #[(.pointer (some ⟨b, 0, none⟩))] w fun e w' => e = .returned (.int .i64 ((room : Int) - (q.length : Int))) ∧ Fr [] w w' := by
  obtain ⟨slots, first, r, v⟩ := h
  exact ringI_room_w b s room first q.length w r.hb ⟨r.lo, r.hi, r.fst, r.cnt⟩
end Go.Proofs.Ytkfmboicmdnjpaa
