/- What the functions of this layer do, proved operation by operation, for all arguments, under the conditions that each theorem states. -/
import Derived.Test.YtkfmboicmdnjpaaProg
import Derived.Test.YtkfmboicmdnjpaaRingL
import Derived.Test.YtkfmboicmdnjpaaVf
namespace Go.Proofs.Ytkfmboicmdnjpaa
open Go V
set_option linter.unusedVariables false
set_option linter.unusedSimpArgs false
def encS (x : ByteArray) : List Value := [(.string x)]
theorem encS_len (x : ByteArray) : (encS x).length = 1 := rfl
theorem encS_one (x : ByteArray) : (encS x).all Value.oneCell' = true := rfl

/-- what lies in the ring is what stands in the list from a on -/
def Win (xs : List ByteArray) (a : Nat) (q : List ByteArray) : Prop := ∀ i y, q[i]? = some y → xs[a + i]? = some y
theorem win_nil (xs : List ByteArray) (a : Nat) : Win xs a [] := by intro i y h; simp at h
theorem win_pop {xs : List ByteArray} {a : Nat} {y : ByteArray} {t : List ByteArray} (h : Win xs a (y :: t)) : xs[a]? = some y ∧ Win xs (a + 1) t :=
  ⟨h 0 y rfl, fun i z hz => by have := h (i + 1) z (by simpa using hz); rwa [show a + (i + 1) = a + 1 + i by omega] at this⟩
theorem win_push {xs : List ByteArray} {a k : Nat} {s : ByteArray} {q : List ByteArray} (h : Win xs a q) (hk : a + q.length = k) (hs : xs[k]? = some s) : Win xs a (q ++ [s]) := by
  intro i y hy
  by_cases hi : i < q.length
  · exact h i y (by rwa [List.getElem?_append_left hi] at hy)
  · have : i = q.length := by have := (List.getElem?_eq_some_iff.1 hy).1; simp at this; omega
    subst this; rw [hk, hs]; simpa using hy

set_option maxRecDepth 100000 in
theorem ringS_place_spec (b s room first n : Nat) (i : Nat) (w : World) (hb : w.heap[b]? = some (.cells [(.slice (some ⟨s, 0, none⟩) room room), (.int .i64 (first : Int)), (.int .i64 (n : Int))].toArray 96 (0, 0))) (h1 : 1 ≤ room ∧ room ≤ 64 ∧ first < room ∧ n ≤ room) (hi : i ≤ 64) :
    Calls Try.prog 56 #[(.pointer (some ⟨b, 0, none⟩)), (.int .i64 (i : Int))] w fun e w' => e = .returned (.int .i64 (((first + i) % room : Nat) : Int)) ∧ Fr [] w w' := by
  refine calls_of (args := [(.pointer (some ⟨b, 0, none⟩)), (.int .i64 (i : Int))]) (penv [(.pointer (some ⟨b, 0, none⟩)), (.int .i64 (i : Int))]) [] [] Try.func56 rfl rfl (look_penv _) (HS.nil w) ?_
  refine A.norm [(0, (.pointer (some ⟨b, 0, none⟩))), (1, (.int .i64 (i : Int)))] [] (by exact ⟨rfl, rfl, trivial⟩) rfl ?_
  refine A.seq ?_
  refine A.region ?_
  refine A.cons (A.q (some 4) (.int .i64 0) (by kernel_rfl) (qt_assign rfl rfl) ?_)
  refine A.done ?_
  refine A.norm [(0, (.pointer (some ⟨b, 0, none⟩))), (1, (.int .i64 (i : Int))), (4, (.int .i64 0))] [] (by exact ⟨rfl, rfl, rfl, trivial⟩) rfl ?_
  refine A.tn ?_
  refine A.seq ?_
  refine A.draw [] (by kernel_rfl) ?_
  refine A.take 0 (some 5) (.pointer (some ⟨b, 0, none⟩)) rfl (by kernel_rfl) (by kernel_rfl) (List.Sublist.refl _) (qt_move rfl rfl) ?_
  refine A.take 1 (some 6) (.pointer (some ⟨b, 0, none⟩)) rfl (by kernel_rfl) (by kernel_rfl) (List.Sublist.refl _) (qt_pure (by kernel_rfl) fun _ => by kernel_rfl) ?_
  refine A.take 2 (some 7) (.pointer (some ⟨b, 1, none⟩)) rfl (by kernel_rfl) (by kernel_rfl) (List.Sublist.refl _) (qt_pure (by kernel_rfl) fun _ => by kernel_rfl) ?_
  refine A.take 3 (some 8) (.int .i64 (first : Int)) rfl (by kernel_rfl) (by kernel_rfl) (List.Sublist.refl _) (qt_load1 rfl rfl (by kernel_rfl) (reads_oldblk hb rfl)) ?_
  refine A.take 4 (some 9) (.int .i64 (i : Int)) rfl (by kernel_rfl) (by kernel_rfl) (List.Sublist.refl _) (qt_move rfl rfl) ?_
  refine A.take 5 (some 10) (.int .i64 ((first : Int) + (i : Int))) rfl (by kernel_rfl) (by kernel_rfl) (List.Sublist.refl _) (qt_as (congrArg (Value.int .i64) (wrap_i64 (e := (first : Int) + (i : Int)) (by constructor <;> omega))) (qt_pure (v := .int .i64 (IntKind.i64.wrap ((first : Int) + (i : Int)))) (by kernel_rfl) fun _ => by kernel_rfl)) ?_
  refine A.take 6 (some 11) (.pointer (some ⟨b, 0, none⟩)) rfl (by kernel_rfl) (by kernel_rfl) (List.Sublist.refl _) (qt_move rfl rfl) ?_
  refine A.take 7 (some 12) (.pointer (some ⟨b, 0, none⟩)) rfl (by kernel_rfl) (by kernel_rfl) (List.Sublist.refl _) (qt_pure (by kernel_rfl) fun _ => by kernel_rfl) ?_
  refine A.take 8 (some 13) (.pointer (some ⟨b, 0, none⟩)) rfl (by kernel_rfl) (by kernel_rfl) (List.Sublist.refl _) (qt_pure (by kernel_rfl) fun _ => by kernel_rfl) ?_
  refine A.take 9 (some 14) (.slice (some ⟨s, 0, none⟩) room room) rfl (by kernel_rfl) (by kernel_rfl) (List.Sublist.refl _) (qt_load1 rfl rfl (by kernel_rfl) (reads_oldblk hb rfl)) ?_
  refine A.take 10 (some 15) (.int .i64 (room : Int)) rfl (by kernel_rfl) (by kernel_rfl) (List.Sublist.refl _) (qt_pure (by kernel_rfl) fun _ => by kernel_rfl) ?_
  refine A.take 11 (some 16) (.int .i64 (((first : Int) + (i : Int)).tmod (room : Int))) rfl (by kernel_rfl) (by kernel_rfl) (List.Sublist.refl _) (qt_rem rfl rfl rfl (by omega)) ?_
  refine A.take 12 (some 4) (.int .i64 (((first : Int) + (i : Int)).tmod (room : Int))) rfl (by kernel_rfl) (by kernel_rfl) (List.Sublist.refl _) (qt_assign rfl rfl) ?_
  refine A.fin (by kernel_rfl) ?_
  refine A.norm [(0, (.pointer (some ⟨b, 0, none⟩))), (1, (.int .i64 (i : Int))), (4, (.int .i64 (((first : Int) + (i : Int)).tmod (room : Int))))] [] (by exact ⟨rfl, rfl, rfl, trivial⟩) rfl ?_
  refine A.tn ?_
  refine A.ret ?_
  refine A.post [(.int .i64 (((first : Int) + (i : Int)).tmod (room : Int)))] (fun a w r s => ⟨rv_tmp r rfl, trivial⟩) (fun w1 s => ?_)
  refine ⟨congrArg Ending.returned (?_ : ((.int .i64 (((first : Int) + (i : Int)).tmod (room : Int))) : Value) = _), s.fr⟩
  refine congrArg (Value.int .i64) ?_; rw [Int.tmod_eq_emod_of_nonneg (by omega)]; norm_cast

set_option maxRecDepth 100000 in
theorem ringS_len_w (b s room first n : Nat) (w : World) (hb : w.heap[b]? = some (.cells [(.slice (some ⟨s, 0, none⟩) room room), (.int .i64 (first : Int)), (.int .i64 (n : Int))].toArray 96 (0, 0))) :
    Calls Try.prog 31 #[(.pointer (some ⟨b, 0, none⟩))] w fun e w' => e = .returned (.int .i64 (n : Int)) ∧ Fr [] w w' := by
  refine calls_of (args := [(.pointer (some ⟨b, 0, none⟩))]) (penv [(.pointer (some ⟨b, 0, none⟩))]) [] [] Try.func31 rfl rfl (look_penv _) (HS.nil w) ?_
  refine A.norm [(0, (.pointer (some ⟨b, 0, none⟩)))] [] (by exact ⟨rfl, trivial⟩) rfl ?_
  refine A.seq ?_
  refine A.region ?_
  refine A.cons (A.q (some 2) (.int .i64 0) (by kernel_rfl) (qt_assign rfl rfl) ?_)
  refine A.done ?_
  refine A.norm [(0, (.pointer (some ⟨b, 0, none⟩))), (2, (.int .i64 0))] [] (by exact ⟨rfl, rfl, trivial⟩) rfl ?_
  refine A.tn ?_
  refine A.seq ?_
  refine A.seq ?_
  refine A.region ?_
  refine A.cons (A.q (some 3) (.pointer (some ⟨b, 0, none⟩)) (by kernel_rfl) (qt_move rfl rfl) ?_)
  refine A.cons (A.q (some 4) (.bool false) (by kernel_rfl) (qt_pure (by kernel_rfl) fun _ => by kernel_rfl) ?_)
  refine A.done ?_
  refine A.norm [(0, (.pointer (some ⟨b, 0, none⟩))), (2, (.int .i64 0)), (4, (.bool false))] [] (by exact ⟨rfl, rfl, rfl, trivial⟩) rfl ?_
  refine A.tn ?_
  refine A.cond_f rfl ?_
  refine A.skip ?_
  refine A.tn ?_
  refine A.seq ?_
  refine A.region ?_
  refine A.cons (A.q (some 5) (.pointer (some ⟨b, 0, none⟩)) (by kernel_rfl) (qt_move rfl rfl) ?_)
  refine A.cons (A.q (some 6) (.pointer (some ⟨b, 0, none⟩)) (by kernel_rfl) (qt_pure (by kernel_rfl) fun _ => by kernel_rfl) ?_)
  refine A.cons (A.q (some 7) (.pointer (some ⟨b, 2, none⟩)) (by kernel_rfl) (qt_pure (by kernel_rfl) fun _ => by kernel_rfl) ?_)
  refine A.cons (A.q (some 8) (.int .i64 (n : Int)) (by kernel_rfl) (qt_load1 rfl rfl (by kernel_rfl) (reads_oldblk hb rfl)) ?_)
  refine A.cons (A.q (some 2) (.int .i64 (n : Int)) (by kernel_rfl) (qt_assign rfl rfl) ?_)
  refine A.done ?_
  refine A.norm [(0, (.pointer (some ⟨b, 0, none⟩))), (2, (.int .i64 (n : Int))), (4, (.bool false))] [] (by exact ⟨rfl, rfl, rfl, trivial⟩) rfl ?_
  refine A.tn ?_
  refine A.ret ?_
  refine A.post [(.int .i64 (n : Int))] (fun a w r s => ⟨rv_tmp r rfl, trivial⟩) (fun w1 s => ?_)
  exact ⟨rfl, s.fr⟩

set_option maxRecDepth 100000 in
theorem ringS_room_w (b s room first n : Nat) (w : World) (hb : w.heap[b]? = some (.cells [(.slice (some ⟨s, 0, none⟩) room room), (.int .i64 (first : Int)), (.int .i64 (n : Int))].toArray 96 (0, 0))) (h1 : 1 ≤ room ∧ room ≤ 64 ∧ first < room ∧ n ≤ room) :
    Calls Try.prog 28 #[(.pointer (some ⟨b, 0, none⟩))] w fun e w' => e = .returned (.int .i64 ((room : Int) - (n : Int))) ∧ Fr [] w w' := by
  refine calls_of (args := [(.pointer (some ⟨b, 0, none⟩))]) (penv [(.pointer (some ⟨b, 0, none⟩))]) [] [] Try.func28 rfl rfl (look_penv _) (HS.nil w) ?_
  refine A.norm [(0, (.pointer (some ⟨b, 0, none⟩)))] [] (by exact ⟨rfl, trivial⟩) rfl ?_
  refine A.seq ?_
  refine A.region ?_
  refine A.cons (A.q (some 2) (.int .i64 0) (by kernel_rfl) (qt_assign rfl rfl) ?_)
  refine A.done ?_
  refine A.norm [(0, (.pointer (some ⟨b, 0, none⟩))), (2, (.int .i64 0))] [] (by exact ⟨rfl, rfl, trivial⟩) rfl ?_
  refine A.tn ?_
  refine A.seq ?_
  refine A.seq ?_
  refine A.region ?_
  refine A.cons (A.q (some 3) (.pointer (some ⟨b, 0, none⟩)) (by kernel_rfl) (qt_move rfl rfl) ?_)
  refine A.cons (A.q (some 4) (.bool false) (by kernel_rfl) (qt_pure (by kernel_rfl) fun _ => by kernel_rfl) ?_)
  refine A.done ?_
  refine A.norm [(0, (.pointer (some ⟨b, 0, none⟩))), (2, (.int .i64 0)), (4, (.bool false))] [] (by exact ⟨rfl, rfl, rfl, trivial⟩) rfl ?_
  refine A.tn ?_
  refine A.cond_f rfl ?_
  refine A.skip ?_
  refine A.tn ?_
  refine A.seq ?_
  refine A.draw [] (by kernel_rfl) ?_
  refine A.take 0 (some 5) (.pointer (some ⟨b, 0, none⟩)) rfl (by kernel_rfl) (by kernel_rfl) (List.Sublist.refl _) (qt_move rfl rfl) ?_
  refine A.take 1 (some 6) (.pointer (some ⟨b, 0, none⟩)) rfl (by kernel_rfl) (by kernel_rfl) (List.Sublist.refl _) (qt_pure (by kernel_rfl) fun _ => by kernel_rfl) ?_
  refine A.take 2 (some 7) (.pointer (some ⟨b, 0, none⟩)) rfl (by kernel_rfl) (by kernel_rfl) (List.Sublist.refl _) (qt_pure (by kernel_rfl) fun _ => by kernel_rfl) ?_
  refine A.take 3 (some 8) (.slice (some ⟨s, 0, none⟩) room room) rfl (by kernel_rfl) (by kernel_rfl) (List.Sublist.refl _) (qt_load1 rfl rfl (by kernel_rfl) (reads_oldblk hb rfl)) ?_
  refine A.take 4 (some 9) (.int .i64 (room : Int)) rfl (by kernel_rfl) (by kernel_rfl) (List.Sublist.refl _) (qt_pure (by kernel_rfl) fun _ => by kernel_rfl) ?_
  refine A.take 5 (some 10) (.pointer (some ⟨b, 0, none⟩)) rfl (by kernel_rfl) (by kernel_rfl) (List.Sublist.refl _) (qt_move rfl rfl) ?_
  refine A.take 6 (some 11) (.pointer (some ⟨b, 0, none⟩)) rfl (by kernel_rfl) (by kernel_rfl) (List.Sublist.refl _) (qt_pure (by kernel_rfl) fun _ => by kernel_rfl) ?_
  refine A.take 7 (some 12) (.pointer (some ⟨b, 2, none⟩)) rfl (by kernel_rfl) (by kernel_rfl) (List.Sublist.refl _) (qt_pure (by kernel_rfl) fun _ => by kernel_rfl) ?_
  refine A.take 8 (some 13) (.int .i64 (n : Int)) rfl (by kernel_rfl) (by kernel_rfl) (List.Sublist.refl _) (qt_load1 rfl rfl (by kernel_rfl) (reads_oldblk hb rfl)) ?_
  refine A.take 9 (some 14) (.int .i64 ((room : Int) - (n : Int))) rfl (by kernel_rfl) (by kernel_rfl) (List.Sublist.refl _) (qt_as (congrArg (Value.int .i64) (wrap_i64 (e := (room : Int) - (n : Int)) (by constructor <;> omega))) (qt_pure (v := .int .i64 (IntKind.i64.wrap ((room : Int) - (n : Int)))) (by kernel_rfl) fun _ => by kernel_rfl)) ?_
  refine A.take 10 (some 2) (.int .i64 ((room : Int) - (n : Int))) rfl (by kernel_rfl) (by kernel_rfl) (List.Sublist.refl _) (qt_assign rfl rfl) ?_
  refine A.fin (by kernel_rfl) ?_
  refine A.norm [(0, (.pointer (some ⟨b, 0, none⟩))), (2, (.int .i64 ((room : Int) - (n : Int)))), (4, (.bool false))] [] (by exact ⟨rfl, rfl, rfl, trivial⟩) rfl ?_
  refine A.tn ?_
  refine A.ret ?_
  refine A.post [(.int .i64 ((room : Int) - (n : Int)))] (fun a w r s => ⟨rv_tmp r rfl, trivial⟩) (fun w1 s => ?_)
  exact ⟨rfl, s.fr⟩

set_option maxRecDepth 100000 in
theorem ringS_at_ok (b s room first n : Nat) (slots : List ByteArray) (k : Nat) (x : ByteArray) (w : World) (hw : RingW encS 96 9 b s room slots first n w) (hk : k < n) (hx : slots[(first + k) % room]? = some x) :
    Calls Try.prog 55 #[(.pointer (some ⟨b, 0, none⟩)), (.int .i64 (k : Int))] w fun e w' => e = .returned (.tuple #[(.string x), (.int .i64 0)]) ∧ Fr [] w w' := by
  have hlo := hw.lo; have hhi := hw.hi; have hft := hw.fst; have hct := hw.cnt; have hln := hw.len; have hne := hw.ne
  refine calls_of (args := [(.pointer (some ⟨b, 0, none⟩)), (.int .i64 (k : Int))]) (penv [(.pointer (some ⟨b, 0, none⟩)), (.int .i64 (k : Int))]) [] [] Try.func55 rfl rfl (look_penv _) (HS.nil w) ?_
  refine A.norm [(0, (.pointer (some ⟨b, 0, none⟩))), (1, (.int .i64 (k : Int)))] [] (by exact ⟨rfl, rfl, trivial⟩) rfl ?_
  refine A.seq ?_
  refine A.region ?_
  refine A.cons (A.q (some 4) (.string (⟨#[]⟩)) (by kernel_rfl) (qt_assign rfl rfl) ?_)
  refine A.cons (A.q (some 5) (.int .i64 0) (by kernel_rfl) (qt_assign rfl rfl) ?_)
  refine A.done ?_
  refine A.norm [(0, (.pointer (some ⟨b, 0, none⟩))), (1, (.int .i64 (k : Int))), (4, (.string (⟨#[]⟩))), (5, (.int .i64 0))] [] (by exact ⟨rfl, rfl, rfl, rfl, trivial⟩) rfl ?_
  refine A.tn ?_
  refine A.seq ?_
  refine A.region ?_
  refine A.cons (A.q (some 6) (.string (⟨#[]⟩)) (by kernel_rfl) (qt_assign rfl rfl) ?_)
  refine A.done ?_
  refine A.norm [(0, (.pointer (some ⟨b, 0, none⟩))), (1, (.int .i64 (k : Int))), (4, (.string (⟨#[]⟩))), (5, (.int .i64 0)), (6, (.string (⟨#[]⟩)))] [] (by exact ⟨rfl, rfl, rfl, rfl, rfl, trivial⟩) rfl ?_
  refine A.tn ?_
  refine A.seq ?_
  refine A.block ?_
  refine A.seq ?_
  refine A.region ?_
  refine A.cons (A.q (some 8) (.pointer (some ⟨b, 0, none⟩)) (by kernel_rfl) (qt_move rfl rfl) ?_)
  refine A.cons (A.q (some 9) (.bool false) (by kernel_rfl) (qt_pure (by kernel_rfl) fun _ => by kernel_rfl) ?_)
  refine A.cons (A.q (some 7) (.bool false) (by kernel_rfl) (qt_assign rfl rfl) ?_)
  refine A.done ?_
  refine A.norm [(0, (.pointer (some ⟨b, 0, none⟩))), (1, (.int .i64 (k : Int))), (4, (.string (⟨#[]⟩))), (5, (.int .i64 0)), (6, (.string (⟨#[]⟩))), (7, (.bool false))] [] (by exact ⟨rfl, rfl, rfl, rfl, rfl, rfl, trivial⟩) rfl ?_
  refine A.tn ?_
  refine A.cond_f rfl ?_
  refine A.seq ?_
  refine A.region ?_
  refine A.cons (A.q (some 12) (.int .i64 (k : Int)) (by kernel_rfl) (qt_move rfl rfl) ?_)
  refine A.cons (A.q (some 13) (.bool (decide ((k : Int) < 0))) (by kernel_rfl) (qt_pure (by kernel_rfl) fun _ => by kernel_rfl) ?_)
  refine A.cons (A.q (some 14) (.bool (decide ((k : Int) < 0))) (by kernel_rfl) (qt_move rfl rfl) ?_)
  refine A.bool (decide ((k : Int) < 0)) (fun e1 => ?_) (fun e1 => ?_)
  · exact absurd e1 (by first | (simp; done) | (simp; omega) | grind)
  · skip
    refine A.sub [(0, (.pointer (some ⟨b, 0, none⟩))), (1, (.int .i64 (k : Int))), (4, (.string (⟨#[]⟩))), (5, (.int .i64 0)), (6, (.string (⟨#[]⟩))), (7, (.bool false)), (12, (.int .i64 (k : Int))), (13, (.bool false)), (14, (.bool false))] (by exact ⟨rfl, rfl, rfl, rfl, rfl, rfl, rfl, (congrArg (fun z => some (Value.bool z)) e1), (congrArg (fun z => some (Value.bool z)) e1), trivial⟩) ?_
    refine A.cons (A.q (some 15) (.int .i64 (k : Int)) (by kernel_rfl) (qt_move rfl rfl) ?_)
    refine A.cons (A.q (some 16) (.pointer (some ⟨b, 0, none⟩)) (by kernel_rfl) (qt_move rfl rfl) ?_)
    refine A.cons (A.q (some 17) (.pointer (some ⟨b, 0, none⟩)) (by kernel_rfl) (qt_pure (by kernel_rfl) fun _ => by kernel_rfl) ?_)
    refine A.cons (A.q (some 18) (.pointer (some ⟨b, 2, none⟩)) (by kernel_rfl) (qt_pure (by kernel_rfl) fun _ => by kernel_rfl) ?_)
    refine A.cons (A.q (some 19) (.int .i64 (n : Int)) (by kernel_rfl) (qt_load1 rfl rfl (by kernel_rfl) (reads_oldblk hw.hb rfl)) ?_)
    refine A.cons (A.q (some 20) (.bool (decide ((k : Int) ≥ (n : Int)))) (by kernel_rfl) (qt_pure (by kernel_rfl) fun _ => by kernel_rfl) ?_)
    refine A.cons (A.q (some 21) (.bool (decide ((k : Int) ≥ (n : Int)))) (by kernel_rfl) (qt_pure (by kernel_rfl) fun _ => by kernel_rfl) ?_)
    refine A.cons (A.q (some 11) (.bool (decide ((k : Int) ≥ (n : Int)))) (by kernel_rfl) (qt_assign rfl rfl) ?_)
    refine A.done ?_
    refine A.norm [(0, (.pointer (some ⟨b, 0, none⟩))), (1, (.int .i64 (k : Int))), (4, (.string (⟨#[]⟩))), (5, (.int .i64 0)), (6, (.string (⟨#[]⟩))), (7, (.bool false)), (11, (.bool (decide ((k : Int) ≥ (n : Int)))))] [] (by exact ⟨rfl, rfl, rfl, rfl, rfl, rfl, rfl, trivial⟩) rfl ?_
    refine A.tn ?_
    refine A.cond (E := decide ((k : Int) ≥ (n : Int))) rfl (fun e2 => ?_) (fun e2 => ?_)
    · exact absurd e2 (by first | (simp; done) | (simp; omega) | grind)
    · skip
      have p2 := e2; try simp only [decide_eq_true_eq, decide_eq_false_iff_not, beq_iff_eq, beq_eq_false_iff_ne, bne_iff_ne, bne_eq_false_iff_eq, ne_eq, Bool.and_eq_true, Bool.or_eq_true, Bool.or_eq_false_iff, Bool.not_eq_true', Bool.not_eq_false', Int.not_lt, Int.not_le, gt_iff_lt, ge_iff_le, Classical.not_not] at p2
      refine A.skip ?_
      refine A.bn ?_
      refine A.tn ?_
      refine A.seq ?_
      refine A.draw [] (by kernel_rfl) ?_
      refine A.take 0 (some 23) (.pointer (some ⟨b, 0, none⟩)) rfl (by kernel_rfl) (by kernel_rfl) (List.Sublist.refl _) (qt_move rfl rfl) ?_
      refine A.take 1 (some 24) (.pointer (some ⟨b, 0, none⟩)) rfl (by kernel_rfl) (by kernel_rfl) (List.Sublist.refl _) (qt_pure (by kernel_rfl) fun _ => by kernel_rfl) ?_
      refine A.take 2 (some 25) (.pointer (some ⟨b, 0, none⟩)) rfl (by kernel_rfl) (by kernel_rfl) (List.Sublist.refl _) (qt_pure (by kernel_rfl) fun _ => by kernel_rfl) ?_
      refine A.take 3 (some 26) (.slice (some ⟨s, 0, none⟩) room room) rfl (by kernel_rfl) (by kernel_rfl) (List.Sublist.refl _) (qt_load1 rfl rfl (by kernel_rfl) (reads_oldblk hw.hb rfl)) ?_
      refine A.take 4 (some 27) (.pointer (some ⟨b, 0, none⟩)) rfl (by kernel_rfl) (by kernel_rfl) (List.Sublist.refl _) (qt_move rfl rfl) ?_
      refine A.take 5 (some 28) (.int .i64 (k : Int)) rfl (by kernel_rfl) (by kernel_rfl) (List.Sublist.refl _) (qt_move rfl rfl) ?_
      refine A.take 6 (some 29) (.int .i64 (((first + k) % room : Nat) : Int)) rfl (by kernel_rfl) (by kernel_rfl) (List.Sublist.refl _) (qt_call [(.pointer (some ⟨b, 0, none⟩)), (.int .i64 (k : Int))] rfl (by kernel_rfl) rfl (fun w s0 => ringS_place_spec b s room first n k w (old_blk s0 hw.hb) ⟨hlo, hhi, hft, hct⟩ (by omega))) ?_
      refine A.take 7 (some 30) (.pointer (some ⟨s, ((first + k) % room : Nat) * 1, none⟩)) rfl (by kernel_rfl) (by kernel_rfl) (List.Sublist.refl _) (qt_index0 (el := 9) (m := ((first + k) % room : Nat)) rfl rfl rfl (by kernel_rfl) (by kernel_rfl) (Nat.mod_lt _ (by omega))) ?_
      refine A.take 8 (some 31) (.string x) rfl (by kernel_rfl) (by kernel_rfl) (List.Sublist.refl _) (qt_load1 rfl rfl (by kernel_rfl) (reads_oldblk hw.hs (by have := V.flat_at encS_len hx 0 1 (by decide); simpa [encS] using this))) ?_
      refine A.take 9 (some 4) (.string x) rfl (by kernel_rfl) (by kernel_rfl) (List.Sublist.refl _) (qt_assign rfl rfl) ?_
      refine A.take 10 (some 5) (.int .i64 0) rfl (by kernel_rfl) (by kernel_rfl) (List.Sublist.refl _) (qt_assign rfl rfl) ?_
      refine A.fin (by kernel_rfl) ?_
      refine A.norm [(0, (.pointer (some ⟨b, 0, none⟩))), (1, (.int .i64 (k : Int))), (4, (.string x)), (5, (.int .i64 0)), (6, (.string (⟨#[]⟩))), (7, (.bool false)), (11, (.bool (decide ((k : Int) ≥ (n : Int)))))] [] (by exact ⟨rfl, rfl, rfl, rfl, rfl, rfl, rfl, trivial⟩) rfl ?_
      refine A.tn ?_
      refine A.ret ?_
      refine A.post [(.string x), (.int .i64 0)] (fun a w r s => ⟨rv_tmp r rfl, rv_tmp r rfl, trivial⟩) (fun w1 s => ?_)
      exact ⟨rfl, s.fr⟩

set_option maxRecDepth 100000 in
theorem ringS_at_none (b s room first n : Nat) (slots : List ByteArray) (i : Int) (w : World) (hw : RingW encS 96 9 b s room slots first n w) (hi : ¬ (0 ≤ i ∧ i < (n : Int))) :
    Calls Try.prog 55 #[(.pointer (some ⟨b, 0, none⟩)), (.int .i64 i)] w fun e w' => e = .returned (.tuple #[(.string (⟨#[]⟩)), (.int .i64 6)]) ∧ Fr [] w w' := by
  have hlo := hw.lo; have hhi := hw.hi; have hft := hw.fst; have hct := hw.cnt; have hln := hw.len; have hne := hw.ne
  refine calls_of (args := [(.pointer (some ⟨b, 0, none⟩)), (.int .i64 i)]) (penv [(.pointer (some ⟨b, 0, none⟩)), (.int .i64 i)]) [] [] Try.func55 rfl rfl (look_penv _) (HS.nil w) ?_
  refine A.norm [(0, (.pointer (some ⟨b, 0, none⟩))), (1, (.int .i64 i))] [] (by exact ⟨rfl, rfl, trivial⟩) rfl ?_
  refine A.seq ?_
  refine A.region ?_
  refine A.cons (A.q (some 4) (.string (⟨#[]⟩)) (by kernel_rfl) (qt_assign rfl rfl) ?_)
  refine A.cons (A.q (some 5) (.int .i64 0) (by kernel_rfl) (qt_assign rfl rfl) ?_)
  refine A.done ?_
  refine A.norm [(0, (.pointer (some ⟨b, 0, none⟩))), (1, (.int .i64 i)), (4, (.string (⟨#[]⟩))), (5, (.int .i64 0))] [] (by exact ⟨rfl, rfl, rfl, rfl, trivial⟩) rfl ?_
  refine A.tn ?_
  refine A.seq ?_
  refine A.region ?_
  refine A.cons (A.q (some 6) (.string (⟨#[]⟩)) (by kernel_rfl) (qt_assign rfl rfl) ?_)
  refine A.done ?_
  refine A.norm [(0, (.pointer (some ⟨b, 0, none⟩))), (1, (.int .i64 i)), (4, (.string (⟨#[]⟩))), (5, (.int .i64 0)), (6, (.string (⟨#[]⟩)))] [] (by exact ⟨rfl, rfl, rfl, rfl, rfl, trivial⟩) rfl ?_
  refine A.tn ?_
  refine A.seq ?_
  refine A.block ?_
  refine A.seq ?_
  refine A.region ?_
  refine A.cons (A.q (some 8) (.pointer (some ⟨b, 0, none⟩)) (by kernel_rfl) (qt_move rfl rfl) ?_)
  refine A.cons (A.q (some 9) (.bool false) (by kernel_rfl) (qt_pure (by kernel_rfl) fun _ => by kernel_rfl) ?_)
  refine A.cons (A.q (some 7) (.bool false) (by kernel_rfl) (qt_assign rfl rfl) ?_)
  refine A.done ?_
  refine A.norm [(0, (.pointer (some ⟨b, 0, none⟩))), (1, (.int .i64 i)), (4, (.string (⟨#[]⟩))), (5, (.int .i64 0)), (6, (.string (⟨#[]⟩))), (7, (.bool false))] [] (by exact ⟨rfl, rfl, rfl, rfl, rfl, rfl, trivial⟩) rfl ?_
  refine A.tn ?_
  refine A.cond_f rfl ?_
  refine A.seq ?_
  refine A.cutR (fun _ : Unit => [(0, (.pointer (some ⟨b, 0, none⟩))), (1, (.int .i64 i)), (4, (.string (⟨#[]⟩))), (5, (.int .i64 0)), (6, (.string (⟨#[]⟩))), (7, (.bool false)), (11, (.bool ((decide (i < 0)) || (decide (i ≥ (n : Int))))))]) (fun _ => []) (fun _ => True) ?_ (fun _ _ => ?_)
  · skip
    refine A.region ?_
    refine A.cons (A.q (some 12) (.int .i64 i) (by kernel_rfl) (qt_move rfl rfl) ?_)
    refine A.cons (A.q (some 13) (.bool (decide (i < 0))) (by kernel_rfl) (qt_pure (by kernel_rfl) fun _ => by kernel_rfl) ?_)
    refine A.cons (A.q (some 14) (.bool (decide (i < 0))) (by kernel_rfl) (qt_move rfl rfl) ?_)
    refine A.bool (decide (i < 0)) (fun e1 => ?_) (fun e1 => ?_)
    · skip
      refine A.sub [(0, (.pointer (some ⟨b, 0, none⟩))), (1, (.int .i64 i)), (4, (.string (⟨#[]⟩))), (5, (.int .i64 0)), (6, (.string (⟨#[]⟩))), (7, (.bool false)), (12, (.int .i64 i)), (13, (.bool true)), (14, (.bool true))] (by exact ⟨rfl, rfl, rfl, rfl, rfl, rfl, rfl, (congrArg (fun z => some (Value.bool z)) e1), (congrArg (fun z => some (Value.bool z)) e1), trivial⟩) ?_
      refine A.cons (A.jump (some 15) rfl rfl (by intro x hx; cases hx; rfl) ?_)
      refine A.cons (A.jump (some 16) rfl rfl (by intro x hx; cases hx; rfl) ?_)
      refine A.cons (A.jump (some 17) rfl rfl (by intro x hx; cases hx; rfl) ?_)
      refine A.cons (A.jump (some 18) rfl rfl (by intro x hx; cases hx; rfl) ?_)
      refine A.cons (A.jump (some 19) rfl rfl (by intro x hx; cases hx; rfl) ?_)
      refine A.cons (A.jump (some 20) rfl rfl (by intro x hx; cases hx; rfl) ?_)
      refine A.cons (A.q (some 21) (.bool true) (by kernel_rfl) (qt_pure (by kernel_rfl) fun _ => by kernel_rfl) ?_)
      refine A.cons (A.q (some 11) (.bool true) (by kernel_rfl) (qt_assign rfl rfl) ?_)
      refine A.done ?_
      exact A.meet () trivial (A.here (by exact ⟨rfl, rfl, rfl, rfl, rfl, rfl, (by rw [e1]; rfl), trivial⟩) (List.Sublist.refl _))
    · skip
      refine A.sub [(0, (.pointer (some ⟨b, 0, none⟩))), (1, (.int .i64 i)), (4, (.string (⟨#[]⟩))), (5, (.int .i64 0)), (6, (.string (⟨#[]⟩))), (7, (.bool false)), (12, (.int .i64 i)), (13, (.bool false)), (14, (.bool false))] (by exact ⟨rfl, rfl, rfl, rfl, rfl, rfl, rfl, (congrArg (fun z => some (Value.bool z)) e1), (congrArg (fun z => some (Value.bool z)) e1), trivial⟩) ?_
      refine A.cons (A.q (some 15) (.int .i64 i) (by kernel_rfl) (qt_move rfl rfl) ?_)
      refine A.cons (A.q (some 16) (.pointer (some ⟨b, 0, none⟩)) (by kernel_rfl) (qt_move rfl rfl) ?_)
      refine A.cons (A.q (some 17) (.pointer (some ⟨b, 0, none⟩)) (by kernel_rfl) (qt_pure (by kernel_rfl) fun _ => by kernel_rfl) ?_)
      refine A.cons (A.q (some 18) (.pointer (some ⟨b, 2, none⟩)) (by kernel_rfl) (qt_pure (by kernel_rfl) fun _ => by kernel_rfl) ?_)
      refine A.cons (A.q (some 19) (.int .i64 (n : Int)) (by kernel_rfl) (qt_load1 rfl rfl (by kernel_rfl) (reads_oldblk hw.hb rfl)) ?_)
      refine A.cons (A.q (some 20) (.bool (decide (i ≥ (n : Int)))) (by kernel_rfl) (qt_pure (by kernel_rfl) fun _ => by kernel_rfl) ?_)
      refine A.cons (A.q (some 21) (.bool (decide (i ≥ (n : Int)))) (by kernel_rfl) (qt_pure (by kernel_rfl) fun _ => by kernel_rfl) ?_)
      refine A.cons (A.q (some 11) (.bool (decide (i ≥ (n : Int)))) (by kernel_rfl) (qt_assign rfl rfl) ?_)
      refine A.done ?_
      exact A.meet () trivial (A.here (by exact ⟨rfl, rfl, rfl, rfl, rfl, rfl, (by rw [e1]; rfl), trivial⟩) (List.Sublist.refl _))
  · skip
    refine A.tn ?_
    refine A.cond (E := (decide (i < 0)) || (decide (i ≥ (n : Int)))) rfl (fun e2 => ?_) (fun e2 => ?_)
    · skip
      have p2 := e2; try simp only [decide_eq_true_eq, decide_eq_false_iff_not, beq_iff_eq, beq_eq_false_iff_ne, bne_iff_ne, bne_eq_false_iff_eq, ne_eq, Bool.and_eq_true, Bool.or_eq_true, Bool.or_eq_false_iff, Bool.not_eq_true', Bool.not_eq_false', Int.not_lt, Int.not_le, gt_iff_lt, ge_iff_le, Classical.not_not] at p2
      refine A.seq ?_
      refine A.region ?_
      refine A.cons (A.q (some 22) (.string (⟨#[]⟩)) (by kernel_rfl) (qt_move rfl rfl) ?_)
      refine A.cons (A.q (some 4) (.string (⟨#[]⟩)) (by kernel_rfl) (qt_assign rfl rfl) ?_)
      refine A.cons (A.q (some 5) (.int .i64 6) (by kernel_rfl) (qt_assign rfl rfl) ?_)
      refine A.done ?_
      refine A.norm [(0, (.pointer (some ⟨b, 0, none⟩))), (1, (.int .i64 i)), (4, (.string (⟨#[]⟩))), (5, (.int .i64 6)), (6, (.string (⟨#[]⟩))), (7, (.bool false)), (11, (.bool ((decide (i < 0)) || (decide (i ≥ (n : Int))))))] [] (by exact ⟨rfl, rfl, rfl, rfl, rfl, rfl, rfl, trivial⟩) rfl ?_
      refine A.tn ?_
      refine A.ret ?_
      refine A.br ?_
      refine A.tr ?_
      refine A.post [(.string (⟨#[]⟩)), (.int .i64 6)] (fun a w r s => ⟨rv_tmp r rfl, rv_tmp r rfl, trivial⟩) (fun w1 s => ?_)
      exact ⟨rfl, s.fr⟩
    · exact absurd e2 (by first | (simp; done) | (simp; omega) | grind)

set_option maxRecDepth 100000 in
theorem ringS_new_bad (r : Int) (w : World) (h : r < 1 ∨ 64 < r) :
    Calls Try.prog 27 #[(.int .i64 r)] w fun e w' => e = .returned (.tuple #[(.pointer none), (.int .i64 1)]) ∧ Fr [] w w' := by
  refine calls_of (args := [(.int .i64 r)]) (penv [(.int .i64 r)]) [] [] Try.func27 rfl rfl (look_penv _) (HS.nil w) ?_
  refine A.norm [(0, (.int .i64 r))] [] (by exact ⟨rfl, trivial⟩) rfl ?_
  refine A.seq ?_
  refine A.region ?_
  refine A.cons (A.q (some 2) (.pointer none) (by kernel_rfl) (qt_assign rfl rfl) ?_)
  refine A.cons (A.q (some 3) (.int .i64 0) (by kernel_rfl) (qt_assign rfl rfl) ?_)
  refine A.done ?_
  refine A.norm [(0, (.int .i64 r)), (2, (.pointer none)), (3, (.int .i64 0))] [] (by exact ⟨rfl, rfl, rfl, trivial⟩) rfl ?_
  refine A.tn ?_
  refine A.seq ?_
  refine A.seq ?_
  refine A.cutR (fun _ : Unit => [(0, (.int .i64 r)), (2, (.pointer none)), (3, (.int .i64 0)), (9, (.bool ((decide (r < 1)) || (decide (r > 64)))))]) (fun _ => []) (fun _ => True) ?_ (fun _ _ => ?_)
  · skip
    refine A.region ?_
    refine A.cons (A.q (some 4) (.int .i64 r) (by kernel_rfl) (qt_move rfl rfl) ?_)
    refine A.cons (A.q (some 5) (.bool (decide (r < 1))) (by kernel_rfl) (qt_pure (by kernel_rfl) fun _ => by kernel_rfl) ?_)
    refine A.cons (A.q (some 6) (.bool (decide (r < 1))) (by kernel_rfl) (qt_move rfl rfl) ?_)
    refine A.bool (decide (r < 1)) (fun e1 => ?_) (fun e1 => ?_)
    · skip
      refine A.sub [(0, (.int .i64 r)), (2, (.pointer none)), (3, (.int .i64 0)), (4, (.int .i64 r)), (5, (.bool true)), (6, (.bool true))] (by exact ⟨rfl, rfl, rfl, rfl, (congrArg (fun z => some (Value.bool z)) e1), (congrArg (fun z => some (Value.bool z)) e1), trivial⟩) ?_
      refine A.cons (A.jump (some 7) rfl rfl (by intro x hx; cases hx; rfl) ?_)
      refine A.cons (A.jump (some 8) rfl rfl (by intro x hx; cases hx; rfl) ?_)
      refine A.cons (A.q (some 9) (.bool true) (by kernel_rfl) (qt_pure (by kernel_rfl) fun _ => by kernel_rfl) ?_)
      refine A.done ?_
      exact A.meet () trivial (A.here (by exact ⟨rfl, rfl, rfl, (by rw [e1]; rfl), trivial⟩) (List.Sublist.refl _))
    · skip
      refine A.sub [(0, (.int .i64 r)), (2, (.pointer none)), (3, (.int .i64 0)), (4, (.int .i64 r)), (5, (.bool false)), (6, (.bool false))] (by exact ⟨rfl, rfl, rfl, rfl, (congrArg (fun z => some (Value.bool z)) e1), (congrArg (fun z => some (Value.bool z)) e1), trivial⟩) ?_
      refine A.cons (A.q (some 7) (.int .i64 r) (by kernel_rfl) (qt_move rfl rfl) ?_)
      refine A.cons (A.q (some 8) (.bool (decide (r > 64))) (by kernel_rfl) (qt_pure (by kernel_rfl) fun _ => by kernel_rfl) ?_)
      refine A.cons (A.q (some 9) (.bool (decide (r > 64))) (by kernel_rfl) (qt_pure (by kernel_rfl) fun _ => by kernel_rfl) ?_)
      refine A.done ?_
      exact A.meet () trivial (A.here (by exact ⟨rfl, rfl, rfl, (by rw [e1]; rfl), trivial⟩) (List.Sublist.refl _))
  · skip
    refine A.tn ?_
    refine A.cond (E := (decide (r < 1)) || (decide (r > 64))) rfl (fun e2 => ?_) (fun e2 => ?_)
    · skip
      have p2 := e2; try simp only [decide_eq_true_eq, decide_eq_false_iff_not, beq_iff_eq, beq_eq_false_iff_ne, bne_iff_ne, bne_eq_false_iff_eq, ne_eq, Bool.and_eq_true, Bool.or_eq_true, Bool.or_eq_false_iff, Bool.not_eq_true', Bool.not_eq_false', Int.not_lt, Int.not_le, gt_iff_lt, ge_iff_le, Classical.not_not] at p2
      refine A.seq ?_
      refine A.region ?_
      refine A.cons (A.q (some 2) (.pointer none) (by kernel_rfl) (qt_assign rfl rfl) ?_)
      refine A.cons (A.q (some 3) (.int .i64 1) (by kernel_rfl) (qt_assign rfl rfl) ?_)
      refine A.done ?_
      refine A.norm [(0, (.int .i64 r)), (2, (.pointer none)), (3, (.int .i64 1)), (9, (.bool ((decide (r < 1)) || (decide (r > 64)))))] [] (by exact ⟨rfl, rfl, rfl, rfl, trivial⟩) rfl ?_
      refine A.tn ?_
      refine A.ret ?_
      refine A.tr ?_
      refine A.post [(.pointer none), (.int .i64 1)] (fun a w r s => ⟨rv_tmp r rfl, rv_tmp r rfl, trivial⟩) (fun w1 s => ?_)
      exact ⟨rfl, s.fr⟩
    · exact absurd e2 (by first | (simp; done) | (simp; omega) | grind)

set_option maxRecDepth 100000 in
theorem ringS_new_ok (room : Nat) (w : World) (h1 : 1 ≤ room) (h2 : room ≤ 64) :
    Calls Try.prog 27 #[(.int .i64 (room : Int))] w fun e w' => ∃ b s, e = .returned (.tuple #[(.pointer (some ⟨b, 0, none⟩)), (.int .i64 0)]) ∧ RingH encS 96 9 b s room ([] : List ByteArray) w' ∧ Fr [] w w' ∧ w.heap.size ≤ b ∧ w.heap.size ≤ s := by
  refine calls_of (args := [(.int .i64 (room : Int))]) (penv [(.int .i64 (room : Int))]) [] [] Try.func27 rfl rfl (look_penv _) (HS.nil w) ?_
  refine A.norm [(0, (.int .i64 (room : Int)))] [] (by exact ⟨rfl, trivial⟩) rfl ?_
  refine A.seq ?_
  refine A.region ?_
  refine A.cons (A.q (some 2) (.pointer none) (by kernel_rfl) (qt_assign rfl rfl) ?_)
  refine A.cons (A.q (some 3) (.int .i64 0) (by kernel_rfl) (qt_assign rfl rfl) ?_)
  refine A.done ?_
  refine A.norm [(0, (.int .i64 (room : Int))), (2, (.pointer none)), (3, (.int .i64 0))] [] (by exact ⟨rfl, rfl, rfl, trivial⟩) rfl ?_
  refine A.tn ?_
  refine A.seq ?_
  refine A.seq ?_
  refine A.region ?_
  refine A.cons (A.q (some 4) (.int .i64 (room : Int)) (by kernel_rfl) (qt_move rfl rfl) ?_)
  refine A.cons (A.q (some 5) (.bool (decide ((room : Int) < 1))) (by kernel_rfl) (qt_pure (by kernel_rfl) fun _ => by kernel_rfl) ?_)
  refine A.cons (A.q (some 6) (.bool (decide ((room : Int) < 1))) (by kernel_rfl) (qt_move rfl rfl) ?_)
  refine A.bool (decide ((room : Int) < 1)) (fun e1 => ?_) (fun e1 => ?_)
  · exact absurd e1 (by first | (simp; done) | (simp; omega) | grind)
  · skip
    refine A.sub [(0, (.int .i64 (room : Int))), (2, (.pointer none)), (3, (.int .i64 0)), (4, (.int .i64 (room : Int))), (5, (.bool false)), (6, (.bool false))] (by exact ⟨rfl, rfl, rfl, rfl, (congrArg (fun z => some (Value.bool z)) e1), (congrArg (fun z => some (Value.bool z)) e1), trivial⟩) ?_
    refine A.cons (A.q (some 7) (.int .i64 (room : Int)) (by kernel_rfl) (qt_move rfl rfl) ?_)
    refine A.cons (A.q (some 8) (.bool (decide ((room : Int) > 64))) (by kernel_rfl) (qt_pure (by kernel_rfl) fun _ => by kernel_rfl) ?_)
    refine A.cons (A.q (some 9) (.bool (decide ((room : Int) > 64))) (by kernel_rfl) (qt_pure (by kernel_rfl) fun _ => by kernel_rfl) ?_)
    refine A.done ?_
    refine A.norm [(0, (.int .i64 (room : Int))), (2, (.pointer none)), (3, (.int .i64 0)), (9, (.bool (decide ((room : Int) > 64))))] [] (by exact ⟨rfl, rfl, rfl, rfl, trivial⟩) rfl ?_
    refine A.tn ?_
    refine A.cond (E := decide ((room : Int) > 64)) rfl (fun e2 => ?_) (fun e2 => ?_)
    · exact absurd e2 (by first | (simp; done) | (simp; omega) | grind)
    · skip
      have p2 := e2; try simp only [decide_eq_true_eq, decide_eq_false_iff_not, beq_iff_eq, beq_eq_false_iff_ne, bne_iff_ne, bne_eq_false_iff_eq, ne_eq, Bool.and_eq_true, Bool.or_eq_true, Bool.or_eq_false_iff, Bool.not_eq_true', Bool.not_eq_false', Int.not_lt, Int.not_le, gt_iff_lt, ge_iff_le, Classical.not_not] at p2
      refine A.skip ?_
      refine A.tn ?_
      refine A.seq ?_
      refine A.region ?_
      refine A.cons (A.q (some 10) (.int .i64 (room : Int)) (by kernel_rfl) (qt_move rfl rfl) ?_)
      refine A.cons (A.make encS ⟨#[]⟩ 11 (e := 9) (sz := 1) (by_ := 16) (z := (.string (⟨#[]⟩))) room (by kernel_rfl) rfl rfl rfl (by kernel_rfl) (by kernel_rfl) rfl (by rfl) (by omega) (by omega) (fun b1 => [blk b1 (V.flat encS (List.replicate room ⟨#[]⟩)) 9]) (fun _ => rfl) ?_)
      intro b1
      refine A.cons (A.q (some 12) (.agg #[(.slice (some ⟨b1, 0, none⟩) room room), (.int .i64 0), (.int .i64 0)]) (by kernel_rfl) (qt_pure (by kernel_rfl) fun _ => by kernel_rfl) ?_)
      refine A.cons (A.box 13 [(.slice (some ⟨b1, 0, none⟩) room room), (.int .i64 0), (.int .i64 0)] (by kernel_rfl) rfl rfl rfl (fun b2 => [blk b1 (V.flat encS (List.replicate room ⟨#[]⟩)) 9, blk b2 [(.slice (some ⟨b1, 0, none⟩) room room), (.int .i64 0), (.int .i64 0)] 96]) (fun _ => rfl) ?_)
      intro b2
      refine A.cons (A.q (some 2) (.pointer (some ⟨b2, 0, none⟩)) (by kernel_rfl) (qt_assign rfl rfl) ?_)
      refine A.cons (A.q (some 3) (.int .i64 0) (by kernel_rfl) (qt_assign rfl rfl) ?_)
      refine A.done ?_
      refine A.norm [(0, (.int .i64 (room : Int))), (2, (.pointer (some ⟨b2, 0, none⟩))), (3, (.int .i64 0)), (9, (.bool (decide ((room : Int) > 64))))] [blk b1 (V.flat encS (List.replicate room ⟨#[]⟩)) 9, blk b2 [(.slice (some ⟨b1, 0, none⟩) room room), (.int .i64 0), (.int .i64 0)] 96] (by exact ⟨rfl, rfl, rfl, rfl, trivial⟩) rfl ?_
      refine A.tn ?_
      refine A.ret ?_
      refine A.post [(.pointer (some ⟨b2, 0, none⟩)), (.int .i64 0)] (fun a w r s => ⟨rv_tmp r rfl, rv_tmp r rfl, trivial⟩) (fun w1 s => ?_)
      have hne := s.nodup
      simp only [feet, blk, List.flatMap_cons, List.flatMap_nil, List.nodup_cons, List.mem_cons, List.append_nil, List.cons_append, List.nil_append] at hne
      exact ⟨b2, b1, rfl, ⟨List.replicate room ⟨#[]⟩, 0, ⟨s.mem (i := 1) rfl, s.mem (i := 0) rfl, by simp, h1, h2, by omega, by simp, by rintro rfl; simp at hne⟩, by simp⟩, s.fr, s.new (by simp [feet, blk]), s.new (by simp [feet, blk])⟩

set_option maxRecDepth 100000 in
theorem ringS_push_full (b s room first n : Nat) (slots : List ByteArray) (x : ByteArray) (w : World) (hw : RingW encS 96 9 b s room slots first n w) (hn : n = room) :
    Calls Try.prog 30 #[(.pointer (some ⟨b, 0, none⟩)), (.string x)] w fun e w' => e = .returned (.int .i64 5) ∧ Fr [] w w' := by
  have hlo := hw.lo; have hhi := hw.hi; have hft := hw.fst; have hct := hw.cnt; have hln := hw.len; have hne := hw.ne
  refine calls_of (args := [(.pointer (some ⟨b, 0, none⟩)), (.string x)]) (penv [(.pointer (some ⟨b, 0, none⟩)), (.string x)]) [] [] Try.func30 rfl rfl (look_penv _) (HS.nil w) ?_
  refine A.norm [(0, (.pointer (some ⟨b, 0, none⟩))), (1, (.string x))] [] (by exact ⟨rfl, rfl, trivial⟩) rfl ?_
  refine A.seq ?_
  refine A.region ?_
  refine A.cons (A.q (some 4) (.int .i64 0) (by kernel_rfl) (qt_assign rfl rfl) ?_)
  refine A.done ?_
  refine A.norm [(0, (.pointer (some ⟨b, 0, none⟩))), (1, (.string x)), (4, (.int .i64 0))] [] (by exact ⟨rfl, rfl, rfl, trivial⟩) rfl ?_
  refine A.tn ?_
  refine A.seq ?_
  refine A.block ?_
  refine A.seq ?_
  refine A.region ?_
  refine A.cons (A.q (some 6) (.pointer (some ⟨b, 0, none⟩)) (by kernel_rfl) (qt_move rfl rfl) ?_)
  refine A.cons (A.q (some 7) (.bool false) (by kernel_rfl) (qt_pure (by kernel_rfl) fun _ => by kernel_rfl) ?_)
  refine A.cons (A.q (some 5) (.bool false) (by kernel_rfl) (qt_assign rfl rfl) ?_)
  refine A.done ?_
  refine A.norm [(0, (.pointer (some ⟨b, 0, none⟩))), (1, (.string x)), (4, (.int .i64 0)), (5, (.bool false))] [] (by exact ⟨rfl, rfl, rfl, rfl, trivial⟩) rfl ?_
  refine A.tn ?_
  refine A.cond_f rfl ?_
  refine A.seq ?_
  refine A.region ?_
  refine A.cons (A.q (some 9) (.pointer (some ⟨b, 0, none⟩)) (by kernel_rfl) (qt_move rfl rfl) ?_)
  refine A.cons (A.q (some 10) (.int .i64 ((room : Int) - (n : Int))) (by kernel_rfl) (qt_call [(.pointer (some ⟨b, 0, none⟩))] rfl (by kernel_rfl) rfl (fun w s0 => ringS_room_w b s room first n w (old_blk s0 hw.hb) ⟨hlo, hhi, hft, hct⟩)) ?_)
  refine A.cons (A.q (some 11) (.bool (((room : Int) - (n : Int)) == 0)) (by kernel_rfl) (qt_pure (by kernel_rfl) fun _ => by kernel_rfl) ?_)
  refine A.cons (A.q (some 8) (.bool (((room : Int) - (n : Int)) == 0)) (by kernel_rfl) (qt_assign rfl rfl) ?_)
  refine A.done ?_
  refine A.norm [(0, (.pointer (some ⟨b, 0, none⟩))), (1, (.string x)), (4, (.int .i64 0)), (5, (.bool false)), (8, (.bool (((room : Int) - (n : Int)) == 0)))] [] (by exact ⟨rfl, rfl, rfl, rfl, rfl, trivial⟩) rfl ?_
  refine A.tn ?_
  refine A.cond (E := ((room : Int) - (n : Int)) == 0) rfl (fun e1 => ?_) (fun e1 => ?_)
  · skip
    have p1 := e1; try simp only [decide_eq_true_eq, decide_eq_false_iff_not, beq_iff_eq, beq_eq_false_iff_ne, bne_iff_ne, bne_eq_false_iff_eq, ne_eq, Bool.and_eq_true, Bool.or_eq_true, Bool.or_eq_false_iff, Bool.not_eq_true', Bool.not_eq_false', Int.not_lt, Int.not_le, gt_iff_lt, ge_iff_le, Classical.not_not] at p1
    refine A.seq ?_
    refine A.region ?_
    refine A.cons (A.q (some 4) (.int .i64 5) (by kernel_rfl) (qt_assign rfl rfl) ?_)
    refine A.done ?_
    refine A.norm [(0, (.pointer (some ⟨b, 0, none⟩))), (1, (.string x)), (4, (.int .i64 5)), (5, (.bool false)), (8, (.bool (((room : Int) - (n : Int)) == 0)))] [] (by exact ⟨rfl, rfl, rfl, rfl, rfl, trivial⟩) rfl ?_
    refine A.tn ?_
    refine A.ret ?_
    refine A.br ?_
    refine A.tr ?_
    refine A.post [(.int .i64 5)] (fun a w r s => ⟨rv_tmp r rfl, trivial⟩) (fun w1 s => ?_)
    exact ⟨rfl, s.fr⟩
  · exact absurd e1 (by first | (simp; done) | (simp; omega) | grind)

set_option maxRecDepth 100000 in
theorem ringS_push_w (b s room first n : Nat) (slots : List ByteArray) (x : ByteArray) (w : World) (hw : RingW encS 96 9 b s room slots first n w) (hn : n < room) :
    Calls Try.prog 30 #[(.pointer (some ⟨b, 0, none⟩)), (.string x)] w fun e w' => e = .returned (.int .i64 0) ∧ RingW encS 96 9 b s room (slots.set ((first + n) % room) x) first (n + 1) w' ∧ Fr [b, s] w w' := by
  have hlo := hw.lo; have hhi := hw.hi; have hft := hw.fst; have hct := hw.cnt; have hln := hw.len; have hne := hw.ne
  refine calls_of (args := [(.pointer (some ⟨b, 0, none⟩)), (.string x)]) (penv [(.pointer (some ⟨b, 0, none⟩)), (.string x)]) [b, s] [blk b [(.slice (some ⟨s, 0, none⟩) room room), (.int .i64 (first : Int)), (.int .i64 (n : Int))] 96, blk s (V.flat encS slots) 9] Try.func30 rfl rfl (look_penv _) (ringHS hw) ?_
  refine A.norm [(0, (.pointer (some ⟨b, 0, none⟩))), (1, (.string x))] [blk b [(.slice (some ⟨s, 0, none⟩) room room), (.int .i64 (first : Int)), (.int .i64 (n : Int))] 96, blk s (V.flat encS slots) 9] (by exact ⟨rfl, rfl, trivial⟩) rfl ?_
  refine A.seq ?_
  refine A.region ?_
  refine A.cons (A.q (some 4) (.int .i64 0) (by kernel_rfl) (qt_assign rfl rfl) ?_)
  refine A.done ?_
  refine A.norm [(0, (.pointer (some ⟨b, 0, none⟩))), (1, (.string x)), (4, (.int .i64 0))] [blk b [(.slice (some ⟨s, 0, none⟩) room room), (.int .i64 (first : Int)), (.int .i64 (n : Int))] 96, blk s (V.flat encS slots) 9] (by exact ⟨rfl, rfl, rfl, trivial⟩) rfl ?_
  refine A.tn ?_
  refine A.seq ?_
  refine A.block ?_
  refine A.seq ?_
  refine A.region ?_
  refine A.cons (A.q (some 6) (.pointer (some ⟨b, 0, none⟩)) (by kernel_rfl) (qt_move rfl rfl) ?_)
  refine A.cons (A.q (some 7) (.bool false) (by kernel_rfl) (qt_pure (by kernel_rfl) fun _ => by kernel_rfl) ?_)
  refine A.cons (A.q (some 5) (.bool false) (by kernel_rfl) (qt_assign rfl rfl) ?_)
  refine A.done ?_
  refine A.norm [(0, (.pointer (some ⟨b, 0, none⟩))), (1, (.string x)), (4, (.int .i64 0)), (5, (.bool false))] [blk b [(.slice (some ⟨s, 0, none⟩) room room), (.int .i64 (first : Int)), (.int .i64 (n : Int))] 96, blk s (V.flat encS slots) 9] (by exact ⟨rfl, rfl, rfl, rfl, trivial⟩) rfl ?_
  refine A.tn ?_
  refine A.cond_f rfl ?_
  refine A.seq ?_
  refine A.region ?_
  refine A.cons (A.q (some 9) (.pointer (some ⟨b, 0, none⟩)) (by kernel_rfl) (qt_move rfl rfl) ?_)
  refine A.cons (A.q (some 10) (.int .i64 ((room : Int) - (n : Int))) (by kernel_rfl) (qt_call [(.pointer (some ⟨b, 0, none⟩))] rfl (by kernel_rfl) rfl (fun w s0 => ringS_room_w b s room first n w (s0.mem (i := 0) rfl) ⟨hlo, hhi, hft, hct⟩)) ?_)
  refine A.cons (A.q (some 11) (.bool (((room : Int) - (n : Int)) == 0)) (by kernel_rfl) (qt_pure (by kernel_rfl) fun _ => by kernel_rfl) ?_)
  refine A.cons (A.q (some 8) (.bool (((room : Int) - (n : Int)) == 0)) (by kernel_rfl) (qt_assign rfl rfl) ?_)
  refine A.done ?_
  refine A.norm [(0, (.pointer (some ⟨b, 0, none⟩))), (1, (.string x)), (4, (.int .i64 0)), (5, (.bool false)), (8, (.bool (((room : Int) - (n : Int)) == 0)))] [blk b [(.slice (some ⟨s, 0, none⟩) room room), (.int .i64 (first : Int)), (.int .i64 (n : Int))] 96, blk s (V.flat encS slots) 9] (by exact ⟨rfl, rfl, rfl, rfl, rfl, trivial⟩) rfl ?_
  refine A.tn ?_
  refine A.cond (E := ((room : Int) - (n : Int)) == 0) rfl (fun e1 => ?_) (fun e1 => ?_)
  · exact absurd e1 (by first | (simp; done) | (simp; omega) | grind)
  · skip
    have p1 := e1; try simp only [decide_eq_true_eq, decide_eq_false_iff_not, beq_iff_eq, beq_eq_false_iff_ne, bne_iff_ne, bne_eq_false_iff_eq, ne_eq, Bool.and_eq_true, Bool.or_eq_true, Bool.or_eq_false_iff, Bool.not_eq_true', Bool.not_eq_false', Int.not_lt, Int.not_le, gt_iff_lt, ge_iff_le, Classical.not_not] at p1
    refine A.skip ?_
    refine A.bn ?_
    refine A.tn ?_
    refine A.seq ?_
    refine A.draw [blk b [(.slice (some ⟨s, 0, none⟩) room room), (.int .i64 (first : Int)), (.int .i64 (n : Int))] 96] (by kernel_rfl) ?_
    refine A.take 0 (some 12) (.pointer (some ⟨b, 0, none⟩)) rfl (by kernel_rfl) (by kernel_rfl) (List.Sublist.cons_cons _ (List.Sublist.cons _ (List.Sublist.slnil))) (qt_move rfl rfl) ?_
    refine A.take 1 (some 13) (.pointer (some ⟨b, 0, none⟩)) rfl (by kernel_rfl) (by kernel_rfl) (List.Sublist.cons_cons _ (List.Sublist.cons _ (List.Sublist.slnil))) (qt_pure (by kernel_rfl) fun _ => by kernel_rfl) ?_
    refine A.take 2 (some 14) (.pointer (some ⟨b, 0, none⟩)) rfl (by kernel_rfl) (by kernel_rfl) (List.Sublist.cons_cons _ (List.Sublist.cons _ (List.Sublist.slnil))) (qt_pure (by kernel_rfl) fun _ => by kernel_rfl) ?_
    refine A.take 3 (some 15) (.slice (some ⟨s, 0, none⟩) room room) rfl (by kernel_rfl) (by kernel_rfl) (List.Sublist.cons_cons _ (List.Sublist.cons _ (List.Sublist.slnil))) (qt_load1 rfl rfl (by kernel_rfl) (reads_blk (i := 0) rfl rfl)) ?_
    refine A.take 4 (some 16) (.pointer (some ⟨b, 0, none⟩)) rfl (by kernel_rfl) (by kernel_rfl) (List.Sublist.cons_cons _ (List.Sublist.cons _ (List.Sublist.slnil))) (qt_move rfl rfl) ?_
    refine A.take 5 (some 17) (.pointer (some ⟨b, 0, none⟩)) rfl (by kernel_rfl) (by kernel_rfl) (List.Sublist.cons_cons _ (List.Sublist.cons _ (List.Sublist.slnil))) (qt_move rfl rfl) ?_
    refine A.take 6 (some 18) (.pointer (some ⟨b, 0, none⟩)) rfl (by kernel_rfl) (by kernel_rfl) (List.Sublist.cons_cons _ (List.Sublist.cons _ (List.Sublist.slnil))) (qt_pure (by kernel_rfl) fun _ => by kernel_rfl) ?_
    refine A.take 7 (some 19) (.pointer (some ⟨b, 2, none⟩)) rfl (by kernel_rfl) (by kernel_rfl) (List.Sublist.cons_cons _ (List.Sublist.cons _ (List.Sublist.slnil))) (qt_pure (by kernel_rfl) fun _ => by kernel_rfl) ?_
    refine A.take 8 (some 20) (.int .i64 (n : Int)) rfl (by kernel_rfl) (by kernel_rfl) (List.Sublist.cons_cons _ (List.Sublist.cons _ (List.Sublist.slnil))) (qt_load1 rfl rfl (by kernel_rfl) (reads_blk (i := 0) rfl rfl)) ?_
    refine A.take 9 (some 21) (.int .i64 (((first + n) % room : Nat) : Int)) rfl (by kernel_rfl) (by kernel_rfl) (List.Sublist.cons_cons _ (List.Sublist.cons _ (List.Sublist.slnil))) (qt_call [(.pointer (some ⟨b, 0, none⟩)), (.int .i64 (n : Int))] rfl (by kernel_rfl) rfl (fun w s0 => ringS_place_spec b s room first n n w (s0.mem (i := 0) rfl) ⟨hlo, hhi, hft, hct⟩ (by omega))) ?_
    refine A.take 10 (some 22) (.string x) rfl (by kernel_rfl) (by kernel_rfl) (List.Sublist.cons_cons _ (List.Sublist.cons _ (List.Sublist.slnil))) (qt_move rfl rfl) ?_
    refine A.take 11 (some 23) (.pointer (some ⟨s, ((first + n) % room : Nat) * 1, none⟩)) rfl (by kernel_rfl) (by kernel_rfl) (List.Sublist.cons_cons _ (List.Sublist.cons _ (List.Sublist.slnil))) (qt_index0 (el := 9) (m := ((first + n) % room : Nat)) rfl rfl rfl (by kernel_rfl) (by kernel_rfl) (by first | exact Nat.mod_lt _ (by omega) | omega)) ?_
    refine A.only 12 rfl (by kernel_rfl) (A.storeAt 1 ((first + n) % room : Nat) x [blk b [(.slice (some ⟨s, 0, none⟩) room room), (.int .i64 (first : Int)), (.int .i64 (n : Int))] 96, blk s (V.flat encS (slots.set ((first + n) % room : Nat) x)) 9] (by kernel_rfl) rfl rfl rfl rfl (by kernel_rfl) rfl encS_len rfl (by rw [hln]; first | exact Nat.mod_lt _ (by omega) | omega) rfl ?_)
    refine A.and (List.Sublist.cons_cons _ (List.Sublist.cons _ (List.Sublist.slnil))) ?_
    refine A.fin (by kernel_rfl) ?_
    refine A.norm [(0, (.pointer (some ⟨b, 0, none⟩))), (1, (.string x)), (4, (.int .i64 0)), (5, (.bool false)), (8, (.bool (((room : Int) - (n : Int)) == 0)))] [blk b [(.slice (some ⟨s, 0, none⟩) room room), (.int .i64 (first : Int)), (.int .i64 (n : Int))] 96, blk s (V.flat encS (slots.set ((first + n) % room : Nat) x)) 9] (by exact ⟨rfl, rfl, rfl, rfl, rfl, trivial⟩) rfl ?_
    refine A.tn ?_
    refine A.seq ?_
    refine A.region ?_
    refine A.cons (A.q (some 24) (.pointer (some ⟨b, 0, none⟩)) (by kernel_rfl) (qt_move rfl rfl) ?_)
    refine A.cons (A.q (some 25) (.pointer (some ⟨b, 0, none⟩)) (by kernel_rfl) (qt_pure (by kernel_rfl) fun _ => by kernel_rfl) ?_)
    refine A.cons (A.q (some 26) (.pointer (some ⟨b, 2, none⟩)) (by kernel_rfl) (qt_pure (by kernel_rfl) fun _ => by kernel_rfl) ?_)
    refine A.cons (A.q (some 27) (.int .i64 (n : Int)) (by kernel_rfl) (qt_load1 rfl rfl (by kernel_rfl) (reads_blk (i := 0) rfl rfl)) ?_)
    refine A.cons (A.q (some 28) (.int .i64 ((n : Int) + 1)) (by kernel_rfl) (qt_as (congrArg (Value.int .i64) (wrap_i64 (e := (n : Int) + 1) (by constructor <;> omega))) (qt_pure (v := .int .i64 (IntKind.i64.wrap ((n : Int) + 1))) (by kernel_rfl) fun _ => by kernel_rfl)) ?_)
    refine A.cons (A.q (some 29) (.pointer (some ⟨b, 0, none⟩)) (by kernel_rfl) (qt_pure (by kernel_rfl) fun _ => by kernel_rfl) ?_)
    refine A.cons (A.q (some 30) (.pointer (some ⟨b, 2, none⟩)) (by kernel_rfl) (qt_pure (by kernel_rfl) fun _ => by kernel_rfl) ?_)
    refine A.cons (A.store 0 (vs := [(.int .i64 ((n : Int) + 1))]) [blk b [(.slice (some ⟨s, 0, none⟩) room room), (.int .i64 (first : Int)), (.int .i64 ((n : Int) + 1))] 96, blk s (V.flat encS (slots.set ((first + n) % room : Nat) x)) 9] (by kernel_rfl) rfl rfl rfl rfl (by kernel_rfl) rfl rfl (by kernel_rfl) rfl ?_)
    refine A.done ?_
    refine A.norm [(0, (.pointer (some ⟨b, 0, none⟩))), (1, (.string x)), (4, (.int .i64 0)), (5, (.bool false)), (8, (.bool (((room : Int) - (n : Int)) == 0)))] [blk b [(.slice (some ⟨s, 0, none⟩) room room), (.int .i64 (first : Int)), (.int .i64 ((n : Int) + 1))] 96, blk s (V.flat encS (slots.set ((first + n) % room : Nat) x)) 9] (by exact ⟨rfl, rfl, rfl, rfl, rfl, trivial⟩) rfl ?_
    refine A.tn ?_
    refine A.seq ?_
    refine A.region ?_
    refine A.cons (A.q (some 4) (.int .i64 0) (by kernel_rfl) (qt_assign rfl rfl) ?_)
    refine A.done ?_
    refine A.norm [(0, (.pointer (some ⟨b, 0, none⟩))), (1, (.string x)), (4, (.int .i64 0)), (5, (.bool false)), (8, (.bool (((room : Int) - (n : Int)) == 0)))] [blk b [(.slice (some ⟨s, 0, none⟩) room room), (.int .i64 (first : Int)), (.int .i64 ((n : Int) + 1))] 96, blk s (V.flat encS (slots.set ((first + n) % room : Nat) x)) 9] (by exact ⟨rfl, rfl, rfl, rfl, rfl, trivial⟩) rfl ?_
    refine A.tn ?_
    refine A.ret ?_
    refine A.post [(.int .i64 0)] (fun a w r s => ⟨rv_tmp r rfl, trivial⟩) (fun w1 s => ?_)
    exact ⟨rfl, ⟨s.mem (i := 0) rfl, s.mem (i := 1) rfl, by simp [hln], hlo, hhi, hft, by omega, hne⟩, s.fr⟩

set_option maxRecDepth 100000 in
theorem ringS_pop_w (b s room first m : Nat) (slots : List ByteArray) (x : ByteArray) (w : World) (hw : RingW encS 96 9 b s room slots first (m + 1) w) (hx : slots[(first + 0) % room]? = some x) :
    Calls Try.prog 29 #[(.pointer (some ⟨b, 0, none⟩))] w fun e w' => e = .returned (.tuple #[(.string x), (.int .i64 0)]) ∧ RingW encS 96 9 b s room (slots.set first ⟨#[]⟩) ((first + 1) % room) m w' ∧ Fr [b, s] w w' := by
  have hlo := hw.lo; have hhi := hw.hi; have hft := hw.fst; have hct := hw.cnt; have hln := hw.len; have hne := hw.ne
  refine calls_of (args := [(.pointer (some ⟨b, 0, none⟩))]) (penv [(.pointer (some ⟨b, 0, none⟩))]) [b, s] [blk b [(.slice (some ⟨s, 0, none⟩) room room), (.int .i64 (first : Int)), (.int .i64 ((m + 1 : Nat) : Int))] 96, blk s (V.flat encS slots) 9] Try.func29 rfl rfl (look_penv _) (ringHS hw) ?_
  refine A.norm [(0, (.pointer (some ⟨b, 0, none⟩)))] [blk b [(.slice (some ⟨s, 0, none⟩) room room), (.int .i64 (first : Int)), (.int .i64 ((m + 1 : Nat) : Int))] 96, blk s (V.flat encS slots) 9] (by exact ⟨rfl, trivial⟩) rfl ?_
  refine A.seq ?_
  refine A.region ?_
  refine A.cons (A.q (some 2) (.string (⟨#[]⟩)) (by kernel_rfl) (qt_assign rfl rfl) ?_)
  refine A.cons (A.q (some 3) (.int .i64 0) (by kernel_rfl) (qt_assign rfl rfl) ?_)
  refine A.done ?_
  refine A.norm [(0, (.pointer (some ⟨b, 0, none⟩))), (2, (.string (⟨#[]⟩))), (3, (.int .i64 0))] [blk b [(.slice (some ⟨s, 0, none⟩) room room), (.int .i64 (first : Int)), (.int .i64 ((m + 1 : Nat) : Int))] 96, blk s (V.flat encS slots) 9] (by exact ⟨rfl, rfl, rfl, trivial⟩) rfl ?_
  refine A.tn ?_
  refine A.seq ?_
  refine A.region ?_
  refine A.cons (A.q (some 8) (.pointer (some ⟨b, 0, none⟩)) (by kernel_rfl) (qt_move rfl rfl) ?_)
  refine A.cons (A.q (some 9) (.tuple #[(.string x), (.int .i64 0)]) (by kernel_rfl) (qt_call [(.pointer (some ⟨b, 0, none⟩)), (.int .i64 0)] rfl (by kernel_rfl) rfl (fun w s0 => ringS_at_ok b s room first (m + 1) slots 0 x w ⟨s0.mem (i := 0) rfl, s0.mem (i := 1) rfl, hw.len, hw.lo, hw.hi, hw.fst, hw.cnt, hw.ne⟩ (by omega) hx)) ?_)
  refine A.cons (A.q (some 7) (.tuple #[(.string x), (.int .i64 0)]) (by kernel_rfl) (qt_move rfl rfl) ?_)
  refine A.cons (A.q (some 10) (.string x) (by kernel_rfl) (qt_pure (by kernel_rfl) fun _ => by kernel_rfl) ?_)
  refine A.cons (A.q (some 11) (.int .i64 0) (by kernel_rfl) (qt_pure (by kernel_rfl) fun _ => by kernel_rfl) ?_)
  refine A.cons (A.q (some 4) (.string x) (by kernel_rfl) (qt_assign rfl rfl) ?_)
  refine A.cons (A.q (some 5) (.int .i64 0) (by kernel_rfl) (qt_assign rfl rfl) ?_)
  refine A.done ?_
  refine A.norm [(0, (.pointer (some ⟨b, 0, none⟩))), (2, (.string (⟨#[]⟩))), (3, (.int .i64 0)), (4, (.string x)), (5, (.int .i64 0))] [blk b [(.slice (some ⟨s, 0, none⟩) room room), (.int .i64 (first : Int)), (.int .i64 ((m + 1 : Nat) : Int))] 96, blk s (V.flat encS slots) 9] (by exact ⟨rfl, rfl, rfl, rfl, rfl, trivial⟩) rfl ?_
  refine A.tn ?_
  refine A.seq ?_
  refine A.seq ?_
  refine A.region ?_
  refine A.cons (A.q (some 12) (.int .i64 0) (by kernel_rfl) (qt_move rfl rfl) ?_)
  refine A.cons (A.q (some 13) (.bool false) (by kernel_rfl) (qt_pure (by kernel_rfl) fun _ => by kernel_rfl) ?_)
  refine A.done ?_
  refine A.norm [(0, (.pointer (some ⟨b, 0, none⟩))), (2, (.string (⟨#[]⟩))), (3, (.int .i64 0)), (4, (.string x)), (5, (.int .i64 0)), (13, (.bool false))] [blk b [(.slice (some ⟨s, 0, none⟩) room room), (.int .i64 (first : Int)), (.int .i64 ((m + 1 : Nat) : Int))] 96, blk s (V.flat encS slots) 9] (by exact ⟨rfl, rfl, rfl, rfl, rfl, rfl, trivial⟩) rfl ?_
  refine A.tn ?_
  refine A.cond_f rfl ?_
  refine A.skip ?_
  refine A.tn ?_
  refine A.seq ?_
  refine A.region ?_
  refine A.cons (A.q (some 6) (.string (⟨#[]⟩)) (by kernel_rfl) (qt_assign rfl rfl) ?_)
  refine A.done ?_
  refine A.norm [(0, (.pointer (some ⟨b, 0, none⟩))), (2, (.string (⟨#[]⟩))), (3, (.int .i64 0)), (4, (.string x)), (5, (.int .i64 0)), (13, (.bool false)), (6, (.string (⟨#[]⟩)))] [blk b [(.slice (some ⟨s, 0, none⟩) room room), (.int .i64 (first : Int)), (.int .i64 ((m + 1 : Nat) : Int))] 96, blk s (V.flat encS slots) 9] (by exact ⟨rfl, rfl, rfl, rfl, rfl, rfl, rfl, trivial⟩) rfl ?_
  refine A.tn ?_
  refine A.seq ?_
  refine A.draw [blk b [(.slice (some ⟨s, 0, none⟩) room room), (.int .i64 (first : Int)), (.int .i64 ((m + 1 : Nat) : Int))] 96] (by kernel_rfl) ?_
  refine A.take 0 (some 16) (.pointer (some ⟨b, 0, none⟩)) rfl (by kernel_rfl) (by kernel_rfl) (List.Sublist.cons_cons _ (List.Sublist.cons _ (List.Sublist.slnil))) (qt_move rfl rfl) ?_
  refine A.take 1 (some 17) (.pointer (some ⟨b, 0, none⟩)) rfl (by kernel_rfl) (by kernel_rfl) (List.Sublist.cons_cons _ (List.Sublist.cons _ (List.Sublist.slnil))) (qt_pure (by kernel_rfl) fun _ => by kernel_rfl) ?_
  refine A.take 2 (some 18) (.pointer (some ⟨b, 0, none⟩)) rfl (by kernel_rfl) (by kernel_rfl) (List.Sublist.cons_cons _ (List.Sublist.cons _ (List.Sublist.slnil))) (qt_pure (by kernel_rfl) fun _ => by kernel_rfl) ?_
  refine A.take 3 (some 19) (.slice (some ⟨s, 0, none⟩) room room) rfl (by kernel_rfl) (by kernel_rfl) (List.Sublist.cons_cons _ (List.Sublist.cons _ (List.Sublist.slnil))) (qt_load1 rfl rfl (by kernel_rfl) (reads_blk (i := 0) rfl rfl)) ?_
  refine A.take 4 (some 20) (.pointer (some ⟨b, 0, none⟩)) rfl (by kernel_rfl) (by kernel_rfl) (List.Sublist.cons_cons _ (List.Sublist.cons _ (List.Sublist.slnil))) (qt_move rfl rfl) ?_
  refine A.take 5 (some 21) (.pointer (some ⟨b, 0, none⟩)) rfl (by kernel_rfl) (by kernel_rfl) (List.Sublist.cons_cons _ (List.Sublist.cons _ (List.Sublist.slnil))) (qt_pure (by kernel_rfl) fun _ => by kernel_rfl) ?_
  refine A.take 6 (some 22) (.pointer (some ⟨b, 1, none⟩)) rfl (by kernel_rfl) (by kernel_rfl) (List.Sublist.cons_cons _ (List.Sublist.cons _ (List.Sublist.slnil))) (qt_pure (by kernel_rfl) fun _ => by kernel_rfl) ?_
  refine A.take 7 (some 23) (.int .i64 (first : Int)) rfl (by kernel_rfl) (by kernel_rfl) (List.Sublist.cons_cons _ (List.Sublist.cons _ (List.Sublist.slnil))) (qt_load1 rfl rfl (by kernel_rfl) (reads_blk (i := 0) rfl rfl)) ?_
  refine A.take 8 (some 24) (.string (⟨#[]⟩)) rfl (by kernel_rfl) (by kernel_rfl) (List.Sublist.cons_cons _ (List.Sublist.cons _ (List.Sublist.slnil))) (qt_move rfl rfl) ?_
  refine A.take 9 (some 25) (.pointer (some ⟨s, first * 1, none⟩)) rfl (by kernel_rfl) (by kernel_rfl) (List.Sublist.cons_cons _ (List.Sublist.cons _ (List.Sublist.slnil))) (qt_index0 (el := 9) (m := first) rfl rfl rfl (by kernel_rfl) (by kernel_rfl) (by first | exact Nat.mod_lt _ (by omega) | omega)) ?_
  refine A.only 10 rfl (by kernel_rfl) (A.storeAt 1 first ⟨#[]⟩ [blk b [(.slice (some ⟨s, 0, none⟩) room room), (.int .i64 (first : Int)), (.int .i64 ((m + 1 : Nat) : Int))] 96, blk s (V.flat encS (slots.set first ⟨#[]⟩)) 9] (by kernel_rfl) rfl rfl rfl rfl (by kernel_rfl) rfl encS_len rfl (by rw [hln]; first | exact Nat.mod_lt _ (by omega) | omega) rfl ?_)
  refine A.and (List.Sublist.cons_cons _ (List.Sublist.cons _ (List.Sublist.slnil))) ?_
  refine A.fin (by kernel_rfl) ?_
  refine A.norm [(0, (.pointer (some ⟨b, 0, none⟩))), (2, (.string (⟨#[]⟩))), (3, (.int .i64 0)), (4, (.string x)), (5, (.int .i64 0)), (13, (.bool false)), (6, (.string (⟨#[]⟩)))] [blk b [(.slice (some ⟨s, 0, none⟩) room room), (.int .i64 (first : Int)), (.int .i64 ((m + 1 : Nat) : Int))] 96, blk s (V.flat encS (slots.set first ⟨#[]⟩)) 9] (by exact ⟨rfl, rfl, rfl, rfl, rfl, rfl, rfl, trivial⟩) rfl ?_
  refine A.tn ?_
  refine A.seq ?_
  refine A.region ?_
  refine A.cons (A.q (some 26) (.pointer (some ⟨b, 0, none⟩)) (by kernel_rfl) (qt_move rfl rfl) ?_)
  refine A.cons (A.q (some 27) (.pointer (some ⟨b, 0, none⟩)) (by kernel_rfl) (qt_move rfl rfl) ?_)
  refine A.cons (A.q (some 28) (.int .i64 (((first + 1) % room : Nat) : Int)) (by kernel_rfl) (qt_call [(.pointer (some ⟨b, 0, none⟩)), (.int .i64 1)] rfl (by kernel_rfl) rfl (fun w s0 => ringS_place_spec b s room first (m + 1) 1 w (s0.mem (i := 0) rfl) ⟨hlo, hhi, hft, hct⟩ (by omega))) ?_)
  refine A.cons (A.q (some 29) (.pointer (some ⟨b, 0, none⟩)) (by kernel_rfl) (qt_pure (by kernel_rfl) fun _ => by kernel_rfl) ?_)
  refine A.cons (A.q (some 30) (.pointer (some ⟨b, 1, none⟩)) (by kernel_rfl) (qt_pure (by kernel_rfl) fun _ => by kernel_rfl) ?_)
  refine A.cons (A.store 0 (vs := [(.int .i64 (((first + 1) % room : Nat) : Int))]) [blk b [(.slice (some ⟨s, 0, none⟩) room room), (.int .i64 (((first + 1) % room : Nat) : Int)), (.int .i64 ((m + 1 : Nat) : Int))] 96, blk s (V.flat encS (slots.set first ⟨#[]⟩)) 9] (by kernel_rfl) rfl rfl rfl rfl (by kernel_rfl) rfl rfl (by kernel_rfl) rfl ?_)
  refine A.done ?_
  refine A.norm [(0, (.pointer (some ⟨b, 0, none⟩))), (2, (.string (⟨#[]⟩))), (3, (.int .i64 0)), (4, (.string x)), (5, (.int .i64 0)), (13, (.bool false)), (6, (.string (⟨#[]⟩)))] [blk b [(.slice (some ⟨s, 0, none⟩) room room), (.int .i64 (((first + 1) % room : Nat) : Int)), (.int .i64 ((m + 1 : Nat) : Int))] 96, blk s (V.flat encS (slots.set first ⟨#[]⟩)) 9] (by exact ⟨rfl, rfl, rfl, rfl, rfl, rfl, rfl, trivial⟩) rfl ?_
  refine A.tn ?_
  refine A.seq ?_
  refine A.region ?_
  refine A.cons (A.q (some 31) (.pointer (some ⟨b, 0, none⟩)) (by kernel_rfl) (qt_move rfl rfl) ?_)
  refine A.cons (A.q (some 32) (.pointer (some ⟨b, 0, none⟩)) (by kernel_rfl) (qt_pure (by kernel_rfl) fun _ => by kernel_rfl) ?_)
  refine A.cons (A.q (some 33) (.pointer (some ⟨b, 2, none⟩)) (by kernel_rfl) (qt_pure (by kernel_rfl) fun _ => by kernel_rfl) ?_)
  refine A.cons (A.q (some 34) (.int .i64 ((m + 1 : Nat) : Int)) (by kernel_rfl) (qt_load1 rfl rfl (by kernel_rfl) (reads_blk (i := 0) rfl rfl)) ?_)
  refine A.cons (A.q (some 35) (.int .i64 (m : Int)) (by kernel_rfl) (qt_as (congrArg (Value.int .i64) ((wrap_i64 (e := ((m + 1 : Nat) : Int) - 1) (by constructor <;> omega)).trans (by first | rfl | omega : (((m + 1 : Nat) : Int) - 1 : Int) = (m : Int)))) (qt_pure (v := .int .i64 (IntKind.i64.wrap (((m + 1 : Nat) : Int) - 1))) (by kernel_rfl) fun _ => by kernel_rfl)) ?_)
  refine A.cons (A.q (some 36) (.pointer (some ⟨b, 0, none⟩)) (by kernel_rfl) (qt_pure (by kernel_rfl) fun _ => by kernel_rfl) ?_)
  refine A.cons (A.q (some 37) (.pointer (some ⟨b, 2, none⟩)) (by kernel_rfl) (qt_pure (by kernel_rfl) fun _ => by kernel_rfl) ?_)
  refine A.cons (A.store 0 (vs := [(.int .i64 (m : Int))]) [blk b [(.slice (some ⟨s, 0, none⟩) room room), (.int .i64 (((first + 1) % room : Nat) : Int)), (.int .i64 (m : Int))] 96, blk s (V.flat encS (slots.set first ⟨#[]⟩)) 9] (by kernel_rfl) rfl rfl rfl rfl (by kernel_rfl) rfl rfl (by kernel_rfl) rfl ?_)
  refine A.done ?_
  refine A.norm [(0, (.pointer (some ⟨b, 0, none⟩))), (2, (.string (⟨#[]⟩))), (3, (.int .i64 0)), (4, (.string x)), (5, (.int .i64 0)), (13, (.bool false)), (6, (.string (⟨#[]⟩)))] [blk b [(.slice (some ⟨s, 0, none⟩) room room), (.int .i64 (((first + 1) % room : Nat) : Int)), (.int .i64 (m : Int))] 96, blk s (V.flat encS (slots.set first ⟨#[]⟩)) 9] (by exact ⟨rfl, rfl, rfl, rfl, rfl, rfl, rfl, trivial⟩) rfl ?_
  refine A.tn ?_
  refine A.seq ?_
  refine A.region ?_
  refine A.cons (A.q (some 38) (.string x) (by kernel_rfl) (qt_move rfl rfl) ?_)
  refine A.cons (A.q (some 2) (.string x) (by kernel_rfl) (qt_assign rfl rfl) ?_)
  refine A.cons (A.q (some 3) (.int .i64 0) (by kernel_rfl) (qt_assign rfl rfl) ?_)
  refine A.done ?_
  refine A.norm [(0, (.pointer (some ⟨b, 0, none⟩))), (2, (.string x)), (3, (.int .i64 0)), (4, (.string x)), (5, (.int .i64 0)), (13, (.bool false)), (6, (.string (⟨#[]⟩)))] [blk b [(.slice (some ⟨s, 0, none⟩) room room), (.int .i64 (((first + 1) % room : Nat) : Int)), (.int .i64 (m : Int))] 96, blk s (V.flat encS (slots.set first ⟨#[]⟩)) 9] (by exact ⟨rfl, rfl, rfl, rfl, rfl, rfl, rfl, trivial⟩) rfl ?_
  refine A.tn ?_
  refine A.ret ?_
  refine A.post [(.string x), (.int .i64 0)] (fun a w r s => ⟨rv_tmp r rfl, rv_tmp r rfl, trivial⟩) (fun w1 s => ?_)
  exact ⟨rfl, ⟨s.mem (i := 0) rfl, s.mem (i := 1) rfl, by simp [hln], hlo, hhi, Nat.mod_lt _ (by omega), by omega, hne⟩, s.fr⟩

set_option maxRecDepth 100000 in
theorem ringS_pop_none (b s room first : Nat) (slots : List ByteArray) (w : World) (hw : RingW encS 96 9 b s room slots first 0 w) :
    Calls Try.prog 29 #[(.pointer (some ⟨b, 0, none⟩))] w fun e w' => e = .returned (.tuple #[(.string (⟨#[]⟩)), (.int .i64 6)]) ∧ Fr [] w w' := by
  have hlo := hw.lo; have hhi := hw.hi; have hft := hw.fst; have hct := hw.cnt; have hln := hw.len; have hne := hw.ne
  refine calls_of (args := [(.pointer (some ⟨b, 0, none⟩))]) (penv [(.pointer (some ⟨b, 0, none⟩))]) [] [] Try.func29 rfl rfl (look_penv _) (HS.nil w) ?_
  refine A.norm [(0, (.pointer (some ⟨b, 0, none⟩)))] [] (by exact ⟨rfl, trivial⟩) rfl ?_
  refine A.seq ?_
  refine A.region ?_
  refine A.cons (A.q (some 2) (.string (⟨#[]⟩)) (by kernel_rfl) (qt_assign rfl rfl) ?_)
  refine A.cons (A.q (some 3) (.int .i64 0) (by kernel_rfl) (qt_assign rfl rfl) ?_)
  refine A.done ?_
  refine A.norm [(0, (.pointer (some ⟨b, 0, none⟩))), (2, (.string (⟨#[]⟩))), (3, (.int .i64 0))] [] (by exact ⟨rfl, rfl, rfl, trivial⟩) rfl ?_
  refine A.tn ?_
  refine A.seq ?_
  refine A.region ?_
  refine A.cons (A.q (some 8) (.pointer (some ⟨b, 0, none⟩)) (by kernel_rfl) (qt_move rfl rfl) ?_)
  refine A.cons (A.q (some 9) (.tuple #[(.string (⟨#[]⟩)), (.int .i64 6)]) (by kernel_rfl) (qt_call [(.pointer (some ⟨b, 0, none⟩)), (.int .i64 0)] rfl (by kernel_rfl) rfl (fun w s0 => ringS_at_none b s room first 0 slots 0 w (hw_old s0 hw) (by omega))) ?_)
  refine A.cons (A.q (some 7) (.tuple #[(.string (⟨#[]⟩)), (.int .i64 6)]) (by kernel_rfl) (qt_move rfl rfl) ?_)
  refine A.cons (A.q (some 10) (.string (⟨#[]⟩)) (by kernel_rfl) (qt_pure (by kernel_rfl) fun _ => by kernel_rfl) ?_)
  refine A.cons (A.q (some 11) (.int .i64 6) (by kernel_rfl) (qt_pure (by kernel_rfl) fun _ => by kernel_rfl) ?_)
  refine A.cons (A.q (some 4) (.string (⟨#[]⟩)) (by kernel_rfl) (qt_assign rfl rfl) ?_)
  refine A.cons (A.q (some 5) (.int .i64 6) (by kernel_rfl) (qt_assign rfl rfl) ?_)
  refine A.done ?_
  refine A.norm [(0, (.pointer (some ⟨b, 0, none⟩))), (2, (.string (⟨#[]⟩))), (3, (.int .i64 0)), (4, (.string (⟨#[]⟩))), (5, (.int .i64 6))] [] (by exact ⟨rfl, rfl, rfl, rfl, rfl, trivial⟩) rfl ?_
  refine A.tn ?_
  refine A.seq ?_
  refine A.seq ?_
  refine A.region ?_
  refine A.cons (A.q (some 12) (.int .i64 6) (by kernel_rfl) (qt_move rfl rfl) ?_)
  refine A.cons (A.q (some 13) (.bool true) (by kernel_rfl) (qt_pure (by kernel_rfl) fun _ => by kernel_rfl) ?_)
  refine A.done ?_
  refine A.norm [(0, (.pointer (some ⟨b, 0, none⟩))), (2, (.string (⟨#[]⟩))), (3, (.int .i64 0)), (4, (.string (⟨#[]⟩))), (5, (.int .i64 6)), (13, (.bool true))] [] (by exact ⟨rfl, rfl, rfl, rfl, rfl, rfl, trivial⟩) rfl ?_
  refine A.tn ?_
  refine A.cond_t rfl ?_
  refine A.seq ?_
  refine A.region ?_
  refine A.cons (A.q (some 14) (.string (⟨#[]⟩)) (by kernel_rfl) (qt_move rfl rfl) ?_)
  refine A.cons (A.q (some 15) (.int .i64 6) (by kernel_rfl) (qt_move rfl rfl) ?_)
  refine A.cons (A.q (some 2) (.string (⟨#[]⟩)) (by kernel_rfl) (qt_assign rfl rfl) ?_)
  refine A.cons (A.q (some 3) (.int .i64 6) (by kernel_rfl) (qt_assign rfl rfl) ?_)
  refine A.done ?_
  refine A.norm [(0, (.pointer (some ⟨b, 0, none⟩))), (2, (.string (⟨#[]⟩))), (3, (.int .i64 6)), (4, (.string (⟨#[]⟩))), (5, (.int .i64 6)), (13, (.bool true))] [] (by exact ⟨rfl, rfl, rfl, rfl, rfl, rfl, trivial⟩) rfl ?_
  refine A.tn ?_
  refine A.ret ?_
  refine A.tr ?_
  refine A.post [(.string (⟨#[]⟩)), (.int .i64 6)] (fun a w r s => ⟨rv_tmp r rfl, rv_tmp r rfl, trivial⟩) (fun w1 s => ?_)
  exact ⟨rfl, s.fr⟩

set_option maxRecDepth 100000 in
theorem ringS_at_nil (i : Int) (w : World) :
    Calls Try.prog 55 #[(.pointer none), (.int .i64 i)] w fun e w' => e = .returned (.tuple #[(.string (⟨#[]⟩)), (.int .i64 7)]) ∧ Fr [] w w' := by
  refine calls_of (args := [(.pointer none), (.int .i64 i)]) (penv [(.pointer none), (.int .i64 i)]) [] [] Try.func55 rfl rfl (look_penv _) (HS.nil w) ?_
  refine A.norm [(0, (.pointer none)), (1, (.int .i64 i))] [] (by exact ⟨rfl, rfl, trivial⟩) rfl ?_
  refine A.seq ?_
  refine A.region ?_
  refine A.cons (A.q (some 4) (.string (⟨#[]⟩)) (by kernel_rfl) (qt_assign rfl rfl) ?_)
  refine A.cons (A.q (some 5) (.int .i64 0) (by kernel_rfl) (qt_assign rfl rfl) ?_)
  refine A.done ?_
  refine A.norm [(0, (.pointer none)), (1, (.int .i64 i)), (4, (.string (⟨#[]⟩))), (5, (.int .i64 0))] [] (by exact ⟨rfl, rfl, rfl, rfl, trivial⟩) rfl ?_
  refine A.tn ?_
  refine A.seq ?_
  refine A.region ?_
  refine A.cons (A.q (some 6) (.string (⟨#[]⟩)) (by kernel_rfl) (qt_assign rfl rfl) ?_)
  refine A.done ?_
  refine A.norm [(0, (.pointer none)), (1, (.int .i64 i)), (4, (.string (⟨#[]⟩))), (5, (.int .i64 0)), (6, (.string (⟨#[]⟩)))] [] (by exact ⟨rfl, rfl, rfl, rfl, rfl, trivial⟩) rfl ?_
  refine A.tn ?_
  refine A.seq ?_
  refine A.block ?_
  refine A.seq ?_
  refine A.region ?_
  refine A.cons (A.q (some 8) (.pointer none) (by kernel_rfl) (qt_move rfl rfl) ?_)
  refine A.cons (A.q (some 9) (.bool true) (by kernel_rfl) (qt_pure (by kernel_rfl) fun _ => by kernel_rfl) ?_)
  refine A.cons (A.q (some 7) (.bool true) (by kernel_rfl) (qt_assign rfl rfl) ?_)
  refine A.done ?_
  refine A.norm [(0, (.pointer none)), (1, (.int .i64 i)), (4, (.string (⟨#[]⟩))), (5, (.int .i64 0)), (6, (.string (⟨#[]⟩))), (7, (.bool true))] [] (by exact ⟨rfl, rfl, rfl, rfl, rfl, rfl, trivial⟩) rfl ?_
  refine A.tn ?_
  refine A.cond_t rfl ?_
  refine A.seq ?_
  refine A.region ?_
  refine A.cons (A.q (some 10) (.string (⟨#[]⟩)) (by kernel_rfl) (qt_move rfl rfl) ?_)
  refine A.cons (A.q (some 4) (.string (⟨#[]⟩)) (by kernel_rfl) (qt_assign rfl rfl) ?_)
  refine A.cons (A.q (some 5) (.int .i64 7) (by kernel_rfl) (qt_assign rfl rfl) ?_)
  refine A.done ?_
  refine A.norm [(0, (.pointer none)), (1, (.int .i64 i)), (4, (.string (⟨#[]⟩))), (5, (.int .i64 7)), (6, (.string (⟨#[]⟩))), (7, (.bool true))] [] (by exact ⟨rfl, rfl, rfl, rfl, rfl, rfl, trivial⟩) rfl ?_
  refine A.tn ?_
  refine A.ret ?_
  refine A.br ?_
  refine A.tr ?_
  refine A.post [(.string (⟨#[]⟩)), (.int .i64 7)] (fun a w r s => ⟨rv_tmp r rfl, rv_tmp r rfl, trivial⟩) (fun w1 s => ?_)
  exact ⟨rfl, s.fr⟩

set_option maxRecDepth 100000 in
theorem ringS_pop_nil (w : World) :
    Calls Try.prog 29 #[(.pointer none)] w fun e w' => e = .returned (.tuple #[(.string (⟨#[]⟩)), (.int .i64 7)]) ∧ Fr [] w w' := by
  refine calls_of (args := [(.pointer none)]) (penv [(.pointer none)]) [] [] Try.func29 rfl rfl (look_penv _) (HS.nil w) ?_
  refine A.norm [(0, (.pointer none))] [] (by exact ⟨rfl, trivial⟩) rfl ?_
  refine A.seq ?_
  refine A.region ?_
  refine A.cons (A.q (some 2) (.string (⟨#[]⟩)) (by kernel_rfl) (qt_assign rfl rfl) ?_)
  refine A.cons (A.q (some 3) (.int .i64 0) (by kernel_rfl) (qt_assign rfl rfl) ?_)
  refine A.done ?_
  refine A.norm [(0, (.pointer none)), (2, (.string (⟨#[]⟩))), (3, (.int .i64 0))] [] (by exact ⟨rfl, rfl, rfl, trivial⟩) rfl ?_
  refine A.tn ?_
  refine A.seq ?_
  refine A.region ?_
  refine A.cons (A.q (some 8) (.pointer none) (by kernel_rfl) (qt_move rfl rfl) ?_)
  refine A.cons (A.q (some 9) (.tuple #[(.string (⟨#[]⟩)), (.int .i64 7)]) (by kernel_rfl) (qt_call [(.pointer none), (.int .i64 0)] rfl (by kernel_rfl) rfl (fun w s0 => ringS_at_nil 0 w)) ?_)
  refine A.cons (A.q (some 7) (.tuple #[(.string (⟨#[]⟩)), (.int .i64 7)]) (by kernel_rfl) (qt_move rfl rfl) ?_)
  refine A.cons (A.q (some 10) (.string (⟨#[]⟩)) (by kernel_rfl) (qt_pure (by kernel_rfl) fun _ => by kernel_rfl) ?_)
  refine A.cons (A.q (some 11) (.int .i64 7) (by kernel_rfl) (qt_pure (by kernel_rfl) fun _ => by kernel_rfl) ?_)
  refine A.cons (A.q (some 4) (.string (⟨#[]⟩)) (by kernel_rfl) (qt_assign rfl rfl) ?_)
  refine A.cons (A.q (some 5) (.int .i64 7) (by kernel_rfl) (qt_assign rfl rfl) ?_)
  refine A.done ?_
  refine A.norm [(0, (.pointer none)), (2, (.string (⟨#[]⟩))), (3, (.int .i64 0)), (4, (.string (⟨#[]⟩))), (5, (.int .i64 7))] [] (by exact ⟨rfl, rfl, rfl, rfl, rfl, trivial⟩) rfl ?_
  refine A.tn ?_
  refine A.seq ?_
  refine A.seq ?_
  refine A.region ?_
  refine A.cons (A.q (some 12) (.int .i64 7) (by kernel_rfl) (qt_move rfl rfl) ?_)
  refine A.cons (A.q (some 13) (.bool true) (by kernel_rfl) (qt_pure (by kernel_rfl) fun _ => by kernel_rfl) ?_)
  refine A.done ?_
  refine A.norm [(0, (.pointer none)), (2, (.string (⟨#[]⟩))), (3, (.int .i64 0)), (4, (.string (⟨#[]⟩))), (5, (.int .i64 7)), (13, (.bool true))] [] (by exact ⟨rfl, rfl, rfl, rfl, rfl, rfl, trivial⟩) rfl ?_
  refine A.tn ?_
  refine A.cond_t rfl ?_
  refine A.seq ?_
  refine A.region ?_
  refine A.cons (A.q (some 14) (.string (⟨#[]⟩)) (by kernel_rfl) (qt_move rfl rfl) ?_)
  refine A.cons (A.q (some 15) (.int .i64 7) (by kernel_rfl) (qt_move rfl rfl) ?_)
  refine A.cons (A.q (some 2) (.string (⟨#[]⟩)) (by kernel_rfl) (qt_assign rfl rfl) ?_)
  refine A.cons (A.q (some 3) (.int .i64 7) (by kernel_rfl) (qt_assign rfl rfl) ?_)
  refine A.done ?_
  refine A.norm [(0, (.pointer none)), (2, (.string (⟨#[]⟩))), (3, (.int .i64 7)), (4, (.string (⟨#[]⟩))), (5, (.int .i64 7)), (13, (.bool true))] [] (by exact ⟨rfl, rfl, rfl, rfl, rfl, rfl, trivial⟩) rfl ?_
  refine A.tn ?_
  refine A.ret ?_
  refine A.tr ?_
  refine A.post [(.string (⟨#[]⟩)), (.int .i64 7)] (fun a w r s => ⟨rv_tmp r rfl, rv_tmp r rfl, trivial⟩) (fun w1 s => ?_)
  exact ⟨rfl, s.fr⟩

set_option maxRecDepth 100000 in
theorem ringS_len_nil (w : World) :
    Calls Try.prog 31 #[(.pointer none)] w fun e w' => e = .returned (.int .i64 0) ∧ Fr [] w w' := by
  refine calls_of (args := [(.pointer none)]) (penv [(.pointer none)]) [] [] Try.func31 rfl rfl (look_penv _) (HS.nil w) ?_
  refine A.norm [(0, (.pointer none))] [] (by exact ⟨rfl, trivial⟩) rfl ?_
  refine A.seq ?_
  refine A.region ?_
  refine A.cons (A.q (some 2) (.int .i64 0) (by kernel_rfl) (qt_assign rfl rfl) ?_)
  refine A.done ?_
  refine A.norm [(0, (.pointer none)), (2, (.int .i64 0))] [] (by exact ⟨rfl, rfl, trivial⟩) rfl ?_
  refine A.tn ?_
  refine A.seq ?_
  refine A.seq ?_
  refine A.region ?_
  refine A.cons (A.q (some 3) (.pointer none) (by kernel_rfl) (qt_move rfl rfl) ?_)
  refine A.cons (A.q (some 4) (.bool true) (by kernel_rfl) (qt_pure (by kernel_rfl) fun _ => by kernel_rfl) ?_)
  refine A.done ?_
  refine A.norm [(0, (.pointer none)), (2, (.int .i64 0)), (4, (.bool true))] [] (by exact ⟨rfl, rfl, rfl, trivial⟩) rfl ?_
  refine A.tn ?_
  refine A.cond_t rfl ?_
  refine A.seq ?_
  refine A.region ?_
  refine A.cons (A.q (some 2) (.int .i64 0) (by kernel_rfl) (qt_assign rfl rfl) ?_)
  refine A.done ?_
  refine A.norm [(0, (.pointer none)), (2, (.int .i64 0)), (4, (.bool true))] [] (by exact ⟨rfl, rfl, rfl, trivial⟩) rfl ?_
  refine A.tn ?_
  refine A.ret ?_
  refine A.tr ?_
  refine A.post [(.int .i64 0)] (fun a w r s => ⟨rv_tmp r rfl, trivial⟩) (fun w1 s => ?_)
  exact ⟨rfl, s.fr⟩

set_option maxRecDepth 100000 in
theorem ringS_room_nil (w : World) :
    Calls Try.prog 28 #[(.pointer none)] w fun e w' => e = .returned (.int .i64 0) ∧ Fr [] w w' := by
  refine calls_of (args := [(.pointer none)]) (penv [(.pointer none)]) [] [] Try.func28 rfl rfl (look_penv _) (HS.nil w) ?_
  refine A.norm [(0, (.pointer none))] [] (by exact ⟨rfl, trivial⟩) rfl ?_
  refine A.seq ?_
  refine A.region ?_
  refine A.cons (A.q (some 2) (.int .i64 0) (by kernel_rfl) (qt_assign rfl rfl) ?_)
  refine A.done ?_
  refine A.norm [(0, (.pointer none)), (2, (.int .i64 0))] [] (by exact ⟨rfl, rfl, trivial⟩) rfl ?_
  refine A.tn ?_
  refine A.seq ?_
  refine A.seq ?_
  refine A.region ?_
  refine A.cons (A.q (some 3) (.pointer none) (by kernel_rfl) (qt_move rfl rfl) ?_)
  refine A.cons (A.q (some 4) (.bool true) (by kernel_rfl) (qt_pure (by kernel_rfl) fun _ => by kernel_rfl) ?_)
  refine A.done ?_
  refine A.norm [(0, (.pointer none)), (2, (.int .i64 0)), (4, (.bool true))] [] (by exact ⟨rfl, rfl, rfl, trivial⟩) rfl ?_
  refine A.tn ?_
  refine A.cond_t rfl ?_
  refine A.seq ?_
  refine A.region ?_
  refine A.cons (A.q (some 2) (.int .i64 0) (by kernel_rfl) (qt_assign rfl rfl) ?_)
  refine A.done ?_
  refine A.norm [(0, (.pointer none)), (2, (.int .i64 0)), (4, (.bool true))] [] (by exact ⟨rfl, rfl, rfl, trivial⟩) rfl ?_
  refine A.tn ?_
  refine A.ret ?_
  refine A.tr ?_
  refine A.post [(.int .i64 0)] (fun a w r s => ⟨rv_tmp r rfl, trivial⟩) (fun w1 s => ?_)
  exact ⟨rfl, s.fr⟩

set_option maxRecDepth 100000 in
theorem ringS_push_nil (x : ByteArray) (w : World) :
    Calls Try.prog 30 #[(.pointer none), (.string x)] w fun e w' => e = .returned (.int .i64 7) ∧ Fr [] w w' := by
  refine calls_of (args := [(.pointer none), (.string x)]) (penv [(.pointer none), (.string x)]) [] [] Try.func30 rfl rfl (look_penv _) (HS.nil w) ?_
  refine A.norm [(0, (.pointer none)), (1, (.string x))] [] (by exact ⟨rfl, rfl, trivial⟩) rfl ?_
  refine A.seq ?_
  refine A.region ?_
  refine A.cons (A.q (some 4) (.int .i64 0) (by kernel_rfl) (qt_assign rfl rfl) ?_)
  refine A.done ?_
  refine A.norm [(0, (.pointer none)), (1, (.string x)), (4, (.int .i64 0))] [] (by exact ⟨rfl, rfl, rfl, trivial⟩) rfl ?_
  refine A.tn ?_
  refine A.seq ?_
  refine A.block ?_
  refine A.seq ?_
  refine A.region ?_
  refine A.cons (A.q (some 6) (.pointer none) (by kernel_rfl) (qt_move rfl rfl) ?_)
  refine A.cons (A.q (some 7) (.bool true) (by kernel_rfl) (qt_pure (by kernel_rfl) fun _ => by kernel_rfl) ?_)
  refine A.cons (A.q (some 5) (.bool true) (by kernel_rfl) (qt_assign rfl rfl) ?_)
  refine A.done ?_
  refine A.norm [(0, (.pointer none)), (1, (.string x)), (4, (.int .i64 0)), (5, (.bool true))] [] (by exact ⟨rfl, rfl, rfl, rfl, trivial⟩) rfl ?_
  refine A.tn ?_
  refine A.cond_t rfl ?_
  refine A.seq ?_
  refine A.region ?_
  refine A.cons (A.q (some 4) (.int .i64 7) (by kernel_rfl) (qt_assign rfl rfl) ?_)
  refine A.done ?_
  refine A.norm [(0, (.pointer none)), (1, (.string x)), (4, (.int .i64 7)), (5, (.bool true))] [] (by exact ⟨rfl, rfl, rfl, rfl, trivial⟩) rfl ?_
  refine A.tn ?_
  refine A.ret ?_
  refine A.br ?_
  refine A.tr ?_
  refine A.post [(.int .i64 7)] (fun a w r s => ⟨rv_tmp r rfl, trivial⟩) (fun w1 s => ?_)
  exact ⟨rfl, s.fr⟩

theorem ringS_push (b s room : Nat) (q : List ByteArray) (x : ByteArray) (w : World) (h : RingH encS 96 9 b s room q w) (hn : q.length < room) :
    Calls Try.prog 30 #[(.pointer (some ⟨b, 0, none⟩)), (.string x)] w fun e w' => e = .returned (.int .i64 0) ∧ RingH encS 96 9 b s room (q ++ [x]) w' ∧ Fr [b, s] w w' := by
  obtain ⟨slots, first, r, v⟩ := h
  refine (ringS_push_w b s room first q.length slots x w r hn).mono fun e w' ⟨he, hr, hf⟩ => ⟨he, ⟨_, first, by simpa using hr, ring_push_view r.len r.fst hn v⟩, hf⟩
theorem ringS_pushFull (b s room : Nat) (q : List ByteArray) (x : ByteArray) (w : World) (h : RingH encS 96 9 b s room q w) (hn : q.length = room) :
    Calls Try.prog 30 #[(.pointer (some ⟨b, 0, none⟩)), (.string x)] w fun e w' => e = .returned (.int .i64 5) ∧ Fr [] w w' := by
  obtain ⟨slots, first, r, v⟩ := h
  exact ringS_push_full b s room first q.length slots x w r hn
theorem ringS_pop (b s room : Nat) (q : List ByteArray) (x : ByteArray) (w : World) (h : RingH encS 96 9 b s room (x :: q) w) :
    Calls Try.prog 29 #[(.pointer (some ⟨b, 0, none⟩))] w fun e w' => e = .returned (.tuple #[(.string x), (.int .i64 0)]) ∧ RingH encS 96 9 b s room q w' ∧ Fr [b, s] w w' := by
  obtain ⟨slots, first, r, v⟩ := h
  refine (ringS_pop_w b s room first q.length slots x w (by simpa using r) (v 0 x rfl)).mono fun e w' ⟨he, hr, hf⟩ => ⟨he, ⟨_, _, hr, ring_pop_view r.fst (by have := r.cnt; simpa using this) v⟩, hf⟩
theorem ringS_popNone (b s room : Nat) (w : World) (h : RingH encS 96 9 b s room ([] : List ByteArray) w) :
    Calls Try.prog 29 #[(.pointer (some ⟨b, 0, none⟩))] w fun e w' => e = .returned (.tuple #[(.string (⟨#[]⟩)), (.int .i64 6)]) ∧ Fr [] w w' := by
  obtain ⟨slots, first, r, v⟩ := h
  exact ringS_pop_none b s room first slots w r
theorem ringS_at (b s room k : Nat) (q : List ByteArray) (x : ByteArray) (w : World) (h : RingH encS 96 9 b s room q w) (hx : q[k]? = some x) :
    Calls Try.prog 55 #[(.pointer (some ⟨b, 0, none⟩)), .int .i64 (k : Int)] w fun e w' => e = .returned (.tuple #[(.string x), (.int .i64 0)]) ∧ Fr [] w w' := by
  obtain ⟨slots, first, r, v⟩ := h
  exact ringS_at_ok b s room first q.length slots k x w r (List.getElem?_eq_some_iff.1 hx).1 (v k x hx)
theorem ringS_atNone (b s room : Nat) (i : Int) (q : List ByteArray) (w : World) (h : RingH encS 96 9 b s room q w) (hi : ¬ (0 ≤ i ∧ i < (q.length : Int))) :
    Calls Try.prog 55 #[(.pointer (some ⟨b, 0, none⟩)), .int .i64 i] w fun e w' => e = .returned (.tuple #[(.string (⟨#[]⟩)), (.int .i64 6)]) ∧ Fr [] w w' := by
  obtain ⟨slots, first, r, v⟩ := h
  exact ringS_at_none b s room first q.length slots i w r hi
theorem ringS_len (b s room : Nat) (q : List ByteArray) (w : World) (h : RingH encS 96 9 b s room q w) :
    Calls Try.prog 31 #[(.pointer (some ⟨b, 0, none⟩))] w fun e w' => e = .returned (.int .i64 (q.length : Int)) ∧ Fr [] w w' := by
  obtain ⟨slots, first, r, v⟩ := h
  exact ringS_len_w b s room first q.length w r.hb
theorem ringS_room (b s room : Nat) (q : List ByteArray) (w : World) (h : RingH encS 96 9 b s room q w) :
    Calls Try.prog 28 #[(.pointer (some ⟨b, 0, none⟩))] w fun e w' => e = .returned (.int .i64 ((room : Int) - (q.length : Int))) ∧ Fr [] w w' := by
  obtain ⟨slots, first, r, v⟩ := h
  exact ringS_room_w b s room first q.length w r.hb ⟨r.lo, r.hi, r.fst, r.cnt⟩

set_option maxRecDepth 100000 in
theorem ringTexts_bad (room : Int) (A0 : Option Addr) (c0 : Nat) (xs : List ByteArray) (w : World) (hr : room < 1 ∨ 64 < room) :
    Calls Try.prog 6 #[(.int .i64 room), (.slice A0 ((xs).length) c0)] w fun e w' => e = .returned (.bool true) ∧ Fr [] w w' := by
  refine calls_of (args := [(.int .i64 room), (.slice A0 ((xs).length) c0)]) (penv [(.int .i64 room), (.slice A0 ((xs).length) c0)]) [] [] Try.func6 rfl rfl (look_penv _) (HS.nil w) ?_
  refine A.norm [(0, (.int .i64 room)), (1, (.slice A0 ((xs).length) c0))] [] (by exact ⟨rfl, rfl, trivial⟩) rfl ?_
  refine A.seq ?_
  refine A.region ?_
  refine A.cons (A.q (some 4) (.bool false) (by kernel_rfl) (qt_assign rfl rfl) ?_)
  refine A.done ?_
  refine A.norm [(0, (.int .i64 room)), (1, (.slice A0 ((xs).length) c0)), (4, (.bool false))] [] (by exact ⟨rfl, rfl, rfl, trivial⟩) rfl ?_
  refine A.tn ?_
  refine A.seq ?_
  refine A.seq ?_
  refine A.cutR (fun _ : Unit => [(0, (.int .i64 room)), (1, (.slice A0 ((xs).length) c0)), (4, (.bool false)), (24, (.bool ((decide (((xs).length : Int) > 200)) || ((decide (room < 1)) || (decide (room > 64))))))]) (fun _ => []) (fun _ => True) ?_ (fun _ _ => ?_)
  · skip
    refine A.region ?_
    refine A.cons (A.q (some 14) (.slice A0 ((xs).length) c0) (by kernel_rfl) (qt_move rfl rfl) ?_)
    refine A.cons (A.q (some 15) (.int .i64 ((xs).length : Int)) (by kernel_rfl) (qt_pure (by kernel_rfl) fun _ => by kernel_rfl) ?_)
    refine A.cons (A.q (some 16) (.bool (decide (((xs).length : Int) > 200))) (by kernel_rfl) (qt_pure (by kernel_rfl) fun _ => by kernel_rfl) ?_)
    refine A.cons (A.q (some 17) (.bool (decide (((xs).length : Int) > 200))) (by kernel_rfl) (qt_move rfl rfl) ?_)
    refine A.bool (decide (((xs).length : Int) > 200)) (fun e1 => ?_) (fun e1 => ?_)
    · skip
      refine A.sub [(0, (.int .i64 room)), (1, (.slice A0 ((xs).length) c0)), (4, (.bool false)), (14, (.slice A0 ((xs).length) c0)), (15, (.int .i64 ((xs).length : Int))), (16, (.bool true)), (17, (.bool true))] (by exact ⟨rfl, rfl, rfl, rfl, rfl, (congrArg (fun z => some (Value.bool z)) e1), (congrArg (fun z => some (Value.bool z)) e1), trivial⟩) ?_
      refine A.cons (A.jump (some 18) rfl rfl (by intro x hx; cases hx; rfl) ?_)
      refine A.cons (A.jump (some 19) rfl rfl (by intro x hx; cases hx; rfl) ?_)
      refine A.cons (A.q (some 20) (.bool true) (by kernel_rfl) (qt_pure (by kernel_rfl) fun _ => by kernel_rfl) ?_)
      refine A.cons (A.q (some 21) (.bool true) (by kernel_rfl) (qt_move rfl rfl) ?_)
      refine A.cons (A.jump (some 22) rfl rfl (by intro x hx; cases hx; rfl) ?_)
      refine A.cons (A.jump (some 23) rfl rfl (by intro x hx; cases hx; rfl) ?_)
      refine A.cons (A.q (some 24) (.bool true) (by kernel_rfl) (qt_pure (by kernel_rfl) fun _ => by kernel_rfl) ?_)
      refine A.done ?_
      exact A.meet () trivial (A.here (by exact ⟨rfl, rfl, rfl, (by rw [e1]; rfl), trivial⟩) (List.Sublist.refl _))
    · skip
      refine A.sub [(0, (.int .i64 room)), (1, (.slice A0 ((xs).length) c0)), (4, (.bool false)), (14, (.slice A0 ((xs).length) c0)), (15, (.int .i64 ((xs).length : Int))), (16, (.bool false)), (17, (.bool false))] (by exact ⟨rfl, rfl, rfl, rfl, rfl, (congrArg (fun z => some (Value.bool z)) e1), (congrArg (fun z => some (Value.bool z)) e1), trivial⟩) ?_
      refine A.cons (A.q (some 18) (.int .i64 room) (by kernel_rfl) (qt_move rfl rfl) ?_)
      refine A.cons (A.q (some 19) (.bool (decide (room < 1))) (by kernel_rfl) (qt_pure (by kernel_rfl) fun _ => by kernel_rfl) ?_)
      refine A.cons (A.q (some 20) (.bool (decide (room < 1))) (by kernel_rfl) (qt_pure (by kernel_rfl) fun _ => by kernel_rfl) ?_)
      refine A.cons (A.q (some 21) (.bool (decide (room < 1))) (by kernel_rfl) (qt_move rfl rfl) ?_)
      refine A.bool (decide (room < 1)) (fun e2 => ?_) (fun e2 => ?_)
      · skip
        refine A.sub [(0, (.int .i64 room)), (1, (.slice A0 ((xs).length) c0)), (4, (.bool false)), (14, (.slice A0 ((xs).length) c0)), (15, (.int .i64 ((xs).length : Int))), (16, (.bool false)), (17, (.bool false)), (18, (.int .i64 room)), (19, (.bool true)), (20, (.bool true)), (21, (.bool true))] (by exact ⟨rfl, rfl, rfl, rfl, rfl, rfl, rfl, rfl, (congrArg (fun z => some (Value.bool z)) e2), (congrArg (fun z => some (Value.bool z)) e2), (congrArg (fun z => some (Value.bool z)) e2), trivial⟩) ?_
        refine A.cons (A.jump (some 22) rfl rfl (by intro x hx; cases hx; rfl) ?_)
        refine A.cons (A.jump (some 23) rfl rfl (by intro x hx; cases hx; rfl) ?_)
        refine A.cons (A.q (some 24) (.bool true) (by kernel_rfl) (qt_pure (by kernel_rfl) fun _ => by kernel_rfl) ?_)
        refine A.done ?_
        exact A.meet () trivial (A.here (by exact ⟨rfl, rfl, rfl, (by rw [e1, e2]; rfl), trivial⟩) (List.Sublist.refl _))
      · skip
        refine A.sub [(0, (.int .i64 room)), (1, (.slice A0 ((xs).length) c0)), (4, (.bool false)), (14, (.slice A0 ((xs).length) c0)), (15, (.int .i64 ((xs).length : Int))), (16, (.bool false)), (17, (.bool false)), (18, (.int .i64 room)), (19, (.bool false)), (20, (.bool false)), (21, (.bool false))] (by exact ⟨rfl, rfl, rfl, rfl, rfl, rfl, rfl, rfl, (congrArg (fun z => some (Value.bool z)) e2), (congrArg (fun z => some (Value.bool z)) e2), (congrArg (fun z => some (Value.bool z)) e2), trivial⟩) ?_
        refine A.cons (A.q (some 22) (.int .i64 room) (by kernel_rfl) (qt_move rfl rfl) ?_)
        refine A.cons (A.q (some 23) (.bool (decide (room > 64))) (by kernel_rfl) (qt_pure (by kernel_rfl) fun _ => by kernel_rfl) ?_)
        refine A.cons (A.q (some 24) (.bool (decide (room > 64))) (by kernel_rfl) (qt_pure (by kernel_rfl) fun _ => by kernel_rfl) ?_)
        refine A.done ?_
        exact A.meet () trivial (A.here (by exact ⟨rfl, rfl, rfl, (by rw [e1, e2]; rfl), trivial⟩) (List.Sublist.refl _))
  · skip
    refine A.tn ?_
    refine A.cond (E := (decide (((xs).length : Int) > 200)) || ((decide (room < 1)) || (decide (room > 64)))) rfl (fun e3 => ?_) (fun e3 => ?_)
    · skip
      have p3 := e3; try simp only [decide_eq_true_eq, decide_eq_false_iff_not, beq_iff_eq, beq_eq_false_iff_ne, bne_iff_ne, bne_eq_false_iff_eq, ne_eq, Bool.and_eq_true, Bool.or_eq_true, Bool.or_eq_false_iff, Bool.not_eq_true', Bool.not_eq_false', Int.not_lt, Int.not_le, gt_iff_lt, ge_iff_le, Classical.not_not] at p3
      refine A.seq ?_
      refine A.region ?_
      refine A.cons (A.q (some 25) (.bool true) (by kernel_rfl) (qt_call [] rfl (by kernel_rfl) rfl (fun w _ => pair_spec  w)) ?_)
      refine A.cons (A.q (some 4) (.bool true) (by kernel_rfl) (qt_assign rfl rfl) ?_)
      refine A.done ?_
      refine A.norm [(0, (.int .i64 room)), (1, (.slice A0 ((xs).length) c0)), (4, (.bool true)), (24, (.bool ((decide (((xs).length : Int) > 200)) || ((decide (room < 1)) || (decide (room > 64))))))] [] (by exact ⟨rfl, rfl, rfl, rfl, trivial⟩) rfl ?_
      refine A.tn ?_
      refine A.ret ?_
      refine A.tr ?_
      refine A.post [(.bool true)] (fun a w r s => ⟨rv_tmp r rfl, trivial⟩) (fun w1 s => ?_)
      exact ⟨rfl, s.fr⟩
    · exact absurd e3 (by first | (simp; done) | (simp; omega) | omega | grind)

set_option maxRecDepth 100000 in
theorem ringTexts_ok (r : Nat) (A0 : Option Addr) (c0 : Nat) (xs : List ByteArray) (w : World) (h1 : 1 ≤ r) (h2 : r ≤ 64) (hl : arrAt w A0 (V.flat encS xs)) :
    Calls Try.prog 6 #[(.int .i64 (r : Int)), (.slice A0 ((xs).length) c0)] w fun e w' => e = .returned (.bool true) ∧ Fr [] w w' := by
  refine calls_of (args := [(.int .i64 (r : Int)), (.slice A0 ((xs).length) c0)]) (penv [(.int .i64 (r : Int)), (.slice A0 ((xs).length) c0)]) [] [] Try.func6 rfl rfl (look_penv _) (HS.nil w) ?_
  refine A.norm [(0, (.int .i64 (r : Int))), (1, (.slice A0 ((xs).length) c0))] [] (by exact ⟨rfl, rfl, trivial⟩) rfl ?_
  refine A.seq ?_
  refine A.region ?_
  refine A.cons (A.q (some 4) (.bool false) (by kernel_rfl) (qt_assign rfl rfl) ?_)
  refine A.done ?_
  refine A.norm [(0, (.int .i64 (r : Int))), (1, (.slice A0 ((xs).length) c0)), (4, (.bool false))] [] (by exact ⟨rfl, rfl, rfl, trivial⟩) rfl ?_
  refine A.tn ?_
  refine A.seq ?_
  refine A.seq ?_
  refine A.cutR (fun _ : Unit => [(0, (.int .i64 (r : Int))), (1, (.slice A0 ((xs).length) c0)), (4, (.bool false)), (24, (.bool ((decide (((xs).length : Int) > 200)) || ((decide ((r : Int) < 1)) || (decide ((r : Int) > 64))))))]) (fun _ => []) (fun _ => True) ?_ (fun _ _ => ?_)
  · skip
    refine A.region ?_
    refine A.cons (A.q (some 14) (.slice A0 ((xs).length) c0) (by kernel_rfl) (qt_move rfl rfl) ?_)
    refine A.cons (A.q (some 15) (.int .i64 ((xs).length : Int)) (by kernel_rfl) (qt_pure (by kernel_rfl) fun _ => by kernel_rfl) ?_)
    refine A.cons (A.q (some 16) (.bool (decide (((xs).length : Int) > 200))) (by kernel_rfl) (qt_pure (by kernel_rfl) fun _ => by kernel_rfl) ?_)
    refine A.cons (A.q (some 17) (.bool (decide (((xs).length : Int) > 200))) (by kernel_rfl) (qt_move rfl rfl) ?_)
    refine A.bool (decide (((xs).length : Int) > 200)) (fun e1 => ?_) (fun e1 => ?_)
    · skip
      refine A.sub [(0, (.int .i64 (r : Int))), (1, (.slice A0 ((xs).length) c0)), (4, (.bool false)), (14, (.slice A0 ((xs).length) c0)), (15, (.int .i64 ((xs).length : Int))), (16, (.bool true)), (17, (.bool true))] (by exact ⟨rfl, rfl, rfl, rfl, rfl, (congrArg (fun z => some (Value.bool z)) e1), (congrArg (fun z => some (Value.bool z)) e1), trivial⟩) ?_
      refine A.cons (A.jump (some 18) rfl rfl (by intro x hx; cases hx; rfl) ?_)
      refine A.cons (A.jump (some 19) rfl rfl (by intro x hx; cases hx; rfl) ?_)
      refine A.cons (A.q (some 20) (.bool true) (by kernel_rfl) (qt_pure (by kernel_rfl) fun _ => by kernel_rfl) ?_)
      refine A.cons (A.q (some 21) (.bool true) (by kernel_rfl) (qt_move rfl rfl) ?_)
      refine A.cons (A.jump (some 22) rfl rfl (by intro x hx; cases hx; rfl) ?_)
      refine A.cons (A.jump (some 23) rfl rfl (by intro x hx; cases hx; rfl) ?_)
      refine A.cons (A.q (some 24) (.bool true) (by kernel_rfl) (qt_pure (by kernel_rfl) fun _ => by kernel_rfl) ?_)
      refine A.done ?_
      exact A.meet () trivial (A.here (by exact ⟨rfl, rfl, rfl, (by rw [e1]; rfl), trivial⟩) (List.Sublist.refl _))
    · skip
      refine A.sub [(0, (.int .i64 (r : Int))), (1, (.slice A0 ((xs).length) c0)), (4, (.bool false)), (14, (.slice A0 ((xs).length) c0)), (15, (.int .i64 ((xs).length : Int))), (16, (.bool false)), (17, (.bool false))] (by exact ⟨rfl, rfl, rfl, rfl, rfl, (congrArg (fun z => some (Value.bool z)) e1), (congrArg (fun z => some (Value.bool z)) e1), trivial⟩) ?_
      refine A.cons (A.q (some 18) (.int .i64 (r : Int)) (by kernel_rfl) (qt_move rfl rfl) ?_)
      refine A.cons (A.q (some 19) (.bool (decide ((r : Int) < 1))) (by kernel_rfl) (qt_pure (by kernel_rfl) fun _ => by kernel_rfl) ?_)
      refine A.cons (A.q (some 20) (.bool (decide ((r : Int) < 1))) (by kernel_rfl) (qt_pure (by kernel_rfl) fun _ => by kernel_rfl) ?_)
      refine A.cons (A.q (some 21) (.bool (decide ((r : Int) < 1))) (by kernel_rfl) (qt_move rfl rfl) ?_)
      refine A.bool (decide ((r : Int) < 1)) (fun e2 => ?_) (fun e2 => ?_)
      · skip
        refine A.sub [(0, (.int .i64 (r : Int))), (1, (.slice A0 ((xs).length) c0)), (4, (.bool false)), (14, (.slice A0 ((xs).length) c0)), (15, (.int .i64 ((xs).length : Int))), (16, (.bool false)), (17, (.bool false)), (18, (.int .i64 (r : Int))), (19, (.bool true)), (20, (.bool true)), (21, (.bool true))] (by exact ⟨rfl, rfl, rfl, rfl, rfl, rfl, rfl, rfl, (congrArg (fun z => some (Value.bool z)) e2), (congrArg (fun z => some (Value.bool z)) e2), (congrArg (fun z => some (Value.bool z)) e2), trivial⟩) ?_
        refine A.cons (A.jump (some 22) rfl rfl (by intro x hx; cases hx; rfl) ?_)
        refine A.cons (A.jump (some 23) rfl rfl (by intro x hx; cases hx; rfl) ?_)
        refine A.cons (A.q (some 24) (.bool true) (by kernel_rfl) (qt_pure (by kernel_rfl) fun _ => by kernel_rfl) ?_)
        refine A.done ?_
        exact A.meet () trivial (A.here (by exact ⟨rfl, rfl, rfl, (by rw [e1, e2]; rfl), trivial⟩) (List.Sublist.refl _))
      · skip
        refine A.sub [(0, (.int .i64 (r : Int))), (1, (.slice A0 ((xs).length) c0)), (4, (.bool false)), (14, (.slice A0 ((xs).length) c0)), (15, (.int .i64 ((xs).length : Int))), (16, (.bool false)), (17, (.bool false)), (18, (.int .i64 (r : Int))), (19, (.bool false)), (20, (.bool false)), (21, (.bool false))] (by exact ⟨rfl, rfl, rfl, rfl, rfl, rfl, rfl, rfl, (congrArg (fun z => some (Value.bool z)) e2), (congrArg (fun z => some (Value.bool z)) e2), (congrArg (fun z => some (Value.bool z)) e2), trivial⟩) ?_
        refine A.cons (A.q (some 22) (.int .i64 (r : Int)) (by kernel_rfl) (qt_move rfl rfl) ?_)
        refine A.cons (A.q (some 23) (.bool (decide ((r : Int) > 64))) (by kernel_rfl) (qt_pure (by kernel_rfl) fun _ => by kernel_rfl) ?_)
        refine A.cons (A.q (some 24) (.bool (decide ((r : Int) > 64))) (by kernel_rfl) (qt_pure (by kernel_rfl) fun _ => by kernel_rfl) ?_)
        refine A.done ?_
        exact A.meet () trivial (A.here (by exact ⟨rfl, rfl, rfl, (by rw [e1, e2]; rfl), trivial⟩) (List.Sublist.refl _))
  · skip
    refine A.tn ?_
    refine A.cond (E := (decide (((xs).length : Int) > 200)) || ((decide ((r : Int) < 1)) || (decide ((r : Int) > 64)))) rfl (fun e3 => ?_) (fun e3 => ?_)
    · skip
      have p3 := e3; try simp only [decide_eq_true_eq, decide_eq_false_iff_not, beq_iff_eq, beq_eq_false_iff_ne, bne_iff_ne, bne_eq_false_iff_eq, ne_eq, Bool.and_eq_true, Bool.or_eq_true, Bool.or_eq_false_iff, Bool.not_eq_true', Bool.not_eq_false', Int.not_lt, Int.not_le, gt_iff_lt, ge_iff_le, Classical.not_not] at p3
      refine A.seq ?_
      refine A.region ?_
      refine A.cons (A.q (some 25) (.bool true) (by kernel_rfl) (qt_call [] rfl (by kernel_rfl) rfl (fun w _ => pair_spec  w)) ?_)
      refine A.cons (A.q (some 4) (.bool true) (by kernel_rfl) (qt_assign rfl rfl) ?_)
      refine A.done ?_
      refine A.norm [(0, (.int .i64 (r : Int))), (1, (.slice A0 ((xs).length) c0)), (4, (.bool true)), (24, (.bool ((decide (((xs).length : Int) > 200)) || ((decide ((r : Int) < 1)) || (decide ((r : Int) > 64))))))] [] (by exact ⟨rfl, rfl, rfl, rfl, trivial⟩) rfl ?_
      refine A.tn ?_
      refine A.ret ?_
      refine A.tr ?_
      refine A.post [(.bool true)] (fun a w r s => ⟨rv_tmp r rfl, trivial⟩) (fun w1 s => ?_)
      exact ⟨rfl, s.fr⟩
    · skip
      have p3 := e3; try simp only [decide_eq_true_eq, decide_eq_false_iff_not, beq_iff_eq, beq_eq_false_iff_ne, bne_iff_ne, bne_eq_false_iff_eq, ne_eq, Bool.and_eq_true, Bool.or_eq_true, Bool.or_eq_false_iff, Bool.not_eq_true', Bool.not_eq_false', Int.not_lt, Int.not_le, gt_iff_lt, ge_iff_le, Classical.not_not] at p3
      refine A.skip ?_
      refine A.tn ?_
      refine A.seq ?_
      refine A.region ?_
      refine A.cons (A.q (some 27) (.int .i64 (r : Int)) (by kernel_rfl) (qt_move rfl rfl) ?_)
      refine A.cons (A.call (some 28) [(.int .i64 (r : Int))] (fun x : Nat × Nat => (.tuple #[(.pointer (some ⟨x.1, 0, none⟩)), (.int .i64 0)])) (fun _ => True) (fun x => [ringI encS 96 9 x.1 x.2 r ([] : List ByteArray)]) (by kernel_rfl) rfl (by kernel_rfl) rfl (fun w s => (ringS_new_ok r w (by omega) (by omega)).mono fun e w1 ⟨b, s1, he, hr, hf, n1, n2⟩ => ⟨(b, s1), he, trivial, s.add hf hr (by have := hr.bounds.2.2.2; simpa [ringI] using this) (by intro x hx; simp [ringI] at hx; rcases hx with rfl | rfl <;> assumption)⟩) ?_)
      rintro ⟨rb1, rs1⟩ -
      refine A.cons (A.q (some 26) (.tuple #[(.pointer (some ⟨rb1, 0, none⟩)), (.int .i64 0)]) (by kernel_rfl) (qt_move rfl rfl) ?_)
      refine A.cons (A.q (some 29) (.pointer (some ⟨rb1, 0, none⟩)) (by kernel_rfl) (qt_pure (by kernel_rfl) fun _ => by kernel_rfl) ?_)
      refine A.cons (A.q (some 30) (.int .i64 0) (by kernel_rfl) (qt_pure (by kernel_rfl) fun _ => by kernel_rfl) ?_)
      refine A.cons (A.q (some 5) (.pointer (some ⟨rb1, 0, none⟩)) (by kernel_rfl) (qt_assign rfl rfl) ?_)
      refine A.cons (A.q (some 6) (.int .i64 0) (by kernel_rfl) (qt_assign rfl rfl) ?_)
      refine A.done ?_
      refine A.norm [(0, (.int .i64 (r : Int))), (1, (.slice A0 ((xs).length) c0)), (4, (.bool false)), (24, (.bool ((decide (((xs).length : Int) > 200)) || ((decide ((r : Int) < 1)) || (decide ((r : Int) > 64)))))), (5, (.pointer (some ⟨rb1, 0, none⟩))), (6, (.int .i64 0))] [ringI encS 96 9 rb1 rs1 r ([] : List ByteArray)] (by exact ⟨rfl, rfl, rfl, rfl, rfl, rfl, trivial⟩) rfl ?_
      refine A.tn ?_
      refine A.seq ?_
      refine A.region ?_
      refine A.cons (A.q (some 7) (.int .i64 0) (by kernel_rfl) (qt_assign rfl rfl) ?_)
      refine A.done ?_
      refine A.norm [(0, (.int .i64 (r : Int))), (1, (.slice A0 ((xs).length) c0)), (4, (.bool false)), (24, (.bool ((decide (((xs).length : Int) > 200)) || ((decide ((r : Int) < 1)) || (decide ((r : Int) > 64)))))), (5, (.pointer (some ⟨rb1, 0, none⟩))), (6, (.int .i64 0)), (7, (.int .i64 0))] [ringI encS 96 9 rb1 rs1 r ([] : List ByteArray)] (by exact ⟨rfl, rfl, rfl, rfl, rfl, rfl, rfl, trivial⟩) rfl ?_
      refine A.tn ?_
      refine A.seq ?_
      refine A.seq ?_
      refine A.region ?_
      refine A.cons (A.q (some 31) (.slice A0 ((xs).length) c0) (by kernel_rfl) (qt_move rfl rfl) ?_)
      refine A.cons (A.q (some 32) (.int .i64 ((xs).length : Int)) (by kernel_rfl) (qt_pure (by kernel_rfl) fun _ => by kernel_rfl) ?_)
      refine A.cons (A.q (some 33) (.int .i64 0) (by kernel_rfl) (qt_move rfl rfl) ?_)
      refine A.done ?_
      refine A.norm [(0, (.int .i64 (r : Int))), (1, (.slice A0 ((xs).length) c0)), (4, (.bool false)), (24, (.bool ((decide (((xs).length : Int) > 200)) || ((decide ((r : Int) < 1)) || (decide ((r : Int) > 64)))))), (5, (.pointer (some ⟨rb1, 0, none⟩))), (6, (.int .i64 0)), (7, (.int .i64 0)), (31, (.slice A0 ((xs).length) c0)), (32, (.int .i64 ((xs).length : Int))), (33, (.int .i64 0))] [ringI encS 96 9 rb1 rs1 r ([] : List ByteArray)] (by exact ⟨rfl, rfl, rfl, rfl, rfl, rfl, rfl, rfl, rfl, rfl, trivial⟩) rfl ?_
      refine A.tn ?_
      refine A.block ?_
      refine A.loop (fun (x : Nat × Nat × (List ByteArray)) => match x with | (k, a, q) => [(1, (.slice A0 ((xs).length) c0)), (5, (.pointer (some ⟨rb1, 0, none⟩))), (6, (.int .i64 0)), (31, (.slice A0 ((xs).length) c0)), (32, (.int .i64 ((xs).length : Int))), (33, (.int .i64 (k : Int))), (7, (.int .i64 (a : Int)))]) (fun (x : Nat × Nat × (List ByteArray)) => match x with | (k, a, q) => [ringI encS 96 9 rb1 rs1 r q]) (fun (x : Nat × Nat × (List ByteArray)) => match x with | (k, a, q) => a + q.length = k ∧ k ≤ xs.length ∧ q.length ≤ r ∧ Win xs a q) (fun (x : Nat × Nat × (List ByteArray)) => match x with | (k, a, q) => xs.length - k) (0, 0, []) (⟨rfl, Nat.zero_le _, Nat.zero_le _, win_nil _ _⟩) ?_ ?_
      · exact A.here (by exact ⟨rfl, rfl, rfl, rfl, rfl, rfl, rfl, trivial⟩) (List.Sublist.refl _)
      · rintro ⟨k, a, q⟩ ⟨hk, hn, hq, hv⟩
        refine A.norm [(1, (.slice A0 ((xs).length) c0)), (5, (.pointer (some ⟨rb1, 0, none⟩))), (6, (.int .i64 0)), (31, (.slice A0 ((xs).length) c0)), (32, (.int .i64 ((xs).length : Int))), (33, (.int .i64 (k : Int))), (7, (.int .i64 (a : Int)))] [ringI encS 96 9 rb1 rs1 r q] (by exact ⟨rfl, rfl, rfl, rfl, rfl, rfl, rfl, trivial⟩) rfl ?_
        refine A.seq ?_
        refine A.region ?_
        refine A.cons (A.q (some 34) (.bool (decide ((k : Int) < ((xs).length : Int)))) (by kernel_rfl) (qt_pure (by kernel_rfl) fun _ => by kernel_rfl) ?_)
        refine A.done ?_
        refine A.norm [(1, (.slice A0 ((xs).length) c0)), (5, (.pointer (some ⟨rb1, 0, none⟩))), (6, (.int .i64 0)), (31, (.slice A0 ((xs).length) c0)), (32, (.int .i64 ((xs).length : Int))), (33, (.int .i64 (k : Int))), (7, (.int .i64 (a : Int))), (34, (.bool (decide ((k : Int) < ((xs).length : Int)))))] [ringI encS 96 9 rb1 rs1 r q] (by exact ⟨rfl, rfl, rfl, rfl, rfl, rfl, rfl, rfl, trivial⟩) rfl ?_
        refine A.tn ?_
        refine A.seq ?_
        refine A.cond (E := decide ((k : Int) < ((xs).length : Int))) rfl (fun e4 => ?_) (fun e4 => ?_)
        · skip
          have p4 := e4; try simp only [decide_eq_true_eq, decide_eq_false_iff_not, beq_iff_eq, beq_eq_false_iff_ne, bne_iff_ne, bne_eq_false_iff_eq, ne_eq, Bool.and_eq_true, Bool.or_eq_true, Bool.or_eq_false_iff, Bool.not_eq_true', Bool.not_eq_false', Int.not_lt, Int.not_le, gt_iff_lt, ge_iff_le, Classical.not_not] at p4
          refine A.skip ?_
          refine A.tn ?_
          refine A.seq ?_
          refine A.block ?_
          refine A.seq ?_
          refine A.region ?_
          refine A.cons (A.q (some 35) (.pointer (some ((at0 A0).add (k * 1)))) (by kernel_rfl) (qt_indexN (el := 9) (enc := encS) (xs := xs) (m := k) rfl rfl rfl (by kernel_rfl) (by kernel_rfl) encS_len (rd_old hl (by simp)) (by decide) (by simp at *; omega)) ?_)
          obtain ⟨x2, hx2⟩ : ∃ x, (xs)[k]? = some x := ⟨_, List.getElem?_eq_getElem (by simp at *; omega)⟩
          refine A.cons (A.q (some 36) (.string x2) (by kernel_rfl) (qt_load1 rfl rfl (by kernel_rfl) (reads_at0 (vs := [(.string x2)]) encS_len (rd_old hl (by simp)) hx2 (by simp) rfl)) ?_)
          refine A.cons (A.q (some 9) (.string x2) (by kernel_rfl) (qt_assign rfl rfl) ?_)
          refine A.done ?_
          refine A.norm [(1, (.slice A0 ((xs).length) c0)), (5, (.pointer (some ⟨rb1, 0, none⟩))), (6, (.int .i64 0)), (31, (.slice A0 ((xs).length) c0)), (32, (.int .i64 ((xs).length : Int))), (33, (.int .i64 (k : Int))), (7, (.int .i64 (a : Int))), (34, (.bool (decide ((k : Int) < ((xs).length : Int))))), (9, (.string x2))] [ringI encS 96 9 rb1 rs1 r q] (by exact ⟨rfl, rfl, rfl, rfl, rfl, rfl, rfl, rfl, rfl, trivial⟩) rfl ?_
          refine A.tn ?_
          refine A.seq ?_
          refine A.seq ?_
          refine A.region ?_
          refine A.cons (A.q (some 37) (.pointer (some ⟨rb1, 0, none⟩)) (by kernel_rfl) (qt_move rfl rfl) ?_)
          refine A.cons (A.q (some 38) (.int .i64 ((r : Int) - (q.length : Int))) (by kernel_rfl) (qt_call [(.pointer (some ⟨rb1, 0, none⟩))] rfl (by kernel_rfl) rfl (fun w s => ringS_room rb1 rs1 r q w (s.mem (i := 0) rfl))) ?_)
          refine A.cons (A.q (some 39) (.bool (((r : Int) - (q.length : Int)) == 0)) (by kernel_rfl) (qt_pure (by kernel_rfl) fun _ => by kernel_rfl) ?_)
          refine A.done ?_
          refine A.norm [(1, (.slice A0 ((xs).length) c0)), (5, (.pointer (some ⟨rb1, 0, none⟩))), (6, (.int .i64 0)), (31, (.slice A0 ((xs).length) c0)), (32, (.int .i64 ((xs).length : Int))), (33, (.int .i64 (k : Int))), (7, (.int .i64 (a : Int))), (34, (.bool (decide ((k : Int) < ((xs).length : Int))))), (9, (.string x2)), (39, (.bool (((r : Int) - (q.length : Int)) == 0)))] [ringI encS 96 9 rb1 rs1 r q] (by exact ⟨rfl, rfl, rfl, rfl, rfl, rfl, rfl, rfl, rfl, rfl, trivial⟩) rfl ?_
          refine A.tn ?_
          refine A.cond (E := ((r : Int) - (q.length : Int)) == 0) rfl (fun e5 => ?_) (fun e5 => ?_)
          · skip
            have p5 := e5; try simp only [decide_eq_true_eq, decide_eq_false_iff_not, beq_iff_eq, beq_eq_false_iff_ne, bne_iff_ne, bne_eq_false_iff_eq, ne_eq, Bool.and_eq_true, Bool.or_eq_true, Bool.or_eq_false_iff, Bool.not_eq_true', Bool.not_eq_false', Int.not_lt, Int.not_le, gt_iff_lt, ge_iff_le, Classical.not_not] at p5
            refine A.seq ?_
            refine A.region ?_
            refine A.cons (A.q (some 41) (.pointer (some ⟨rb1, 0, none⟩)) (by kernel_rfl) (qt_move rfl rfl) ?_)
            rcases q with _ | ⟨y3, q3⟩
            · skip
              simp at *; omega
            · skip
              obtain ⟨ha, hv2⟩ := win_pop hv
              refine A.cons (A.call (some 42) [(.pointer (some ⟨rb1, 0, none⟩))] (fun _ : Unit => (.tuple #[(.string y3), (.int .i64 0)])) (fun _ => True) (fun _ => [ringI encS 96 9 rb1 rs1 r q3]) (by kernel_rfl) rfl (by kernel_rfl) rfl (fun w s => (ringS_pop rb1 rs1 r q3 y3 w (s.mem (i := 0) rfl)).mono fun e w1 ⟨he, hr, hf⟩ => ⟨(), he, trivial, s.turn (i := 0) rfl hf hr (by have := (s.mem (i := 0) rfl : RingH _ _ _ _ _ _ _ _).bounds.2.2.2; simpa [ringI] using this) (fun _ h => .inl h)⟩) (fun _ _ => ?_))
              refine A.cons (A.q (some 40) (.tuple #[(.string y3), (.int .i64 0)]) (by kernel_rfl) (qt_move rfl rfl) ?_)
              refine A.cons (A.q (some 43) (.string y3) (by kernel_rfl) (qt_pure (by kernel_rfl) fun _ => by kernel_rfl) ?_)
              refine A.cons (A.q (some 44) (.int .i64 0) (by kernel_rfl) (qt_pure (by kernel_rfl) fun _ => by kernel_rfl) ?_)
              refine A.cons (A.q (some 10) (.string y3) (by kernel_rfl) (qt_assign rfl rfl) ?_)
              refine A.cons (A.q (some 11) (.int .i64 0) (by kernel_rfl) (qt_assign rfl rfl) ?_)
              refine A.done ?_
              refine A.norm [(1, (.slice A0 ((xs).length) c0)), (5, (.pointer (some ⟨rb1, 0, none⟩))), (6, (.int .i64 0)), (31, (.slice A0 ((xs).length) c0)), (32, (.int .i64 ((xs).length : Int))), (33, (.int .i64 (k : Int))), (7, (.int .i64 (a : Int))), (34, (.bool (decide ((k : Int) < ((xs).length : Int))))), (9, (.string x2)), (39, (.bool (((r : Int) - ((y3 :: q3).length : Int)) == 0))), (10, (.string y3)), (11, (.int .i64 0))] [ringI encS 96 9 rb1 rs1 r q3] (by exact ⟨rfl, rfl, rfl, rfl, rfl, rfl, rfl, rfl, rfl, rfl, rfl, rfl, trivial⟩) rfl ?_
              refine A.tn ?_
              refine A.seq ?_
              refine A.seq ?_
              refine A.region ?_
              refine A.cons (A.q (some 45) (.int .i64 0) (by kernel_rfl) (qt_move rfl rfl) ?_)
              refine A.cons (A.q (some 46) (.bool false) (by kernel_rfl) (qt_pure (by kernel_rfl) fun _ => by kernel_rfl) ?_)
              refine A.cons (A.q (some 47) (.bool false) (by kernel_rfl) (qt_move rfl rfl) ?_)
              refine A.cons (A.q (some 48) (.string y3) (by kernel_rfl) (qt_move rfl rfl) ?_)
              refine A.cons (A.q (some 49) (.slice A0 ((xs).length) c0) (by kernel_rfl) (qt_move rfl rfl) ?_)
              refine A.cons (A.q (some 50) (.int .i64 (a : Int)) (by kernel_rfl) (qt_move rfl rfl) ?_)
              refine A.cons (A.q (some 51) (.pointer (some ((at0 A0).add (a * 1)))) (by kernel_rfl) (qt_indexN (el := 9) (enc := encS) (xs := xs) (m := a) rfl rfl rfl (by kernel_rfl) (by kernel_rfl) encS_len (rd_old hl (by simp)) (by decide) (by simp at *; omega)) ?_)
              refine A.cons (A.q (some 52) (.string y3) (by kernel_rfl) (qt_load1 rfl rfl (by kernel_rfl) (reads_at0 (vs := [(.string y3)]) encS_len (rd_old hl (by simp)) ha (by simp) rfl)) ?_)
              refine A.cons (A.q (some 53) (.bool (y3 != y3)) (by kernel_rfl) (qt_neqS (b := y3) (c := y3) rfl rfl rfl) ?_)
              refine A.cons (A.q (some 54) (.bool (y3 != y3)) (by kernel_rfl) (qt_pure (by kernel_rfl) fun _ => by kernel_rfl) ?_)
              refine A.done ?_
              refine A.norm [(1, (.slice A0 ((xs).length) c0)), (5, (.pointer (some ⟨rb1, 0, none⟩))), (6, (.int .i64 0)), (31, (.slice A0 ((xs).length) c0)), (32, (.int .i64 ((xs).length : Int))), (33, (.int .i64 (k : Int))), (7, (.int .i64 (a : Int))), (34, (.bool (decide ((k : Int) < ((xs).length : Int))))), (9, (.string x2)), (39, (.bool (((r : Int) - ((y3 :: q3).length : Int)) == 0))), (10, (.string y3)), (11, (.int .i64 0)), (54, (.bool (y3 != y3)))] [ringI encS 96 9 rb1 rs1 r q3] (by exact ⟨rfl, rfl, rfl, rfl, rfl, rfl, rfl, rfl, rfl, rfl, rfl, rfl, rfl, trivial⟩) rfl ?_
              refine A.tn ?_
              refine A.cond (E := y3 != y3) rfl (fun e6 => ?_) (fun e6 => ?_)
              · exact absurd e6 (by first | (simp; done) | (simp; omega) | omega | grind)
              · skip
                have p6 := e6; try simp only [decide_eq_true_eq, decide_eq_false_iff_not, beq_iff_eq, beq_eq_false_iff_ne, bne_iff_ne, bne_eq_false_iff_eq, ne_eq, Bool.and_eq_true, Bool.or_eq_true, Bool.or_eq_false_iff, Bool.not_eq_true', Bool.not_eq_false', Int.not_lt, Int.not_le, gt_iff_lt, ge_iff_le, Classical.not_not] at p6
                refine A.skip ?_
                refine A.tn ?_
                refine A.region ?_
                refine A.cons (A.q (some 55) (.int .i64 (a : Int)) (by kernel_rfl) (qt_move rfl rfl) ?_)
                refine A.cons (A.q (some 56) (.int .i64 ((a : Int) + 1)) (by kernel_rfl) (qt_as (congrArg (Value.int .i64) (wrap_i64 (e := (a : Int) + 1) (by simp at *; constructor <;> omega))) (qt_pure (v := .int .i64 (IntKind.i64.wrap ((a : Int) + 1))) (by kernel_rfl) fun _ => by kernel_rfl)) ?_)
                refine A.cons (A.q (some 7) (.int .i64 ((a : Int) + 1)) (by kernel_rfl) (qt_assign rfl rfl) ?_)
                refine A.done ?_
                refine A.norm [(1, (.slice A0 ((xs).length) c0)), (5, (.pointer (some ⟨rb1, 0, none⟩))), (6, (.int .i64 0)), (31, (.slice A0 ((xs).length) c0)), (32, (.int .i64 ((xs).length : Int))), (33, (.int .i64 (k : Int))), (7, (.int .i64 ((a : Int) + 1))), (34, (.bool (decide ((k : Int) < ((xs).length : Int))))), (9, (.string x2)), (39, (.bool (((r : Int) - ((y3 :: q3).length : Int)) == 0))), (10, (.string y3)), (11, (.int .i64 0)), (54, (.bool (y3 != y3)))] [ringI encS 96 9 rb1 rs1 r q3] (by exact ⟨rfl, rfl, rfl, rfl, rfl, rfl, rfl, rfl, rfl, rfl, rfl, rfl, rfl, trivial⟩) rfl ?_
                refine A.tn ?_
                refine A.seq ?_
                refine A.region ?_
                refine A.cons (A.q (some 57) (.pointer (some ⟨rb1, 0, none⟩)) (by kernel_rfl) (qt_move rfl rfl) ?_)
                refine A.cons (A.q (some 58) (.string x2) (by kernel_rfl) (qt_move rfl rfl) ?_)
                refine A.cons (A.call (some 59) [(.pointer (some ⟨rb1, 0, none⟩)), (.string x2)] (fun _ : Unit => (.int .i64 0)) (fun _ => True) (fun _ => [ringI encS 96 9 rb1 rs1 r (q3 ++ [x2])]) (by kernel_rfl) rfl (by kernel_rfl) rfl (fun w s => (ringS_push rb1 rs1 r q3 x2 w (s.mem (i := 0) rfl) (by simp at *; omega)).mono fun e w1 ⟨he, hr, hf⟩ => ⟨(), he, trivial, s.turn (i := 0) rfl hf hr (by have := (s.mem (i := 0) rfl : RingH _ _ _ _ _ _ _ _).bounds.2.2.2; simpa [ringI] using this) (fun _ h => .inl h)⟩) (fun _ _ => ?_))
                refine A.cons (A.q (some 60) (.bool false) (by kernel_rfl) (qt_pure (by kernel_rfl) fun _ => by kernel_rfl) ?_)
                refine A.done ?_
                refine A.norm [(1, (.slice A0 ((xs).length) c0)), (5, (.pointer (some ⟨rb1, 0, none⟩))), (6, (.int .i64 0)), (31, (.slice A0 ((xs).length) c0)), (32, (.int .i64 ((xs).length : Int))), (33, (.int .i64 (k : Int))), (7, (.int .i64 ((a : Int) + 1))), (34, (.bool (decide ((k : Int) < ((xs).length : Int))))), (9, (.string x2)), (39, (.bool (((r : Int) - ((y3 :: q3).length : Int)) == 0))), (10, (.string y3)), (11, (.int .i64 0)), (54, (.bool (y3 != y3))), (60, (.bool false))] [ringI encS 96 9 rb1 rs1 r (q3 ++ [x2])] (by exact ⟨rfl, rfl, rfl, rfl, rfl, rfl, rfl, rfl, rfl, rfl, rfl, rfl, rfl, rfl, trivial⟩) rfl ?_
                refine A.tn ?_
                refine A.cond_f rfl ?_
                refine A.skip ?_
                refine A.bn ?_
                refine A.tn ?_
                refine A.region ?_
                refine A.cons (A.q (some 61) (.int .i64 ((k : Int) + 1)) (by kernel_rfl) (qt_as (congrArg (Value.int .i64) (wrap_i64 (e := (k : Int) + 1) (by simp at *; constructor <;> omega))) (qt_pure (v := .int .i64 (IntKind.i64.wrap ((k : Int) + 1))) (by kernel_rfl) fun _ => by kernel_rfl)) ?_)
                refine A.cons (A.q (some 33) (.int .i64 ((k : Int) + 1)) (by kernel_rfl) (qt_move rfl rfl) ?_)
                refine A.done ?_
                refine A.norm [(1, (.slice A0 ((xs).length) c0)), (5, (.pointer (some ⟨rb1, 0, none⟩))), (6, (.int .i64 0)), (31, (.slice A0 ((xs).length) c0)), (32, (.int .i64 ((xs).length : Int))), (33, (.int .i64 ((k : Int) + 1))), (7, (.int .i64 ((a : Int) + 1))), (34, (.bool (decide ((k : Int) < ((xs).length : Int))))), (9, (.string x2)), (39, (.bool (((r : Int) - ((y3 :: q3).length : Int)) == 0))), (10, (.string y3)), (11, (.int .i64 0)), (54, (.bool (y3 != y3))), (60, (.bool false))] [ringI encS 96 9 rb1 rs1 r (q3 ++ [x2])] (by exact ⟨rfl, rfl, rfl, rfl, rfl, rfl, rfl, rfl, rfl, rfl, rfl, rfl, rfl, rfl, trivial⟩) rfl ?_
                refine A.tn ?_
                refine A.next (k + 1, a + 1, q3 ++ [x2]) (⟨by simp at hk hq ⊢; omega, by omega, by simp at hk hq ⊢; omega, win_push hv2 (by simp at hk; omega) hx2⟩) (by simp only []; omega) ?_
                exact A.here (by exact ⟨rfl, rfl, rfl, rfl, rfl, rfl, rfl, trivial⟩) (List.Sublist.refl _)
          · skip
            have p5 := e5; try simp only [decide_eq_true_eq, decide_eq_false_iff_not, beq_iff_eq, beq_eq_false_iff_ne, bne_iff_ne, bne_eq_false_iff_eq, ne_eq, Bool.and_eq_true, Bool.or_eq_true, Bool.or_eq_false_iff, Bool.not_eq_true', Bool.not_eq_false', Int.not_lt, Int.not_le, gt_iff_lt, ge_iff_le, Classical.not_not] at p5
            refine A.skip ?_
            refine A.tn ?_
            refine A.seq ?_
            refine A.region ?_
            refine A.cons (A.q (some 57) (.pointer (some ⟨rb1, 0, none⟩)) (by kernel_rfl) (qt_move rfl rfl) ?_)
            refine A.cons (A.q (some 58) (.string x2) (by kernel_rfl) (qt_move rfl rfl) ?_)
            refine A.cons (A.call (some 59) [(.pointer (some ⟨rb1, 0, none⟩)), (.string x2)] (fun _ : Unit => (.int .i64 0)) (fun _ => True) (fun _ => [ringI encS 96 9 rb1 rs1 r (q ++ [x2])]) (by kernel_rfl) rfl (by kernel_rfl) rfl (fun w s => (ringS_push rb1 rs1 r q x2 w (s.mem (i := 0) rfl) (by simp at *; omega)).mono fun e w1 ⟨he, hr, hf⟩ => ⟨(), he, trivial, s.turn (i := 0) rfl hf hr (by have := (s.mem (i := 0) rfl : RingH _ _ _ _ _ _ _ _).bounds.2.2.2; simpa [ringI] using this) (fun _ h => .inl h)⟩) (fun _ _ => ?_))
            refine A.cons (A.q (some 60) (.bool false) (by kernel_rfl) (qt_pure (by kernel_rfl) fun _ => by kernel_rfl) ?_)
            refine A.done ?_
            refine A.norm [(1, (.slice A0 ((xs).length) c0)), (5, (.pointer (some ⟨rb1, 0, none⟩))), (6, (.int .i64 0)), (31, (.slice A0 ((xs).length) c0)), (32, (.int .i64 ((xs).length : Int))), (33, (.int .i64 (k : Int))), (7, (.int .i64 (a : Int))), (34, (.bool (decide ((k : Int) < ((xs).length : Int))))), (9, (.string x2)), (39, (.bool (((r : Int) - (q.length : Int)) == 0))), (60, (.bool false))] [ringI encS 96 9 rb1 rs1 r (q ++ [x2])] (by exact ⟨rfl, rfl, rfl, rfl, rfl, rfl, rfl, rfl, rfl, rfl, rfl, trivial⟩) rfl ?_
            refine A.tn ?_
            refine A.cond_f rfl ?_
            refine A.skip ?_
            refine A.bn ?_
            refine A.tn ?_
            refine A.region ?_
            refine A.cons (A.q (some 61) (.int .i64 ((k : Int) + 1)) (by kernel_rfl) (qt_as (congrArg (Value.int .i64) (wrap_i64 (e := (k : Int) + 1) (by simp at *; constructor <;> omega))) (qt_pure (v := .int .i64 (IntKind.i64.wrap ((k : Int) + 1))) (by kernel_rfl) fun _ => by kernel_rfl)) ?_)
            refine A.cons (A.q (some 33) (.int .i64 ((k : Int) + 1)) (by kernel_rfl) (qt_move rfl rfl) ?_)
            refine A.done ?_
            refine A.norm [(1, (.slice A0 ((xs).length) c0)), (5, (.pointer (some ⟨rb1, 0, none⟩))), (6, (.int .i64 0)), (31, (.slice A0 ((xs).length) c0)), (32, (.int .i64 ((xs).length : Int))), (33, (.int .i64 ((k : Int) + 1))), (7, (.int .i64 (a : Int))), (34, (.bool (decide ((k : Int) < ((xs).length : Int))))), (9, (.string x2)), (39, (.bool (((r : Int) - (q.length : Int)) == 0))), (60, (.bool false))] [ringI encS 96 9 rb1 rs1 r (q ++ [x2])] (by exact ⟨rfl, rfl, rfl, rfl, rfl, rfl, rfl, rfl, rfl, rfl, rfl, trivial⟩) rfl ?_
            refine A.tn ?_
            refine A.next (k + 1, a, q ++ [x2]) (⟨by simp; omega, by omega, by simp; omega, win_push hv hk hx2⟩) (by simp only []; omega) ?_
            exact A.here (by exact ⟨rfl, rfl, rfl, rfl, rfl, rfl, rfl, trivial⟩) (List.Sublist.refl _)
        · skip
          have p4 := e4; try simp only [decide_eq_true_eq, decide_eq_false_iff_not, beq_iff_eq, beq_eq_false_iff_ne, bne_iff_ne, bne_eq_false_iff_eq, ne_eq, Bool.and_eq_true, Bool.or_eq_true, Bool.or_eq_false_iff, Bool.not_eq_true', Bool.not_eq_false', Int.not_lt, Int.not_le, gt_iff_lt, ge_iff_le, Classical.not_not] at p4
          refine A.exit ?_
          refine A.te ?_
          refine A.te ?_
          refine A.bh ?_
          refine A.tn ?_
          refine A.seq ?_
          refine A.seq ?_
          refine A.region ?_
          refine A.cons (A.q (some 62) (.pointer (some ⟨rb1, 0, none⟩)) (by kernel_rfl) (qt_move rfl rfl) ?_)
          refine A.cons (A.q (some 63) (.int .i64 (q.length : Int)) (by kernel_rfl) (qt_call [(.pointer (some ⟨rb1, 0, none⟩))] rfl (by kernel_rfl) rfl (fun w s => ringS_len rb1 rs1 r q w (s.mem (i := 0) rfl))) ?_)
          refine A.cons (A.q (some 64) (.int .i64 0) (by kernel_rfl) (qt_move rfl rfl) ?_)
          refine A.done ?_
          refine A.norm [(1, (.slice A0 ((xs).length) c0)), (5, (.pointer (some ⟨rb1, 0, none⟩))), (6, (.int .i64 0)), (31, (.slice A0 ((xs).length) c0)), (32, (.int .i64 ((xs).length : Int))), (33, (.int .i64 (k : Int))), (7, (.int .i64 (a : Int))), (34, (.bool (decide ((k : Int) < ((xs).length : Int))))), (63, (.int .i64 (q.length : Int))), (64, (.int .i64 0))] [ringI encS 96 9 rb1 rs1 r q] (by exact ⟨rfl, rfl, rfl, rfl, rfl, rfl, rfl, rfl, rfl, rfl, trivial⟩) rfl ?_
          refine A.tn ?_
          refine A.block ?_
          refine A.loop (fun (x : Nat × Nat × (List ByteArray)) => match x with | (j, a2, u) => [(1, (.slice A0 ((xs).length) c0)), (5, (.pointer (some ⟨rb1, 0, none⟩))), (6, (.int .i64 0)), (63, (.int .i64 (q.length : Int))), (64, (.int .i64 (j : Int))), (7, (.int .i64 (a2 : Int)))]) (fun (x : Nat × Nat × (List ByteArray)) => match x with | (j, a2, u) => [ringI encS 96 9 rb1 rs1 r u]) (fun (x : Nat × Nat × (List ByteArray)) => match x with | (j, a2, u) => a2 + u.length = xs.length ∧ j + u.length = q.length ∧ Win xs a2 u) (fun (x : Nat × Nat × (List ByteArray)) => match x with | (j, a2, u) => q.length - j) (0, a, q) (⟨by omega, by simp, hv⟩) ?_ ?_
          · exact A.here (by exact ⟨rfl, rfl, rfl, rfl, rfl, rfl, trivial⟩) (List.Sublist.refl _)
          · rintro ⟨j, a2, u⟩ ⟨hk2, hj, hv1⟩
            refine A.norm [(1, (.slice A0 ((xs).length) c0)), (5, (.pointer (some ⟨rb1, 0, none⟩))), (6, (.int .i64 0)), (63, (.int .i64 (q.length : Int))), (64, (.int .i64 (j : Int))), (7, (.int .i64 (a2 : Int)))] [ringI encS 96 9 rb1 rs1 r u] (by exact ⟨rfl, rfl, rfl, rfl, rfl, rfl, trivial⟩) rfl ?_
            refine A.seq ?_
            refine A.region ?_
            refine A.cons (A.q (some 65) (.bool (decide ((j : Int) < (q.length : Int)))) (by kernel_rfl) (qt_pure (by kernel_rfl) fun _ => by kernel_rfl) ?_)
            refine A.done ?_
            refine A.norm [(1, (.slice A0 ((xs).length) c0)), (5, (.pointer (some ⟨rb1, 0, none⟩))), (6, (.int .i64 0)), (63, (.int .i64 (q.length : Int))), (64, (.int .i64 (j : Int))), (7, (.int .i64 (a2 : Int))), (65, (.bool (decide ((j : Int) < (q.length : Int)))))] [ringI encS 96 9 rb1 rs1 r u] (by exact ⟨rfl, rfl, rfl, rfl, rfl, rfl, rfl, trivial⟩) rfl ?_
            refine A.tn ?_
            refine A.seq ?_
            refine A.cond (E := decide ((j : Int) < (q.length : Int))) rfl (fun e7 => ?_) (fun e7 => ?_)
            · skip
              have p7 := e7; try simp only [decide_eq_true_eq, decide_eq_false_iff_not, beq_iff_eq, beq_eq_false_iff_ne, bne_iff_ne, bne_eq_false_iff_eq, ne_eq, Bool.and_eq_true, Bool.or_eq_true, Bool.or_eq_false_iff, Bool.not_eq_true', Bool.not_eq_false', Int.not_lt, Int.not_le, gt_iff_lt, ge_iff_le, Classical.not_not] at p7
              refine A.skip ?_
              refine A.tn ?_
              refine A.seq ?_
              refine A.block ?_
              refine A.seq ?_
              refine A.region ?_
              refine A.cons (A.q (some 67) (.pointer (some ⟨rb1, 0, none⟩)) (by kernel_rfl) (qt_move rfl rfl) ?_)
              rcases u with _ | ⟨y4, q4⟩
              · skip
                simp at *; omega
              · skip
                obtain ⟨ha, hv3⟩ := win_pop hv1
                refine A.cons (A.call (some 68) [(.pointer (some ⟨rb1, 0, none⟩))] (fun _ : Unit => (.tuple #[(.string y4), (.int .i64 0)])) (fun _ => True) (fun _ => [ringI encS 96 9 rb1 rs1 r q4]) (by kernel_rfl) rfl (by kernel_rfl) rfl (fun w s => (ringS_pop rb1 rs1 r q4 y4 w (s.mem (i := 0) rfl)).mono fun e w1 ⟨he, hr, hf⟩ => ⟨(), he, trivial, s.turn (i := 0) rfl hf hr (by have := (s.mem (i := 0) rfl : RingH _ _ _ _ _ _ _ _).bounds.2.2.2; simpa [ringI] using this) (fun _ h => .inl h)⟩) (fun _ _ => ?_))
                refine A.cons (A.q (some 66) (.tuple #[(.string y4), (.int .i64 0)]) (by kernel_rfl) (qt_move rfl rfl) ?_)
                refine A.cons (A.q (some 69) (.string y4) (by kernel_rfl) (qt_pure (by kernel_rfl) fun _ => by kernel_rfl) ?_)
                refine A.cons (A.q (some 70) (.int .i64 0) (by kernel_rfl) (qt_pure (by kernel_rfl) fun _ => by kernel_rfl) ?_)
                refine A.cons (A.q (some 12) (.string y4) (by kernel_rfl) (qt_assign rfl rfl) ?_)
                refine A.cons (A.q (some 13) (.int .i64 0) (by kernel_rfl) (qt_assign rfl rfl) ?_)
                refine A.done ?_
                refine A.norm [(1, (.slice A0 ((xs).length) c0)), (5, (.pointer (some ⟨rb1, 0, none⟩))), (6, (.int .i64 0)), (63, (.int .i64 (q.length : Int))), (64, (.int .i64 (j : Int))), (7, (.int .i64 (a2 : Int))), (65, (.bool (decide ((j : Int) < (q.length : Int))))), (12, (.string y4)), (13, (.int .i64 0))] [ringI encS 96 9 rb1 rs1 r q4] (by exact ⟨rfl, rfl, rfl, rfl, rfl, rfl, rfl, rfl, rfl, trivial⟩) rfl ?_
                refine A.tn ?_
                refine A.seq ?_
                refine A.seq ?_
                refine A.region ?_
                refine A.cons (A.q (some 71) (.int .i64 0) (by kernel_rfl) (qt_move rfl rfl) ?_)
                refine A.cons (A.q (some 72) (.bool false) (by kernel_rfl) (qt_pure (by kernel_rfl) fun _ => by kernel_rfl) ?_)
                refine A.cons (A.q (some 73) (.bool false) (by kernel_rfl) (qt_move rfl rfl) ?_)
                refine A.cons (A.q (some 74) (.string y4) (by kernel_rfl) (qt_move rfl rfl) ?_)
                refine A.cons (A.q (some 75) (.slice A0 ((xs).length) c0) (by kernel_rfl) (qt_move rfl rfl) ?_)
                refine A.cons (A.q (some 76) (.int .i64 (a2 : Int)) (by kernel_rfl) (qt_move rfl rfl) ?_)
                refine A.cons (A.q (some 77) (.pointer (some ((at0 A0).add (a2 * 1)))) (by kernel_rfl) (qt_indexN (el := 9) (enc := encS) (xs := xs) (m := a2) rfl rfl rfl (by kernel_rfl) (by kernel_rfl) encS_len (rd_old hl (by simp)) (by decide) (by simp at *; omega)) ?_)
                refine A.cons (A.q (some 78) (.string y4) (by kernel_rfl) (qt_load1 rfl rfl (by kernel_rfl) (reads_at0 (vs := [(.string y4)]) encS_len (rd_old hl (by simp)) ha (by simp) rfl)) ?_)
                refine A.cons (A.q (some 79) (.bool (y4 != y4)) (by kernel_rfl) (qt_neqS (b := y4) (c := y4) rfl rfl rfl) ?_)
                refine A.cons (A.q (some 80) (.bool (y4 != y4)) (by kernel_rfl) (qt_pure (by kernel_rfl) fun _ => by kernel_rfl) ?_)
                refine A.done ?_
                refine A.norm [(1, (.slice A0 ((xs).length) c0)), (5, (.pointer (some ⟨rb1, 0, none⟩))), (6, (.int .i64 0)), (63, (.int .i64 (q.length : Int))), (64, (.int .i64 (j : Int))), (7, (.int .i64 (a2 : Int))), (65, (.bool (decide ((j : Int) < (q.length : Int))))), (12, (.string y4)), (13, (.int .i64 0)), (80, (.bool (y4 != y4)))] [ringI encS 96 9 rb1 rs1 r q4] (by exact ⟨rfl, rfl, rfl, rfl, rfl, rfl, rfl, rfl, rfl, rfl, trivial⟩) rfl ?_
                refine A.tn ?_
                refine A.cond (E := y4 != y4) rfl (fun e8 => ?_) (fun e8 => ?_)
                · exact absurd e8 (by first | (simp; done) | (simp; omega) | omega | grind)
                · skip
                  have p8 := e8; try simp only [decide_eq_true_eq, decide_eq_false_iff_not, beq_iff_eq, beq_eq_false_iff_ne, bne_iff_ne, bne_eq_false_iff_eq, ne_eq, Bool.and_eq_true, Bool.or_eq_true, Bool.or_eq_false_iff, Bool.not_eq_true', Bool.not_eq_false', Int.not_lt, Int.not_le, gt_iff_lt, ge_iff_le, Classical.not_not] at p8
                  refine A.skip ?_
                  refine A.tn ?_
                  refine A.region ?_
                  refine A.cons (A.q (some 81) (.int .i64 (a2 : Int)) (by kernel_rfl) (qt_move rfl rfl) ?_)
                  refine A.cons (A.q (some 82) (.int .i64 ((a2 : Int) + 1)) (by kernel_rfl) (qt_as (congrArg (Value.int .i64) (wrap_i64 (e := (a2 : Int) + 1) (by simp at *; constructor <;> omega))) (qt_pure (v := .int .i64 (IntKind.i64.wrap ((a2 : Int) + 1))) (by kernel_rfl) fun _ => by kernel_rfl)) ?_)
                  refine A.cons (A.q (some 7) (.int .i64 ((a2 : Int) + 1)) (by kernel_rfl) (qt_assign rfl rfl) ?_)
                  refine A.done ?_
                  refine A.norm [(1, (.slice A0 ((xs).length) c0)), (5, (.pointer (some ⟨rb1, 0, none⟩))), (6, (.int .i64 0)), (63, (.int .i64 (q.length : Int))), (64, (.int .i64 (j : Int))), (7, (.int .i64 ((a2 : Int) + 1))), (65, (.bool (decide ((j : Int) < (q.length : Int))))), (12, (.string y4)), (13, (.int .i64 0)), (80, (.bool (y4 != y4)))] [ringI encS 96 9 rb1 rs1 r q4] (by exact ⟨rfl, rfl, rfl, rfl, rfl, rfl, rfl, rfl, rfl, rfl, trivial⟩) rfl ?_
                  refine A.bn ?_
                  refine A.tn ?_
                  refine A.region ?_
                  refine A.cons (A.q (some 83) (.int .i64 ((j : Int) + 1)) (by kernel_rfl) (qt_as (congrArg (Value.int .i64) (wrap_i64 (e := (j : Int) + 1) (by simp at *; constructor <;> omega))) (qt_pure (v := .int .i64 (IntKind.i64.wrap ((j : Int) + 1))) (by kernel_rfl) fun _ => by kernel_rfl)) ?_)
                  refine A.cons (A.q (some 64) (.int .i64 ((j : Int) + 1)) (by kernel_rfl) (qt_move rfl rfl) ?_)
                  refine A.done ?_
                  refine A.norm [(1, (.slice A0 ((xs).length) c0)), (5, (.pointer (some ⟨rb1, 0, none⟩))), (6, (.int .i64 0)), (63, (.int .i64 (q.length : Int))), (64, (.int .i64 ((j : Int) + 1))), (7, (.int .i64 ((a2 : Int) + 1))), (65, (.bool (decide ((j : Int) < (q.length : Int))))), (12, (.string y4)), (13, (.int .i64 0)), (80, (.bool (y4 != y4)))] [ringI encS 96 9 rb1 rs1 r q4] (by exact ⟨rfl, rfl, rfl, rfl, rfl, rfl, rfl, rfl, rfl, rfl, trivial⟩) rfl ?_
                  refine A.tn ?_
                  refine A.next (j + 1, a2 + 1, q4) (⟨by simp at hk2; omega, by simp at hj ⊢; omega, hv3⟩) (by simp only []; omega) ?_
                  exact A.here (by exact ⟨rfl, rfl, rfl, rfl, rfl, rfl, trivial⟩) (List.Sublist.refl _)
            · skip
              have p7 := e7; try simp only [decide_eq_true_eq, decide_eq_false_iff_not, beq_iff_eq, beq_eq_false_iff_ne, bne_iff_ne, bne_eq_false_iff_eq, ne_eq, Bool.and_eq_true, Bool.or_eq_true, Bool.or_eq_false_iff, Bool.not_eq_true', Bool.not_eq_false', Int.not_lt, Int.not_le, gt_iff_lt, ge_iff_le, Classical.not_not] at p7
              refine A.exit ?_
              refine A.te ?_
              refine A.te ?_
              refine A.bh ?_
              refine A.tn ?_
              refine A.seq ?_
              refine A.cutR (fun _ : Unit => [(1, (.slice A0 ((xs).length) c0)), (5, (.pointer (some ⟨rb1, 0, none⟩))), (6, (.int .i64 0)), (63, (.int .i64 (q.length : Int))), (64, (.int .i64 (j : Int))), (7, (.int .i64 (a2 : Int))), (65, (.bool (decide ((j : Int) < (q.length : Int))))), (4, (.bool ((a2 : Int) == ((xs).length : Int))))]) (fun _ => [ringI encS 96 9 rb1 rs1 r u]) (fun _ => True) ?_ (fun _ _ => ?_)
              · skip
                refine A.region ?_
                refine A.cons (A.q (some 84) (.int .i64 0) (by kernel_rfl) (qt_move rfl rfl) ?_)
                refine A.cons (A.q (some 85) (.bool true) (by kernel_rfl) (qt_pure (by kernel_rfl) fun _ => by kernel_rfl) ?_)
                refine A.cons (A.q (some 86) (.bool true) (by kernel_rfl) (qt_move rfl rfl) ?_)
                refine A.cons (A.q (some 87) (.int .i64 (a2 : Int)) (by kernel_rfl) (qt_move rfl rfl) ?_)
                refine A.cons (A.q (some 88) (.slice A0 ((xs).length) c0) (by kernel_rfl) (qt_move rfl rfl) ?_)
                refine A.cons (A.q (some 89) (.int .i64 ((xs).length : Int)) (by kernel_rfl) (qt_pure (by kernel_rfl) fun _ => by kernel_rfl) ?_)
                refine A.cons (A.q (some 90) (.bool ((a2 : Int) == ((xs).length : Int))) (by kernel_rfl) (qt_pure (by kernel_rfl) fun _ => by kernel_rfl) ?_)
                refine A.cons (A.q (some 91) (.bool ((a2 : Int) == ((xs).length : Int))) (by kernel_rfl) (qt_pure (by kernel_rfl) fun _ => by kernel_rfl) ?_)
                refine A.cons (A.q (some 92) (.bool ((a2 : Int) == ((xs).length : Int))) (by kernel_rfl) (qt_move rfl rfl) ?_)
                refine A.bool ((a2 : Int) == ((xs).length : Int)) (fun e9 => ?_) (fun e9 => ?_)
                · skip
                  refine A.sub [(1, (.slice A0 ((xs).length) c0)), (5, (.pointer (some ⟨rb1, 0, none⟩))), (6, (.int .i64 0)), (63, (.int .i64 (q.length : Int))), (64, (.int .i64 (j : Int))), (7, (.int .i64 (a2 : Int))), (65, (.bool (decide ((j : Int) < (q.length : Int))))), (84, (.int .i64 0)), (85, (.bool true)), (86, (.bool true)), (87, (.int .i64 (a2 : Int))), (88, (.slice A0 ((xs).length) c0)), (89, (.int .i64 ((xs).length : Int))), (90, (.bool true)), (91, (.bool true)), (92, (.bool true))] (by exact ⟨rfl, rfl, rfl, rfl, rfl, rfl, rfl, rfl, rfl, rfl, rfl, rfl, rfl, (congrArg (fun z => some (Value.bool z)) e9), (congrArg (fun z => some (Value.bool z)) e9), (congrArg (fun z => some (Value.bool z)) e9), trivial⟩) ?_
                  refine A.cons (A.q (some 93) (.bool true) (by kernel_rfl) (qt_call [] rfl (by kernel_rfl) rfl (fun w _ => pair_spec  w)) ?_)
                  refine A.cons (A.q (some 94) (.bool true) (by kernel_rfl) (qt_pure (by kernel_rfl) fun _ => by kernel_rfl) ?_)
                  refine A.cons (A.q (some 4) (.bool true) (by kernel_rfl) (qt_assign rfl rfl) ?_)
                  refine A.done ?_
                  exact A.meet () trivial (A.here (by exact ⟨rfl, rfl, rfl, rfl, rfl, rfl, rfl, (by rw [e9]; rfl), trivial⟩) (List.Sublist.refl _))
                · skip
                  refine A.sub [(1, (.slice A0 ((xs).length) c0)), (5, (.pointer (some ⟨rb1, 0, none⟩))), (6, (.int .i64 0)), (63, (.int .i64 (q.length : Int))), (64, (.int .i64 (j : Int))), (7, (.int .i64 (a2 : Int))), (65, (.bool (decide ((j : Int) < (q.length : Int))))), (84, (.int .i64 0)), (85, (.bool true)), (86, (.bool true)), (87, (.int .i64 (a2 : Int))), (88, (.slice A0 ((xs).length) c0)), (89, (.int .i64 ((xs).length : Int))), (90, (.bool false)), (91, (.bool false)), (92, (.bool false))] (by exact ⟨rfl, rfl, rfl, rfl, rfl, rfl, rfl, rfl, rfl, rfl, rfl, rfl, rfl, (congrArg (fun z => some (Value.bool z)) e9), (congrArg (fun z => some (Value.bool z)) e9), (congrArg (fun z => some (Value.bool z)) e9), trivial⟩) ?_
                  refine A.cons (A.jump (some 93) rfl rfl (by intro x hx; cases hx; rfl) ?_)
                  refine A.cons (A.q (some 94) (.bool false) (by kernel_rfl) (qt_pure (by kernel_rfl) fun _ => by kernel_rfl) ?_)
                  refine A.cons (A.q (some 4) (.bool false) (by kernel_rfl) (qt_assign rfl rfl) ?_)
                  refine A.done ?_
                  exact A.meet () trivial (A.here (by exact ⟨rfl, rfl, rfl, rfl, rfl, rfl, rfl, (by rw [e9]; rfl), trivial⟩) (List.Sublist.refl _))
              · skip
                refine A.tn ?_
                refine A.ret ?_
                refine A.post [(.bool ((a2 : Int) == ((xs).length : Int)))] (fun a w r s => ⟨rv_tmp r rfl, trivial⟩) (fun w1 s => ?_)
                refine ⟨congrArg Ending.returned (?_ : ((.bool ((a2 : Int) == ((xs).length : Int))) : Value) = _), s.fr⟩
                simp at *; omega

theorem ringTexts_walk (room : Int) (A0 : Option Addr) (c0 : Nat) (xs : List ByteArray) (w : World) (hl : arrAt w A0 (V.flat encS xs)) :
    Calls Try.prog 6 #[(.int .i64 room), (.slice A0 ((xs).length) c0)] w fun e w' => e = .returned (.bool true) ∧ Fr [] w w' := by
  by_cases hr : room < 1 ∨ 64 < room
  · exact ringTexts_bad room A0 c0 xs w hr
  · have h : room = (room.toNat : Int) := by omega
    rw [h]; exact ringTexts_ok room.toNat A0 c0 xs w (by omega) (by omega) hl
end Go.Proofs.Ytkfmboicmdnjpaa
