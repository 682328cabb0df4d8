/- What the functions of this layer do, proved operation by operation, for all arguments, under the conditions that each theorem states. -/
import Derived.Test.YtkfmboicmdnjpaaProg
import Derived.Test.YtkfmboicmdnjpaaRingI
namespace Go.Proofs.Ytkfmboicmdnjpaa
open Go V
set_option linter.unusedVariables false
set_option linter.unusedSimpArgs false

set_option maxRecDepth 100000 in
theorem pair_spec (w : World) :
    Calls Try.prog 20 #[] w fun e w' => e = .returned (.bool true) ∧ Fr [] w w' := by
  refine calls_of (args := []) (penv []) [] [] Try.func20 rfl rfl (look_penv _) (HS.nil w) ?_
  refine A.norm [] [] trivial rfl ?_
  refine A.seq ?_
  refine A.region ?_
  refine A.cons (A.q (some 0) (.bool false) (by kernel_rfl) (qt_assign rfl rfl) ?_)
  refine A.done ?_
  refine A.norm [(0, (.bool false))] [] (by exact ⟨rfl, trivial⟩) rfl ?_
  refine A.tn ?_
  refine A.seq ?_
  refine A.region ?_
  refine A.cons (A.call (some 11) [(.int .i64 2)] (fun x : Nat × Nat => (.tuple #[(.pointer (some ⟨x.1, 0, none⟩)), (.int .i64 0)])) (fun _ => True) (fun x => [ringI encI 93 3 x.1 x.2 2 ([] : List Int)]) (by kernel_rfl) rfl (by kernel_rfl) rfl (fun w s => (ringI_new_ok 2 w (by omega) (by omega)).mono fun e w1 ⟨b, s1, he, hr, hf, n1, n2⟩ => ⟨(b, s1), he, trivial, s.add hf hr (by have := hr.bounds.2.2.2; simpa [ringI] using this) (by intro x hx; simp [ringI] at hx; rcases hx with rfl | rfl <;> assumption)⟩) ?_)
  rintro ⟨rb1, rs1⟩ -
  refine A.cons (A.q (some 10) (.tuple #[(.pointer (some ⟨rb1, 0, none⟩)), (.int .i64 0)]) (by kernel_rfl) (qt_move rfl rfl) ?_)
  refine A.cons (A.q (some 12) (.pointer (some ⟨rb1, 0, none⟩)) (by kernel_rfl) (qt_pure (by kernel_rfl) fun _ => by kernel_rfl) ?_)
  refine A.cons (A.q (some 13) (.int .i64 0) (by kernel_rfl) (qt_pure (by kernel_rfl) fun _ => by kernel_rfl) ?_)
  refine A.cons (A.q (some 1) (.pointer (some ⟨rb1, 0, none⟩)) (by kernel_rfl) (qt_assign rfl rfl) ?_)
  refine A.cons (A.q (some 2) (.int .i64 0) (by kernel_rfl) (qt_assign rfl rfl) ?_)
  refine A.done ?_
  refine A.norm [(0, (.bool false)), (1, (.pointer (some ⟨rb1, 0, none⟩))), (2, (.int .i64 0))] [ringI encI 93 3 rb1 rs1 2 ([] : List Int)] (by exact ⟨rfl, rfl, rfl, trivial⟩) rfl ?_
  refine A.tn ?_
  refine A.seq ?_
  refine A.region ?_
  refine A.cons (A.q (some 14) (.pointer (some ⟨rb1, 0, none⟩)) (by kernel_rfl) (qt_move rfl rfl) ?_)
  refine A.cons (A.call (some 15) [(.pointer (some ⟨rb1, 0, none⟩)), (.int .i64 1)] (fun _ : Unit => (.int .i64 0)) (fun _ => True) (fun _ => [ringI encI 93 3 rb1 rs1 2 ([1])]) (by kernel_rfl) rfl (by kernel_rfl) rfl (fun w s => (ringI_push rb1 rs1 2 ([] : List Int) 1 w (s.mem (i := 0) rfl) (by first | omega | (simp; done) | (simp; omega) | grind)).mono fun e w1 ⟨he, hr, hf⟩ => ⟨(), he, trivial, s.turn (i := 0) rfl hf hr (by have := (s.mem (i := 0) rfl : RingH _ _ _ _ _ _ _ _).bounds.2.2.2; simpa [ringI] using this) (fun _ h => .inl h)⟩) (fun _ _ => ?_))
  refine A.cons (A.q (some 16) (.pointer (some ⟨rb1, 0, none⟩)) (by kernel_rfl) (qt_move rfl rfl) ?_)
  refine A.cons (A.call (some 17) [(.pointer (some ⟨rb1, 0, none⟩)), (.int .i64 2)] (fun _ : Unit => (.int .i64 0)) (fun _ => True) (fun _ => [ringI encI 93 3 rb1 rs1 2 ([1, 2])]) (by kernel_rfl) rfl (by kernel_rfl) rfl (fun w s => (ringI_push rb1 rs1 2 ([1]) 2 w (s.mem (i := 0) rfl) (by first | omega | (simp; done) | (simp; omega) | grind)).mono fun e w1 ⟨he, hr, hf⟩ => ⟨(), he, trivial, s.turn (i := 0) rfl hf hr (by have := (s.mem (i := 0) rfl : RingH _ _ _ _ _ _ _ _).bounds.2.2.2; simpa [ringI] using this) (fun _ h => .inl h)⟩) (fun _ _ => ?_))
  refine A.cons (A.q (some 18) (.pointer (some ⟨rb1, 0, none⟩)) (by kernel_rfl) (qt_move rfl rfl) ?_)
  refine A.cons (A.q (some 19) (.int .i64 5) (by kernel_rfl) (qt_call [(.pointer (some ⟨rb1, 0, none⟩)), (.int .i64 3)] rfl (by kernel_rfl) rfl (fun w s => ringI_pushFull rb1 rs1 2 ([1, 2]) 3 w (s.mem (i := 0) rfl) (by rfl))) ?_)
  refine A.cons (A.q (some 3) (.int .i64 0) (by kernel_rfl) (qt_assign rfl rfl) ?_)
  refine A.cons (A.q (some 4) (.int .i64 0) (by kernel_rfl) (qt_assign rfl rfl) ?_)
  refine A.cons (A.q (some 5) (.int .i64 5) (by kernel_rfl) (qt_assign rfl rfl) ?_)
  refine A.done ?_
  refine A.norm [(0, (.bool false)), (1, (.pointer (some ⟨rb1, 0, none⟩))), (2, (.int .i64 0)), (3, (.int .i64 0)), (4, (.int .i64 0)), (5, (.int .i64 5))] [ringI encI 93 3 rb1 rs1 2 ([1, 2])] (by exact ⟨rfl, rfl, rfl, rfl, rfl, rfl, trivial⟩) rfl ?_
  refine A.tn ?_
  refine A.seq ?_
  refine A.region ?_
  refine A.cons (A.q (some 21) (.pointer (some ⟨rb1, 0, none⟩)) (by kernel_rfl) (qt_move rfl rfl) ?_)
  refine A.cons (A.call (some 22) [(.pointer (some ⟨rb1, 0, none⟩))] (fun _ : Unit => (.tuple #[(.int .i64 1), (.int .i64 0)])) (fun _ => True) (fun _ => [ringI encI 93 3 rb1 rs1 2 ([2])]) (by kernel_rfl) rfl (by kernel_rfl) rfl (fun w s => (ringI_pop rb1 rs1 2 ([2]) 1 w (s.mem (i := 0) rfl)).mono fun e w1 ⟨he, hr, hf⟩ => ⟨(), he, trivial, s.turn (i := 0) rfl hf hr (by have := (s.mem (i := 0) rfl : RingH _ _ _ _ _ _ _ _).bounds.2.2.2; simpa [ringI] using this) (fun _ h => .inl h)⟩) (fun _ _ => ?_))
  refine A.cons (A.q (some 20) (.tuple #[(.int .i64 1), (.int .i64 0)]) (by kernel_rfl) (qt_move rfl rfl) ?_)
  refine A.cons (A.q (some 23) (.int .i64 1) (by kernel_rfl) (qt_pure (by kernel_rfl) fun _ => by kernel_rfl) ?_)
  refine A.cons (A.q (some 24) (.int .i64 0) (by kernel_rfl) (qt_pure (by kernel_rfl) fun _ => by kernel_rfl) ?_)
  refine A.cons (A.q (some 6) (.int .i64 1) (by kernel_rfl) (qt_assign rfl rfl) ?_)
  refine A.cons (A.q (some 7) (.int .i64 0) (by kernel_rfl) (qt_assign rfl rfl) ?_)
  refine A.done ?_
  refine A.norm [(0, (.bool false)), (1, (.pointer (some ⟨rb1, 0, none⟩))), (2, (.int .i64 0)), (3, (.int .i64 0)), (4, (.int .i64 0)), (5, (.int .i64 5)), (6, (.int .i64 1)), (7, (.int .i64 0))] [ringI encI 93 3 rb1 rs1 2 ([2])] (by exact ⟨rfl, rfl, rfl, rfl, rfl, rfl, rfl, rfl, trivial⟩) rfl ?_
  refine A.tn ?_
  refine A.seq ?_
  refine A.region ?_
  refine A.cons (A.q (some 26) (.pointer (some ⟨rb1, 0, none⟩)) (by kernel_rfl) (qt_move rfl rfl) ?_)
  refine A.cons (A.q (some 27) (.tuple #[(.int .i64 2), (.int .i64 0)]) (by kernel_rfl) (qt_call [(.pointer (some ⟨rb1, 0, none⟩)), (.int .i64 0)] rfl (by kernel_rfl) rfl (fun w s => ringI_at rb1 rs1 2 0 ([2]) 2 w (s.mem (i := 0) rfl) rfl)) ?_)
  refine A.cons (A.q (some 25) (.tuple #[(.int .i64 2), (.int .i64 0)]) (by kernel_rfl) (qt_move rfl rfl) ?_)
  refine A.cons (A.q (some 28) (.int .i64 2) (by kernel_rfl) (qt_pure (by kernel_rfl) fun _ => by kernel_rfl) ?_)
  refine A.cons (A.q (some 29) (.int .i64 0) (by kernel_rfl) (qt_pure (by kernel_rfl) fun _ => by kernel_rfl) ?_)
  refine A.cons (A.q (some 8) (.int .i64 2) (by kernel_rfl) (qt_assign rfl rfl) ?_)
  refine A.cons (A.q (some 9) (.int .i64 0) (by kernel_rfl) (qt_assign rfl rfl) ?_)
  refine A.done ?_
  refine A.norm [(0, (.bool false)), (1, (.pointer (some ⟨rb1, 0, none⟩))), (2, (.int .i64 0)), (3, (.int .i64 0)), (4, (.int .i64 0)), (5, (.int .i64 5)), (6, (.int .i64 1)), (7, (.int .i64 0)), (8, (.int .i64 2)), (9, (.int .i64 0))] [ringI encI 93 3 rb1 rs1 2 ([2])] (by exact ⟨rfl, rfl, rfl, rfl, rfl, rfl, rfl, rfl, rfl, rfl, trivial⟩) rfl ?_
  refine A.tn ?_
  refine A.seq ?_
  refine A.region ?_
  refine A.cons (A.q (some 30) (.int .i64 0) (by kernel_rfl) (qt_move rfl rfl) ?_)
  refine A.cons (A.q (some 31) (.bool true) (by kernel_rfl) (qt_pure (by kernel_rfl) fun _ => by kernel_rfl) ?_)
  refine A.cons (A.q (some 32) (.bool true) (by kernel_rfl) (qt_move rfl rfl) ?_)
  refine A.cons (A.q (some 33) (.int .i64 0) (by kernel_rfl) (qt_move rfl rfl) ?_)
  refine A.cons (A.q (some 34) (.bool true) (by kernel_rfl) (qt_pure (by kernel_rfl) fun _ => by kernel_rfl) ?_)
  refine A.cons (A.q (some 35) (.bool true) (by kernel_rfl) (qt_pure (by kernel_rfl) fun _ => by kernel_rfl) ?_)
  refine A.cons (A.q (some 36) (.bool true) (by kernel_rfl) (qt_move rfl rfl) ?_)
  refine A.cons (A.q (some 37) (.int .i64 0) (by kernel_rfl) (qt_move rfl rfl) ?_)
  refine A.cons (A.q (some 38) (.bool true) (by kernel_rfl) (qt_pure (by kernel_rfl) fun _ => by kernel_rfl) ?_)
  refine A.cons (A.q (some 39) (.bool true) (by kernel_rfl) (qt_pure (by kernel_rfl) fun _ => by kernel_rfl) ?_)
  refine A.cons (A.q (some 40) (.bool true) (by kernel_rfl) (qt_move rfl rfl) ?_)
  refine A.cons (A.q (some 41) (.int .i64 5) (by kernel_rfl) (qt_move rfl rfl) ?_)
  refine A.cons (A.q (some 42) (.bool true) (by kernel_rfl) (qt_pure (by kernel_rfl) fun _ => by kernel_rfl) ?_)
  refine A.cons (A.q (some 43) (.bool true) (by kernel_rfl) (qt_pure (by kernel_rfl) fun _ => by kernel_rfl) ?_)
  refine A.cons (A.q (some 44) (.bool true) (by kernel_rfl) (qt_move rfl rfl) ?_)
  refine A.cons (A.q (some 45) (.int .i64 0) (by kernel_rfl) (qt_move rfl rfl) ?_)
  refine A.cons (A.q (some 46) (.bool true) (by kernel_rfl) (qt_pure (by kernel_rfl) fun _ => by kernel_rfl) ?_)
  refine A.cons (A.q (some 47) (.bool true) (by kernel_rfl) (qt_pure (by kernel_rfl) fun _ => by kernel_rfl) ?_)
  refine A.cons (A.q (some 48) (.bool true) (by kernel_rfl) (qt_move rfl rfl) ?_)
  refine A.cons (A.q (some 49) (.int .i64 1) (by kernel_rfl) (qt_move rfl rfl) ?_)
  refine A.cons (A.q (some 50) (.bool true) (by kernel_rfl) (qt_pure (by kernel_rfl) fun _ => by kernel_rfl) ?_)
  refine A.cons (A.q (some 51) (.bool true) (by kernel_rfl) (qt_pure (by kernel_rfl) fun _ => by kernel_rfl) ?_)
  refine A.cons (A.q (some 52) (.bool true) (by kernel_rfl) (qt_move rfl rfl) ?_)
  refine A.cons (A.q (some 53) (.int .i64 0) (by kernel_rfl) (qt_move rfl rfl) ?_)
  refine A.cons (A.q (some 54) (.bool true) (by kernel_rfl) (qt_pure (by kernel_rfl) fun _ => by kernel_rfl) ?_)
  refine A.cons (A.q (some 55) (.bool true) (by kernel_rfl) (qt_pure (by kernel_rfl) fun _ => by kernel_rfl) ?_)
  refine A.cons (A.q (some 56) (.bool true) (by kernel_rfl) (qt_move rfl rfl) ?_)
  refine A.cons (A.q (some 57) (.int .i64 2) (by kernel_rfl) (qt_move rfl rfl) ?_)
  refine A.cons (A.q (some 58) (.bool true) (by kernel_rfl) (qt_pure (by kernel_rfl) fun _ => by kernel_rfl) ?_)
  refine A.cons (A.q (some 59) (.bool true) (by kernel_rfl) (qt_pure (by kernel_rfl) fun _ => by kernel_rfl) ?_)
  refine A.cons (A.q (some 60) (.bool true) (by kernel_rfl) (qt_move rfl rfl) ?_)
  refine A.cons (A.q (some 61) (.pointer (some ⟨rb1, 0, none⟩)) (by kernel_rfl) (qt_move rfl rfl) ?_)
  refine A.cons (A.q (some 62) (.int .i64 1) (by kernel_rfl) (qt_call [(.pointer (some ⟨rb1, 0, none⟩))] rfl (by kernel_rfl) rfl (fun w s => ringI_len rb1 rs1 2 ([2]) w (s.mem (i := 0) rfl))) ?_)
  refine A.cons (A.q (some 63) (.bool true) (by kernel_rfl) (qt_pure (by kernel_rfl) fun _ => by kernel_rfl) ?_)
  refine A.cons (A.q (some 64) (.bool true) (by kernel_rfl) (qt_pure (by kernel_rfl) fun _ => by kernel_rfl) ?_)
  refine A.cons (A.q (some 65) (.bool true) (by kernel_rfl) (qt_move rfl rfl) ?_)
  refine A.cons (A.q (some 66) (.pointer (some ⟨rb1, 0, none⟩)) (by kernel_rfl) (qt_move rfl rfl) ?_)
  refine A.cons (A.q (some 67) (.int .i64 1) (by kernel_rfl) (qt_call [(.pointer (some ⟨rb1, 0, none⟩))] rfl (by kernel_rfl) rfl (fun w s => ringI_room rb1 rs1 2 ([2]) w (s.mem (i := 0) rfl))) ?_)
  refine A.cons (A.q (some 68) (.bool true) (by kernel_rfl) (qt_pure (by kernel_rfl) fun _ => by kernel_rfl) ?_)
  refine A.cons (A.q (some 69) (.bool true) (by kernel_rfl) (qt_pure (by kernel_rfl) fun _ => by kernel_rfl) ?_)
  refine A.cons (A.q (some 0) (.bool true) (by kernel_rfl) (qt_assign rfl rfl) ?_)
  refine A.done ?_
  refine A.norm [(0, (.bool true)), (1, (.pointer (some ⟨rb1, 0, none⟩))), (2, (.int .i64 0)), (3, (.int .i64 0)), (4, (.int .i64 0)), (5, (.int .i64 5)), (6, (.int .i64 1)), (7, (.int .i64 0)), (8, (.int .i64 2)), (9, (.int .i64 0))] [ringI encI 93 3 rb1 rs1 2 ([2])] (by exact ⟨rfl, rfl, rfl, rfl, rfl, rfl, rfl, rfl, rfl, rfl, trivial⟩) rfl ?_
  refine A.tn ?_
  refine A.ret ?_
  refine A.post [(.bool true)] (fun a w r s => ⟨rv_tmp r rfl, trivial⟩) (fun w1 s => ?_)
  exact ⟨rfl, s.fr⟩

set_option maxRecDepth 100000 in
theorem ringNil_walk (i : Int) (w : World) :
    Calls Try.prog 7 #[(.int .i64 i)] w fun e w' => e = .returned (.bool true) ∧ Fr [] w w' := by
  refine calls_of (args := [(.int .i64 i)]) (penv [(.int .i64 i)]) [] [] Try.func7 rfl rfl (look_penv _) (HS.nil w) ?_
  refine A.norm [(0, (.int .i64 i))] [] (by exact ⟨rfl, trivial⟩) rfl ?_
  refine A.seq ?_
  refine A.region ?_
  refine A.cons (A.q (some 2) (.bool false) (by kernel_rfl) (qt_assign rfl rfl) ?_)
  refine A.done ?_
  refine A.norm [(0, (.int .i64 i)), (2, (.bool false))] [] (by exact ⟨rfl, rfl, trivial⟩) rfl ?_
  refine A.tn ?_
  refine A.seq ?_
  refine A.region ?_
  refine A.cons (A.q (some 3) (.pointer none) (by kernel_rfl) (qt_assign rfl rfl) ?_)
  refine A.done ?_
  refine A.norm [(0, (.int .i64 i)), (2, (.bool false)), (3, (.pointer none))] [] (by exact ⟨rfl, rfl, rfl, trivial⟩) rfl ?_
  refine A.tn ?_
  refine A.seq ?_
  refine A.region ?_
  refine A.cons (A.q (some 9) (.pointer none) (by kernel_rfl) (qt_move rfl rfl) ?_)
  refine A.cons (A.q (some 10) (.tuple #[(.int .i64 0), (.int .i64 7)]) (by kernel_rfl) (qt_call [(.pointer none)] rfl (by kernel_rfl) rfl (fun w _ => ringI_pop_nil w)) ?_)
  refine A.cons (A.q (some 8) (.tuple #[(.int .i64 0), (.int .i64 7)]) (by kernel_rfl) (qt_move rfl rfl) ?_)
  refine A.cons (A.q (some 11) (.int .i64 0) (by kernel_rfl) (qt_pure (by kernel_rfl) fun _ => by kernel_rfl) ?_)
  refine A.cons (A.q (some 12) (.int .i64 7) (by kernel_rfl) (qt_pure (by kernel_rfl) fun _ => by kernel_rfl) ?_)
  refine A.cons (A.q (some 4) (.int .i64 0) (by kernel_rfl) (qt_assign rfl rfl) ?_)
  refine A.cons (A.q (some 5) (.int .i64 7) (by kernel_rfl) (qt_assign rfl rfl) ?_)
  refine A.done ?_
  refine A.norm [(0, (.int .i64 i)), (2, (.bool false)), (3, (.pointer none)), (4, (.int .i64 0)), (5, (.int .i64 7))] [] (by exact ⟨rfl, rfl, rfl, rfl, rfl, trivial⟩) rfl ?_
  refine A.tn ?_
  refine A.seq ?_
  refine A.region ?_
  refine A.cons (A.q (some 14) (.pointer none) (by kernel_rfl) (qt_move rfl rfl) ?_)
  refine A.cons (A.q (some 15) (.int .i64 i) (by kernel_rfl) (qt_move rfl rfl) ?_)
  refine A.cons (A.q (some 16) (.tuple #[(.int .i64 0), (.int .i64 7)]) (by kernel_rfl) (qt_call [(.pointer none), (.int .i64 i)] rfl (by kernel_rfl) rfl (fun w _ => ringI_at_nil _ w)) ?_)
  refine A.cons (A.q (some 13) (.tuple #[(.int .i64 0), (.int .i64 7)]) (by kernel_rfl) (qt_move rfl rfl) ?_)
  refine A.cons (A.q (some 17) (.int .i64 0) (by kernel_rfl) (qt_pure (by kernel_rfl) fun _ => by kernel_rfl) ?_)
  refine A.cons (A.q (some 18) (.int .i64 7) (by kernel_rfl) (qt_pure (by kernel_rfl) fun _ => by kernel_rfl) ?_)
  refine A.cons (A.q (some 6) (.int .i64 0) (by kernel_rfl) (qt_assign rfl rfl) ?_)
  refine A.cons (A.q (some 7) (.int .i64 7) (by kernel_rfl) (qt_assign rfl rfl) ?_)
  refine A.done ?_
  refine A.norm [(0, (.int .i64 i)), (2, (.bool false)), (3, (.pointer none)), (4, (.int .i64 0)), (5, (.int .i64 7)), (6, (.int .i64 0)), (7, (.int .i64 7))] [] (by exact ⟨rfl, rfl, rfl, rfl, rfl, rfl, rfl, trivial⟩) rfl ?_
  refine A.tn ?_
  refine A.seq ?_
  refine A.region ?_
  refine A.cons (A.q (some 19) (.int .i64 0) (by kernel_rfl) (qt_move rfl rfl) ?_)
  refine A.cons (A.q (some 20) (.bool true) (by kernel_rfl) (qt_pure (by kernel_rfl) fun _ => by kernel_rfl) ?_)
  refine A.cons (A.q (some 21) (.bool true) (by kernel_rfl) (qt_move rfl rfl) ?_)
  refine A.cons (A.q (some 22) (.int .i64 0) (by kernel_rfl) (qt_move rfl rfl) ?_)
  refine A.cons (A.q (some 23) (.bool true) (by kernel_rfl) (qt_pure (by kernel_rfl) fun _ => by kernel_rfl) ?_)
  refine A.cons (A.q (some 24) (.bool true) (by kernel_rfl) (qt_pure (by kernel_rfl) fun _ => by kernel_rfl) ?_)
  refine A.cons (A.q (some 25) (.bool true) (by kernel_rfl) (qt_move rfl rfl) ?_)
  refine A.cons (A.q (some 26) (.int .i64 7) (by kernel_rfl) (qt_move rfl rfl) ?_)
  refine A.cons (A.q (some 27) (.bool true) (by kernel_rfl) (qt_pure (by kernel_rfl) fun _ => by kernel_rfl) ?_)
  refine A.cons (A.q (some 28) (.bool true) (by kernel_rfl) (qt_pure (by kernel_rfl) fun _ => by kernel_rfl) ?_)
  refine A.cons (A.q (some 29) (.bool true) (by kernel_rfl) (qt_move rfl rfl) ?_)
  refine A.cons (A.q (some 30) (.int .i64 7) (by kernel_rfl) (qt_move rfl rfl) ?_)
  refine A.cons (A.q (some 31) (.bool true) (by kernel_rfl) (qt_pure (by kernel_rfl) fun _ => by kernel_rfl) ?_)
  refine A.cons (A.q (some 32) (.bool true) (by kernel_rfl) (qt_pure (by kernel_rfl) fun _ => by kernel_rfl) ?_)
  refine A.cons (A.q (some 33) (.bool true) (by kernel_rfl) (qt_move rfl rfl) ?_)
  refine A.cons (A.q (some 34) (.pointer none) (by kernel_rfl) (qt_move rfl rfl) ?_)
  refine A.cons (A.q (some 35) (.int .i64 i) (by kernel_rfl) (qt_move rfl rfl) ?_)
  refine A.cons (A.q (some 36) (.int .i64 7) (by kernel_rfl) (qt_call [(.pointer none), (.int .i64 i)] rfl (by kernel_rfl) rfl (fun w _ => ringI_push_nil _ w)) ?_)
  refine A.cons (A.q (some 37) (.bool true) (by kernel_rfl) (qt_pure (by kernel_rfl) fun _ => by kernel_rfl) ?_)
  refine A.cons (A.q (some 38) (.bool true) (by kernel_rfl) (qt_pure (by kernel_rfl) fun _ => by kernel_rfl) ?_)
  refine A.cons (A.q (some 39) (.bool true) (by kernel_rfl) (qt_move rfl rfl) ?_)
  refine A.cons (A.q (some 40) (.pointer none) (by kernel_rfl) (qt_move rfl rfl) ?_)
  refine A.cons (A.q (some 41) (.int .i64 0) (by kernel_rfl) (qt_call [(.pointer none)] rfl (by kernel_rfl) rfl (fun w _ => ringI_len_nil w)) ?_)
  refine A.cons (A.q (some 42) (.bool true) (by kernel_rfl) (qt_pure (by kernel_rfl) fun _ => by kernel_rfl) ?_)
  refine A.cons (A.q (some 43) (.bool true) (by kernel_rfl) (qt_pure (by kernel_rfl) fun _ => by kernel_rfl) ?_)
  refine A.cons (A.q (some 44) (.bool true) (by kernel_rfl) (qt_move rfl rfl) ?_)
  refine A.cons (A.q (some 45) (.pointer none) (by kernel_rfl) (qt_move rfl rfl) ?_)
  refine A.cons (A.q (some 46) (.int .i64 0) (by kernel_rfl) (qt_call [(.pointer none)] rfl (by kernel_rfl) rfl (fun w _ => ringI_room_nil w)) ?_)
  refine A.cons (A.q (some 47) (.bool true) (by kernel_rfl) (qt_pure (by kernel_rfl) fun _ => by kernel_rfl) ?_)
  refine A.cons (A.q (some 48) (.bool true) (by kernel_rfl) (qt_pure (by kernel_rfl) fun _ => by kernel_rfl) ?_)
  refine A.cons (A.q (some 49) (.bool true) (by kernel_rfl) (qt_move rfl rfl) ?_)
  refine A.cons (A.q (some 50) (.bool true) (by kernel_rfl) (qt_call [] rfl (by kernel_rfl) rfl (fun w _ => pair_spec  w)) ?_)
  refine A.cons (A.q (some 51) (.bool true) (by kernel_rfl) (qt_pure (by kernel_rfl) fun _ => by kernel_rfl) ?_)
  refine A.cons (A.q (some 2) (.bool true) (by kernel_rfl) (qt_assign rfl rfl) ?_)
  refine A.done ?_
  refine A.norm [(0, (.int .i64 i)), (2, (.bool true)), (3, (.pointer none)), (4, (.int .i64 0)), (5, (.int .i64 7)), (6, (.int .i64 0)), (7, (.int .i64 7))] [] (by exact ⟨rfl, rfl, rfl, rfl, rfl, rfl, rfl, trivial⟩) rfl ?_
  refine A.tn ?_
  refine A.ret ?_
  refine A.post [(.bool true)] (fun a w r s => ⟨rv_tmp r rfl, trivial⟩) (fun w1 s => ?_)
  exact ⟨rfl, s.fr⟩

set_option maxRecDepth 100000 in
theorem ringActs_bad (room : Int) (A0 : Option Addr) (c0 : Nat) (xs : List Int) (w : World) (hr : room < 1 ∨ 64 < room) :
    Calls Try.prog 5 #[(.int .i64 room), (.slice A0 ((xs).length) c0)] w fun e w' => e = .returned (.bool true) ∧ Fr [] w w' := by
  refine calls_of (args := [(.int .i64 room), (.slice A0 ((xs).length) c0)]) (penv [(.int .i64 room), (.slice A0 ((xs).length) c0)]) [] [] Try.func5 rfl rfl (look_penv _) (HS.nil w) ?_
  refine A.norm [(0, (.int .i64 room)), (1, (.slice A0 ((xs).length) c0))] [] (by exact ⟨rfl, rfl, trivial⟩) rfl ?_
  refine A.seq ?_
  refine A.region ?_
  refine A.cons (A.q (some 4) (.bool false) (by kernel_rfl) (qt_assign rfl rfl) ?_)
  refine A.done ?_
  refine A.norm [(0, (.int .i64 room)), (1, (.slice A0 ((xs).length) c0)), (4, (.bool false))] [] (by exact ⟨rfl, rfl, rfl, trivial⟩) rfl ?_
  refine A.tn ?_
  refine A.seq ?_
  refine A.seq ?_
  refine A.region ?_
  refine A.cons (A.q (some 20) (.slice A0 ((xs).length) c0) (by kernel_rfl) (qt_move rfl rfl) ?_)
  refine A.cons (A.q (some 21) (.int .i64 ((xs).length : Int)) (by kernel_rfl) (qt_pure (by kernel_rfl) fun _ => by kernel_rfl) ?_)
  refine A.cons (A.q (some 22) (.bool (decide (((xs).length : Int) > 200))) (by kernel_rfl) (qt_pure (by kernel_rfl) fun _ => by kernel_rfl) ?_)
  refine A.done ?_
  refine A.norm [(0, (.int .i64 room)), (1, (.slice A0 ((xs).length) c0)), (4, (.bool false)), (22, (.bool (decide (((xs).length : Int) > 200))))] [] (by exact ⟨rfl, rfl, rfl, rfl, trivial⟩) rfl ?_
  refine A.tn ?_
  refine A.cond (E := decide (((xs).length : Int) > 200)) rfl (fun e1 => ?_) (fun e1 => ?_)
  · skip
    have p1 := e1; try simp only [decide_eq_true_eq, decide_eq_false_iff_not, beq_iff_eq, beq_eq_false_iff_ne, bne_iff_ne, bne_eq_false_iff_eq, ne_eq, Bool.and_eq_true, Bool.or_eq_true, Bool.or_eq_false_iff, Bool.not_eq_true', Bool.not_eq_false', Int.not_lt, Int.not_le, gt_iff_lt, ge_iff_le, Classical.not_not] at p1
    refine A.seq ?_
    refine A.region ?_
    refine A.cons (A.q (some 23) (.bool true) (by kernel_rfl) (qt_call [] rfl (by kernel_rfl) rfl (fun w _ => pair_spec  w)) ?_)
    refine A.cons (A.q (some 4) (.bool true) (by kernel_rfl) (qt_assign rfl rfl) ?_)
    refine A.done ?_
    refine A.norm [(0, (.int .i64 room)), (1, (.slice A0 ((xs).length) c0)), (4, (.bool true)), (22, (.bool (decide (((xs).length : Int) > 200))))] [] (by exact ⟨rfl, rfl, rfl, rfl, trivial⟩) rfl ?_
    refine A.tn ?_
    refine A.ret ?_
    refine A.tr ?_
    refine A.post [(.bool true)] (fun a w r s => ⟨rv_tmp r rfl, trivial⟩) (fun w1 s => ?_)
    exact ⟨rfl, s.fr⟩
  · skip
    have p1 := e1; try simp only [decide_eq_true_eq, decide_eq_false_iff_not, beq_iff_eq, beq_eq_false_iff_ne, bne_iff_ne, bne_eq_false_iff_eq, ne_eq, Bool.and_eq_true, Bool.or_eq_true, Bool.or_eq_false_iff, Bool.not_eq_true', Bool.not_eq_false', Int.not_lt, Int.not_le, gt_iff_lt, ge_iff_le, Classical.not_not] at p1
    refine A.skip ?_
    refine A.tn ?_
    refine A.seq ?_
    refine A.region ?_
    refine A.cons (A.q (some 25) (.int .i64 room) (by kernel_rfl) (qt_move rfl rfl) ?_)
    refine A.cons (A.q (some 26) (.tuple #[(.pointer none), (.int .i64 1)]) (by kernel_rfl) (qt_call [(.int .i64 room)] rfl (by kernel_rfl) rfl (fun w _ => ringI_new_bad room w (by assumption))) ?_)
    refine A.cons (A.q (some 24) (.tuple #[(.pointer none), (.int .i64 1)]) (by kernel_rfl) (qt_move rfl rfl) ?_)
    refine A.cons (A.q (some 27) (.pointer none) (by kernel_rfl) (qt_pure (by kernel_rfl) fun _ => by kernel_rfl) ?_)
    refine A.cons (A.q (some 28) (.int .i64 1) (by kernel_rfl) (qt_pure (by kernel_rfl) fun _ => by kernel_rfl) ?_)
    refine A.cons (A.q (some 5) (.pointer none) (by kernel_rfl) (qt_assign rfl rfl) ?_)
    refine A.cons (A.q (some 6) (.int .i64 1) (by kernel_rfl) (qt_assign rfl rfl) ?_)
    refine A.done ?_
    refine A.norm [(0, (.int .i64 room)), (1, (.slice A0 ((xs).length) c0)), (4, (.bool false)), (22, (.bool (decide (((xs).length : Int) > 200)))), (5, (.pointer none)), (6, (.int .i64 1))] [] (by exact ⟨rfl, rfl, rfl, rfl, rfl, rfl, trivial⟩) rfl ?_
    refine A.tn ?_
    refine A.seq ?_
    refine A.seq ?_
    refine A.cutR (fun _ : Unit => [(0, (.int .i64 room)), (1, (.slice A0 ((xs).length) c0)), (4, (.bool false)), (22, (.bool (decide (((xs).length : Int) > 200)))), (5, (.pointer none)), (6, (.int .i64 1)), (34, (.bool ((decide (room < 1)) || (decide (room > 64)))))]) (fun _ => []) (fun _ => True) ?_ (fun _ _ => ?_)
    · skip
      refine A.region ?_
      refine A.cons (A.q (some 29) (.int .i64 room) (by kernel_rfl) (qt_move rfl rfl) ?_)
      refine A.cons (A.q (some 30) (.bool (decide (room < 1))) (by kernel_rfl) (qt_pure (by kernel_rfl) fun _ => by kernel_rfl) ?_)
      refine A.cons (A.q (some 31) (.bool (decide (room < 1))) (by kernel_rfl) (qt_move rfl rfl) ?_)
      refine A.bool (decide (room < 1)) (fun e2 => ?_) (fun e2 => ?_)
      · skip
        refine A.sub [(0, (.int .i64 room)), (1, (.slice A0 ((xs).length) c0)), (4, (.bool false)), (22, (.bool (decide (((xs).length : Int) > 200)))), (5, (.pointer none)), (6, (.int .i64 1)), (29, (.int .i64 room)), (30, (.bool true)), (31, (.bool true))] (by exact ⟨rfl, rfl, rfl, rfl, rfl, rfl, rfl, (congrArg (fun z => some (Value.bool z)) e2), (congrArg (fun z => some (Value.bool z)) e2), trivial⟩) ?_
        refine A.cons (A.jump (some 32) rfl rfl (by intro x hx; cases hx; rfl) ?_)
        refine A.cons (A.jump (some 33) rfl rfl (by intro x hx; cases hx; rfl) ?_)
        refine A.cons (A.q (some 34) (.bool true) (by kernel_rfl) (qt_pure (by kernel_rfl) fun _ => by kernel_rfl) ?_)
        refine A.done ?_
        exact A.meet () trivial (A.here (by exact ⟨rfl, rfl, rfl, rfl, rfl, rfl, (by rw [e2]; rfl), trivial⟩) (List.Sublist.refl _))
      · skip
        refine A.sub [(0, (.int .i64 room)), (1, (.slice A0 ((xs).length) c0)), (4, (.bool false)), (22, (.bool (decide (((xs).length : Int) > 200)))), (5, (.pointer none)), (6, (.int .i64 1)), (29, (.int .i64 room)), (30, (.bool false)), (31, (.bool false))] (by exact ⟨rfl, rfl, rfl, rfl, rfl, rfl, rfl, (congrArg (fun z => some (Value.bool z)) e2), (congrArg (fun z => some (Value.bool z)) e2), trivial⟩) ?_
        refine A.cons (A.q (some 32) (.int .i64 room) (by kernel_rfl) (qt_move rfl rfl) ?_)
        refine A.cons (A.q (some 33) (.bool (decide (room > 64))) (by kernel_rfl) (qt_pure (by kernel_rfl) fun _ => by kernel_rfl) ?_)
        refine A.cons (A.q (some 34) (.bool (decide (room > 64))) (by kernel_rfl) (qt_pure (by kernel_rfl) fun _ => by kernel_rfl) ?_)
        refine A.done ?_
        exact A.meet () trivial (A.here (by exact ⟨rfl, rfl, rfl, rfl, rfl, rfl, (by rw [e2]; rfl), trivial⟩) (List.Sublist.refl _))
    · skip
      refine A.tn ?_
      refine A.cond (E := (decide (room < 1)) || (decide (room > 64))) rfl (fun e3 => ?_) (fun e3 => ?_)
      · skip
        have p3 := e3; try simp only [decide_eq_true_eq, decide_eq_false_iff_not, beq_iff_eq, beq_eq_false_iff_ne, bne_iff_ne, bne_eq_false_iff_eq, ne_eq, Bool.and_eq_true, Bool.or_eq_true, Bool.or_eq_false_iff, Bool.not_eq_true', Bool.not_eq_false', Int.not_lt, Int.not_le, gt_iff_lt, ge_iff_le, Classical.not_not] at p3
        refine A.seq ?_
        refine A.region ?_
        refine A.cons (A.q (some 35) (.int .i64 1) (by kernel_rfl) (qt_move rfl rfl) ?_)
        refine A.cons (A.q (some 36) (.bool true) (by kernel_rfl) (qt_pure (by kernel_rfl) fun _ => by kernel_rfl) ?_)
        refine A.cons (A.q (some 37) (.bool true) (by kernel_rfl) (qt_move rfl rfl) ?_)
        refine A.cons (A.q (some 38) (.pointer none) (by kernel_rfl) (qt_move rfl rfl) ?_)
        refine A.cons (A.q (some 39) (.bool true) (by kernel_rfl) (qt_pure (by kernel_rfl) fun _ => by kernel_rfl) ?_)
        refine A.cons (A.q (some 40) (.bool true) (by kernel_rfl) (qt_pure (by kernel_rfl) fun _ => by kernel_rfl) ?_)
        refine A.cons (A.q (some 41) (.bool true) (by kernel_rfl) (qt_move rfl rfl) ?_)
        refine A.cons (A.q (some 42) (.bool true) (by kernel_rfl) (qt_call [] rfl (by kernel_rfl) rfl (fun w _ => pair_spec  w)) ?_)
        refine A.cons (A.q (some 43) (.bool true) (by kernel_rfl) (qt_pure (by kernel_rfl) fun _ => by kernel_rfl) ?_)
        refine A.cons (A.q (some 4) (.bool true) (by kernel_rfl) (qt_assign rfl rfl) ?_)
        refine A.done ?_
        refine A.norm [(0, (.int .i64 room)), (1, (.slice A0 ((xs).length) c0)), (4, (.bool true)), (22, (.bool (decide (((xs).length : Int) > 200)))), (5, (.pointer none)), (6, (.int .i64 1)), (34, (.bool ((decide (room < 1)) || (decide (room > 64)))))] [] (by exact ⟨rfl, rfl, rfl, rfl, rfl, rfl, rfl, trivial⟩) rfl ?_
        refine A.tn ?_
        refine A.ret ?_
        refine A.tr ?_
        refine A.post [(.bool true)] (fun a w r s => ⟨rv_tmp r rfl, trivial⟩) (fun w1 s => ?_)
        exact ⟨rfl, s.fr⟩
      · exact absurd e3 (by first | (simp; done) | (simp; omega) | omega | grind)

set_option maxRecDepth 100000 in
theorem ringActs_ok (r : Nat) (A0 : Option Addr) (c0 : Nat) (xs : List Int) (w : World) (h1 : 1 ≤ r) (h2 : r ≤ 64) (hl : arrAt w A0 (V.flat encI xs)) :
    Calls Try.prog 5 #[(.int .i64 (r : Int)), (.slice A0 ((xs).length) c0)] w fun e w' => e = .returned (.bool true) ∧ Fr [] w w' := by
  refine calls_of (args := [(.int .i64 (r : Int)), (.slice A0 ((xs).length) c0)]) (penv [(.int .i64 (r : Int)), (.slice A0 ((xs).length) c0)]) [] [] Try.func5 rfl rfl (look_penv _) (HS.nil w) ?_
  refine A.norm [(0, (.int .i64 (r : Int))), (1, (.slice A0 ((xs).length) c0))] [] (by exact ⟨rfl, rfl, trivial⟩) rfl ?_
  refine A.seq ?_
  refine A.region ?_
  refine A.cons (A.q (some 4) (.bool false) (by kernel_rfl) (qt_assign rfl rfl) ?_)
  refine A.done ?_
  refine A.norm [(0, (.int .i64 (r : Int))), (1, (.slice A0 ((xs).length) c0)), (4, (.bool false))] [] (by exact ⟨rfl, rfl, rfl, trivial⟩) rfl ?_
  refine A.tn ?_
  refine A.seq ?_
  refine A.seq ?_
  refine A.region ?_
  refine A.cons (A.q (some 20) (.slice A0 ((xs).length) c0) (by kernel_rfl) (qt_move rfl rfl) ?_)
  refine A.cons (A.q (some 21) (.int .i64 ((xs).length : Int)) (by kernel_rfl) (qt_pure (by kernel_rfl) fun _ => by kernel_rfl) ?_)
  refine A.cons (A.q (some 22) (.bool (decide (((xs).length : Int) > 200))) (by kernel_rfl) (qt_pure (by kernel_rfl) fun _ => by kernel_rfl) ?_)
  refine A.done ?_
  refine A.norm [(0, (.int .i64 (r : Int))), (1, (.slice A0 ((xs).length) c0)), (4, (.bool false)), (22, (.bool (decide (((xs).length : Int) > 200))))] [] (by exact ⟨rfl, rfl, rfl, rfl, trivial⟩) rfl ?_
  refine A.tn ?_
  refine A.cond (E := decide (((xs).length : Int) > 200)) rfl (fun e1 => ?_) (fun e1 => ?_)
  · skip
    have p1 := e1; try simp only [decide_eq_true_eq, decide_eq_false_iff_not, beq_iff_eq, beq_eq_false_iff_ne, bne_iff_ne, bne_eq_false_iff_eq, ne_eq, Bool.and_eq_true, Bool.or_eq_true, Bool.or_eq_false_iff, Bool.not_eq_true', Bool.not_eq_false', Int.not_lt, Int.not_le, gt_iff_lt, ge_iff_le, Classical.not_not] at p1
    refine A.seq ?_
    refine A.region ?_
    refine A.cons (A.q (some 23) (.bool true) (by kernel_rfl) (qt_call [] rfl (by kernel_rfl) rfl (fun w _ => pair_spec  w)) ?_)
    refine A.cons (A.q (some 4) (.bool true) (by kernel_rfl) (qt_assign rfl rfl) ?_)
    refine A.done ?_
    refine A.norm [(0, (.int .i64 (r : Int))), (1, (.slice A0 ((xs).length) c0)), (4, (.bool true)), (22, (.bool (decide (((xs).length : Int) > 200))))] [] (by exact ⟨rfl, rfl, rfl, rfl, trivial⟩) rfl ?_
    refine A.tn ?_
    refine A.ret ?_
    refine A.tr ?_
    refine A.post [(.bool true)] (fun a w r s => ⟨rv_tmp r rfl, trivial⟩) (fun w1 s => ?_)
    exact ⟨rfl, s.fr⟩
  · skip
    have p1 := e1; try simp only [decide_eq_true_eq, decide_eq_false_iff_not, beq_iff_eq, beq_eq_false_iff_ne, bne_iff_ne, bne_eq_false_iff_eq, ne_eq, Bool.and_eq_true, Bool.or_eq_true, Bool.or_eq_false_iff, Bool.not_eq_true', Bool.not_eq_false', Int.not_lt, Int.not_le, gt_iff_lt, ge_iff_le, Classical.not_not] at p1
    refine A.skip ?_
    refine A.tn ?_
    refine A.seq ?_
    refine A.region ?_
    refine A.cons (A.q (some 25) (.int .i64 (r : Int)) (by kernel_rfl) (qt_move rfl rfl) ?_)
    refine A.cons (A.call (some 26) [(.int .i64 (r : Int))] (fun x : Nat × Nat => (.tuple #[(.pointer (some ⟨x.1, 0, none⟩)), (.int .i64 0)])) (fun _ => True) (fun x => [ringI encI 93 3 x.1 x.2 r ([] : List Int)]) (by kernel_rfl) rfl (by kernel_rfl) rfl (fun w s => (ringI_new_ok r w (by omega) (by omega)).mono fun e w1 ⟨b, s1, he, hr, hf, n1, n2⟩ => ⟨(b, s1), he, trivial, s.add hf hr (by have := hr.bounds.2.2.2; simpa [ringI] using this) (by intro x hx; simp [ringI] at hx; rcases hx with rfl | rfl <;> assumption)⟩) ?_)
    rintro ⟨rb1, rs1⟩ -
    refine A.cons (A.q (some 24) (.tuple #[(.pointer (some ⟨rb1, 0, none⟩)), (.int .i64 0)]) (by kernel_rfl) (qt_move rfl rfl) ?_)
    refine A.cons (A.q (some 27) (.pointer (some ⟨rb1, 0, none⟩)) (by kernel_rfl) (qt_pure (by kernel_rfl) fun _ => by kernel_rfl) ?_)
    refine A.cons (A.q (some 28) (.int .i64 0) (by kernel_rfl) (qt_pure (by kernel_rfl) fun _ => by kernel_rfl) ?_)
    refine A.cons (A.q (some 5) (.pointer (some ⟨rb1, 0, none⟩)) (by kernel_rfl) (qt_assign rfl rfl) ?_)
    refine A.cons (A.q (some 6) (.int .i64 0) (by kernel_rfl) (qt_assign rfl rfl) ?_)
    refine A.done ?_
    refine A.norm [(0, (.int .i64 (r : Int))), (1, (.slice A0 ((xs).length) c0)), (4, (.bool false)), (22, (.bool (decide (((xs).length : Int) > 200)))), (5, (.pointer (some ⟨rb1, 0, none⟩))), (6, (.int .i64 0))] [ringI encI 93 3 rb1 rs1 r ([] : List Int)] (by exact ⟨rfl, rfl, rfl, rfl, rfl, rfl, trivial⟩) rfl ?_
    refine A.tn ?_
    refine A.seq ?_
    refine A.seq ?_
    refine A.region ?_
    refine A.cons (A.q (some 29) (.int .i64 (r : Int)) (by kernel_rfl) (qt_move rfl rfl) ?_)
    refine A.cons (A.q (some 30) (.bool (decide ((r : Int) < 1))) (by kernel_rfl) (qt_pure (by kernel_rfl) fun _ => by kernel_rfl) ?_)
    refine A.cons (A.q (some 31) (.bool (decide ((r : Int) < 1))) (by kernel_rfl) (qt_move rfl rfl) ?_)
    refine A.bool (decide ((r : Int) < 1)) (fun e2 => ?_) (fun e2 => ?_)
    · exact absurd e2 (by first | (simp; done) | (simp; omega) | omega | grind)
    · skip
      refine A.sub [(0, (.int .i64 (r : Int))), (1, (.slice A0 ((xs).length) c0)), (4, (.bool false)), (22, (.bool (decide (((xs).length : Int) > 200)))), (5, (.pointer (some ⟨rb1, 0, none⟩))), (6, (.int .i64 0)), (29, (.int .i64 (r : Int))), (30, (.bool false)), (31, (.bool false))] (by exact ⟨rfl, rfl, rfl, rfl, rfl, rfl, rfl, (congrArg (fun z => some (Value.bool z)) e2), (congrArg (fun z => some (Value.bool z)) e2), trivial⟩) ?_
      refine A.cons (A.q (some 32) (.int .i64 (r : Int)) (by kernel_rfl) (qt_move rfl rfl) ?_)
      refine A.cons (A.q (some 33) (.bool (decide ((r : Int) > 64))) (by kernel_rfl) (qt_pure (by kernel_rfl) fun _ => by kernel_rfl) ?_)
      refine A.cons (A.q (some 34) (.bool (decide ((r : Int) > 64))) (by kernel_rfl) (qt_pure (by kernel_rfl) fun _ => by kernel_rfl) ?_)
      refine A.done ?_
      refine A.norm [(0, (.int .i64 (r : Int))), (1, (.slice A0 ((xs).length) c0)), (4, (.bool false)), (22, (.bool (decide (((xs).length : Int) > 200)))), (5, (.pointer (some ⟨rb1, 0, none⟩))), (6, (.int .i64 0)), (34, (.bool (decide ((r : Int) > 64))))] [ringI encI 93 3 rb1 rs1 r ([] : List Int)] (by exact ⟨rfl, rfl, rfl, rfl, rfl, rfl, rfl, trivial⟩) rfl ?_
      refine A.tn ?_
      refine A.cond (E := decide ((r : Int) > 64)) rfl (fun e3 => ?_) (fun e3 => ?_)
      · exact absurd e3 (by first | (simp; done) | (simp; omega) | omega | grind)
      · skip
        have p3 := e3; try simp only [decide_eq_true_eq, decide_eq_false_iff_not, beq_iff_eq, beq_eq_false_iff_ne, bne_iff_ne, bne_eq_false_iff_eq, ne_eq, Bool.and_eq_true, Bool.or_eq_true, Bool.or_eq_false_iff, Bool.not_eq_true', Bool.not_eq_false', Int.not_lt, Int.not_le, gt_iff_lt, ge_iff_le, Classical.not_not] at p3
        refine A.skip ?_
        refine A.tn ?_
        refine A.seq ?_
        refine A.region ?_
        refine A.cons (A.q (some 7) (.slice none 0 0) (by kernel_rfl) (qt_assign rfl rfl) ?_)
        refine A.done ?_
        refine A.norm [(0, (.int .i64 (r : Int))), (1, (.slice A0 ((xs).length) c0)), (4, (.bool false)), (22, (.bool (decide (((xs).length : Int) > 200)))), (5, (.pointer (some ⟨rb1, 0, none⟩))), (6, (.int .i64 0)), (34, (.bool (decide ((r : Int) > 64)))), (7, (.slice none 0 0))] [ringI encI 93 3 rb1 rs1 r ([] : List Int)] (by exact ⟨rfl, rfl, rfl, rfl, rfl, rfl, rfl, rfl, trivial⟩) rfl ?_
        refine A.tn ?_
        refine A.seq ?_
        refine A.seq ?_
        refine A.region ?_
        refine A.cons (A.q (some 44) (.slice A0 ((xs).length) c0) (by kernel_rfl) (qt_move rfl rfl) ?_)
        refine A.cons (A.q (some 45) (.int .i64 ((xs).length : Int)) (by kernel_rfl) (qt_pure (by kernel_rfl) fun _ => by kernel_rfl) ?_)
        refine A.cons (A.q (some 46) (.int .i64 0) (by kernel_rfl) (qt_move rfl rfl) ?_)
        refine A.done ?_
        refine A.norm [(0, (.int .i64 (r : Int))), (1, (.slice A0 ((xs).length) c0)), (4, (.bool false)), (22, (.bool (decide (((xs).length : Int) > 200)))), (5, (.pointer (some ⟨rb1, 0, none⟩))), (6, (.int .i64 0)), (34, (.bool (decide ((r : Int) > 64)))), (7, (.slice none 0 0)), (44, (.slice A0 ((xs).length) c0)), (45, (.int .i64 ((xs).length : Int))), (46, (.int .i64 0))] [ringI encI 93 3 rb1 rs1 r ([] : List Int)] (by exact ⟨rfl, rfl, rfl, rfl, rfl, rfl, rfl, rfl, rfl, rfl, rfl, trivial⟩) rfl ?_
        refine A.tn ?_
        refine A.block ?_
        refine A.ownNil 3 1 [ringI encI 93 3 rb1 rs1 r ([] : List Int), sl none (([] : List Int)).length 0 3 1 (V.flat encI ([] : List Int))] rfl ?_
        refine A.loop (fun (x : Nat × (List Int) × (Option Addr) × Nat) => match x with | (k, q, Aw, cp) => [(0, (.int .i64 (r : Int))), (5, (.pointer (some ⟨rb1, 0, none⟩))), (6, (.int .i64 0)), (44, (.slice A0 ((xs).length) c0)), (45, (.int .i64 ((xs).length : Int))), (46, (.int .i64 (k : Int))), (7, (.slice Aw ((q).length) cp))]) (fun (x : Nat × (List Int) × (Option Addr) × Nat) => match x with | (k, q, Aw, cp) => [ringI encI 93 3 rb1 rs1 r q, sl Aw (q).length cp 3 1 (V.flat encI q)]) (fun (x : Nat × (List Int) × (Option Addr) × Nat) => match x with | (k, q, Aw, cp) => k ≤ xs.length ∧ q.length ≤ r) (fun (x : Nat × (List Int) × (Option Addr) × Nat) => match x with | (k, q, Aw, cp) => xs.length - k) (0, [], none, 0) (⟨Nat.zero_le _, by simp⟩) ?_ ?_
        · exact A.here (by exact ⟨rfl, rfl, rfl, rfl, rfl, rfl, rfl, trivial⟩) (List.Sublist.refl _)
        · rintro ⟨k, q, Aw, cp⟩ ⟨hk, hq⟩
          refine A.norm [(0, (.int .i64 (r : Int))), (5, (.pointer (some ⟨rb1, 0, none⟩))), (6, (.int .i64 0)), (44, (.slice A0 ((xs).length) c0)), (45, (.int .i64 ((xs).length : Int))), (46, (.int .i64 (k : Int))), (7, (.slice Aw ((q).length) cp))] [ringI encI 93 3 rb1 rs1 r q, sl Aw (q).length cp 3 1 (V.flat encI q)] (by exact ⟨rfl, rfl, rfl, rfl, rfl, rfl, rfl, trivial⟩) rfl ?_
          refine A.seq ?_
          refine A.region ?_
          refine A.cons (A.q (some 47) (.bool (decide ((k : Int) < ((xs).length : Int)))) (by kernel_rfl) (qt_pure (by kernel_rfl) fun _ => by kernel_rfl) ?_)
          refine A.done ?_
          refine A.norm [(0, (.int .i64 (r : Int))), (5, (.pointer (some ⟨rb1, 0, none⟩))), (6, (.int .i64 0)), (44, (.slice A0 ((xs).length) c0)), (45, (.int .i64 ((xs).length : Int))), (46, (.int .i64 (k : Int))), (7, (.slice Aw ((q).length) cp)), (47, (.bool (decide ((k : Int) < ((xs).length : Int)))))] [ringI encI 93 3 rb1 rs1 r q, sl Aw (q).length cp 3 1 (V.flat encI q)] (by exact ⟨rfl, rfl, rfl, rfl, rfl, rfl, rfl, rfl, trivial⟩) rfl ?_
          refine A.tn ?_
          refine A.seq ?_
          refine A.cond (E := decide ((k : Int) < ((xs).length : Int))) rfl (fun e4 => ?_) (fun e4 => ?_)
          · skip
            have p4 := e4; try simp only [decide_eq_true_eq, decide_eq_false_iff_not, beq_iff_eq, beq_eq_false_iff_ne, bne_iff_ne, bne_eq_false_iff_eq, ne_eq, Bool.and_eq_true, Bool.or_eq_true, Bool.or_eq_false_iff, Bool.not_eq_true', Bool.not_eq_false', Int.not_lt, Int.not_le, gt_iff_lt, ge_iff_le, Classical.not_not] at p4
            refine A.skip ?_
            refine A.tn ?_
            refine A.seq ?_
            refine A.block ?_
            refine A.seq ?_
            refine A.region ?_
            refine A.cons (A.q (some 48) (.pointer (some ((at0 A0).add (k * 1)))) (by kernel_rfl) (qt_indexN (el := 3) (enc := encI) (xs := xs) (m := k) rfl rfl rfl (by kernel_rfl) (by kernel_rfl) encI_len (rd_old hl (by simp)) (by decide) (by first | omega | (simp; done) | (simp; omega))) ?_)
            obtain ⟨x2, hx2⟩ : ∃ x, (xs)[k]? = some x := ⟨_, List.getElem?_eq_getElem (by omega)⟩
            refine A.cons (A.q (some 49) (.int .i64 x2) (by kernel_rfl) (qt_load1 rfl rfl (by kernel_rfl) (reads_at0 (vs := [(.int .i64 x2)]) encI_len (rd_old hl (by simp)) hx2 (by simp) rfl)) ?_)
            refine A.cons (A.q (some 9) (.int .i64 x2) (by kernel_rfl) (qt_assign rfl rfl) ?_)
            refine A.done ?_
            refine A.norm [(0, (.int .i64 (r : Int))), (5, (.pointer (some ⟨rb1, 0, none⟩))), (6, (.int .i64 0)), (44, (.slice A0 ((xs).length) c0)), (45, (.int .i64 ((xs).length : Int))), (46, (.int .i64 (k : Int))), (7, (.slice Aw ((q).length) cp)), (47, (.bool (decide ((k : Int) < ((xs).length : Int))))), (9, (.int .i64 x2))] [ringI encI 93 3 rb1 rs1 r q, sl Aw (q).length cp 3 1 (V.flat encI q)] (by exact ⟨rfl, rfl, rfl, rfl, rfl, rfl, rfl, rfl, rfl, trivial⟩) rfl ?_
            refine A.tn ?_
            refine A.seq ?_
            refine A.seq ?_
            refine A.region ?_
            refine A.cons (A.q (some 50) (.int .i64 x2) (by kernel_rfl) (qt_move rfl rfl) ?_)
            refine A.cons (A.q (some 51) (.bool (decide (x2 < 0))) (by kernel_rfl) (qt_pure (by kernel_rfl) fun _ => by kernel_rfl) ?_)
            refine A.done ?_
            refine A.norm [(0, (.int .i64 (r : Int))), (5, (.pointer (some ⟨rb1, 0, none⟩))), (6, (.int .i64 0)), (44, (.slice A0 ((xs).length) c0)), (45, (.int .i64 ((xs).length : Int))), (46, (.int .i64 (k : Int))), (7, (.slice Aw ((q).length) cp)), (47, (.bool (decide ((k : Int) < ((xs).length : Int))))), (9, (.int .i64 x2)), (51, (.bool (decide (x2 < 0))))] [ringI encI 93 3 rb1 rs1 r q, sl Aw (q).length cp 3 1 (V.flat encI q)] (by exact ⟨rfl, rfl, rfl, rfl, rfl, rfl, rfl, rfl, rfl, rfl, trivial⟩) rfl ?_
            refine A.tn ?_
            refine A.cond (E := decide (x2 < 0)) rfl (fun e5 => ?_) (fun e5 => ?_)
            · skip
              have p5 := e5; try simp only [decide_eq_true_eq, decide_eq_false_iff_not, beq_iff_eq, beq_eq_false_iff_ne, bne_iff_ne, bne_eq_false_iff_eq, ne_eq, Bool.and_eq_true, Bool.or_eq_true, Bool.or_eq_false_iff, Bool.not_eq_true', Bool.not_eq_false', Int.not_lt, Int.not_le, gt_iff_lt, ge_iff_le, Classical.not_not] at p5
              refine A.seq ?_
              refine A.region ?_
              refine A.cons (A.q (some 53) (.pointer (some ⟨rb1, 0, none⟩)) (by kernel_rfl) (qt_move rfl rfl) ?_)
              rcases q with _ | ⟨y3, q3⟩
              · skip
                refine A.cons (A.q (some 54) (.tuple #[(.int .i64 0), (.int .i64 6)]) (by kernel_rfl) (qt_call [(.pointer (some ⟨rb1, 0, none⟩))] rfl (by kernel_rfl) rfl (fun w s => ringI_popNone rb1 rs1 r w (s.mem (i := 0) rfl))) ?_)
                refine A.cons (A.q (some 52) (.tuple #[(.int .i64 0), (.int .i64 6)]) (by kernel_rfl) (qt_move rfl rfl) ?_)
                refine A.cons (A.q (some 55) (.int .i64 0) (by kernel_rfl) (qt_pure (by kernel_rfl) fun _ => by kernel_rfl) ?_)
                refine A.cons (A.q (some 56) (.int .i64 6) (by kernel_rfl) (qt_pure (by kernel_rfl) fun _ => by kernel_rfl) ?_)
                refine A.cons (A.q (some 10) (.int .i64 0) (by kernel_rfl) (qt_assign rfl rfl) ?_)
                refine A.cons (A.q (some 11) (.int .i64 6) (by kernel_rfl) (qt_assign rfl rfl) ?_)
                refine A.done ?_
                refine A.norm [(0, (.int .i64 (r : Int))), (5, (.pointer (some ⟨rb1, 0, none⟩))), (6, (.int .i64 0)), (44, (.slice A0 ((xs).length) c0)), (45, (.int .i64 ((xs).length : Int))), (46, (.int .i64 (k : Int))), (7, (.slice Aw ((([] : List Int)).length) cp)), (47, (.bool (decide ((k : Int) < ((xs).length : Int))))), (9, (.int .i64 x2)), (51, (.bool (decide (x2 < 0)))), (10, (.int .i64 0)), (11, (.int .i64 6))] [ringI encI 93 3 rb1 rs1 r ([] : List Int), sl Aw (([] : List Int)).length cp 3 1 (V.flat encI ([] : List Int))] (by exact ⟨rfl, rfl, rfl, rfl, rfl, rfl, rfl, rfl, rfl, rfl, rfl, rfl, trivial⟩) rfl ?_
                refine A.tn ?_
                refine A.seq ?_
                refine A.region ?_
                refine A.cons (A.q (some 57) (.slice Aw ((([] : List Int)).length) cp) (by kernel_rfl) (qt_move rfl rfl) ?_)
                refine A.cons (A.q (some 58) (.int .i64 0) (by kernel_rfl) (qt_pure (by kernel_rfl) fun _ => by kernel_rfl) ?_)
                refine A.cons (A.q (some 59) (.bool true) (by kernel_rfl) (qt_pure (by kernel_rfl) fun _ => by kernel_rfl) ?_)
                refine A.done ?_
                refine A.norm [(0, (.int .i64 (r : Int))), (5, (.pointer (some ⟨rb1, 0, none⟩))), (6, (.int .i64 0)), (44, (.slice A0 ((xs).length) c0)), (45, (.int .i64 ((xs).length : Int))), (46, (.int .i64 (k : Int))), (7, (.slice Aw ((([] : List Int)).length) cp)), (47, (.bool (decide ((k : Int) < ((xs).length : Int))))), (9, (.int .i64 x2)), (51, (.bool (decide (x2 < 0)))), (10, (.int .i64 0)), (11, (.int .i64 6)), (59, (.bool true))] [ringI encI 93 3 rb1 rs1 r ([] : List Int), sl Aw (([] : List Int)).length cp 3 1 (V.flat encI ([] : List Int))] (by exact ⟨rfl, rfl, rfl, rfl, rfl, rfl, rfl, rfl, rfl, rfl, rfl, rfl, rfl, trivial⟩) rfl ?_
                refine A.tn ?_
                refine A.cond_t rfl ?_
                refine A.seq ?_
                refine A.region ?_
                refine A.cons (A.q (some 60) (.int .i64 6) (by kernel_rfl) (qt_move rfl rfl) ?_)
                refine A.cons (A.q (some 61) (.bool false) (by kernel_rfl) (qt_pure (by kernel_rfl) fun _ => by kernel_rfl) ?_)
                refine A.cons (A.q (some 62) (.bool false) (by kernel_rfl) (qt_move rfl rfl) ?_)
                refine A.cons (A.q (some 63) (.int .i64 0) (by kernel_rfl) (qt_move rfl rfl) ?_)
                refine A.cons (A.q (some 64) (.bool false) (by kernel_rfl) (qt_pure (by kernel_rfl) fun _ => by kernel_rfl) ?_)
                refine A.cons (A.q (some 65) (.bool false) (by kernel_rfl) (qt_pure (by kernel_rfl) fun _ => by kernel_rfl) ?_)
                refine A.done ?_
                refine A.norm [(0, (.int .i64 (r : Int))), (5, (.pointer (some ⟨rb1, 0, none⟩))), (6, (.int .i64 0)), (44, (.slice A0 ((xs).length) c0)), (45, (.int .i64 ((xs).length : Int))), (46, (.int .i64 (k : Int))), (7, (.slice Aw ((([] : List Int)).length) cp)), (47, (.bool (decide ((k : Int) < ((xs).length : Int))))), (9, (.int .i64 x2)), (51, (.bool (decide (x2 < 0)))), (10, (.int .i64 0)), (11, (.int .i64 6)), (59, (.bool true)), (65, (.bool false))] [ringI encI 93 3 rb1 rs1 r ([] : List Int), sl Aw (([] : List Int)).length cp 3 1 (V.flat encI ([] : List Int))] (by exact ⟨rfl, rfl, rfl, rfl, rfl, rfl, rfl, rfl, rfl, rfl, rfl, rfl, rfl, rfl, trivial⟩) rfl ?_
                refine A.tn ?_
                refine A.cond_f rfl ?_
                refine A.skip ?_
                refine A.tn ?_
                refine A.seq ?_
                refine A.region ?_
                refine A.cons (A.q (some 93) (.pointer (some ⟨rb1, 0, none⟩)) (by kernel_rfl) (qt_move rfl rfl) ?_)
                refine A.cons (A.q (some 94) (.int .i64 0) (by kernel_rfl) (qt_call [(.pointer (some ⟨rb1, 0, none⟩))] rfl (by kernel_rfl) rfl (fun w s => ringI_len rb1 rs1 r ([] : List Int) w (s.mem (i := 0) rfl))) ?_)
                refine A.cons (A.q (some 95) (.slice Aw ((([] : List Int)).length) cp) (by kernel_rfl) (qt_move rfl rfl) ?_)
                refine A.cons (A.q (some 96) (.int .i64 0) (by kernel_rfl) (qt_pure (by kernel_rfl) fun _ => by kernel_rfl) ?_)
                refine A.cons (A.q (some 97) (.bool false) (by kernel_rfl) (qt_pure (by kernel_rfl) fun _ => by kernel_rfl) ?_)
                refine A.cons (A.q (some 98) (.bool false) (by kernel_rfl) (qt_move rfl rfl) ?_)
                refine A.cons (A.q (some 99) (.pointer (some ⟨rb1, 0, none⟩)) (by kernel_rfl) (qt_move rfl rfl) ?_)
                refine A.cons (A.q (some 100) (.int .i64 ((r : Int) - (([] : List Int).length : Int))) (by kernel_rfl) (qt_call [(.pointer (some ⟨rb1, 0, none⟩))] rfl (by kernel_rfl) rfl (fun w s => ringI_room rb1 rs1 r ([] : List Int) w (s.mem (i := 0) rfl))) ?_)
                refine A.cons (A.q (some 101) (.int .i64 (r : Int)) (by kernel_rfl) (qt_move rfl rfl) ?_)
                refine A.cons (A.q (some 102) (.slice Aw ((([] : List Int)).length) cp) (by kernel_rfl) (qt_move rfl rfl) ?_)
                refine A.cons (A.q (some 103) (.int .i64 0) (by kernel_rfl) (qt_pure (by kernel_rfl) fun _ => by kernel_rfl) ?_)
                refine A.cons (A.q (some 104) (.int .i64 ((r : Int) - 0)) (by kernel_rfl) (qt_as (congrArg (Value.int .i64) (wrap_i64 (e := (r : Int) - 0) (by first | (constructor <;> omega) | (simp; omega)))) (qt_pure (v := .int .i64 (IntKind.i64.wrap ((r : Int) - 0))) (by kernel_rfl) fun _ => by kernel_rfl)) ?_)
                refine A.cons (A.q (some 105) (.bool (((r : Int) - (([] : List Int).length : Int)) != ((r : Int) - 0))) (by kernel_rfl) (qt_pure (by kernel_rfl) fun _ => by kernel_rfl) ?_)
                refine A.cons (A.q (some 106) (.bool (((r : Int) - (([] : List Int).length : Int)) != ((r : Int) - 0))) (by kernel_rfl) (qt_pure (by kernel_rfl) fun _ => by kernel_rfl) ?_)
                refine A.done ?_
                refine A.norm [(0, (.int .i64 (r : Int))), (5, (.pointer (some ⟨rb1, 0, none⟩))), (6, (.int .i64 0)), (44, (.slice A0 ((xs).length) c0)), (45, (.int .i64 ((xs).length : Int))), (46, (.int .i64 (k : Int))), (7, (.slice Aw ((([] : List Int)).length) cp)), (47, (.bool (decide ((k : Int) < ((xs).length : Int))))), (9, (.int .i64 x2)), (51, (.bool (decide (x2 < 0)))), (10, (.int .i64 0)), (11, (.int .i64 6)), (59, (.bool true)), (65, (.bool false)), (106, (.bool (((r : Int) - (([] : List Int).length : Int)) != ((r : Int) - 0))))] [ringI encI 93 3 rb1 rs1 r ([] : List Int), sl Aw (([] : List Int)).length cp 3 1 (V.flat encI ([] : List Int))] (by exact ⟨rfl, rfl, rfl, rfl, rfl, rfl, rfl, rfl, rfl, rfl, rfl, rfl, rfl, rfl, rfl, trivial⟩) rfl ?_
                refine A.tn ?_
                refine A.cond (E := ((r : Int) - (([] : List Int).length : Int)) != ((r : Int) - 0)) rfl (fun e6 => ?_) (fun e6 => ?_)
                · exact absurd e6 (by first | (simp; done) | (simp; omega) | omega | grind)
                · skip
                  have p6 := e6; try simp only [decide_eq_true_eq, decide_eq_false_iff_not, beq_iff_eq, beq_eq_false_iff_ne, bne_iff_ne, bne_eq_false_iff_eq, ne_eq, Bool.and_eq_true, Bool.or_eq_true, Bool.or_eq_false_iff, Bool.not_eq_true', Bool.not_eq_false', Int.not_lt, Int.not_le, gt_iff_lt, ge_iff_le, Classical.not_not] at p6
                  refine A.skip ?_
                  refine A.bn ?_
                  refine A.tn ?_
                  refine A.region ?_
                  refine A.cons (A.q (some 107) (.int .i64 ((k : Int) + 1)) (by kernel_rfl) (qt_as (congrArg (Value.int .i64) (wrap_i64 (e := (k : Int) + 1) (by first | (constructor <;> omega) | (simp; omega)))) (qt_pure (v := .int .i64 (IntKind.i64.wrap ((k : Int) + 1))) (by kernel_rfl) fun _ => by kernel_rfl)) ?_)
                  refine A.cons (A.q (some 46) (.int .i64 ((k : Int) + 1)) (by kernel_rfl) (qt_move rfl rfl) ?_)
                  refine A.done ?_
                  refine A.norm [(0, (.int .i64 (r : Int))), (5, (.pointer (some ⟨rb1, 0, none⟩))), (6, (.int .i64 0)), (44, (.slice A0 ((xs).length) c0)), (45, (.int .i64 ((xs).length : Int))), (46, (.int .i64 ((k : Int) + 1))), (7, (.slice Aw ((([] : List Int)).length) cp)), (47, (.bool (decide ((k : Int) < ((xs).length : Int))))), (9, (.int .i64 x2)), (51, (.bool (decide (x2 < 0)))), (10, (.int .i64 0)), (11, (.int .i64 6)), (59, (.bool true)), (65, (.bool false)), (106, (.bool (((r : Int) - (([] : List Int).length : Int)) != ((r : Int) - 0))))] [ringI encI 93 3 rb1 rs1 r ([] : List Int), sl Aw (([] : List Int)).length cp 3 1 (V.flat encI ([] : List Int))] (by exact ⟨rfl, rfl, rfl, rfl, rfl, rfl, rfl, rfl, rfl, rfl, rfl, rfl, rfl, rfl, rfl, trivial⟩) rfl ?_
                  refine A.tn ?_
                  refine A.next (k + 1, ([] : List Int), Aw, cp) (⟨by omega, by first | omega | (simp; done) | (simp; omega) | grind⟩) (by simp only []; omega) ?_
                  exact A.here (by exact ⟨rfl, rfl, rfl, rfl, rfl, rfl, rfl, trivial⟩) (List.Sublist.refl _)
              · skip
                have hq2 : q3.length + 1 ≤ r := hq
                refine A.cons (A.call (some 54) [(.pointer (some ⟨rb1, 0, none⟩))] (fun _ : Unit => (.tuple #[(.int .i64 y3), (.int .i64 0)])) (fun _ => True) (fun _ => [ringI encI 93 3 rb1 rs1 r q3, sl Aw ((y3 :: q3)).length cp 3 1 (V.flat encI (y3 :: q3))]) (by kernel_rfl) rfl (by kernel_rfl) rfl (fun w s => (ringI_pop rb1 rs1 r q3 y3 w (s.mem (i := 0) rfl)).mono fun e w1 ⟨he, hr, hf⟩ => ⟨(), he, trivial, s.turn (i := 0) rfl hf hr (by have := (s.mem (i := 0) rfl : RingH _ _ _ _ _ _ _ _).bounds.2.2.2; simpa [ringI] using this) (fun _ h => .inl h)⟩) (fun _ _ => ?_))
                refine A.cons (A.q (some 52) (.tuple #[(.int .i64 y3), (.int .i64 0)]) (by kernel_rfl) (qt_move rfl rfl) ?_)
                refine A.cons (A.q (some 55) (.int .i64 y3) (by kernel_rfl) (qt_pure (by kernel_rfl) fun _ => by kernel_rfl) ?_)
                refine A.cons (A.q (some 56) (.int .i64 0) (by kernel_rfl) (qt_pure (by kernel_rfl) fun _ => by kernel_rfl) ?_)
                refine A.cons (A.q (some 10) (.int .i64 y3) (by kernel_rfl) (qt_assign rfl rfl) ?_)
                refine A.cons (A.q (some 11) (.int .i64 0) (by kernel_rfl) (qt_assign rfl rfl) ?_)
                refine A.done ?_
                refine A.norm [(0, (.int .i64 (r : Int))), (5, (.pointer (some ⟨rb1, 0, none⟩))), (6, (.int .i64 0)), (44, (.slice A0 ((xs).length) c0)), (45, (.int .i64 ((xs).length : Int))), (46, (.int .i64 (k : Int))), (7, (.slice Aw (((y3 :: q3)).length) cp)), (47, (.bool (decide ((k : Int) < ((xs).length : Int))))), (9, (.int .i64 x2)), (51, (.bool (decide (x2 < 0)))), (10, (.int .i64 y3)), (11, (.int .i64 0))] [ringI encI 93 3 rb1 rs1 r q3, sl Aw ((y3 :: q3)).length cp 3 1 (V.flat encI (y3 :: q3))] (by exact ⟨rfl, rfl, rfl, rfl, rfl, rfl, rfl, rfl, rfl, rfl, rfl, rfl, trivial⟩) rfl ?_
                refine A.tn ?_
                refine A.seq ?_
                refine A.region ?_
                refine A.cons (A.q (some 57) (.slice Aw (((y3 :: q3)).length) cp) (by kernel_rfl) (qt_move rfl rfl) ?_)
                refine A.cons (A.q (some 58) (.int .i64 (((y3 :: q3)).length : Int)) (by kernel_rfl) (qt_pure (by kernel_rfl) fun _ => by kernel_rfl) ?_)
                refine A.cons (A.q (some 59) (.bool ((((y3 :: q3)).length : Int) == 0)) (by kernel_rfl) (qt_pure (by kernel_rfl) fun _ => by kernel_rfl) ?_)
                refine A.done ?_
                refine A.norm [(0, (.int .i64 (r : Int))), (5, (.pointer (some ⟨rb1, 0, none⟩))), (6, (.int .i64 0)), (44, (.slice A0 ((xs).length) c0)), (45, (.int .i64 ((xs).length : Int))), (46, (.int .i64 (k : Int))), (7, (.slice Aw (((y3 :: q3)).length) cp)), (47, (.bool (decide ((k : Int) < ((xs).length : Int))))), (9, (.int .i64 x2)), (51, (.bool (decide (x2 < 0)))), (10, (.int .i64 y3)), (11, (.int .i64 0)), (59, (.bool ((((y3 :: q3)).length : Int) == 0)))] [ringI encI 93 3 rb1 rs1 r q3, sl Aw ((y3 :: q3)).length cp 3 1 (V.flat encI (y3 :: q3))] (by exact ⟨rfl, rfl, rfl, rfl, rfl, rfl, rfl, rfl, rfl, rfl, rfl, rfl, rfl, trivial⟩) rfl ?_
                refine A.tn ?_
                refine A.cond (E := (((y3 :: q3)).length : Int) == 0) rfl (fun e7 => ?_) (fun e7 => ?_)
                · exact absurd e7 (by first | (simp; done) | (simp; omega) | omega | grind)
                · skip
                  have p7 := e7; try simp only [decide_eq_true_eq, decide_eq_false_iff_not, beq_iff_eq, beq_eq_false_iff_ne, bne_iff_ne, bne_eq_false_iff_eq, ne_eq, Bool.and_eq_true, Bool.or_eq_true, Bool.or_eq_false_iff, Bool.not_eq_true', Bool.not_eq_false', Int.not_lt, Int.not_le, gt_iff_lt, ge_iff_le, Classical.not_not] at p7
                  refine A.seq ?_
                  refine A.seq ?_
                  refine A.region ?_
                  refine A.cons (A.q (some 66) (.int .i64 0) (by kernel_rfl) (qt_move rfl rfl) ?_)
                  refine A.cons (A.q (some 67) (.bool false) (by kernel_rfl) (qt_pure (by kernel_rfl) fun _ => by kernel_rfl) ?_)
                  refine A.cons (A.q (some 68) (.bool false) (by kernel_rfl) (qt_move rfl rfl) ?_)
                  refine A.cons (A.q (some 69) (.int .i64 y3) (by kernel_rfl) (qt_move rfl rfl) ?_)
                  refine A.cons (A.q (some 70) (.slice Aw (((y3 :: q3)).length) cp) (by kernel_rfl) (qt_move rfl rfl) ?_)
                  refine A.cons (A.q (some 71) (.pointer (some ((at0 Aw).add (0 * 1)))) (by kernel_rfl) (qt_indexN (el := 3) (enc := encI) (xs := (y3 :: q3)) (m := 0) rfl rfl rfl (by kernel_rfl) (by kernel_rfl) encI_len (rd_sl (i := 1) rfl) (by decide) (by first | omega | (simp; done) | (simp; omega))) ?_)
                  refine A.cons (A.q (some 72) (.int .i64 y3) (by kernel_rfl) (qt_load1 rfl rfl (by kernel_rfl) (reads_at0 (vs := [(.int .i64 y3)]) encI_len (rd_sl (i := 1) rfl) rfl (by simp) rfl)) ?_)
                  refine A.cons (A.q (some 73) (.bool (y3 != y3)) (by kernel_rfl) (qt_pure (by kernel_rfl) fun _ => by kernel_rfl) ?_)
                  refine A.cons (A.q (some 74) (.bool (y3 != y3)) (by kernel_rfl) (qt_pure (by kernel_rfl) fun _ => by kernel_rfl) ?_)
                  refine A.done ?_
                  refine A.norm [(0, (.int .i64 (r : Int))), (5, (.pointer (some ⟨rb1, 0, none⟩))), (6, (.int .i64 0)), (44, (.slice A0 ((xs).length) c0)), (45, (.int .i64 ((xs).length : Int))), (46, (.int .i64 (k : Int))), (7, (.slice Aw (((y3 :: q3)).length) cp)), (47, (.bool (decide ((k : Int) < ((xs).length : Int))))), (9, (.int .i64 x2)), (51, (.bool (decide (x2 < 0)))), (10, (.int .i64 y3)), (11, (.int .i64 0)), (59, (.bool ((((y3 :: q3)).length : Int) == 0))), (74, (.bool (y3 != y3)))] [ringI encI 93 3 rb1 rs1 r q3, sl Aw ((y3 :: q3)).length cp 3 1 (V.flat encI (y3 :: q3))] (by exact ⟨rfl, rfl, rfl, rfl, rfl, rfl, rfl, rfl, rfl, rfl, rfl, rfl, rfl, rfl, trivial⟩) rfl ?_
                  refine A.tn ?_
                  refine A.cond (E := y3 != y3) rfl (fun e8 => ?_) (fun e8 => ?_)
                  · exact absurd e8 (by first | (simp; done) | (simp; omega) | omega | grind)
                  · skip
                    have p8 := e8; try simp only [decide_eq_true_eq, decide_eq_false_iff_not, beq_iff_eq, beq_eq_false_iff_ne, bne_iff_ne, bne_eq_false_iff_eq, ne_eq, Bool.and_eq_true, Bool.or_eq_true, Bool.or_eq_false_iff, Bool.not_eq_true', Bool.not_eq_false', Int.not_lt, Int.not_le, gt_iff_lt, ge_iff_le, Classical.not_not] at p8
                    refine A.skip ?_
                    refine A.tn ?_
                    refine A.region ?_
                    refine A.cons (A.q (some 75) (.slice Aw (((y3 :: q3)).length) cp) (by kernel_rfl) (qt_move rfl rfl) ?_)
                    refine A.cons (A.q (some 76) (.slice (if cp = 1 then Aw else Aw.map (·.add (1 * 1))) ((q3).length) (cp - 1)) (by kernel_rfl) (qt_from (el := 3) (sz := 1) (k := 1) (len := ((y3 :: q3)).length) rfl rfl rfl (by kernel_rfl) (by kernel_rfl) (by simp)) ?_)
                    refine A.cutFrom 1 1 [ringI encI 93 3 rb1 rs1 r q3, sl (if cp = 1 then Aw else Aw.map (·.add (1 * 1))) (q3).length (cp - 1) 3 1 (V.flat encI q3)] rfl (by simp) (by decide) rfl ?_
                    refine A.cons (A.q (some 7) (.slice (if cp = 1 then Aw else Aw.map (·.add (1 * 1))) ((q3).length) (cp - 1)) (by kernel_rfl) (qt_assign rfl rfl) ?_)
                    refine A.done ?_
                    refine A.norm [(0, (.int .i64 (r : Int))), (5, (.pointer (some ⟨rb1, 0, none⟩))), (6, (.int .i64 0)), (44, (.slice A0 ((xs).length) c0)), (45, (.int .i64 ((xs).length : Int))), (46, (.int .i64 (k : Int))), (7, (.slice (if cp = 1 then Aw else Aw.map (·.add (1 * 1))) ((q3).length) (cp - 1))), (47, (.bool (decide ((k : Int) < ((xs).length : Int))))), (9, (.int .i64 x2)), (51, (.bool (decide (x2 < 0)))), (10, (.int .i64 y3)), (11, (.int .i64 0)), (59, (.bool ((((y3 :: q3)).length : Int) == 0))), (74, (.bool (y3 != y3)))] [ringI encI 93 3 rb1 rs1 r q3, sl (if cp = 1 then Aw else Aw.map (·.add (1 * 1))) (q3).length (cp - 1) 3 1 (V.flat encI q3)] (by exact ⟨rfl, rfl, rfl, rfl, rfl, rfl, rfl, rfl, rfl, rfl, rfl, rfl, rfl, rfl, trivial⟩) rfl ?_
                    refine A.tn ?_
                    refine A.seq ?_
                    refine A.region ?_
                    refine A.cons (A.q (some 93) (.pointer (some ⟨rb1, 0, none⟩)) (by kernel_rfl) (qt_move rfl rfl) ?_)
                    refine A.cons (A.q (some 94) (.int .i64 (q3.length : Int)) (by kernel_rfl) (qt_call [(.pointer (some ⟨rb1, 0, none⟩))] rfl (by kernel_rfl) rfl (fun w s => ringI_len rb1 rs1 r q3 w (s.mem (i := 0) rfl))) ?_)
                    refine A.cons (A.q (some 95) (.slice (if cp = 1 then Aw else Aw.map (·.add (1 * 1))) ((q3).length) (cp - 1)) (by kernel_rfl) (qt_move rfl rfl) ?_)
                    refine A.cons (A.q (some 96) (.int .i64 ((q3).length : Int)) (by kernel_rfl) (qt_pure (by kernel_rfl) fun _ => by kernel_rfl) ?_)
                    refine A.cons (A.q (some 97) (.bool ((q3.length : Int) != ((q3).length : Int))) (by kernel_rfl) (qt_pure (by kernel_rfl) fun _ => by kernel_rfl) ?_)
                    refine A.cons (A.q (some 98) (.bool ((q3.length : Int) != ((q3).length : Int))) (by kernel_rfl) (qt_move rfl rfl) ?_)
                    refine A.bool ((q3.length : Int) != ((q3).length : Int)) (fun e9 => ?_) (fun e9 => ?_)
                    · exact absurd e9 (by first | (simp; done) | (simp; omega) | omega | grind)
                    · skip
                      refine A.sub [(0, (.int .i64 (r : Int))), (5, (.pointer (some ⟨rb1, 0, none⟩))), (6, (.int .i64 0)), (44, (.slice A0 ((xs).length) c0)), (45, (.int .i64 ((xs).length : Int))), (46, (.int .i64 (k : Int))), (7, (.slice (if cp = 1 then Aw else Aw.map (·.add (1 * 1))) ((q3).length) (cp - 1))), (47, (.bool (decide ((k : Int) < ((xs).length : Int))))), (9, (.int .i64 x2)), (51, (.bool (decide (x2 < 0)))), (10, (.int .i64 y3)), (11, (.int .i64 0)), (59, (.bool ((((y3 :: q3)).length : Int) == 0))), (74, (.bool (y3 != y3))), (93, (.pointer (some ⟨rb1, 0, none⟩))), (94, (.int .i64 (q3.length : Int))), (95, (.slice (if cp = 1 then Aw else Aw.map (·.add (1 * 1))) ((q3).length) (cp - 1))), (96, (.int .i64 ((q3).length : Int))), (97, (.bool false)), (98, (.bool false))] (by exact ⟨rfl, rfl, rfl, rfl, rfl, rfl, rfl, rfl, rfl, rfl, rfl, rfl, rfl, rfl, rfl, rfl, rfl, rfl, (congrArg (fun z => some (Value.bool z)) e9), (congrArg (fun z => some (Value.bool z)) e9), trivial⟩) ?_
                      refine A.cons (A.q (some 99) (.pointer (some ⟨rb1, 0, none⟩)) (by kernel_rfl) (qt_move rfl rfl) ?_)
                      refine A.cons (A.q (some 100) (.int .i64 ((r : Int) - (q3.length : Int))) (by kernel_rfl) (qt_call [(.pointer (some ⟨rb1, 0, none⟩))] rfl (by kernel_rfl) rfl (fun w s => ringI_room rb1 rs1 r q3 w (s.mem (i := 0) rfl))) ?_)
                      refine A.cons (A.q (some 101) (.int .i64 (r : Int)) (by kernel_rfl) (qt_move rfl rfl) ?_)
                      refine A.cons (A.q (some 102) (.slice (if cp = 1 then Aw else Aw.map (·.add (1 * 1))) ((q3).length) (cp - 1)) (by kernel_rfl) (qt_move rfl rfl) ?_)
                      refine A.cons (A.q (some 103) (.int .i64 ((q3).length : Int)) (by kernel_rfl) (qt_pure (by kernel_rfl) fun _ => by kernel_rfl) ?_)
                      refine A.cons (A.q (some 104) (.int .i64 ((r : Int) - ((q3).length : Int))) (by kernel_rfl) (qt_as (congrArg (Value.int .i64) (wrap_i64 (e := (r : Int) - ((q3).length : Int)) (by first | (constructor <;> omega) | (simp; omega)))) (qt_pure (v := .int .i64 (IntKind.i64.wrap ((r : Int) - ((q3).length : Int)))) (by kernel_rfl) fun _ => by kernel_rfl)) ?_)
                      refine A.cons (A.q (some 105) (.bool (((r : Int) - (q3.length : Int)) != ((r : Int) - ((q3).length : Int)))) (by kernel_rfl) (qt_pure (by kernel_rfl) fun _ => by kernel_rfl) ?_)
                      refine A.cons (A.q (some 106) (.bool (((r : Int) - (q3.length : Int)) != ((r : Int) - ((q3).length : Int)))) (by kernel_rfl) (qt_pure (by kernel_rfl) fun _ => by kernel_rfl) ?_)
                      refine A.done ?_
                      refine A.norm [(0, (.int .i64 (r : Int))), (5, (.pointer (some ⟨rb1, 0, none⟩))), (6, (.int .i64 0)), (44, (.slice A0 ((xs).length) c0)), (45, (.int .i64 ((xs).length : Int))), (46, (.int .i64 (k : Int))), (7, (.slice (if cp = 1 then Aw else Aw.map (·.add (1 * 1))) ((q3).length) (cp - 1))), (47, (.bool (decide ((k : Int) < ((xs).length : Int))))), (9, (.int .i64 x2)), (51, (.bool (decide (x2 < 0)))), (10, (.int .i64 y3)), (11, (.int .i64 0)), (59, (.bool ((((y3 :: q3)).length : Int) == 0))), (74, (.bool (y3 != y3))), (106, (.bool (((r : Int) - (q3.length : Int)) != ((r : Int) - ((q3).length : Int)))))] [ringI encI 93 3 rb1 rs1 r q3, sl (if cp = 1 then Aw else Aw.map (·.add (1 * 1))) (q3).length (cp - 1) 3 1 (V.flat encI q3)] (by exact ⟨rfl, rfl, rfl, rfl, rfl, rfl, rfl, rfl, rfl, rfl, rfl, rfl, rfl, rfl, rfl, trivial⟩) rfl ?_
                      refine A.tn ?_
                      refine A.cond (E := ((r : Int) - (q3.length : Int)) != ((r : Int) - ((q3).length : Int))) rfl (fun e10 => ?_) (fun e10 => ?_)
                      · exact absurd e10 (by first | (simp; done) | (simp; omega) | omega | grind)
                      · skip
                        have p10 := e10; try simp only [decide_eq_true_eq, decide_eq_false_iff_not, beq_iff_eq, beq_eq_false_iff_ne, bne_iff_ne, bne_eq_false_iff_eq, ne_eq, Bool.and_eq_true, Bool.or_eq_true, Bool.or_eq_false_iff, Bool.not_eq_true', Bool.not_eq_false', Int.not_lt, Int.not_le, gt_iff_lt, ge_iff_le, Classical.not_not] at p10
                        refine A.skip ?_
                        refine A.bn ?_
                        refine A.tn ?_
                        refine A.region ?_
                        refine A.cons (A.q (some 107) (.int .i64 ((k : Int) + 1)) (by kernel_rfl) (qt_as (congrArg (Value.int .i64) (wrap_i64 (e := (k : Int) + 1) (by first | (constructor <;> omega) | (simp; omega)))) (qt_pure (v := .int .i64 (IntKind.i64.wrap ((k : Int) + 1))) (by kernel_rfl) fun _ => by kernel_rfl)) ?_)
                        refine A.cons (A.q (some 46) (.int .i64 ((k : Int) + 1)) (by kernel_rfl) (qt_move rfl rfl) ?_)
                        refine A.done ?_
                        refine A.norm [(0, (.int .i64 (r : Int))), (5, (.pointer (some ⟨rb1, 0, none⟩))), (6, (.int .i64 0)), (44, (.slice A0 ((xs).length) c0)), (45, (.int .i64 ((xs).length : Int))), (46, (.int .i64 ((k : Int) + 1))), (7, (.slice (if cp = 1 then Aw else Aw.map (·.add (1 * 1))) ((q3).length) (cp - 1))), (47, (.bool (decide ((k : Int) < ((xs).length : Int))))), (9, (.int .i64 x2)), (51, (.bool (decide (x2 < 0)))), (10, (.int .i64 y3)), (11, (.int .i64 0)), (59, (.bool ((((y3 :: q3)).length : Int) == 0))), (74, (.bool (y3 != y3))), (106, (.bool (((r : Int) - (q3.length : Int)) != ((r : Int) - ((q3).length : Int)))))] [ringI encI 93 3 rb1 rs1 r q3, sl (if cp = 1 then Aw else Aw.map (·.add (1 * 1))) (q3).length (cp - 1) 3 1 (V.flat encI q3)] (by exact ⟨rfl, rfl, rfl, rfl, rfl, rfl, rfl, rfl, rfl, rfl, rfl, rfl, rfl, rfl, rfl, trivial⟩) rfl ?_
                        refine A.tn ?_
                        refine A.next (k + 1, q3, if cp = 1 then Aw else Aw.map (·.add (1 * 1)), cp - 1) (⟨by omega, by first | omega | (simp; done) | (simp; omega) | grind⟩) (by simp only []; omega) ?_
                        exact A.here (by exact ⟨rfl, rfl, rfl, rfl, rfl, rfl, rfl, trivial⟩) (List.Sublist.refl _)
            · skip
              have p5 := e5; try simp only [decide_eq_true_eq, decide_eq_false_iff_not, beq_iff_eq, beq_eq_false_iff_ne, bne_iff_ne, bne_eq_false_iff_eq, ne_eq, Bool.and_eq_true, Bool.or_eq_true, Bool.or_eq_false_iff, Bool.not_eq_true', Bool.not_eq_false', Int.not_lt, Int.not_le, gt_iff_lt, ge_iff_le, Classical.not_not] at p5
              refine A.seq ?_
              refine A.region ?_
              refine A.cons (A.q (some 77) (.slice Aw ((q).length) cp) (by kernel_rfl) (qt_move rfl rfl) ?_)
              refine A.cons (A.q (some 78) (.int .i64 ((q).length : Int)) (by kernel_rfl) (qt_pure (by kernel_rfl) fun _ => by kernel_rfl) ?_)
              refine A.cons (A.q (some 79) (.int .i64 (r : Int)) (by kernel_rfl) (qt_move rfl rfl) ?_)
              refine A.cons (A.q (some 80) (.bool (((q).length : Int) == (r : Int))) (by kernel_rfl) (qt_pure (by kernel_rfl) fun _ => by kernel_rfl) ?_)
              refine A.done ?_
              refine A.norm [(0, (.int .i64 (r : Int))), (5, (.pointer (some ⟨rb1, 0, none⟩))), (6, (.int .i64 0)), (44, (.slice A0 ((xs).length) c0)), (45, (.int .i64 ((xs).length : Int))), (46, (.int .i64 (k : Int))), (7, (.slice Aw ((q).length) cp)), (47, (.bool (decide ((k : Int) < ((xs).length : Int))))), (9, (.int .i64 x2)), (51, (.bool (decide (x2 < 0)))), (80, (.bool (((q).length : Int) == (r : Int))))] [ringI encI 93 3 rb1 rs1 r q, sl Aw (q).length cp 3 1 (V.flat encI q)] (by exact ⟨rfl, rfl, rfl, rfl, rfl, rfl, rfl, rfl, rfl, rfl, rfl, trivial⟩) rfl ?_
              refine A.tn ?_
              refine A.cond (E := ((q).length : Int) == (r : Int)) rfl (fun e11 => ?_) (fun e11 => ?_)
              · skip
                have p11 := e11; try simp only [decide_eq_true_eq, decide_eq_false_iff_not, beq_iff_eq, beq_eq_false_iff_ne, bne_iff_ne, bne_eq_false_iff_eq, ne_eq, Bool.and_eq_true, Bool.or_eq_true, Bool.or_eq_false_iff, Bool.not_eq_true', Bool.not_eq_false', Int.not_lt, Int.not_le, gt_iff_lt, ge_iff_le, Classical.not_not] at p11
                refine A.seq ?_
                refine A.region ?_
                refine A.cons (A.q (some 81) (.pointer (some ⟨rb1, 0, none⟩)) (by kernel_rfl) (qt_move rfl rfl) ?_)
                refine A.cons (A.q (some 82) (.int .i64 x2) (by kernel_rfl) (qt_move rfl rfl) ?_)
                refine A.cons (A.q (some 83) (.int .i64 5) (by kernel_rfl) (qt_call [(.pointer (some ⟨rb1, 0, none⟩)), (.int .i64 x2)] rfl (by kernel_rfl) rfl (fun w s => ringI_pushFull rb1 rs1 r q x2 w (s.mem (i := 0) rfl) (by simp at e11; omega))) ?_)
                refine A.cons (A.q (some 84) (.bool false) (by kernel_rfl) (qt_pure (by kernel_rfl) fun _ => by kernel_rfl) ?_)
                refine A.done ?_
                refine A.norm [(0, (.int .i64 (r : Int))), (5, (.pointer (some ⟨rb1, 0, none⟩))), (6, (.int .i64 0)), (44, (.slice A0 ((xs).length) c0)), (45, (.int .i64 ((xs).length : Int))), (46, (.int .i64 (k : Int))), (7, (.slice Aw ((q).length) cp)), (47, (.bool (decide ((k : Int) < ((xs).length : Int))))), (9, (.int .i64 x2)), (51, (.bool (decide (x2 < 0)))), (80, (.bool (((q).length : Int) == (r : Int)))), (84, (.bool false))] [ringI encI 93 3 rb1 rs1 r q, sl Aw (q).length cp 3 1 (V.flat encI q)] (by exact ⟨rfl, rfl, rfl, rfl, rfl, rfl, rfl, rfl, rfl, rfl, rfl, rfl, trivial⟩) rfl ?_
                refine A.tn ?_
                refine A.cond_f rfl ?_
                refine A.skip ?_
                refine A.tn ?_
                refine A.seq ?_
                refine A.region ?_
                refine A.cons (A.q (some 93) (.pointer (some ⟨rb1, 0, none⟩)) (by kernel_rfl) (qt_move rfl rfl) ?_)
                refine A.cons (A.q (some 94) (.int .i64 (q.length : Int)) (by kernel_rfl) (qt_call [(.pointer (some ⟨rb1, 0, none⟩))] rfl (by kernel_rfl) rfl (fun w s => ringI_len rb1 rs1 r q w (s.mem (i := 0) rfl))) ?_)
                refine A.cons (A.q (some 95) (.slice Aw ((q).length) cp) (by kernel_rfl) (qt_move rfl rfl) ?_)
                refine A.cons (A.q (some 96) (.int .i64 ((q).length : Int)) (by kernel_rfl) (qt_pure (by kernel_rfl) fun _ => by kernel_rfl) ?_)
                refine A.cons (A.q (some 97) (.bool ((q.length : Int) != ((q).length : Int))) (by kernel_rfl) (qt_pure (by kernel_rfl) fun _ => by kernel_rfl) ?_)
                refine A.cons (A.q (some 98) (.bool ((q.length : Int) != ((q).length : Int))) (by kernel_rfl) (qt_move rfl rfl) ?_)
                refine A.bool ((q.length : Int) != ((q).length : Int)) (fun e12 => ?_) (fun e12 => ?_)
                · exact absurd e12 (by first | (simp; done) | (simp; omega) | omega | grind)
                · skip
                  refine A.sub [(0, (.int .i64 (r : Int))), (5, (.pointer (some ⟨rb1, 0, none⟩))), (6, (.int .i64 0)), (44, (.slice A0 ((xs).length) c0)), (45, (.int .i64 ((xs).length : Int))), (46, (.int .i64 (k : Int))), (7, (.slice Aw ((q).length) cp)), (47, (.bool (decide ((k : Int) < ((xs).length : Int))))), (9, (.int .i64 x2)), (51, (.bool (decide (x2 < 0)))), (80, (.bool (((q).length : Int) == (r : Int)))), (84, (.bool false)), (93, (.pointer (some ⟨rb1, 0, none⟩))), (94, (.int .i64 (q.length : Int))), (95, (.slice Aw ((q).length) cp)), (96, (.int .i64 ((q).length : Int))), (97, (.bool false)), (98, (.bool false))] (by exact ⟨rfl, rfl, rfl, rfl, rfl, rfl, rfl, rfl, rfl, rfl, rfl, rfl, rfl, rfl, rfl, rfl, (congrArg (fun z => some (Value.bool z)) e12), (congrArg (fun z => some (Value.bool z)) e12), trivial⟩) ?_
                  refine A.cons (A.q (some 99) (.pointer (some ⟨rb1, 0, none⟩)) (by kernel_rfl) (qt_move rfl rfl) ?_)
                  refine A.cons (A.q (some 100) (.int .i64 ((r : Int) - (q.length : Int))) (by kernel_rfl) (qt_call [(.pointer (some ⟨rb1, 0, none⟩))] rfl (by kernel_rfl) rfl (fun w s => ringI_room rb1 rs1 r q w (s.mem (i := 0) rfl))) ?_)
                  refine A.cons (A.q (some 101) (.int .i64 (r : Int)) (by kernel_rfl) (qt_move rfl rfl) ?_)
                  refine A.cons (A.q (some 102) (.slice Aw ((q).length) cp) (by kernel_rfl) (qt_move rfl rfl) ?_)
                  refine A.cons (A.q (some 103) (.int .i64 ((q).length : Int)) (by kernel_rfl) (qt_pure (by kernel_rfl) fun _ => by kernel_rfl) ?_)
                  refine A.cons (A.q (some 104) (.int .i64 ((r : Int) - ((q).length : Int))) (by kernel_rfl) (qt_as (congrArg (Value.int .i64) (wrap_i64 (e := (r : Int) - ((q).length : Int)) (by first | (constructor <;> omega) | (simp; omega)))) (qt_pure (v := .int .i64 (IntKind.i64.wrap ((r : Int) - ((q).length : Int)))) (by kernel_rfl) fun _ => by kernel_rfl)) ?_)
                  refine A.cons (A.q (some 105) (.bool (((r : Int) - (q.length : Int)) != ((r : Int) - ((q).length : Int)))) (by kernel_rfl) (qt_pure (by kernel_rfl) fun _ => by kernel_rfl) ?_)
                  refine A.cons (A.q (some 106) (.bool (((r : Int) - (q.length : Int)) != ((r : Int) - ((q).length : Int)))) (by kernel_rfl) (qt_pure (by kernel_rfl) fun _ => by kernel_rfl) ?_)
                  refine A.done ?_
                  refine A.norm [(0, (.int .i64 (r : Int))), (5, (.pointer (some ⟨rb1, 0, none⟩))), (6, (.int .i64 0)), (44, (.slice A0 ((xs).length) c0)), (45, (.int .i64 ((xs).length : Int))), (46, (.int .i64 (k : Int))), (7, (.slice Aw ((q).length) cp)), (47, (.bool (decide ((k : Int) < ((xs).length : Int))))), (9, (.int .i64 x2)), (51, (.bool (decide (x2 < 0)))), (80, (.bool (((q).length : Int) == (r : Int)))), (84, (.bool false)), (106, (.bool (((r : Int) - (q.length : Int)) != ((r : Int) - ((q).length : Int)))))] [ringI encI 93 3 rb1 rs1 r q, sl Aw (q).length cp 3 1 (V.flat encI q)] (by exact ⟨rfl, rfl, rfl, rfl, rfl, rfl, rfl, rfl, rfl, rfl, rfl, rfl, rfl, trivial⟩) rfl ?_
                  refine A.tn ?_
                  refine A.cond (E := ((r : Int) - (q.length : Int)) != ((r : Int) - ((q).length : Int))) rfl (fun e13 => ?_) (fun e13 => ?_)
                  · exact absurd e13 (by first | (simp; done) | (simp; omega) | omega | grind)
                  · skip
                    have p13 := e13; try simp only [decide_eq_true_eq, decide_eq_false_iff_not, beq_iff_eq, beq_eq_false_iff_ne, bne_iff_ne, bne_eq_false_iff_eq, ne_eq, Bool.and_eq_true, Bool.or_eq_true, Bool.or_eq_false_iff, Bool.not_eq_true', Bool.not_eq_false', Int.not_lt, Int.not_le, gt_iff_lt, ge_iff_le, Classical.not_not] at p13
                    refine A.skip ?_
                    refine A.bn ?_
                    refine A.tn ?_
                    refine A.region ?_
                    refine A.cons (A.q (some 107) (.int .i64 ((k : Int) + 1)) (by kernel_rfl) (qt_as (congrArg (Value.int .i64) (wrap_i64 (e := (k : Int) + 1) (by first | (constructor <;> omega) | (simp; omega)))) (qt_pure (v := .int .i64 (IntKind.i64.wrap ((k : Int) + 1))) (by kernel_rfl) fun _ => by kernel_rfl)) ?_)
                    refine A.cons (A.q (some 46) (.int .i64 ((k : Int) + 1)) (by kernel_rfl) (qt_move rfl rfl) ?_)
                    refine A.done ?_
                    refine A.norm [(0, (.int .i64 (r : Int))), (5, (.pointer (some ⟨rb1, 0, none⟩))), (6, (.int .i64 0)), (44, (.slice A0 ((xs).length) c0)), (45, (.int .i64 ((xs).length : Int))), (46, (.int .i64 ((k : Int) + 1))), (7, (.slice Aw ((q).length) cp)), (47, (.bool (decide ((k : Int) < ((xs).length : Int))))), (9, (.int .i64 x2)), (51, (.bool (decide (x2 < 0)))), (80, (.bool (((q).length : Int) == (r : Int)))), (84, (.bool false)), (106, (.bool (((r : Int) - (q.length : Int)) != ((r : Int) - ((q).length : Int)))))] [ringI encI 93 3 rb1 rs1 r q, sl Aw (q).length cp 3 1 (V.flat encI q)] (by exact ⟨rfl, rfl, rfl, rfl, rfl, rfl, rfl, rfl, rfl, rfl, rfl, rfl, rfl, trivial⟩) rfl ?_
                    refine A.tn ?_
                    refine A.next (k + 1, q, Aw, cp) (⟨by omega, by first | omega | (simp; done) | (simp; omega) | grind⟩) (by simp only []; omega) ?_
                    exact A.here (by exact ⟨rfl, rfl, rfl, rfl, rfl, rfl, rfl, trivial⟩) (List.Sublist.refl _)
              · skip
                have p11 := e11; try simp only [decide_eq_true_eq, decide_eq_false_iff_not, beq_iff_eq, beq_eq_false_iff_ne, bne_iff_ne, bne_eq_false_iff_eq, ne_eq, Bool.and_eq_true, Bool.or_eq_true, Bool.or_eq_false_iff, Bool.not_eq_true', Bool.not_eq_false', Int.not_lt, Int.not_le, gt_iff_lt, ge_iff_le, Classical.not_not] at p11
                refine A.seq ?_
                refine A.seq ?_
                refine A.region ?_
                refine A.cons (A.q (some 85) (.pointer (some ⟨rb1, 0, none⟩)) (by kernel_rfl) (qt_move rfl rfl) ?_)
                refine A.cons (A.q (some 86) (.int .i64 x2) (by kernel_rfl) (qt_move rfl rfl) ?_)
                refine A.cons (A.call (some 87) [(.pointer (some ⟨rb1, 0, none⟩)), (.int .i64 x2)] (fun _ : Unit => (.int .i64 0)) (fun _ => True) (fun _ => [ringI encI 93 3 rb1 rs1 r (q ++ [x2]), sl Aw (q).length cp 3 1 (V.flat encI q)]) (by kernel_rfl) rfl (by kernel_rfl) rfl (fun w s => (ringI_push rb1 rs1 r q x2 w (s.mem (i := 0) rfl) (by first | omega | (simp; done) | (simp; omega) | grind)).mono fun e w1 ⟨he, hr, hf⟩ => ⟨(), he, trivial, s.turn (i := 0) rfl hf hr (by have := (s.mem (i := 0) rfl : RingH _ _ _ _ _ _ _ _).bounds.2.2.2; simpa [ringI] using this) (fun _ h => .inl h)⟩) (fun _ _ => ?_))
                refine A.cons (A.q (some 88) (.bool false) (by kernel_rfl) (qt_pure (by kernel_rfl) fun _ => by kernel_rfl) ?_)
                refine A.done ?_
                refine A.norm [(0, (.int .i64 (r : Int))), (5, (.pointer (some ⟨rb1, 0, none⟩))), (6, (.int .i64 0)), (44, (.slice A0 ((xs).length) c0)), (45, (.int .i64 ((xs).length : Int))), (46, (.int .i64 (k : Int))), (7, (.slice Aw ((q).length) cp)), (47, (.bool (decide ((k : Int) < ((xs).length : Int))))), (9, (.int .i64 x2)), (51, (.bool (decide (x2 < 0)))), (80, (.bool (((q).length : Int) == (r : Int)))), (88, (.bool false))] [ringI encI 93 3 rb1 rs1 r (q ++ [x2]), sl Aw (q).length cp 3 1 (V.flat encI q)] (by exact ⟨rfl, rfl, rfl, rfl, rfl, rfl, rfl, rfl, rfl, rfl, rfl, rfl, trivial⟩) rfl ?_
                refine A.tn ?_
                refine A.cond_f rfl ?_
                refine A.skip ?_
                refine A.tn ?_
                refine A.region ?_
                refine A.cons (A.q (some 89) (.slice Aw ((q).length) cp) (by kernel_rfl) (qt_move rfl rfl) ?_)
                refine A.cons (A.q (some 90) (.int .i64 x2) (by kernel_rfl) (qt_move rfl rfl) ?_)
                refine A.cons (A.buildSlice 91 (e := 3) [(.int .i64 x2)] (by kernel_rfl) rfl (fun _ => by kernel_rfl) (fun b4 => [ringI encI 93 3 rb1 rs1 r (q ++ [x2]), sl Aw (q).length cp 3 1 (V.flat encI q), blk b4 [(.int .i64 x2)] 3]) (fun _ => rfl) ?_)
                intro b4
                refine A.cons (A.appendC (enc := encI) (xs := q) [x2] 1 92 (e := 3) (z := (.int .i64 0)) (sz := 1) (by_ := 8) (by kernel_rfl) rfl rfl rfl (by kernel_rfl) (by kernel_rfl) (by rfl) (by decide) encI_len encI_one rfl (rd_blk (i := 2) rfl) (by first | omega | (simp; done) | (simp; omega)) (fun A5 c5 => [ringI encI 93 3 rb1 rs1 r (q ++ [x2]), sl A5 (q ++ ([x2])).length c5 3 1 (V.flat encI (q ++ ([x2]))), blk b4 [(.int .i64 x2)] 3]) (fun _ _ => rfl) ?_)
                intro A5 c5
                refine A.cons (A.q (some 7) (.slice A5 ((q ++ ([x2])).length) c5) (by kernel_rfl) (qt_assign rfl rfl) ?_)
                refine A.done ?_
                refine A.norm [(0, (.int .i64 (r : Int))), (5, (.pointer (some ⟨rb1, 0, none⟩))), (6, (.int .i64 0)), (44, (.slice A0 ((xs).length) c0)), (45, (.int .i64 ((xs).length : Int))), (46, (.int .i64 (k : Int))), (7, (.slice A5 ((q ++ ([x2])).length) c5)), (47, (.bool (decide ((k : Int) < ((xs).length : Int))))), (9, (.int .i64 x2)), (51, (.bool (decide (x2 < 0)))), (80, (.bool (((q).length : Int) == (r : Int)))), (88, (.bool false))] [ringI encI 93 3 rb1 rs1 r (q ++ [x2]), sl A5 (q ++ ([x2])).length c5 3 1 (V.flat encI (q ++ ([x2]))), blk b4 [(.int .i64 x2)] 3] (by exact ⟨rfl, rfl, rfl, rfl, rfl, rfl, rfl, rfl, rfl, rfl, rfl, rfl, trivial⟩) rfl ?_
                refine A.tn ?_
                refine A.seq ?_
                refine A.region ?_
                refine A.cons (A.q (some 93) (.pointer (some ⟨rb1, 0, none⟩)) (by kernel_rfl) (qt_move rfl rfl) ?_)
                refine A.cons (A.q (some 94) (.int .i64 ((q ++ [x2]).length : Int)) (by kernel_rfl) (qt_call [(.pointer (some ⟨rb1, 0, none⟩))] rfl (by kernel_rfl) rfl (fun w s => ringI_len rb1 rs1 r (q ++ [x2]) w (s.mem (i := 0) rfl))) ?_)
                refine A.cons (A.q (some 95) (.slice A5 ((q ++ ([x2])).length) c5) (by kernel_rfl) (qt_move rfl rfl) ?_)
                refine A.cons (A.q (some 96) (.int .i64 ((q ++ ([x2])).length : Int)) (by kernel_rfl) (qt_pure (by kernel_rfl) fun _ => by kernel_rfl) ?_)
                refine A.cons (A.q (some 97) (.bool (((q ++ [x2]).length : Int) != ((q ++ ([x2])).length : Int))) (by kernel_rfl) (qt_pure (by kernel_rfl) fun _ => by kernel_rfl) ?_)
                refine A.cons (A.q (some 98) (.bool (((q ++ [x2]).length : Int) != ((q ++ ([x2])).length : Int))) (by kernel_rfl) (qt_move rfl rfl) ?_)
                refine A.bool (((q ++ [x2]).length : Int) != ((q ++ ([x2])).length : Int)) (fun e14 => ?_) (fun e14 => ?_)
                · exact absurd e14 (by first | (simp; done) | (simp; omega) | omega | grind)
                · skip
                  refine A.sub [(0, (.int .i64 (r : Int))), (5, (.pointer (some ⟨rb1, 0, none⟩))), (6, (.int .i64 0)), (44, (.slice A0 ((xs).length) c0)), (45, (.int .i64 ((xs).length : Int))), (46, (.int .i64 (k : Int))), (7, (.slice A5 ((q ++ ([x2])).length) c5)), (47, (.bool (decide ((k : Int) < ((xs).length : Int))))), (9, (.int .i64 x2)), (51, (.bool (decide (x2 < 0)))), (80, (.bool (((q).length : Int) == (r : Int)))), (88, (.bool false)), (93, (.pointer (some ⟨rb1, 0, none⟩))), (94, (.int .i64 ((q ++ [x2]).length : Int))), (95, (.slice A5 ((q ++ ([x2])).length) c5)), (96, (.int .i64 ((q ++ ([x2])).length : Int))), (97, (.bool false)), (98, (.bool false))] (by exact ⟨rfl, rfl, rfl, rfl, rfl, rfl, rfl, rfl, rfl, rfl, rfl, rfl, rfl, rfl, rfl, rfl, (congrArg (fun z => some (Value.bool z)) e14), (congrArg (fun z => some (Value.bool z)) e14), trivial⟩) ?_
                  refine A.cons (A.q (some 99) (.pointer (some ⟨rb1, 0, none⟩)) (by kernel_rfl) (qt_move rfl rfl) ?_)
                  refine A.cons (A.q (some 100) (.int .i64 ((r : Int) - ((q ++ [x2]).length : Int))) (by kernel_rfl) (qt_call [(.pointer (some ⟨rb1, 0, none⟩))] rfl (by kernel_rfl) rfl (fun w s => ringI_room rb1 rs1 r (q ++ [x2]) w (s.mem (i := 0) rfl))) ?_)
                  refine A.cons (A.q (some 101) (.int .i64 (r : Int)) (by kernel_rfl) (qt_move rfl rfl) ?_)
                  refine A.cons (A.q (some 102) (.slice A5 ((q ++ ([x2])).length) c5) (by kernel_rfl) (qt_move rfl rfl) ?_)
                  refine A.cons (A.q (some 103) (.int .i64 ((q ++ ([x2])).length : Int)) (by kernel_rfl) (qt_pure (by kernel_rfl) fun _ => by kernel_rfl) ?_)
                  refine A.cons (A.q (some 104) (.int .i64 ((r : Int) - ((q ++ ([x2])).length : Int))) (by kernel_rfl) (qt_as (congrArg (Value.int .i64) (wrap_i64 (e := (r : Int) - ((q ++ ([x2])).length : Int)) (by first | (constructor <;> omega) | (simp; omega)))) (qt_pure (v := .int .i64 (IntKind.i64.wrap ((r : Int) - ((q ++ ([x2])).length : Int)))) (by kernel_rfl) fun _ => by kernel_rfl)) ?_)
                  refine A.cons (A.q (some 105) (.bool (((r : Int) - ((q ++ [x2]).length : Int)) != ((r : Int) - ((q ++ ([x2])).length : Int)))) (by kernel_rfl) (qt_pure (by kernel_rfl) fun _ => by kernel_rfl) ?_)
                  refine A.cons (A.q (some 106) (.bool (((r : Int) - ((q ++ [x2]).length : Int)) != ((r : Int) - ((q ++ ([x2])).length : Int)))) (by kernel_rfl) (qt_pure (by kernel_rfl) fun _ => by kernel_rfl) ?_)
                  refine A.done ?_
                  refine A.norm [(0, (.int .i64 (r : Int))), (5, (.pointer (some ⟨rb1, 0, none⟩))), (6, (.int .i64 0)), (44, (.slice A0 ((xs).length) c0)), (45, (.int .i64 ((xs).length : Int))), (46, (.int .i64 (k : Int))), (7, (.slice A5 ((q ++ ([x2])).length) c5)), (47, (.bool (decide ((k : Int) < ((xs).length : Int))))), (9, (.int .i64 x2)), (51, (.bool (decide (x2 < 0)))), (80, (.bool (((q).length : Int) == (r : Int)))), (88, (.bool false)), (106, (.bool (((r : Int) - ((q ++ [x2]).length : Int)) != ((r : Int) - ((q ++ ([x2])).length : Int)))))] [ringI encI 93 3 rb1 rs1 r (q ++ [x2]), sl A5 (q ++ ([x2])).length c5 3 1 (V.flat encI (q ++ ([x2]))), blk b4 [(.int .i64 x2)] 3] (by exact ⟨rfl, rfl, rfl, rfl, rfl, rfl, rfl, rfl, rfl, rfl, rfl, rfl, rfl, trivial⟩) rfl ?_
                  refine A.tn ?_
                  refine A.cond (E := ((r : Int) - ((q ++ [x2]).length : Int)) != ((r : Int) - ((q ++ ([x2])).length : Int))) rfl (fun e15 => ?_) (fun e15 => ?_)
                  · exact absurd e15 (by first | (simp; done) | (simp; omega) | omega | grind)
                  · skip
                    have p15 := e15; try simp only [decide_eq_true_eq, decide_eq_false_iff_not, beq_iff_eq, beq_eq_false_iff_ne, bne_iff_ne, bne_eq_false_iff_eq, ne_eq, Bool.and_eq_true, Bool.or_eq_true, Bool.or_eq_false_iff, Bool.not_eq_true', Bool.not_eq_false', Int.not_lt, Int.not_le, gt_iff_lt, ge_iff_le, Classical.not_not] at p15
                    refine A.skip ?_
                    refine A.bn ?_
                    refine A.tn ?_
                    refine A.region ?_
                    refine A.cons (A.q (some 107) (.int .i64 ((k : Int) + 1)) (by kernel_rfl) (qt_as (congrArg (Value.int .i64) (wrap_i64 (e := (k : Int) + 1) (by first | (constructor <;> omega) | (simp; omega)))) (qt_pure (v := .int .i64 (IntKind.i64.wrap ((k : Int) + 1))) (by kernel_rfl) fun _ => by kernel_rfl)) ?_)
                    refine A.cons (A.q (some 46) (.int .i64 ((k : Int) + 1)) (by kernel_rfl) (qt_move rfl rfl) ?_)
                    refine A.done ?_
                    refine A.norm [(0, (.int .i64 (r : Int))), (5, (.pointer (some ⟨rb1, 0, none⟩))), (6, (.int .i64 0)), (44, (.slice A0 ((xs).length) c0)), (45, (.int .i64 ((xs).length : Int))), (46, (.int .i64 ((k : Int) + 1))), (7, (.slice A5 ((q ++ ([x2])).length) c5)), (47, (.bool (decide ((k : Int) < ((xs).length : Int))))), (9, (.int .i64 x2)), (51, (.bool (decide (x2 < 0)))), (80, (.bool (((q).length : Int) == (r : Int)))), (88, (.bool false)), (106, (.bool (((r : Int) - ((q ++ [x2]).length : Int)) != ((r : Int) - ((q ++ ([x2])).length : Int)))))] [ringI encI 93 3 rb1 rs1 r (q ++ [x2]), sl A5 (q ++ ([x2])).length c5 3 1 (V.flat encI (q ++ ([x2]))), blk b4 [(.int .i64 x2)] 3] (by exact ⟨rfl, rfl, rfl, rfl, rfl, rfl, rfl, rfl, rfl, rfl, rfl, rfl, rfl, trivial⟩) rfl ?_
                    refine A.tn ?_
                    refine A.next (k + 1, q ++ ([x2]), A5, c5) (⟨by omega, by first | omega | (simp; done) | (simp; omega) | grind⟩) (by simp only []; omega) ?_
                    exact A.here (by exact ⟨rfl, rfl, rfl, rfl, rfl, rfl, rfl, trivial⟩) (List.Sublist.cons_cons _ (List.Sublist.cons_cons _ (List.Sublist.cons _ (List.Sublist.slnil))))
          · skip
            have p4 := e4; try simp only [decide_eq_true_eq, decide_eq_false_iff_not, beq_iff_eq, beq_eq_false_iff_ne, bne_iff_ne, bne_eq_false_iff_eq, ne_eq, Bool.and_eq_true, Bool.or_eq_true, Bool.or_eq_false_iff, Bool.not_eq_true', Bool.not_eq_false', Int.not_lt, Int.not_le, gt_iff_lt, ge_iff_le, Classical.not_not] at p4
            refine A.exit ?_
            refine A.te ?_
            refine A.te ?_
            refine A.bh ?_
            refine A.tn ?_
            refine A.seq ?_
            refine A.seq ?_
            refine A.region ?_
            refine A.cons (A.q (some 108) (.slice Aw ((q).length) cp) (by kernel_rfl) (qt_move rfl rfl) ?_)
            refine A.cons (A.q (some 109) (.int .i64 ((q).length : Int)) (by kernel_rfl) (qt_pure (by kernel_rfl) fun _ => by kernel_rfl) ?_)
            refine A.cons (A.q (some 110) (.int .i64 0) (by kernel_rfl) (qt_move rfl rfl) ?_)
            refine A.done ?_
            refine A.norm [(0, (.int .i64 (r : Int))), (5, (.pointer (some ⟨rb1, 0, none⟩))), (6, (.int .i64 0)), (44, (.slice A0 ((xs).length) c0)), (45, (.int .i64 ((xs).length : Int))), (46, (.int .i64 (k : Int))), (7, (.slice Aw ((q).length) cp)), (47, (.bool (decide ((k : Int) < ((xs).length : Int))))), (108, (.slice Aw ((q).length) cp)), (109, (.int .i64 ((q).length : Int))), (110, (.int .i64 0))] [ringI encI 93 3 rb1 rs1 r q, sl Aw (q).length cp 3 1 (V.flat encI q)] (by exact ⟨rfl, rfl, rfl, rfl, rfl, rfl, rfl, rfl, rfl, rfl, rfl, trivial⟩) rfl ?_
            refine A.tn ?_
            refine A.block ?_
            refine A.loop (fun (x : Nat) => match x with | j => [(5, (.pointer (some ⟨rb1, 0, none⟩))), (6, (.int .i64 0)), (7, (.slice Aw ((q).length) cp)), (108, (.slice Aw ((q).length) cp)), (109, (.int .i64 ((q).length : Int))), (110, (.int .i64 (j : Int)))]) (fun (x : Nat) => match x with | j => [ringI encI 93 3 rb1 rs1 r q, sl Aw (q).length cp 3 1 (V.flat encI q)]) (fun (x : Nat) => match x with | j => j ≤ q.length) (fun (x : Nat) => match x with | j => q.length - j) (0 : Nat) (Nat.zero_le _) ?_ ?_
            · exact A.here (by exact ⟨rfl, rfl, rfl, rfl, rfl, rfl, trivial⟩) (List.Sublist.refl _)
            · rintro j hj
              refine A.norm [(5, (.pointer (some ⟨rb1, 0, none⟩))), (6, (.int .i64 0)), (7, (.slice Aw ((q).length) cp)), (108, (.slice Aw ((q).length) cp)), (109, (.int .i64 ((q).length : Int))), (110, (.int .i64 (j : Int)))] [ringI encI 93 3 rb1 rs1 r q, sl Aw (q).length cp 3 1 (V.flat encI q)] (by exact ⟨rfl, rfl, rfl, rfl, rfl, rfl, trivial⟩) rfl ?_
              refine A.seq ?_
              refine A.region ?_
              refine A.cons (A.q (some 111) (.bool (decide ((j : Int) < ((q).length : Int)))) (by kernel_rfl) (qt_pure (by kernel_rfl) fun _ => by kernel_rfl) ?_)
              refine A.done ?_
              refine A.norm [(5, (.pointer (some ⟨rb1, 0, none⟩))), (6, (.int .i64 0)), (7, (.slice Aw ((q).length) cp)), (108, (.slice Aw ((q).length) cp)), (109, (.int .i64 ((q).length : Int))), (110, (.int .i64 (j : Int))), (111, (.bool (decide ((j : Int) < ((q).length : Int)))))] [ringI encI 93 3 rb1 rs1 r q, sl Aw (q).length cp 3 1 (V.flat encI q)] (by exact ⟨rfl, rfl, rfl, rfl, rfl, rfl, rfl, trivial⟩) rfl ?_
              refine A.tn ?_
              refine A.seq ?_
              refine A.cond (E := decide ((j : Int) < ((q).length : Int))) rfl (fun e16 => ?_) (fun e16 => ?_)
              · skip
                have p16 := e16; try simp only [decide_eq_true_eq, decide_eq_false_iff_not, beq_iff_eq, beq_eq_false_iff_ne, bne_iff_ne, bne_eq_false_iff_eq, ne_eq, Bool.and_eq_true, Bool.or_eq_true, Bool.or_eq_false_iff, Bool.not_eq_true', Bool.not_eq_false', Int.not_lt, Int.not_le, gt_iff_lt, ge_iff_le, Classical.not_not] at p16
                refine A.skip ?_
                refine A.tn ?_
                refine A.seq ?_
                refine A.block ?_
                refine A.seq ?_
                refine A.region ?_
                refine A.cons (A.q (some 112) (.int .i64 (j : Int)) (by kernel_rfl) (qt_move rfl rfl) ?_)
                refine A.cons (A.q (some 113) (.pointer (some ((at0 Aw).add (j * 1)))) (by kernel_rfl) (qt_indexN (el := 3) (enc := encI) (xs := q) (m := j) rfl rfl rfl (by kernel_rfl) (by kernel_rfl) encI_len (rd_sl (i := 1) rfl) (by decide) (by first | omega | (simp; done) | (simp; omega))) ?_)
                obtain ⟨x6, hx6⟩ : ∃ x, (q)[j]? = some x := ⟨_, List.getElem?_eq_getElem (by omega)⟩
                refine A.cons (A.q (some 114) (.int .i64 x6) (by kernel_rfl) (qt_load1 rfl rfl (by kernel_rfl) (reads_at0 (vs := [(.int .i64 x6)]) encI_len (rd_sl (i := 1) rfl) hx6 (by simp) rfl)) ?_)
                refine A.cons (A.q (some 12) (.int .i64 (j : Int)) (by kernel_rfl) (qt_assign rfl rfl) ?_)
                refine A.cons (A.q (some 13) (.int .i64 x6) (by kernel_rfl) (qt_assign rfl rfl) ?_)
                refine A.done ?_
                refine A.norm [(5, (.pointer (some ⟨rb1, 0, none⟩))), (6, (.int .i64 0)), (7, (.slice Aw ((q).length) cp)), (108, (.slice Aw ((q).length) cp)), (109, (.int .i64 ((q).length : Int))), (110, (.int .i64 (j : Int))), (111, (.bool (decide ((j : Int) < ((q).length : Int))))), (12, (.int .i64 (j : Int))), (13, (.int .i64 x6))] [ringI encI 93 3 rb1 rs1 r q, sl Aw (q).length cp 3 1 (V.flat encI q)] (by exact ⟨rfl, rfl, rfl, rfl, rfl, rfl, rfl, rfl, rfl, trivial⟩) rfl ?_
                refine A.tn ?_
                refine A.seq ?_
                refine A.region ?_
                refine A.cons (A.q (some 116) (.pointer (some ⟨rb1, 0, none⟩)) (by kernel_rfl) (qt_move rfl rfl) ?_)
                refine A.cons (A.q (some 117) (.int .i64 (j : Int)) (by kernel_rfl) (qt_move rfl rfl) ?_)
                refine A.cons (A.q (some 118) (.tuple #[(.int .i64 x6), (.int .i64 0)]) (by kernel_rfl) (qt_call [(.pointer (some ⟨rb1, 0, none⟩)), (.int .i64 (j : Int))] rfl (by kernel_rfl) rfl (fun w s => ringI_at rb1 rs1 r j q x6 w (s.mem (i := 0) rfl) hx6)) ?_)
                refine A.cons (A.q (some 115) (.tuple #[(.int .i64 x6), (.int .i64 0)]) (by kernel_rfl) (qt_move rfl rfl) ?_)
                refine A.cons (A.q (some 119) (.int .i64 x6) (by kernel_rfl) (qt_pure (by kernel_rfl) fun _ => by kernel_rfl) ?_)
                refine A.cons (A.q (some 120) (.int .i64 0) (by kernel_rfl) (qt_pure (by kernel_rfl) fun _ => by kernel_rfl) ?_)
                refine A.cons (A.q (some 14) (.int .i64 x6) (by kernel_rfl) (qt_assign rfl rfl) ?_)
                refine A.cons (A.q (some 15) (.int .i64 0) (by kernel_rfl) (qt_assign rfl rfl) ?_)
                refine A.done ?_
                refine A.norm [(5, (.pointer (some ⟨rb1, 0, none⟩))), (6, (.int .i64 0)), (7, (.slice Aw ((q).length) cp)), (108, (.slice Aw ((q).length) cp)), (109, (.int .i64 ((q).length : Int))), (110, (.int .i64 (j : Int))), (111, (.bool (decide ((j : Int) < ((q).length : Int))))), (12, (.int .i64 (j : Int))), (13, (.int .i64 x6)), (14, (.int .i64 x6)), (15, (.int .i64 0))] [ringI encI 93 3 rb1 rs1 r q, sl Aw (q).length cp 3 1 (V.flat encI q)] (by exact ⟨rfl, rfl, rfl, rfl, rfl, rfl, rfl, rfl, rfl, rfl, rfl, trivial⟩) rfl ?_
                refine A.tn ?_
                refine A.seq ?_
                refine A.region ?_
                refine A.cons (A.q (some 121) (.int .i64 0) (by kernel_rfl) (qt_move rfl rfl) ?_)
                refine A.cons (A.q (some 122) (.bool false) (by kernel_rfl) (qt_pure (by kernel_rfl) fun _ => by kernel_rfl) ?_)
                refine A.cons (A.q (some 123) (.bool false) (by kernel_rfl) (qt_move rfl rfl) ?_)
                refine A.cons (A.q (some 124) (.int .i64 x6) (by kernel_rfl) (qt_move rfl rfl) ?_)
                refine A.cons (A.q (some 125) (.int .i64 x6) (by kernel_rfl) (qt_move rfl rfl) ?_)
                refine A.cons (A.q (some 126) (.bool (x6 != x6)) (by kernel_rfl) (qt_pure (by kernel_rfl) fun _ => by kernel_rfl) ?_)
                refine A.cons (A.q (some 127) (.bool (x6 != x6)) (by kernel_rfl) (qt_pure (by kernel_rfl) fun _ => by kernel_rfl) ?_)
                refine A.done ?_
                refine A.norm [(5, (.pointer (some ⟨rb1, 0, none⟩))), (6, (.int .i64 0)), (7, (.slice Aw ((q).length) cp)), (108, (.slice Aw ((q).length) cp)), (109, (.int .i64 ((q).length : Int))), (110, (.int .i64 (j : Int))), (111, (.bool (decide ((j : Int) < ((q).length : Int))))), (12, (.int .i64 (j : Int))), (13, (.int .i64 x6)), (14, (.int .i64 x6)), (15, (.int .i64 0)), (127, (.bool (x6 != x6)))] [ringI encI 93 3 rb1 rs1 r q, sl Aw (q).length cp 3 1 (V.flat encI q)] (by exact ⟨rfl, rfl, rfl, rfl, rfl, rfl, rfl, rfl, rfl, rfl, rfl, rfl, trivial⟩) rfl ?_
                refine A.tn ?_
                refine A.cond (E := x6 != x6) rfl (fun e17 => ?_) (fun e17 => ?_)
                · exact absurd e17 (by first | (simp; done) | (simp; omega) | omega | grind)
                · skip
                  have p17 := e17; try simp only [decide_eq_true_eq, decide_eq_false_iff_not, beq_iff_eq, beq_eq_false_iff_ne, bne_iff_ne, bne_eq_false_iff_eq, ne_eq, Bool.and_eq_true, Bool.or_eq_true, Bool.or_eq_false_iff, Bool.not_eq_true', Bool.not_eq_false', Int.not_lt, Int.not_le, gt_iff_lt, ge_iff_le, Classical.not_not] at p17
                  refine A.skip ?_
                  refine A.bn ?_
                  refine A.tn ?_
                  refine A.region ?_
                  refine A.cons (A.q (some 128) (.int .i64 ((j : Int) + 1)) (by kernel_rfl) (qt_as (congrArg (Value.int .i64) (wrap_i64 (e := (j : Int) + 1) (by first | (constructor <;> omega) | (simp; omega)))) (qt_pure (v := .int .i64 (IntKind.i64.wrap ((j : Int) + 1))) (by kernel_rfl) fun _ => by kernel_rfl)) ?_)
                  refine A.cons (A.q (some 110) (.int .i64 ((j : Int) + 1)) (by kernel_rfl) (qt_move rfl rfl) ?_)
                  refine A.done ?_
                  refine A.norm [(5, (.pointer (some ⟨rb1, 0, none⟩))), (6, (.int .i64 0)), (7, (.slice Aw ((q).length) cp)), (108, (.slice Aw ((q).length) cp)), (109, (.int .i64 ((q).length : Int))), (110, (.int .i64 ((j : Int) + 1))), (111, (.bool (decide ((j : Int) < ((q).length : Int))))), (12, (.int .i64 (j : Int))), (13, (.int .i64 x6)), (14, (.int .i64 x6)), (15, (.int .i64 0)), (127, (.bool (x6 != x6)))] [ringI encI 93 3 rb1 rs1 r q, sl Aw (q).length cp 3 1 (V.flat encI q)] (by exact ⟨rfl, rfl, rfl, rfl, rfl, rfl, rfl, rfl, rfl, rfl, rfl, rfl, trivial⟩) rfl ?_
                  refine A.tn ?_
                  refine A.next (j + 1) (by omega) (by simp only []; omega) ?_
                  exact A.here (by exact ⟨rfl, rfl, rfl, rfl, rfl, rfl, trivial⟩) (List.Sublist.refl _)
              · skip
                have p16 := e16; try simp only [decide_eq_true_eq, decide_eq_false_iff_not, beq_iff_eq, beq_eq_false_iff_ne, bne_iff_ne, bne_eq_false_iff_eq, ne_eq, Bool.and_eq_true, Bool.or_eq_true, Bool.or_eq_false_iff, Bool.not_eq_true', Bool.not_eq_false', Int.not_lt, Int.not_le, gt_iff_lt, ge_iff_le, Classical.not_not] at p16
                refine A.exit ?_
                refine A.te ?_
                refine A.te ?_
                refine A.bh ?_
                refine A.tn ?_
                refine A.seq ?_
                refine A.region ?_
                refine A.cons (A.q (some 130) (.pointer (some ⟨rb1, 0, none⟩)) (by kernel_rfl) (qt_move rfl rfl) ?_)
                refine A.cons (A.q (some 131) (.slice Aw ((q).length) cp) (by kernel_rfl) (qt_move rfl rfl) ?_)
                refine A.cons (A.q (some 132) (.int .i64 ((q).length : Int)) (by kernel_rfl) (qt_pure (by kernel_rfl) fun _ => by kernel_rfl) ?_)
                refine A.cons (A.q (some 133) (.tuple #[(.int .i64 0), (.int .i64 6)]) (by kernel_rfl) (qt_call [(.pointer (some ⟨rb1, 0, none⟩)), (.int .i64 ((q).length : Int))] rfl (by kernel_rfl) rfl (fun w s => ringI_atNone rb1 rs1 r ((q).length : Int) q w (s.mem (i := 0) rfl) (by simp))) ?_)
                refine A.cons (A.q (some 129) (.tuple #[(.int .i64 0), (.int .i64 6)]) (by kernel_rfl) (qt_move rfl rfl) ?_)
                refine A.cons (A.q (some 134) (.int .i64 0) (by kernel_rfl) (qt_pure (by kernel_rfl) fun _ => by kernel_rfl) ?_)
                refine A.cons (A.q (some 135) (.int .i64 6) (by kernel_rfl) (qt_pure (by kernel_rfl) fun _ => by kernel_rfl) ?_)
                refine A.cons (A.q (some 16) (.int .i64 0) (by kernel_rfl) (qt_assign rfl rfl) ?_)
                refine A.cons (A.q (some 17) (.int .i64 6) (by kernel_rfl) (qt_assign rfl rfl) ?_)
                refine A.done ?_
                refine A.norm [(5, (.pointer (some ⟨rb1, 0, none⟩))), (6, (.int .i64 0)), (7, (.slice Aw ((q).length) cp)), (108, (.slice Aw ((q).length) cp)), (109, (.int .i64 ((q).length : Int))), (110, (.int .i64 (j : Int))), (111, (.bool (decide ((j : Int) < ((q).length : Int))))), (17, (.int .i64 6))] [ringI encI 93 3 rb1 rs1 r q, sl Aw (q).length cp 3 1 (V.flat encI q)] (by exact ⟨rfl, rfl, rfl, rfl, rfl, rfl, rfl, rfl, trivial⟩) rfl ?_
                refine A.tn ?_
                refine A.seq ?_
                refine A.region ?_
                refine A.cons (A.q (some 137) (.pointer (some ⟨rb1, 0, none⟩)) (by kernel_rfl) (qt_move rfl rfl) ?_)
                refine A.cons (A.q (some 138) (.tuple #[(.int .i64 0), (.int .i64 6)]) (by kernel_rfl) (qt_call [(.pointer (some ⟨rb1, 0, none⟩)), (.int .i64 (-1))] rfl (by kernel_rfl) rfl (fun w s => ringI_atNone rb1 rs1 r (-1) q w (s.mem (i := 0) rfl) (by simp))) ?_)
                refine A.cons (A.q (some 136) (.tuple #[(.int .i64 0), (.int .i64 6)]) (by kernel_rfl) (qt_move rfl rfl) ?_)
                refine A.cons (A.q (some 139) (.int .i64 0) (by kernel_rfl) (qt_pure (by kernel_rfl) fun _ => by kernel_rfl) ?_)
                refine A.cons (A.q (some 140) (.int .i64 6) (by kernel_rfl) (qt_pure (by kernel_rfl) fun _ => by kernel_rfl) ?_)
                refine A.cons (A.q (some 18) (.int .i64 0) (by kernel_rfl) (qt_assign rfl rfl) ?_)
                refine A.cons (A.q (some 19) (.int .i64 6) (by kernel_rfl) (qt_assign rfl rfl) ?_)
                refine A.done ?_
                refine A.norm [(5, (.pointer (some ⟨rb1, 0, none⟩))), (6, (.int .i64 0)), (7, (.slice Aw ((q).length) cp)), (108, (.slice Aw ((q).length) cp)), (109, (.int .i64 ((q).length : Int))), (110, (.int .i64 (j : Int))), (111, (.bool (decide ((j : Int) < ((q).length : Int))))), (17, (.int .i64 6)), (19, (.int .i64 6))] [ringI encI 93 3 rb1 rs1 r q, sl Aw (q).length cp 3 1 (V.flat encI q)] (by exact ⟨rfl, rfl, rfl, rfl, rfl, rfl, rfl, rfl, rfl, trivial⟩) rfl ?_
                refine A.tn ?_
                refine A.seq ?_
                refine A.region ?_
                refine A.cons (A.q (some 141) (.int .i64 0) (by kernel_rfl) (qt_move rfl rfl) ?_)
                refine A.cons (A.q (some 142) (.bool true) (by kernel_rfl) (qt_pure (by kernel_rfl) fun _ => by kernel_rfl) ?_)
                refine A.cons (A.q (some 143) (.bool true) (by kernel_rfl) (qt_move rfl rfl) ?_)
                refine A.cons (A.q (some 144) (.int .i64 6) (by kernel_rfl) (qt_move rfl rfl) ?_)
                refine A.cons (A.q (some 145) (.bool true) (by kernel_rfl) (qt_pure (by kernel_rfl) fun _ => by kernel_rfl) ?_)
                refine A.cons (A.q (some 146) (.bool true) (by kernel_rfl) (qt_pure (by kernel_rfl) fun _ => by kernel_rfl) ?_)
                refine A.cons (A.q (some 147) (.bool true) (by kernel_rfl) (qt_move rfl rfl) ?_)
                refine A.cons (A.q (some 148) (.int .i64 6) (by kernel_rfl) (qt_move rfl rfl) ?_)
                refine A.cons (A.q (some 149) (.bool true) (by kernel_rfl) (qt_pure (by kernel_rfl) fun _ => by kernel_rfl) ?_)
                refine A.cons (A.q (some 150) (.bool true) (by kernel_rfl) (qt_pure (by kernel_rfl) fun _ => by kernel_rfl) ?_)
                refine A.cons (A.q (some 151) (.bool true) (by kernel_rfl) (qt_move rfl rfl) ?_)
                refine A.cons (A.q (some 152) (.bool true) (by kernel_rfl) (qt_call [] rfl (by kernel_rfl) rfl (fun w _ => pair_spec  w)) ?_)
                refine A.cons (A.q (some 153) (.bool true) (by kernel_rfl) (qt_pure (by kernel_rfl) fun _ => by kernel_rfl) ?_)
                refine A.cons (A.q (some 4) (.bool true) (by kernel_rfl) (qt_assign rfl rfl) ?_)
                refine A.done ?_
                refine A.norm [(5, (.pointer (some ⟨rb1, 0, none⟩))), (6, (.int .i64 0)), (7, (.slice Aw ((q).length) cp)), (108, (.slice Aw ((q).length) cp)), (109, (.int .i64 ((q).length : Int))), (110, (.int .i64 (j : Int))), (111, (.bool (decide ((j : Int) < ((q).length : Int))))), (17, (.int .i64 6)), (19, (.int .i64 6)), (4, (.bool true))] [ringI encI 93 3 rb1 rs1 r q, sl Aw (q).length cp 3 1 (V.flat encI q)] (by exact ⟨rfl, rfl, rfl, rfl, rfl, rfl, rfl, rfl, rfl, rfl, trivial⟩) rfl ?_
                refine A.tn ?_
                refine A.ret ?_
                refine A.post [(.bool true)] (fun a w r s => ⟨rv_tmp r rfl, trivial⟩) (fun w1 s => ?_)
                exact ⟨rfl, s.fr⟩

theorem ringActs_walk (room : Int) (A0 : Option Addr) (c0 : Nat) (xs : List Int) (w : World) (hl : arrAt w A0 (V.flat encI xs)) :
    Calls Try.prog 5 #[(.int .i64 room), (.slice A0 ((xs).length) c0)] w fun e w' => e = .returned (.bool true) ∧ Fr [] w w' := by
  by_cases hr : room < 1 ∨ 64 < room
  · exact ringActs_bad room A0 c0 xs w hr
  · have h : room = (room.toNat : Int) := by omega
    rw [h]; exact ringActs_ok room.toNat A0 c0 xs w (by omega) (by omega) hl
end Go.Proofs.Ytkfmboicmdnjpaa
