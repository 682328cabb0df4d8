/- What the functions of this layer do, proved operation by operation, for all arguments, under the conditions that each theorem states. -/
import Derived.Test.YtkfmboicmdnjpaaProg
import Derived.Test.YtkfmboicmdnjpaaRingP
namespace Go.Proofs.Ytkfmboicmdnjpaa
open Go V
set_option linter.unusedVariables false
set_option linter.unusedSimpArgs false

set_option maxHeartbeats 8000000 in
set_option maxRecDepth 100000 in
theorem hundred_spec (w : World) :
    Calls Try.prog 41 #[] w fun e w' => e = .returned (.bool true) ∧ Fr [] w w' := by
  refine calls_of (args := []) (penv []) [] [] Try.func41 rfl rfl (look_penv _) (HS.nil w) ?_
  refine A.norm [] [] trivial rfl ?_
  refine A.seq ?_
  refine A.region ?_
  refine A.cons (A.q (some 0) (.bool false) (by kernel_rfl) (qt_assign rfl rfl) ?_)
  refine A.done ?_
  refine A.norm [(0, (.bool false))] [] (by exact ⟨rfl, trivial⟩) rfl ?_
  refine A.tn ?_
  refine A.seq ?_
  refine A.region ?_
  refine A.cons (A.inl (some 10) [(.int .i64 2), (.int .i64 100)] [(0, (.int .i64 2)), (1, (.int .i64 100))] (by kernel_rfl) rfl (by kernel_rfl) rfl Try.func42 rfl rfl rfl ?_)
  refine A.seq ?_
  refine A.region ?_
  refine A.cons (A.q (some 4) (.pointer none) (by kernel_rfl) (qt_assign rfl rfl) ?_)
  refine A.cons (A.q (some 5) (.int .i64 0) (by kernel_rfl) (qt_assign rfl rfl) ?_)
  refine A.done ?_
  refine A.norm [(0, (.int .i64 2)), (1, (.int .i64 100)), (4, (.pointer none)), (5, (.int .i64 0))] [] (by exact ⟨rfl, rfl, rfl, rfl, trivial⟩) rfl ?_
  refine A.tn ?_
  refine A.seq ?_
  refine A.region ?_
  refine A.cons (A.q (some 9) (.int .i64 2) (by kernel_rfl) (qt_move rfl rfl) ?_)
  refine A.cons (A.call (some 10) [(.int .i64 2)] (fun x : Nat × Nat => (.tuple #[(.pointer (some ⟨x.1, 0, none⟩)), (.int .i64 0)])) (fun _ => True) (fun x => [ringI encPkt 118 74 x.1 x.2 2 ([] : List Pkt)]) (by kernel_rfl) rfl (by kernel_rfl) rfl (fun w s => (ringP_new_ok 2 w (by omega) (by omega)).mono fun e w1 ⟨b, s1, he, hr, hf, n1, n2⟩ => ⟨(b, s1), he, trivial, s.add hf hr (by have := hr.bounds.2.2.2; simpa [ringI] using this) (by intro x hx; simp [ringI] at hx; rcases hx with rfl | rfl <;> assumption)⟩) ?_)
  rintro ⟨rb1, rs1⟩ -
  refine A.cons (A.q (some 8) (.tuple #[(.pointer (some ⟨rb1, 0, none⟩)), (.int .i64 0)]) (by kernel_rfl) (qt_move rfl rfl) ?_)
  refine A.cons (A.q (some 11) (.pointer (some ⟨rb1, 0, none⟩)) (by kernel_rfl) (qt_pure (by kernel_rfl) fun _ => by kernel_rfl) ?_)
  refine A.cons (A.q (some 12) (.int .i64 0) (by kernel_rfl) (qt_pure (by kernel_rfl) fun _ => by kernel_rfl) ?_)
  refine A.cons (A.q (some 6) (.pointer (some ⟨rb1, 0, none⟩)) (by kernel_rfl) (qt_assign rfl rfl) ?_)
  refine A.cons (A.q (some 7) (.int .i64 0) (by kernel_rfl) (qt_assign rfl rfl) ?_)
  refine A.done ?_
  refine A.norm [(0, (.int .i64 2)), (1, (.int .i64 100)), (4, (.pointer none)), (5, (.int .i64 0)), (6, (.pointer (some ⟨rb1, 0, none⟩))), (7, (.int .i64 0))] [ringI encPkt 118 74 rb1 rs1 2 ([] : List Pkt)] (by exact ⟨rfl, rfl, rfl, rfl, rfl, rfl, trivial⟩) rfl ?_
  refine A.tn ?_
  refine A.seq ?_
  refine A.seq ?_
  refine A.region ?_
  refine A.cons (A.q (some 13) (.int .i64 0) (by kernel_rfl) (qt_move rfl rfl) ?_)
  refine A.cons (A.q (some 14) (.bool false) (by kernel_rfl) (qt_pure (by kernel_rfl) fun _ => by kernel_rfl) ?_)
  refine A.cons (A.q (some 15) (.bool false) (by kernel_rfl) (qt_move rfl rfl) ?_)
  refine A.cons (A.q (some 16) (.int .i64 100) (by kernel_rfl) (qt_move rfl rfl) ?_)
  refine A.cons (A.q (some 17) (.bool false) (by kernel_rfl) (qt_pure (by kernel_rfl) fun _ => by kernel_rfl) ?_)
  refine A.cons (A.q (some 18) (.bool false) (by kernel_rfl) (qt_pure (by kernel_rfl) fun _ => by kernel_rfl) ?_)
  refine A.cons (A.q (some 19) (.bool false) (by kernel_rfl) (qt_move rfl rfl) ?_)
  refine A.cons (A.q (some 20) (.int .i64 100) (by kernel_rfl) (qt_move rfl rfl) ?_)
  refine A.cons (A.q (some 21) (.bool false) (by kernel_rfl) (qt_pure (by kernel_rfl) fun _ => by kernel_rfl) ?_)
  refine A.cons (A.q (some 22) (.bool false) (by kernel_rfl) (qt_pure (by kernel_rfl) fun _ => by kernel_rfl) ?_)
  refine A.done ?_
  refine A.norm [(0, (.int .i64 2)), (1, (.int .i64 100)), (4, (.pointer none)), (5, (.int .i64 0)), (6, (.pointer (some ⟨rb1, 0, none⟩))), (7, (.int .i64 0)), (22, (.bool false))] [ringI encPkt 118 74 rb1 rs1 2 ([] : List Pkt)] (by exact ⟨rfl, rfl, rfl, rfl, rfl, rfl, rfl, trivial⟩) rfl ?_
  refine A.tn ?_
  refine A.cond_f rfl ?_
  refine A.skip ?_
  refine A.tn ?_
  refine A.seq ?_
  refine A.region ?_
  refine A.cons (A.q (some 23) (.pointer (some ⟨rb1, 0, none⟩)) (by kernel_rfl) (qt_move rfl rfl) ?_)
  refine A.cons (A.q (some 24) (.int .i64 100) (by kernel_rfl) (qt_move rfl rfl) ?_)
  refine A.cons (A.q (some 25) (.agg #[(.pointer (some ⟨rb1, 0, none⟩)), (.int .i64 100), (.int .i64 0), (.int .u64 0), (.int .u64 0), (.int .u64 0), (.int .u64 0), (.int .u64 0), (.int .u64 0)]) (by kernel_rfl) (qt_pure (by kernel_rfl) fun _ => by kernel_rfl) ?_)
  refine A.cons (A.box 26 [(.pointer (some ⟨rb1, 0, none⟩)), (.int .i64 100), (.int .i64 0), (.int .u64 0), (.int .u64 0), (.int .u64 0), (.int .u64 0), (.int .u64 0), (.int .u64 0)] (by kernel_rfl) rfl rfl rfl (fun b2 => [ringI encPkt 118 74 rb1 rs1 2 ([] : List Pkt), blk b2 [(.pointer (some ⟨rb1, 0, none⟩)), (.int .i64 100), (.int .i64 0), (.int .u64 0), (.int .u64 0), (.int .u64 0), (.int .u64 0), (.int .u64 0), (.int .u64 0)] 112]) (fun _ => rfl) ?_)
  intro b2
  refine A.cons (A.q (some 4) (.pointer (some ⟨b2, 0, none⟩)) (by kernel_rfl) (qt_assign rfl rfl) ?_)
  refine A.cons (A.q (some 5) (.int .i64 0) (by kernel_rfl) (qt_assign rfl rfl) ?_)
  refine A.done ?_
  refine A.norm [(0, (.int .i64 2)), (1, (.int .i64 100)), (4, (.pointer (some ⟨b2, 0, none⟩))), (5, (.int .i64 0)), (6, (.pointer (some ⟨rb1, 0, none⟩))), (7, (.int .i64 0)), (22, (.bool false))] [ringI encPkt 118 74 rb1 rs1 2 ([] : List Pkt), blk b2 [(.pointer (some ⟨rb1, 0, none⟩)), (.int .i64 100), (.int .i64 0), (.int .u64 0), (.int .u64 0), (.int .u64 0), (.int .u64 0), (.int .u64 0), (.int .u64 0)] 112] (by exact ⟨rfl, rfl, rfl, rfl, rfl, rfl, rfl, trivial⟩) rfl ?_
  refine A.tn ?_
  refine A.ret ?_
  refine A.post [(.pointer (some ⟨b2, 0, none⟩)), (.int .i64 0)] (fun a w r s => ⟨rv_tmp r rfl, rv_tmp r rfl, trivial⟩) (A.back (by kernel_rfl) ?_)
  refine A.cons (A.q (some 9) (.tuple #[(.pointer (some ⟨b2, 0, none⟩)), (.int .i64 0)]) (by kernel_rfl) (qt_move rfl rfl) ?_)
  refine A.cons (A.q (some 11) (.pointer (some ⟨b2, 0, none⟩)) (by kernel_rfl) (qt_pure (by kernel_rfl) fun _ => by kernel_rfl) ?_)
  refine A.cons (A.q (some 12) (.int .i64 0) (by kernel_rfl) (qt_pure (by kernel_rfl) fun _ => by kernel_rfl) ?_)
  refine A.cons (A.q (some 1) (.pointer (some ⟨b2, 0, none⟩)) (by kernel_rfl) (qt_assign rfl rfl) ?_)
  refine A.cons (A.q (some 2) (.int .i64 0) (by kernel_rfl) (qt_assign rfl rfl) ?_)
  refine A.done ?_
  refine A.norm [(0, (.bool false)), (1, (.pointer (some ⟨b2, 0, none⟩))), (2, (.int .i64 0))] [ringI encPkt 118 74 rb1 rs1 2 ([] : List Pkt), blk b2 [(.pointer (some ⟨rb1, 0, none⟩)), (.int .i64 100), (.int .i64 0), (.int .u64 0), (.int .u64 0), (.int .u64 0), (.int .u64 0), (.int .u64 0), (.int .u64 0)] 112] (by exact ⟨rfl, rfl, rfl, trivial⟩) rfl ?_
  refine A.tn ?_
  refine A.seq ?_
  refine A.region ?_
  refine A.cons (A.q (some 13) (.pointer (some ⟨b2, 0, none⟩)) (by kernel_rfl) (qt_move rfl rfl) ?_)
  refine A.cons (A.q (some 14) (.agg #[(.int .u64 0), (.int .i64 60), (.int .u16 0), (.int .u16 0), (.int .u16 0), (.int .u16 0)]) (by kernel_rfl) (qt_pure (by kernel_rfl) fun _ => by kernel_rfl) ?_)
  refine A.cons (A.inl (some 15) [(.pointer (some ⟨b2, 0, none⟩)), (.agg #[(.int .u64 0), (.int .i64 60), (.int .u16 0), (.int .u16 0), (.int .u16 0), (.int .u16 0)])] [(0, (.pointer (some ⟨b2, 0, none⟩))), (1, (.agg #[(.int .u64 0), (.int .i64 60), (.int .u16 0), (.int .u16 0), (.int .u16 0), (.int .u16 0)]))] (by kernel_rfl) rfl (by kernel_rfl) rfl Try.func43 rfl rfl rfl ?_)
  refine A.seq ?_
  refine A.region ?_
  refine A.cons (A.box 3 [(.int .u64 0), (.int .i64 60), (.int .u16 0), (.int .u16 0), (.int .u16 0), (.int .u16 0)] (by kernel_rfl) rfl rfl rfl (fun b3 => [ringI encPkt 118 74 rb1 rs1 2 ([] : List Pkt), blk b2 [(.pointer (some ⟨rb1, 0, none⟩)), (.int .i64 100), (.int .i64 0), (.int .u64 0), (.int .u64 0), (.int .u64 0), (.int .u64 0), (.int .u64 0), (.int .u64 0)] 112, blk b3 [(.int .u64 0), (.int .i64 60), (.int .u16 0), (.int .u16 0), (.int .u16 0), (.int .u16 0)] 74]) (fun _ => rfl) ?_)
  intro b3
  refine A.cons (A.q (some 4) (.int .i64 0) (by kernel_rfl) (qt_assign rfl rfl) ?_)
  refine A.done ?_
  refine A.norm [(0, (.pointer (some ⟨b2, 0, none⟩))), (1, (.agg #[(.int .u64 0), (.int .i64 60), (.int .u16 0), (.int .u16 0), (.int .u16 0), (.int .u16 0)])), (3, (.pointer (some ⟨b3, 0, none⟩))), (4, (.int .i64 0))] [ringI encPkt 118 74 rb1 rs1 2 ([] : List Pkt), blk b2 [(.pointer (some ⟨rb1, 0, none⟩)), (.int .i64 100), (.int .i64 0), (.int .u64 0), (.int .u64 0), (.int .u64 0), (.int .u64 0), (.int .u64 0), (.int .u64 0)] 112, blk b3 [(.int .u64 0), (.int .i64 60), (.int .u16 0), (.int .u16 0), (.int .u16 0), (.int .u16 0)] 74] (by exact ⟨rfl, rfl, rfl, rfl, trivial⟩) rfl ?_
  refine A.tn ?_
  refine A.seq ?_
  refine A.block ?_
  refine A.seq ?_
  refine A.region ?_
  refine A.cons (A.q (some 6) (.pointer (some ⟨b2, 0, none⟩)) (by kernel_rfl) (qt_move rfl rfl) ?_)
  refine A.cons (A.q (some 7) (.bool false) (by kernel_rfl) (qt_pure (by kernel_rfl) fun _ => by kernel_rfl) ?_)
  refine A.cons (A.q (some 5) (.bool false) (by kernel_rfl) (qt_assign rfl rfl) ?_)
  refine A.done ?_
  refine A.norm [(0, (.pointer (some ⟨b2, 0, none⟩))), (1, (.agg #[(.int .u64 0), (.int .i64 60), (.int .u16 0), (.int .u16 0), (.int .u16 0), (.int .u16 0)])), (3, (.pointer (some ⟨b3, 0, none⟩))), (4, (.int .i64 0)), (5, (.bool false))] [ringI encPkt 118 74 rb1 rs1 2 ([] : List Pkt), blk b2 [(.pointer (some ⟨rb1, 0, none⟩)), (.int .i64 100), (.int .i64 0), (.int .u64 0), (.int .u64 0), (.int .u64 0), (.int .u64 0), (.int .u64 0), (.int .u64 0)] 112, blk b3 [(.int .u64 0), (.int .i64 60), (.int .u16 0), (.int .u16 0), (.int .u16 0), (.int .u16 0)] 74] (by exact ⟨rfl, rfl, rfl, rfl, rfl, trivial⟩) rfl ?_
  refine A.tn ?_
  refine A.cond_f rfl ?_
  refine A.seq ?_
  refine A.region ?_
  refine A.cons (A.q (some 9) (.pointer (some ⟨b3, 1, none⟩)) (by kernel_rfl) (qt_pure (by kernel_rfl) fun _ => by kernel_rfl) ?_)
  refine A.cons (A.q (some 10) (.int .i64 60) (by kernel_rfl) (qt_load1 rfl rfl (by kernel_rfl) (reads_blk (i := 2) rfl rfl)) ?_)
  refine A.cons (A.q (some 11) (.bool false) (by kernel_rfl) (qt_pure (by kernel_rfl) fun _ => by kernel_rfl) ?_)
  refine A.cons (A.q (some 12) (.bool false) (by kernel_rfl) (qt_move rfl rfl) ?_)
  refine A.cons (A.q (some 13) (.pointer (some ⟨b3, 1, none⟩)) (by kernel_rfl) (qt_pure (by kernel_rfl) fun _ => by kernel_rfl) ?_)
  refine A.cons (A.q (some 14) (.int .i64 60) (by kernel_rfl) (qt_load1 rfl rfl (by kernel_rfl) (reads_blk (i := 2) rfl rfl)) ?_)
  refine A.cons (A.q (some 15) (.bool false) (by kernel_rfl) (qt_pure (by kernel_rfl) fun _ => by kernel_rfl) ?_)
  refine A.cons (A.q (some 16) (.bool false) (by kernel_rfl) (qt_pure (by kernel_rfl) fun _ => by kernel_rfl) ?_)
  refine A.cons (A.q (some 8) (.bool false) (by kernel_rfl) (qt_assign rfl rfl) ?_)
  refine A.done ?_
  refine A.norm [(0, (.pointer (some ⟨b2, 0, none⟩))), (1, (.agg #[(.int .u64 0), (.int .i64 60), (.int .u16 0), (.int .u16 0), (.int .u16 0), (.int .u16 0)])), (3, (.pointer (some ⟨b3, 0, none⟩))), (4, (.int .i64 0)), (5, (.bool false)), (8, (.bool false))] [ringI encPkt 118 74 rb1 rs1 2 ([] : List Pkt), blk b2 [(.pointer (some ⟨rb1, 0, none⟩)), (.int .i64 100), (.int .i64 0), (.int .u64 0), (.int .u64 0), (.int .u64 0), (.int .u64 0), (.int .u64 0), (.int .u64 0)] 112, blk b3 [(.int .u64 0), (.int .i64 60), (.int .u16 0), (.int .u16 0), (.int .u16 0), (.int .u16 0)] 74] (by exact ⟨rfl, rfl, rfl, rfl, rfl, rfl, trivial⟩) rfl ?_
  refine A.tn ?_
  refine A.cond_f rfl ?_
  refine A.seq ?_
  refine A.draw [blk b2 [(.pointer (some ⟨rb1, 0, none⟩)), (.int .i64 100), (.int .i64 0), (.int .u64 0), (.int .u64 0), (.int .u64 0), (.int .u64 0), (.int .u64 0), (.int .u64 0)] 112, blk b3 [(.int .u64 0), (.int .i64 60), (.int .u16 0), (.int .u16 0), (.int .u16 0), (.int .u16 0)] 74] (by kernel_rfl) ?_
  refine A.take 0 (some 18) (.pointer (some ⟨b3, 1, none⟩)) rfl (by kernel_rfl) (by kernel_rfl) (List.Sublist.cons _ (List.Sublist.cons_cons _ (List.Sublist.cons_cons _ (List.Sublist.slnil)))) (qt_pure (by kernel_rfl) fun _ => by kernel_rfl) ?_
  refine A.take 1 (some 19) (.int .i64 60) rfl (by kernel_rfl) (by kernel_rfl) (List.Sublist.cons _ (List.Sublist.cons_cons _ (List.Sublist.cons_cons _ (List.Sublist.slnil)))) (qt_load1 rfl rfl (by kernel_rfl) (reads_blk (i := 1) rfl rfl)) ?_
  refine A.take 2 (some 20) (.pointer (some ⟨b2, 0, none⟩)) rfl (by kernel_rfl) (by kernel_rfl) (List.Sublist.cons _ (List.Sublist.cons_cons _ (List.Sublist.cons_cons _ (List.Sublist.slnil)))) (qt_move rfl rfl) ?_
  refine A.take 3 (some 21) (.pointer (some ⟨b2, 0, none⟩)) rfl (by kernel_rfl) (by kernel_rfl) (List.Sublist.cons _ (List.Sublist.cons_cons _ (List.Sublist.cons_cons _ (List.Sublist.slnil)))) (qt_pure (by kernel_rfl) fun _ => by kernel_rfl) ?_
  refine A.take 4 (some 22) (.pointer (some ⟨b2, 1, none⟩)) rfl (by kernel_rfl) (by kernel_rfl) (List.Sublist.cons _ (List.Sublist.cons_cons _ (List.Sublist.cons_cons _ (List.Sublist.slnil)))) (qt_pure (by kernel_rfl) fun _ => by kernel_rfl) ?_
  refine A.take 5 (some 23) (.int .i64 100) rfl (by kernel_rfl) (by kernel_rfl) (List.Sublist.cons _ (List.Sublist.cons_cons _ (List.Sublist.cons_cons _ (List.Sublist.slnil)))) (qt_load1 rfl rfl (by kernel_rfl) (reads_blk (i := 0) rfl rfl)) ?_
  refine A.take 6 (some 24) (.pointer (some ⟨b2, 0, none⟩)) rfl (by kernel_rfl) (by kernel_rfl) (List.Sublist.cons _ (List.Sublist.cons_cons _ (List.Sublist.cons_cons _ (List.Sublist.slnil)))) (qt_move rfl rfl) ?_
  refine A.take 7 (some 25) (.pointer (some ⟨b2, 0, none⟩)) rfl (by kernel_rfl) (by kernel_rfl) (List.Sublist.cons _ (List.Sublist.cons_cons _ (List.Sublist.cons_cons _ (List.Sublist.slnil)))) (qt_pure (by kernel_rfl) fun _ => by kernel_rfl) ?_
  refine A.take 8 (some 26) (.pointer (some ⟨b2, 2, none⟩)) rfl (by kernel_rfl) (by kernel_rfl) (List.Sublist.cons _ (List.Sublist.cons_cons _ (List.Sublist.cons_cons _ (List.Sublist.slnil)))) (qt_pure (by kernel_rfl) fun _ => by kernel_rfl) ?_
  refine A.take 9 (some 27) (.int .i64 0) rfl (by kernel_rfl) (by kernel_rfl) (List.Sublist.cons _ (List.Sublist.cons_cons _ (List.Sublist.cons_cons _ (List.Sublist.slnil)))) (qt_load1 rfl rfl (by kernel_rfl) (reads_blk (i := 0) rfl rfl)) ?_
  refine A.take 10 (some 28) (.int .i64 100) rfl (by kernel_rfl) (by kernel_rfl) (List.Sublist.cons _ (List.Sublist.cons_cons _ (List.Sublist.cons_cons _ (List.Sublist.slnil)))) (qt_pure (by kernel_rfl) fun _ => by kernel_rfl) ?_
  refine A.take 11 (some 29) (.bool false) rfl (by kernel_rfl) (by kernel_rfl) (List.Sublist.cons _ (List.Sublist.cons_cons _ (List.Sublist.cons_cons _ (List.Sublist.slnil)))) (qt_pure (by kernel_rfl) fun _ => by kernel_rfl) ?_
  refine A.take 12 (some 30) (.bool false) rfl (by kernel_rfl) (by kernel_rfl) (List.Sublist.cons _ (List.Sublist.cons_cons _ (List.Sublist.cons_cons _ (List.Sublist.slnil)))) (qt_move rfl rfl) ?_
  refine A.take 13 (some 31) (.pointer (some ⟨b2, 0, none⟩)) rfl (by kernel_rfl) (by kernel_rfl) (List.Sublist.cons _ (List.Sublist.cons_cons _ (List.Sublist.cons_cons _ (List.Sublist.slnil)))) (qt_move rfl rfl) ?_
  refine A.take 14 (some 32) (.pointer (some ⟨b2, 0, none⟩)) rfl (by kernel_rfl) (by kernel_rfl) (List.Sublist.cons _ (List.Sublist.cons_cons _ (List.Sublist.cons_cons _ (List.Sublist.slnil)))) (qt_pure (by kernel_rfl) fun _ => by kernel_rfl) ?_
  refine A.take 15 (some 33) (.pointer (some ⟨b2, 0, none⟩)) rfl (by kernel_rfl) (by kernel_rfl) (List.Sublist.cons _ (List.Sublist.cons_cons _ (List.Sublist.cons_cons _ (List.Sublist.slnil)))) (qt_pure (by kernel_rfl) fun _ => by kernel_rfl) ?_
  refine A.take 16 (some 34) (.pointer (some ⟨rb1, 0, none⟩)) rfl (by kernel_rfl) (by kernel_rfl) (List.Sublist.cons _ (List.Sublist.cons_cons _ (List.Sublist.cons_cons _ (List.Sublist.slnil)))) (qt_load1 rfl rfl (by kernel_rfl) (reads_blk (i := 0) rfl rfl)) ?_
  refine A.take 17 (some 35) (.agg #[(.int .u64 0), (.int .i64 60), (.int .u16 0), (.int .u16 0), (.int .u16 0), (.int .u16 0)]) rfl (by kernel_rfl) (by kernel_rfl) (List.Sublist.cons _ (List.Sublist.cons_cons _ (List.Sublist.cons_cons _ (List.Sublist.slnil)))) (qt_loadN (vs := [(.int .u64 0), (.int .i64 60), (.int .u16 0), (.int .u16 0), (.int .u16 0), (.int .u16 0)]) rfl rfl (by kernel_rfl) (reads_blk (i := 1) rfl rfl)) ?_
  refine A.only 18 rfl (by kernel_rfl) (A.call (some 36) [(.pointer (some ⟨rb1, 0, none⟩)), (.agg #[(.int .u64 0), (.int .i64 60), (.int .u16 0), (.int .u16 0), (.int .u16 0), (.int .u16 0)])] (fun _ : Unit => (.int .i64 0)) (fun _ => True) (fun _ => [ringI encPkt 118 74 rb1 rs1 2 ([⟨0, 60, 0, 0, 0, 0⟩]), blk b2 [(.pointer (some ⟨rb1, 0, none⟩)), (.int .i64 100), (.int .i64 0), (.int .u64 0), (.int .u64 0), (.int .u64 0), (.int .u64 0), (.int .u64 0), (.int .u64 0)] 112, blk b3 [(.int .u64 0), (.int .i64 60), (.int .u16 0), (.int .u16 0), (.int .u16 0), (.int .u16 0)] 74]) (by kernel_rfl) rfl (by kernel_rfl) rfl (fun w s => (ringP_push rb1 rs1 2 ([] : List Pkt) (⟨0, 60, 0, 0, 0, 0⟩) w (s.mem (i := 0) rfl) (by first | omega | (simp; done) | (simp; omega) | grind)).mono fun e w1 ⟨he, hr, hf⟩ => ⟨(), he, trivial, s.turn (i := 0) rfl hf hr (by have := (s.mem (i := 0) rfl : RingH _ _ _ _ _ _ _ _).bounds.2.2.2; simpa [ringI] using this) (fun _ h => .inl h)⟩) (fun _ _ => ?_))
  refine A.and (List.Sublist.cons _ (List.Sublist.cons_cons _ (List.Sublist.cons_cons _ (List.Sublist.slnil)))) ?_
  refine A.take 19 (some 37) (.bool false) rfl (by kernel_rfl) (by kernel_rfl) (List.Sublist.cons _ (List.Sublist.cons_cons _ (List.Sublist.cons_cons _ (List.Sublist.slnil)))) (qt_pure (by kernel_rfl) fun _ => by kernel_rfl) ?_
  refine A.take 20 (some 38) (.bool false) rfl (by kernel_rfl) (by kernel_rfl) (List.Sublist.cons _ (List.Sublist.cons_cons _ (List.Sublist.cons_cons _ (List.Sublist.slnil)))) (qt_pure (by kernel_rfl) fun _ => by kernel_rfl) ?_
  refine A.take 21 (some 17) (.bool false) rfl (by kernel_rfl) (by kernel_rfl) (List.Sublist.cons _ (List.Sublist.cons_cons _ (List.Sublist.cons_cons _ (List.Sublist.slnil)))) (qt_assign rfl rfl) ?_
  refine A.fin (by kernel_rfl) ?_
  refine A.norm [(0, (.pointer (some ⟨b2, 0, none⟩))), (1, (.agg #[(.int .u64 0), (.int .i64 60), (.int .u16 0), (.int .u16 0), (.int .u16 0), (.int .u16 0)])), (3, (.pointer (some ⟨b3, 0, none⟩))), (4, (.int .i64 0)), (5, (.bool false)), (8, (.bool false)), (17, (.bool false))] [ringI encPkt 118 74 rb1 rs1 2 ([⟨0, 60, 0, 0, 0, 0⟩]), blk b2 [(.pointer (some ⟨rb1, 0, none⟩)), (.int .i64 100), (.int .i64 0), (.int .u64 0), (.int .u64 0), (.int .u64 0), (.int .u64 0), (.int .u64 0), (.int .u64 0)] 112, blk b3 [(.int .u64 0), (.int .i64 60), (.int .u16 0), (.int .u16 0), (.int .u16 0), (.int .u16 0)] 74] (by exact ⟨rfl, rfl, rfl, rfl, rfl, rfl, rfl, trivial⟩) rfl ?_
  refine A.tn ?_
  refine A.cond_f rfl ?_
  refine A.skip ?_
  refine A.bn ?_
  refine A.tn ?_
  refine A.seq ?_
  refine A.draw [ringI encPkt 118 74 rb1 rs1 2 ([⟨0, 60, 0, 0, 0, 0⟩]), blk b3 [(.int .u64 0), (.int .i64 60), (.int .u16 0), (.int .u16 0), (.int .u16 0), (.int .u16 0)] 74] (by kernel_rfl) ?_
  refine A.take 0 (some 60) (.pointer (some ⟨b2, 0, none⟩)) rfl (by kernel_rfl) (by kernel_rfl) (List.Sublist.cons_cons _ (List.Sublist.cons _ (List.Sublist.cons_cons _ (List.Sublist.slnil)))) (qt_move rfl rfl) ?_
  refine A.take 1 (some 61) (.pointer (some ⟨b2, 0, none⟩)) rfl (by kernel_rfl) (by kernel_rfl) (List.Sublist.cons_cons _ (List.Sublist.cons _ (List.Sublist.cons_cons _ (List.Sublist.slnil)))) (qt_pure (by kernel_rfl) fun _ => by kernel_rfl) ?_
  refine A.take 2 (some 62) (.pointer (some ⟨b2, 2, none⟩)) rfl (by kernel_rfl) (by kernel_rfl) (List.Sublist.cons_cons _ (List.Sublist.cons _ (List.Sublist.cons_cons _ (List.Sublist.slnil)))) (qt_pure (by kernel_rfl) fun _ => by kernel_rfl) ?_
  refine A.take 4 (some 64) (.pointer (some ⟨b3, 1, none⟩)) rfl (by kernel_rfl) (by kernel_rfl) (List.Sublist.cons_cons _ (List.Sublist.cons _ (List.Sublist.cons_cons _ (List.Sublist.slnil)))) (qt_pure (by kernel_rfl) fun _ => by kernel_rfl) ?_
  refine A.take 5 (some 65) (.int .i64 60) rfl (by kernel_rfl) (by kernel_rfl) (List.Sublist.cons_cons _ (List.Sublist.cons _ (List.Sublist.cons_cons _ (List.Sublist.slnil)))) (qt_load1 rfl rfl (by kernel_rfl) (reads_blk (i := 1) rfl rfl)) ?_
  refine A.only 3 rfl (by kernel_rfl) (A.q (some 63) (.int .i64 0) (by kernel_rfl) (qt_load1 rfl rfl (by kernel_rfl) (reads_blk (i := 1) rfl rfl)) ?_)
  refine A.and (List.Sublist.cons_cons _ (List.Sublist.cons _ (List.Sublist.cons_cons _ (List.Sublist.slnil)))) ?_
  refine A.take 6 (some 66) (.int .i64 60) rfl (by kernel_rfl) (by kernel_rfl) (List.Sublist.cons_cons _ (List.Sublist.cons _ (List.Sublist.cons_cons _ (List.Sublist.slnil)))) (qt_pure (by kernel_rfl) fun _ => by kernel_rfl) ?_
  refine A.take 7 (some 67) (.pointer (some ⟨b2, 0, none⟩)) rfl (by kernel_rfl) (by kernel_rfl) (List.Sublist.cons_cons _ (List.Sublist.cons _ (List.Sublist.cons_cons _ (List.Sublist.slnil)))) (qt_pure (by kernel_rfl) fun _ => by kernel_rfl) ?_
  refine A.take 8 (some 68) (.pointer (some ⟨b2, 2, none⟩)) rfl (by kernel_rfl) (by kernel_rfl) (List.Sublist.cons_cons _ (List.Sublist.cons _ (List.Sublist.cons_cons _ (List.Sublist.slnil)))) (qt_pure (by kernel_rfl) fun _ => by kernel_rfl) ?_
  refine A.only 9 rfl (by kernel_rfl) (A.store 1 (vs := [(.int .i64 60)]) [ringI encPkt 118 74 rb1 rs1 2 ([⟨0, 60, 0, 0, 0, 0⟩]), blk b2 [(.pointer (some ⟨rb1, 0, none⟩)), (.int .i64 100), (.int .i64 60), (.int .u64 0), (.int .u64 0), (.int .u64 0), (.int .u64 0), (.int .u64 0), (.int .u64 0)] 112, blk b3 [(.int .u64 0), (.int .i64 60), (.int .u16 0), (.int .u16 0), (.int .u16 0), (.int .u16 0)] 74] (by kernel_rfl) rfl rfl rfl rfl (by kernel_rfl) rfl rfl (by kernel_rfl) rfl ?_)
  refine A.and (List.Sublist.cons_cons _ (List.Sublist.cons _ (List.Sublist.cons_cons _ (List.Sublist.slnil)))) ?_
  refine A.fin (by kernel_rfl) ?_
  refine A.norm [(0, (.pointer (some ⟨b2, 0, none⟩))), (1, (.agg #[(.int .u64 0), (.int .i64 60), (.int .u16 0), (.int .u16 0), (.int .u16 0), (.int .u16 0)])), (3, (.pointer (some ⟨b3, 0, none⟩))), (4, (.int .i64 0)), (5, (.bool false)), (8, (.bool false)), (17, (.bool false))] [ringI encPkt 118 74 rb1 rs1 2 ([⟨0, 60, 0, 0, 0, 0⟩]), blk b2 [(.pointer (some ⟨rb1, 0, none⟩)), (.int .i64 100), (.int .i64 60), (.int .u64 0), (.int .u64 0), (.int .u64 0), (.int .u64 0), (.int .u64 0), (.int .u64 0)] 112, blk b3 [(.int .u64 0), (.int .i64 60), (.int .u16 0), (.int .u16 0), (.int .u16 0), (.int .u16 0)] 74] (by exact ⟨rfl, rfl, rfl, rfl, rfl, rfl, rfl, trivial⟩) rfl ?_
  refine A.tn ?_
  refine A.seq ?_
  refine A.region ?_
  refine A.cons (A.q (some 69) (.pointer (some ⟨b2, 0, none⟩)) (by kernel_rfl) (qt_move rfl rfl) ?_)
  refine A.cons (A.q (some 70) (.pointer (some ⟨b2, 0, none⟩)) (by kernel_rfl) (qt_pure (by kernel_rfl) fun _ => by kernel_rfl) ?_)
  refine A.cons (A.q (some 71) (.pointer (some ⟨b2, 3, none⟩)) (by kernel_rfl) (qt_pure (by kernel_rfl) fun _ => by kernel_rfl) ?_)
  refine A.cons (A.q (some 72) (.pointer (some ⟨b2, 3, none⟩)) (by kernel_rfl) (qt_pure (by kernel_rfl) fun _ => by kernel_rfl) ?_)
  refine A.cons (A.q (some 73) (.int .u64 0) (by kernel_rfl) (qt_load1 rfl rfl (by kernel_rfl) (reads_blk (i := 1) rfl rfl)) ?_)
  refine A.cons (A.q (some 74) (.int .u64 1) (by kernel_rfl) (qt_pure (by kernel_rfl) fun _ => by kernel_rfl) ?_)
  refine A.cons (A.q (some 75) (.pointer (some ⟨b2, 0, none⟩)) (by kernel_rfl) (qt_pure (by kernel_rfl) fun _ => by kernel_rfl) ?_)
  refine A.cons (A.q (some 76) (.pointer (some ⟨b2, 3, none⟩)) (by kernel_rfl) (qt_pure (by kernel_rfl) fun _ => by kernel_rfl) ?_)
  refine A.cons (A.q (some 77) (.pointer (some ⟨b2, 3, none⟩)) (by kernel_rfl) (qt_pure (by kernel_rfl) fun _ => by kernel_rfl) ?_)
  refine A.cons (A.store 1 (vs := [(.int .u64 1)]) [ringI encPkt 118 74 rb1 rs1 2 ([⟨0, 60, 0, 0, 0, 0⟩]), blk b2 [(.pointer (some ⟨rb1, 0, none⟩)), (.int .i64 100), (.int .i64 60), (.int .u64 1), (.int .u64 0), (.int .u64 0), (.int .u64 0), (.int .u64 0), (.int .u64 0)] 112, blk b3 [(.int .u64 0), (.int .i64 60), (.int .u16 0), (.int .u16 0), (.int .u16 0), (.int .u16 0)] 74] (by kernel_rfl) rfl rfl rfl rfl (by kernel_rfl) rfl rfl (by kernel_rfl) rfl ?_)
  refine A.done ?_
  refine A.norm [(0, (.pointer (some ⟨b2, 0, none⟩))), (1, (.agg #[(.int .u64 0), (.int .i64 60), (.int .u16 0), (.int .u16 0), (.int .u16 0), (.int .u16 0)])), (3, (.pointer (some ⟨b3, 0, none⟩))), (4, (.int .i64 0)), (5, (.bool false)), (8, (.bool false)), (17, (.bool false))] [ringI encPkt 118 74 rb1 rs1 2 ([⟨0, 60, 0, 0, 0, 0⟩]), blk b2 [(.pointer (some ⟨rb1, 0, none⟩)), (.int .i64 100), (.int .i64 60), (.int .u64 1), (.int .u64 0), (.int .u64 0), (.int .u64 0), (.int .u64 0), (.int .u64 0)] 112, blk b3 [(.int .u64 0), (.int .i64 60), (.int .u16 0), (.int .u16 0), (.int .u16 0), (.int .u16 0)] 74] (by exact ⟨rfl, rfl, rfl, rfl, rfl, rfl, rfl, trivial⟩) rfl ?_
  refine A.tn ?_
  refine A.seq ?_
  refine A.draw [ringI encPkt 118 74 rb1 rs1 2 ([⟨0, 60, 0, 0, 0, 0⟩]), blk b3 [(.int .u64 0), (.int .i64 60), (.int .u16 0), (.int .u16 0), (.int .u16 0), (.int .u16 0)] 74] (by kernel_rfl) ?_
  refine A.take 0 (some 78) (.pointer (some ⟨b2, 0, none⟩)) rfl (by kernel_rfl) (by kernel_rfl) (List.Sublist.cons_cons _ (List.Sublist.cons _ (List.Sublist.cons_cons _ (List.Sublist.slnil)))) (qt_move rfl rfl) ?_
  refine A.take 1 (some 79) (.pointer (some ⟨b2, 0, none⟩)) rfl (by kernel_rfl) (by kernel_rfl) (List.Sublist.cons_cons _ (List.Sublist.cons _ (List.Sublist.cons_cons _ (List.Sublist.slnil)))) (qt_pure (by kernel_rfl) fun _ => by kernel_rfl) ?_
  refine A.take 2 (some 80) (.pointer (some ⟨b2, 3, none⟩)) rfl (by kernel_rfl) (by kernel_rfl) (List.Sublist.cons_cons _ (List.Sublist.cons _ (List.Sublist.cons_cons _ (List.Sublist.slnil)))) (qt_pure (by kernel_rfl) fun _ => by kernel_rfl) ?_
  refine A.take 3 (some 81) (.pointer (some ⟨b2, 6, none⟩)) rfl (by kernel_rfl) (by kernel_rfl) (List.Sublist.cons_cons _ (List.Sublist.cons _ (List.Sublist.cons_cons _ (List.Sublist.slnil)))) (qt_pure (by kernel_rfl) fun _ => by kernel_rfl) ?_
  refine A.take 5 (some 83) (.pointer (some ⟨b3, 1, none⟩)) rfl (by kernel_rfl) (by kernel_rfl) (List.Sublist.cons_cons _ (List.Sublist.cons _ (List.Sublist.cons_cons _ (List.Sublist.slnil)))) (qt_pure (by kernel_rfl) fun _ => by kernel_rfl) ?_
  refine A.take 6 (some 84) (.int .i64 60) rfl (by kernel_rfl) (by kernel_rfl) (List.Sublist.cons_cons _ (List.Sublist.cons _ (List.Sublist.cons_cons _ (List.Sublist.slnil)))) (qt_load1 rfl rfl (by kernel_rfl) (reads_blk (i := 1) rfl rfl)) ?_
  refine A.take 7 (some 85) (.int .u64 60) rfl (by kernel_rfl) (by kernel_rfl) (List.Sublist.cons_cons _ (List.Sublist.cons _ (List.Sublist.cons_cons _ (List.Sublist.slnil)))) (qt_pure (by kernel_rfl) fun _ => by kernel_rfl) ?_
  refine A.only 4 rfl (by kernel_rfl) (A.q (some 82) (.int .u64 0) (by kernel_rfl) (qt_load1 rfl rfl (by kernel_rfl) (reads_blk (i := 1) rfl rfl)) ?_)
  refine A.and (List.Sublist.cons_cons _ (List.Sublist.cons _ (List.Sublist.cons_cons _ (List.Sublist.slnil)))) ?_
  refine A.take 8 (some 86) (.int .u64 60) rfl (by kernel_rfl) (by kernel_rfl) (List.Sublist.cons_cons _ (List.Sublist.cons _ (List.Sublist.cons_cons _ (List.Sublist.slnil)))) (qt_pure (by kernel_rfl) fun _ => by kernel_rfl) ?_
  refine A.take 9 (some 87) (.pointer (some ⟨b2, 0, none⟩)) rfl (by kernel_rfl) (by kernel_rfl) (List.Sublist.cons_cons _ (List.Sublist.cons _ (List.Sublist.cons_cons _ (List.Sublist.slnil)))) (qt_pure (by kernel_rfl) fun _ => by kernel_rfl) ?_
  refine A.take 10 (some 88) (.pointer (some ⟨b2, 3, none⟩)) rfl (by kernel_rfl) (by kernel_rfl) (List.Sublist.cons_cons _ (List.Sublist.cons _ (List.Sublist.cons_cons _ (List.Sublist.slnil)))) (qt_pure (by kernel_rfl) fun _ => by kernel_rfl) ?_
  refine A.take 11 (some 89) (.pointer (some ⟨b2, 6, none⟩)) rfl (by kernel_rfl) (by kernel_rfl) (List.Sublist.cons_cons _ (List.Sublist.cons _ (List.Sublist.cons_cons _ (List.Sublist.slnil)))) (qt_pure (by kernel_rfl) fun _ => by kernel_rfl) ?_
  refine A.only 12 rfl (by kernel_rfl) (A.store 1 (vs := [(.int .u64 60)]) [ringI encPkt 118 74 rb1 rs1 2 ([⟨0, 60, 0, 0, 0, 0⟩]), blk b2 [(.pointer (some ⟨rb1, 0, none⟩)), (.int .i64 100), (.int .i64 60), (.int .u64 1), (.int .u64 0), (.int .u64 0), (.int .u64 60), (.int .u64 0), (.int .u64 0)] 112, blk b3 [(.int .u64 0), (.int .i64 60), (.int .u16 0), (.int .u16 0), (.int .u16 0), (.int .u16 0)] 74] (by kernel_rfl) rfl rfl rfl rfl (by kernel_rfl) rfl rfl (by kernel_rfl) rfl ?_)
  refine A.and (List.Sublist.cons_cons _ (List.Sublist.cons _ (List.Sublist.cons_cons _ (List.Sublist.slnil)))) ?_
  refine A.fin (by kernel_rfl) ?_
  refine A.norm [(0, (.pointer (some ⟨b2, 0, none⟩))), (1, (.agg #[(.int .u64 0), (.int .i64 60), (.int .u16 0), (.int .u16 0), (.int .u16 0), (.int .u16 0)])), (3, (.pointer (some ⟨b3, 0, none⟩))), (4, (.int .i64 0)), (5, (.bool false)), (8, (.bool false)), (17, (.bool false))] [ringI encPkt 118 74 rb1 rs1 2 ([⟨0, 60, 0, 0, 0, 0⟩]), blk b2 [(.pointer (some ⟨rb1, 0, none⟩)), (.int .i64 100), (.int .i64 60), (.int .u64 1), (.int .u64 0), (.int .u64 0), (.int .u64 60), (.int .u64 0), (.int .u64 0)] 112, blk b3 [(.int .u64 0), (.int .i64 60), (.int .u16 0), (.int .u16 0), (.int .u16 0), (.int .u16 0)] 74] (by exact ⟨rfl, rfl, rfl, rfl, rfl, rfl, rfl, trivial⟩) rfl ?_
  refine A.tn ?_
  refine A.seq ?_
  refine A.region ?_
  refine A.cons (A.q (some 4) (.int .i64 0) (by kernel_rfl) (qt_assign rfl rfl) ?_)
  refine A.done ?_
  refine A.norm [(0, (.pointer (some ⟨b2, 0, none⟩))), (1, (.agg #[(.int .u64 0), (.int .i64 60), (.int .u16 0), (.int .u16 0), (.int .u16 0), (.int .u16 0)])), (3, (.pointer (some ⟨b3, 0, none⟩))), (4, (.int .i64 0)), (5, (.bool false)), (8, (.bool false)), (17, (.bool false))] [ringI encPkt 118 74 rb1 rs1 2 ([⟨0, 60, 0, 0, 0, 0⟩]), blk b2 [(.pointer (some ⟨rb1, 0, none⟩)), (.int .i64 100), (.int .i64 60), (.int .u64 1), (.int .u64 0), (.int .u64 0), (.int .u64 60), (.int .u64 0), (.int .u64 0)] 112, blk b3 [(.int .u64 0), (.int .i64 60), (.int .u16 0), (.int .u16 0), (.int .u16 0), (.int .u16 0)] 74] (by exact ⟨rfl, rfl, rfl, rfl, rfl, rfl, rfl, trivial⟩) rfl ?_
  refine A.tn ?_
  refine A.ret ?_
  refine A.post [(.int .i64 0)] (fun a w r s => ⟨rv_tmp r rfl, trivial⟩) (A.back (by kernel_rfl) ?_)
  refine A.items [ringI encPkt 118 74 rb1 rs1 2 ([⟨0, 60, 0, 0, 0, 0⟩]), blk b2 [(.pointer (some ⟨rb1, 0, none⟩)), (.int .i64 100), (.int .i64 60), (.int .u64 1), (.int .u64 0), (.int .u64 0), (.int .u64 60), (.int .u64 0), (.int .u64 0)] 112] (List.Sublist.cons_cons _ (List.Sublist.cons_cons _ (List.Sublist.cons _ (List.Sublist.slnil)))) ?_
  refine A.cons (A.q (some 16) (.pointer (some ⟨b2, 0, none⟩)) (by kernel_rfl) (qt_move rfl rfl) ?_)
  refine A.cons (A.q (some 17) (.agg #[(.int .u64 0), (.int .i64 50), (.int .u16 0), (.int .u16 0), (.int .u16 0), (.int .u16 0)]) (by kernel_rfl) (qt_pure (by kernel_rfl) fun _ => by kernel_rfl) ?_)
  refine A.cons (A.inl (some 18) [(.pointer (some ⟨b2, 0, none⟩)), (.agg #[(.int .u64 0), (.int .i64 50), (.int .u16 0), (.int .u16 0), (.int .u16 0), (.int .u16 0)])] [(0, (.pointer (some ⟨b2, 0, none⟩))), (1, (.agg #[(.int .u64 0), (.int .i64 50), (.int .u16 0), (.int .u16 0), (.int .u16 0), (.int .u16 0)]))] (by kernel_rfl) rfl (by kernel_rfl) rfl Try.func43 rfl rfl rfl ?_)
  refine A.seq ?_
  refine A.region ?_
  refine A.cons (A.box 3 [(.int .u64 0), (.int .i64 50), (.int .u16 0), (.int .u16 0), (.int .u16 0), (.int .u16 0)] (by kernel_rfl) rfl rfl rfl (fun b4 => [ringI encPkt 118 74 rb1 rs1 2 ([⟨0, 60, 0, 0, 0, 0⟩]), blk b2 [(.pointer (some ⟨rb1, 0, none⟩)), (.int .i64 100), (.int .i64 60), (.int .u64 1), (.int .u64 0), (.int .u64 0), (.int .u64 60), (.int .u64 0), (.int .u64 0)] 112, blk b4 [(.int .u64 0), (.int .i64 50), (.int .u16 0), (.int .u16 0), (.int .u16 0), (.int .u16 0)] 74]) (fun _ => rfl) ?_)
  intro b4
  refine A.cons (A.q (some 4) (.int .i64 0) (by kernel_rfl) (qt_assign rfl rfl) ?_)
  refine A.done ?_
  refine A.norm [(0, (.pointer (some ⟨b2, 0, none⟩))), (1, (.agg #[(.int .u64 0), (.int .i64 50), (.int .u16 0), (.int .u16 0), (.int .u16 0), (.int .u16 0)])), (3, (.pointer (some ⟨b4, 0, none⟩))), (4, (.int .i64 0))] [ringI encPkt 118 74 rb1 rs1 2 ([⟨0, 60, 0, 0, 0, 0⟩]), blk b2 [(.pointer (some ⟨rb1, 0, none⟩)), (.int .i64 100), (.int .i64 60), (.int .u64 1), (.int .u64 0), (.int .u64 0), (.int .u64 60), (.int .u64 0), (.int .u64 0)] 112, blk b4 [(.int .u64 0), (.int .i64 50), (.int .u16 0), (.int .u16 0), (.int .u16 0), (.int .u16 0)] 74] (by exact ⟨rfl, rfl, rfl, rfl, trivial⟩) rfl ?_
  refine A.tn ?_
  refine A.seq ?_
  refine A.block ?_
  refine A.seq ?_
  refine A.region ?_
  refine A.cons (A.q (some 6) (.pointer (some ⟨b2, 0, none⟩)) (by kernel_rfl) (qt_move rfl rfl) ?_)
  refine A.cons (A.q (some 7) (.bool false) (by kernel_rfl) (qt_pure (by kernel_rfl) fun _ => by kernel_rfl) ?_)
  refine A.cons (A.q (some 5) (.bool false) (by kernel_rfl) (qt_assign rfl rfl) ?_)
  refine A.done ?_
  refine A.norm [(0, (.pointer (some ⟨b2, 0, none⟩))), (1, (.agg #[(.int .u64 0), (.int .i64 50), (.int .u16 0), (.int .u16 0), (.int .u16 0), (.int .u16 0)])), (3, (.pointer (some ⟨b4, 0, none⟩))), (4, (.int .i64 0)), (5, (.bool false))] [ringI encPkt 118 74 rb1 rs1 2 ([⟨0, 60, 0, 0, 0, 0⟩]), blk b2 [(.pointer (some ⟨rb1, 0, none⟩)), (.int .i64 100), (.int .i64 60), (.int .u64 1), (.int .u64 0), (.int .u64 0), (.int .u64 60), (.int .u64 0), (.int .u64 0)] 112, blk b4 [(.int .u64 0), (.int .i64 50), (.int .u16 0), (.int .u16 0), (.int .u16 0), (.int .u16 0)] 74] (by exact ⟨rfl, rfl, rfl, rfl, rfl, trivial⟩) rfl ?_
  refine A.tn ?_
  refine A.cond_f rfl ?_
  refine A.seq ?_
  refine A.region ?_
  refine A.cons (A.q (some 9) (.pointer (some ⟨b4, 1, none⟩)) (by kernel_rfl) (qt_pure (by kernel_rfl) fun _ => by kernel_rfl) ?_)
  refine A.cons (A.q (some 10) (.int .i64 50) (by kernel_rfl) (qt_load1 rfl rfl (by kernel_rfl) (reads_blk (i := 2) rfl rfl)) ?_)
  refine A.cons (A.q (some 11) (.bool false) (by kernel_rfl) (qt_pure (by kernel_rfl) fun _ => by kernel_rfl) ?_)
  refine A.cons (A.q (some 12) (.bool false) (by kernel_rfl) (qt_move rfl rfl) ?_)
  refine A.cons (A.q (some 13) (.pointer (some ⟨b4, 1, none⟩)) (by kernel_rfl) (qt_pure (by kernel_rfl) fun _ => by kernel_rfl) ?_)
  refine A.cons (A.q (some 14) (.int .i64 50) (by kernel_rfl) (qt_load1 rfl rfl (by kernel_rfl) (reads_blk (i := 2) rfl rfl)) ?_)
  refine A.cons (A.q (some 15) (.bool false) (by kernel_rfl) (qt_pure (by kernel_rfl) fun _ => by kernel_rfl) ?_)
  refine A.cons (A.q (some 16) (.bool false) (by kernel_rfl) (qt_pure (by kernel_rfl) fun _ => by kernel_rfl) ?_)
  refine A.cons (A.q (some 8) (.bool false) (by kernel_rfl) (qt_assign rfl rfl) ?_)
  refine A.done ?_
  refine A.norm [(0, (.pointer (some ⟨b2, 0, none⟩))), (1, (.agg #[(.int .u64 0), (.int .i64 50), (.int .u16 0), (.int .u16 0), (.int .u16 0), (.int .u16 0)])), (3, (.pointer (some ⟨b4, 0, none⟩))), (4, (.int .i64 0)), (5, (.bool false)), (8, (.bool false))] [ringI encPkt 118 74 rb1 rs1 2 ([⟨0, 60, 0, 0, 0, 0⟩]), blk b2 [(.pointer (some ⟨rb1, 0, none⟩)), (.int .i64 100), (.int .i64 60), (.int .u64 1), (.int .u64 0), (.int .u64 0), (.int .u64 60), (.int .u64 0), (.int .u64 0)] 112, blk b4 [(.int .u64 0), (.int .i64 50), (.int .u16 0), (.int .u16 0), (.int .u16 0), (.int .u16 0)] 74] (by exact ⟨rfl, rfl, rfl, rfl, rfl, rfl, trivial⟩) rfl ?_
  refine A.tn ?_
  refine A.cond_f rfl ?_
  refine A.seq ?_
  refine A.draw [blk b2 [(.pointer (some ⟨rb1, 0, none⟩)), (.int .i64 100), (.int .i64 60), (.int .u64 1), (.int .u64 0), (.int .u64 0), (.int .u64 60), (.int .u64 0), (.int .u64 0)] 112, blk b4 [(.int .u64 0), (.int .i64 50), (.int .u16 0), (.int .u16 0), (.int .u16 0), (.int .u16 0)] 74] (by kernel_rfl) ?_
  refine A.take 0 (some 18) (.pointer (some ⟨b4, 1, none⟩)) rfl (by kernel_rfl) (by kernel_rfl) (List.Sublist.cons _ (List.Sublist.cons_cons _ (List.Sublist.cons_cons _ (List.Sublist.slnil)))) (qt_pure (by kernel_rfl) fun _ => by kernel_rfl) ?_
  refine A.take 1 (some 19) (.int .i64 50) rfl (by kernel_rfl) (by kernel_rfl) (List.Sublist.cons _ (List.Sublist.cons_cons _ (List.Sublist.cons_cons _ (List.Sublist.slnil)))) (qt_load1 rfl rfl (by kernel_rfl) (reads_blk (i := 1) rfl rfl)) ?_
  refine A.take 2 (some 20) (.pointer (some ⟨b2, 0, none⟩)) rfl (by kernel_rfl) (by kernel_rfl) (List.Sublist.cons _ (List.Sublist.cons_cons _ (List.Sublist.cons_cons _ (List.Sublist.slnil)))) (qt_move rfl rfl) ?_
  refine A.take 3 (some 21) (.pointer (some ⟨b2, 0, none⟩)) rfl (by kernel_rfl) (by kernel_rfl) (List.Sublist.cons _ (List.Sublist.cons_cons _ (List.Sublist.cons_cons _ (List.Sublist.slnil)))) (qt_pure (by kernel_rfl) fun _ => by kernel_rfl) ?_
  refine A.take 4 (some 22) (.pointer (some ⟨b2, 1, none⟩)) rfl (by kernel_rfl) (by kernel_rfl) (List.Sublist.cons _ (List.Sublist.cons_cons _ (List.Sublist.cons_cons _ (List.Sublist.slnil)))) (qt_pure (by kernel_rfl) fun _ => by kernel_rfl) ?_
  refine A.take 5 (some 23) (.int .i64 100) rfl (by kernel_rfl) (by kernel_rfl) (List.Sublist.cons _ (List.Sublist.cons_cons _ (List.Sublist.cons_cons _ (List.Sublist.slnil)))) (qt_load1 rfl rfl (by kernel_rfl) (reads_blk (i := 0) rfl rfl)) ?_
  refine A.take 6 (some 24) (.pointer (some ⟨b2, 0, none⟩)) rfl (by kernel_rfl) (by kernel_rfl) (List.Sublist.cons _ (List.Sublist.cons_cons _ (List.Sublist.cons_cons _ (List.Sublist.slnil)))) (qt_move rfl rfl) ?_
  refine A.take 7 (some 25) (.pointer (some ⟨b2, 0, none⟩)) rfl (by kernel_rfl) (by kernel_rfl) (List.Sublist.cons _ (List.Sublist.cons_cons _ (List.Sublist.cons_cons _ (List.Sublist.slnil)))) (qt_pure (by kernel_rfl) fun _ => by kernel_rfl) ?_
  refine A.take 8 (some 26) (.pointer (some ⟨b2, 2, none⟩)) rfl (by kernel_rfl) (by kernel_rfl) (List.Sublist.cons _ (List.Sublist.cons_cons _ (List.Sublist.cons_cons _ (List.Sublist.slnil)))) (qt_pure (by kernel_rfl) fun _ => by kernel_rfl) ?_
  refine A.take 9 (some 27) (.int .i64 60) rfl (by kernel_rfl) (by kernel_rfl) (List.Sublist.cons _ (List.Sublist.cons_cons _ (List.Sublist.cons_cons _ (List.Sublist.slnil)))) (qt_load1 rfl rfl (by kernel_rfl) (reads_blk (i := 0) rfl rfl)) ?_
  refine A.take 10 (some 28) (.int .i64 40) rfl (by kernel_rfl) (by kernel_rfl) (List.Sublist.cons _ (List.Sublist.cons_cons _ (List.Sublist.cons_cons _ (List.Sublist.slnil)))) (qt_pure (by kernel_rfl) fun _ => by kernel_rfl) ?_
  refine A.take 11 (some 29) (.bool true) rfl (by kernel_rfl) (by kernel_rfl) (List.Sublist.cons _ (List.Sublist.cons_cons _ (List.Sublist.cons_cons _ (List.Sublist.slnil)))) (qt_pure (by kernel_rfl) fun _ => by kernel_rfl) ?_
  refine A.take 12 (some 30) (.bool true) rfl (by kernel_rfl) (by kernel_rfl) (List.Sublist.cons _ (List.Sublist.cons_cons _ (List.Sublist.cons_cons _ (List.Sublist.slnil)))) (qt_move rfl rfl) ?_
  refine A.takeJ 13 (some 31) rfl (by kernel_rfl) rfl rfl (by intro x hx; cases hx; rfl) (List.Sublist.cons _ (List.Sublist.cons_cons _ (List.Sublist.cons_cons _ (List.Sublist.slnil)))) ?_
  refine A.takeJ 14 (some 32) rfl (by kernel_rfl) rfl rfl (by intro x hx; cases hx; rfl) (List.Sublist.cons _ (List.Sublist.cons_cons _ (List.Sublist.cons_cons _ (List.Sublist.slnil)))) ?_
  refine A.takeJ 15 (some 33) rfl (by kernel_rfl) rfl rfl (by intro x hx; cases hx; rfl) (List.Sublist.cons _ (List.Sublist.cons_cons _ (List.Sublist.cons_cons _ (List.Sublist.slnil)))) ?_
  refine A.takeJ 16 (some 34) rfl (by kernel_rfl) rfl rfl (by intro x hx; cases hx; rfl) (List.Sublist.cons _ (List.Sublist.cons_cons _ (List.Sublist.cons_cons _ (List.Sublist.slnil)))) ?_
  refine A.takeJ 17 (some 35) rfl (by kernel_rfl) rfl rfl (by intro x hx; cases hx; rfl) (List.Sublist.cons _ (List.Sublist.cons_cons _ (List.Sublist.cons_cons _ (List.Sublist.slnil)))) ?_
  refine A.takeJ 18 (some 36) rfl (by kernel_rfl) rfl rfl (by intro x hx; cases hx; rfl) (List.Sublist.cons _ (List.Sublist.cons_cons _ (List.Sublist.cons_cons _ (List.Sublist.slnil)))) ?_
  refine A.takeJ 19 (some 37) rfl (by kernel_rfl) rfl rfl (by intro x hx; cases hx; rfl) (List.Sublist.cons _ (List.Sublist.cons_cons _ (List.Sublist.cons_cons _ (List.Sublist.slnil)))) ?_
  refine A.take 20 (some 38) (.bool true) rfl (by kernel_rfl) (by kernel_rfl) (List.Sublist.cons _ (List.Sublist.cons_cons _ (List.Sublist.cons_cons _ (List.Sublist.slnil)))) (qt_pure (by kernel_rfl) fun _ => by kernel_rfl) ?_
  refine A.take 21 (some 17) (.bool true) rfl (by kernel_rfl) (by kernel_rfl) (List.Sublist.cons _ (List.Sublist.cons_cons _ (List.Sublist.cons_cons _ (List.Sublist.slnil)))) (qt_assign rfl rfl) ?_
  refine A.fin (by kernel_rfl) ?_
  refine A.norm [(0, (.pointer (some ⟨b2, 0, none⟩))), (1, (.agg #[(.int .u64 0), (.int .i64 50), (.int .u16 0), (.int .u16 0), (.int .u16 0), (.int .u16 0)])), (3, (.pointer (some ⟨b4, 0, none⟩))), (4, (.int .i64 0)), (5, (.bool false)), (8, (.bool false)), (17, (.bool true))] [ringI encPkt 118 74 rb1 rs1 2 ([⟨0, 60, 0, 0, 0, 0⟩]), blk b2 [(.pointer (some ⟨rb1, 0, none⟩)), (.int .i64 100), (.int .i64 60), (.int .u64 1), (.int .u64 0), (.int .u64 0), (.int .u64 60), (.int .u64 0), (.int .u64 0)] 112, blk b4 [(.int .u64 0), (.int .i64 50), (.int .u16 0), (.int .u16 0), (.int .u16 0), (.int .u16 0)] 74] (by exact ⟨rfl, rfl, rfl, rfl, rfl, rfl, rfl, trivial⟩) rfl ?_
  refine A.tn ?_
  refine A.cond_t rfl ?_
  refine A.seq ?_
  refine A.region ?_
  refine A.cons (A.q (some 39) (.pointer (some ⟨b2, 0, none⟩)) (by kernel_rfl) (qt_move rfl rfl) ?_)
  refine A.cons (A.q (some 40) (.pointer (some ⟨b2, 0, none⟩)) (by kernel_rfl) (qt_pure (by kernel_rfl) fun _ => by kernel_rfl) ?_)
  refine A.cons (A.q (some 41) (.pointer (some ⟨b2, 3, none⟩)) (by kernel_rfl) (qt_pure (by kernel_rfl) fun _ => by kernel_rfl) ?_)
  refine A.cons (A.q (some 42) (.pointer (some ⟨b2, 5, none⟩)) (by kernel_rfl) (qt_pure (by kernel_rfl) fun _ => by kernel_rfl) ?_)
  refine A.cons (A.q (some 43) (.int .u64 0) (by kernel_rfl) (qt_load1 rfl rfl (by kernel_rfl) (reads_blk (i := 1) rfl rfl)) ?_)
  refine A.cons (A.q (some 44) (.int .u64 1) (by kernel_rfl) (qt_pure (by kernel_rfl) fun _ => by kernel_rfl) ?_)
  refine A.cons (A.q (some 45) (.pointer (some ⟨b2, 0, none⟩)) (by kernel_rfl) (qt_pure (by kernel_rfl) fun _ => by kernel_rfl) ?_)
  refine A.cons (A.q (some 46) (.pointer (some ⟨b2, 3, none⟩)) (by kernel_rfl) (qt_pure (by kernel_rfl) fun _ => by kernel_rfl) ?_)
  refine A.cons (A.q (some 47) (.pointer (some ⟨b2, 5, none⟩)) (by kernel_rfl) (qt_pure (by kernel_rfl) fun _ => by kernel_rfl) ?_)
  refine A.cons (A.store 1 (vs := [(.int .u64 1)]) [ringI encPkt 118 74 rb1 rs1 2 ([⟨0, 60, 0, 0, 0, 0⟩]), blk b2 [(.pointer (some ⟨rb1, 0, none⟩)), (.int .i64 100), (.int .i64 60), (.int .u64 1), (.int .u64 0), (.int .u64 1), (.int .u64 60), (.int .u64 0), (.int .u64 0)] 112, blk b4 [(.int .u64 0), (.int .i64 50), (.int .u16 0), (.int .u16 0), (.int .u16 0), (.int .u16 0)] 74] (by kernel_rfl) rfl rfl rfl rfl (by kernel_rfl) rfl rfl (by kernel_rfl) rfl ?_)
  refine A.done ?_
  refine A.norm [(0, (.pointer (some ⟨b2, 0, none⟩))), (1, (.agg #[(.int .u64 0), (.int .i64 50), (.int .u16 0), (.int .u16 0), (.int .u16 0), (.int .u16 0)])), (3, (.pointer (some ⟨b4, 0, none⟩))), (4, (.int .i64 0)), (5, (.bool false)), (8, (.bool false)), (17, (.bool true))] [ringI encPkt 118 74 rb1 rs1 2 ([⟨0, 60, 0, 0, 0, 0⟩]), blk b2 [(.pointer (some ⟨rb1, 0, none⟩)), (.int .i64 100), (.int .i64 60), (.int .u64 1), (.int .u64 0), (.int .u64 1), (.int .u64 60), (.int .u64 0), (.int .u64 0)] 112, blk b4 [(.int .u64 0), (.int .i64 50), (.int .u16 0), (.int .u16 0), (.int .u16 0), (.int .u16 0)] 74] (by exact ⟨rfl, rfl, rfl, rfl, rfl, rfl, rfl, trivial⟩) rfl ?_
  refine A.tn ?_
  refine A.seq ?_
  refine A.draw [ringI encPkt 118 74 rb1 rs1 2 ([⟨0, 60, 0, 0, 0, 0⟩]), blk b4 [(.int .u64 0), (.int .i64 50), (.int .u16 0), (.int .u16 0), (.int .u16 0), (.int .u16 0)] 74] (by kernel_rfl) ?_
  refine A.take 0 (some 48) (.pointer (some ⟨b2, 0, none⟩)) rfl (by kernel_rfl) (by kernel_rfl) (List.Sublist.cons_cons _ (List.Sublist.cons _ (List.Sublist.cons_cons _ (List.Sublist.slnil)))) (qt_move rfl rfl) ?_
  refine A.take 1 (some 49) (.pointer (some ⟨b2, 0, none⟩)) rfl (by kernel_rfl) (by kernel_rfl) (List.Sublist.cons_cons _ (List.Sublist.cons _ (List.Sublist.cons_cons _ (List.Sublist.slnil)))) (qt_pure (by kernel_rfl) fun _ => by kernel_rfl) ?_
  refine A.take 2 (some 50) (.pointer (some ⟨b2, 3, none⟩)) rfl (by kernel_rfl) (by kernel_rfl) (List.Sublist.cons_cons _ (List.Sublist.cons _ (List.Sublist.cons_cons _ (List.Sublist.slnil)))) (qt_pure (by kernel_rfl) fun _ => by kernel_rfl) ?_
  refine A.take 3 (some 51) (.pointer (some ⟨b2, 8, none⟩)) rfl (by kernel_rfl) (by kernel_rfl) (List.Sublist.cons_cons _ (List.Sublist.cons _ (List.Sublist.cons_cons _ (List.Sublist.slnil)))) (qt_pure (by kernel_rfl) fun _ => by kernel_rfl) ?_
  refine A.take 5 (some 53) (.pointer (some ⟨b4, 1, none⟩)) rfl (by kernel_rfl) (by kernel_rfl) (List.Sublist.cons_cons _ (List.Sublist.cons _ (List.Sublist.cons_cons _ (List.Sublist.slnil)))) (qt_pure (by kernel_rfl) fun _ => by kernel_rfl) ?_
  refine A.take 6 (some 54) (.int .i64 50) rfl (by kernel_rfl) (by kernel_rfl) (List.Sublist.cons_cons _ (List.Sublist.cons _ (List.Sublist.cons_cons _ (List.Sublist.slnil)))) (qt_load1 rfl rfl (by kernel_rfl) (reads_blk (i := 1) rfl rfl)) ?_
  refine A.take 7 (some 55) (.int .u64 50) rfl (by kernel_rfl) (by kernel_rfl) (List.Sublist.cons_cons _ (List.Sublist.cons _ (List.Sublist.cons_cons _ (List.Sublist.slnil)))) (qt_pure (by kernel_rfl) fun _ => by kernel_rfl) ?_
  refine A.only 4 rfl (by kernel_rfl) (A.q (some 52) (.int .u64 0) (by kernel_rfl) (qt_load1 rfl rfl (by kernel_rfl) (reads_blk (i := 1) rfl rfl)) ?_)
  refine A.and (List.Sublist.cons_cons _ (List.Sublist.cons _ (List.Sublist.cons_cons _ (List.Sublist.slnil)))) ?_
  refine A.take 8 (some 56) (.int .u64 50) rfl (by kernel_rfl) (by kernel_rfl) (List.Sublist.cons_cons _ (List.Sublist.cons _ (List.Sublist.cons_cons _ (List.Sublist.slnil)))) (qt_pure (by kernel_rfl) fun _ => by kernel_rfl) ?_
  refine A.take 9 (some 57) (.pointer (some ⟨b2, 0, none⟩)) rfl (by kernel_rfl) (by kernel_rfl) (List.Sublist.cons_cons _ (List.Sublist.cons _ (List.Sublist.cons_cons _ (List.Sublist.slnil)))) (qt_pure (by kernel_rfl) fun _ => by kernel_rfl) ?_
  refine A.take 10 (some 58) (.pointer (some ⟨b2, 3, none⟩)) rfl (by kernel_rfl) (by kernel_rfl) (List.Sublist.cons_cons _ (List.Sublist.cons _ (List.Sublist.cons_cons _ (List.Sublist.slnil)))) (qt_pure (by kernel_rfl) fun _ => by kernel_rfl) ?_
  refine A.take 11 (some 59) (.pointer (some ⟨b2, 8, none⟩)) rfl (by kernel_rfl) (by kernel_rfl) (List.Sublist.cons_cons _ (List.Sublist.cons _ (List.Sublist.cons_cons _ (List.Sublist.slnil)))) (qt_pure (by kernel_rfl) fun _ => by kernel_rfl) ?_
  refine A.only 12 rfl (by kernel_rfl) (A.store 1 (vs := [(.int .u64 50)]) [ringI encPkt 118 74 rb1 rs1 2 ([⟨0, 60, 0, 0, 0, 0⟩]), blk b2 [(.pointer (some ⟨rb1, 0, none⟩)), (.int .i64 100), (.int .i64 60), (.int .u64 1), (.int .u64 0), (.int .u64 1), (.int .u64 60), (.int .u64 0), (.int .u64 50)] 112, blk b4 [(.int .u64 0), (.int .i64 50), (.int .u16 0), (.int .u16 0), (.int .u16 0), (.int .u16 0)] 74] (by kernel_rfl) rfl rfl rfl rfl (by kernel_rfl) rfl rfl (by kernel_rfl) rfl ?_)
  refine A.and (List.Sublist.cons_cons _ (List.Sublist.cons _ (List.Sublist.cons_cons _ (List.Sublist.slnil)))) ?_
  refine A.fin (by kernel_rfl) ?_
  refine A.norm [(0, (.pointer (some ⟨b2, 0, none⟩))), (1, (.agg #[(.int .u64 0), (.int .i64 50), (.int .u16 0), (.int .u16 0), (.int .u16 0), (.int .u16 0)])), (3, (.pointer (some ⟨b4, 0, none⟩))), (4, (.int .i64 0)), (5, (.bool false)), (8, (.bool false)), (17, (.bool true))] [ringI encPkt 118 74 rb1 rs1 2 ([⟨0, 60, 0, 0, 0, 0⟩]), blk b2 [(.pointer (some ⟨rb1, 0, none⟩)), (.int .i64 100), (.int .i64 60), (.int .u64 1), (.int .u64 0), (.int .u64 1), (.int .u64 60), (.int .u64 0), (.int .u64 50)] 112, blk b4 [(.int .u64 0), (.int .i64 50), (.int .u16 0), (.int .u16 0), (.int .u16 0), (.int .u16 0)] 74] (by exact ⟨rfl, rfl, rfl, rfl, rfl, rfl, rfl, trivial⟩) rfl ?_
  refine A.tn ?_
  refine A.seq ?_
  refine A.region ?_
  refine A.cons (A.q (some 4) (.int .i64 30) (by kernel_rfl) (qt_assign rfl rfl) ?_)
  refine A.done ?_
  refine A.norm [(0, (.pointer (some ⟨b2, 0, none⟩))), (1, (.agg #[(.int .u64 0), (.int .i64 50), (.int .u16 0), (.int .u16 0), (.int .u16 0), (.int .u16 0)])), (3, (.pointer (some ⟨b4, 0, none⟩))), (4, (.int .i64 30)), (5, (.bool false)), (8, (.bool false)), (17, (.bool true))] [ringI encPkt 118 74 rb1 rs1 2 ([⟨0, 60, 0, 0, 0, 0⟩]), blk b2 [(.pointer (some ⟨rb1, 0, none⟩)), (.int .i64 100), (.int .i64 60), (.int .u64 1), (.int .u64 0), (.int .u64 1), (.int .u64 60), (.int .u64 0), (.int .u64 50)] 112, blk b4 [(.int .u64 0), (.int .i64 50), (.int .u16 0), (.int .u16 0), (.int .u16 0), (.int .u16 0)] 74] (by exact ⟨rfl, rfl, rfl, rfl, rfl, rfl, rfl, trivial⟩) rfl ?_
  refine A.tn ?_
  refine A.ret ?_
  refine A.br ?_
  refine A.tr ?_
  refine A.post [(.int .i64 30)] (fun a w r s => ⟨rv_tmp r rfl, trivial⟩) (A.back (by kernel_rfl) ?_)
  refine A.items [ringI encPkt 118 74 rb1 rs1 2 ([⟨0, 60, 0, 0, 0, 0⟩]), blk b2 [(.pointer (some ⟨rb1, 0, none⟩)), (.int .i64 100), (.int .i64 60), (.int .u64 1), (.int .u64 0), (.int .u64 1), (.int .u64 60), (.int .u64 0), (.int .u64 50)] 112] (List.Sublist.cons_cons _ (List.Sublist.cons_cons _ (List.Sublist.cons _ (List.Sublist.slnil)))) ?_
  refine A.cons (A.q (some 19) (.pointer (some ⟨b2, 0, none⟩)) (by kernel_rfl) (qt_move rfl rfl) ?_)
  refine A.cons (A.q (some 20) (.agg #[(.int .u64 0), (.int .i64 40), (.int .u16 0), (.int .u16 0), (.int .u16 0), (.int .u16 0)]) (by kernel_rfl) (qt_pure (by kernel_rfl) fun _ => by kernel_rfl) ?_)
  refine A.cons (A.inl (some 21) [(.pointer (some ⟨b2, 0, none⟩)), (.agg #[(.int .u64 0), (.int .i64 40), (.int .u16 0), (.int .u16 0), (.int .u16 0), (.int .u16 0)])] [(0, (.pointer (some ⟨b2, 0, none⟩))), (1, (.agg #[(.int .u64 0), (.int .i64 40), (.int .u16 0), (.int .u16 0), (.int .u16 0), (.int .u16 0)]))] (by kernel_rfl) rfl (by kernel_rfl) rfl Try.func43 rfl rfl rfl ?_)
  refine A.seq ?_
  refine A.region ?_
  refine A.cons (A.box 3 [(.int .u64 0), (.int .i64 40), (.int .u16 0), (.int .u16 0), (.int .u16 0), (.int .u16 0)] (by kernel_rfl) rfl rfl rfl (fun b5 => [ringI encPkt 118 74 rb1 rs1 2 ([⟨0, 60, 0, 0, 0, 0⟩]), blk b2 [(.pointer (some ⟨rb1, 0, none⟩)), (.int .i64 100), (.int .i64 60), (.int .u64 1), (.int .u64 0), (.int .u64 1), (.int .u64 60), (.int .u64 0), (.int .u64 50)] 112, blk b5 [(.int .u64 0), (.int .i64 40), (.int .u16 0), (.int .u16 0), (.int .u16 0), (.int .u16 0)] 74]) (fun _ => rfl) ?_)
  intro b5
  refine A.cons (A.q (some 4) (.int .i64 0) (by kernel_rfl) (qt_assign rfl rfl) ?_)
  refine A.done ?_
  refine A.norm [(0, (.pointer (some ⟨b2, 0, none⟩))), (1, (.agg #[(.int .u64 0), (.int .i64 40), (.int .u16 0), (.int .u16 0), (.int .u16 0), (.int .u16 0)])), (3, (.pointer (some ⟨b5, 0, none⟩))), (4, (.int .i64 0))] [ringI encPkt 118 74 rb1 rs1 2 ([⟨0, 60, 0, 0, 0, 0⟩]), blk b2 [(.pointer (some ⟨rb1, 0, none⟩)), (.int .i64 100), (.int .i64 60), (.int .u64 1), (.int .u64 0), (.int .u64 1), (.int .u64 60), (.int .u64 0), (.int .u64 50)] 112, blk b5 [(.int .u64 0), (.int .i64 40), (.int .u16 0), (.int .u16 0), (.int .u16 0), (.int .u16 0)] 74] (by exact ⟨rfl, rfl, rfl, rfl, trivial⟩) rfl ?_
  refine A.tn ?_
  refine A.seq ?_
  refine A.block ?_
  refine A.seq ?_
  refine A.region ?_
  refine A.cons (A.q (some 6) (.pointer (some ⟨b2, 0, none⟩)) (by kernel_rfl) (qt_move rfl rfl) ?_)
  refine A.cons (A.q (some 7) (.bool false) (by kernel_rfl) (qt_pure (by kernel_rfl) fun _ => by kernel_rfl) ?_)
  refine A.cons (A.q (some 5) (.bool false) (by kernel_rfl) (qt_assign rfl rfl) ?_)
  refine A.done ?_
  refine A.norm [(0, (.pointer (some ⟨b2, 0, none⟩))), (1, (.agg #[(.int .u64 0), (.int .i64 40), (.int .u16 0), (.int .u16 0), (.int .u16 0), (.int .u16 0)])), (3, (.pointer (some ⟨b5, 0, none⟩))), (4, (.int .i64 0)), (5, (.bool false))] [ringI encPkt 118 74 rb1 rs1 2 ([⟨0, 60, 0, 0, 0, 0⟩]), blk b2 [(.pointer (some ⟨rb1, 0, none⟩)), (.int .i64 100), (.int .i64 60), (.int .u64 1), (.int .u64 0), (.int .u64 1), (.int .u64 60), (.int .u64 0), (.int .u64 50)] 112, blk b5 [(.int .u64 0), (.int .i64 40), (.int .u16 0), (.int .u16 0), (.int .u16 0), (.int .u16 0)] 74] (by exact ⟨rfl, rfl, rfl, rfl, rfl, trivial⟩) rfl ?_
  refine A.tn ?_
  refine A.cond_f rfl ?_
  refine A.seq ?_
  refine A.region ?_
  refine A.cons (A.q (some 9) (.pointer (some ⟨b5, 1, none⟩)) (by kernel_rfl) (qt_pure (by kernel_rfl) fun _ => by kernel_rfl) ?_)
  refine A.cons (A.q (some 10) (.int .i64 40) (by kernel_rfl) (qt_load1 rfl rfl (by kernel_rfl) (reads_blk (i := 2) rfl rfl)) ?_)
  refine A.cons (A.q (some 11) (.bool false) (by kernel_rfl) (qt_pure (by kernel_rfl) fun _ => by kernel_rfl) ?_)
  refine A.cons (A.q (some 12) (.bool false) (by kernel_rfl) (qt_move rfl rfl) ?_)
  refine A.cons (A.q (some 13) (.pointer (some ⟨b5, 1, none⟩)) (by kernel_rfl) (qt_pure (by kernel_rfl) fun _ => by kernel_rfl) ?_)
  refine A.cons (A.q (some 14) (.int .i64 40) (by kernel_rfl) (qt_load1 rfl rfl (by kernel_rfl) (reads_blk (i := 2) rfl rfl)) ?_)
  refine A.cons (A.q (some 15) (.bool false) (by kernel_rfl) (qt_pure (by kernel_rfl) fun _ => by kernel_rfl) ?_)
  refine A.cons (A.q (some 16) (.bool false) (by kernel_rfl) (qt_pure (by kernel_rfl) fun _ => by kernel_rfl) ?_)
  refine A.cons (A.q (some 8) (.bool false) (by kernel_rfl) (qt_assign rfl rfl) ?_)
  refine A.done ?_
  refine A.norm [(0, (.pointer (some ⟨b2, 0, none⟩))), (1, (.agg #[(.int .u64 0), (.int .i64 40), (.int .u16 0), (.int .u16 0), (.int .u16 0), (.int .u16 0)])), (3, (.pointer (some ⟨b5, 0, none⟩))), (4, (.int .i64 0)), (5, (.bool false)), (8, (.bool false))] [ringI encPkt 118 74 rb1 rs1 2 ([⟨0, 60, 0, 0, 0, 0⟩]), blk b2 [(.pointer (some ⟨rb1, 0, none⟩)), (.int .i64 100), (.int .i64 60), (.int .u64 1), (.int .u64 0), (.int .u64 1), (.int .u64 60), (.int .u64 0), (.int .u64 50)] 112, blk b5 [(.int .u64 0), (.int .i64 40), (.int .u16 0), (.int .u16 0), (.int .u16 0), (.int .u16 0)] 74] (by exact ⟨rfl, rfl, rfl, rfl, rfl, rfl, trivial⟩) rfl ?_
  refine A.tn ?_
  refine A.cond_f rfl ?_
  refine A.seq ?_
  refine A.draw [blk b2 [(.pointer (some ⟨rb1, 0, none⟩)), (.int .i64 100), (.int .i64 60), (.int .u64 1), (.int .u64 0), (.int .u64 1), (.int .u64 60), (.int .u64 0), (.int .u64 50)] 112, blk b5 [(.int .u64 0), (.int .i64 40), (.int .u16 0), (.int .u16 0), (.int .u16 0), (.int .u16 0)] 74] (by kernel_rfl) ?_
  refine A.take 0 (some 18) (.pointer (some ⟨b5, 1, none⟩)) rfl (by kernel_rfl) (by kernel_rfl) (List.Sublist.cons _ (List.Sublist.cons_cons _ (List.Sublist.cons_cons _ (List.Sublist.slnil)))) (qt_pure (by kernel_rfl) fun _ => by kernel_rfl) ?_
  refine A.take 1 (some 19) (.int .i64 40) rfl (by kernel_rfl) (by kernel_rfl) (List.Sublist.cons _ (List.Sublist.cons_cons _ (List.Sublist.cons_cons _ (List.Sublist.slnil)))) (qt_load1 rfl rfl (by kernel_rfl) (reads_blk (i := 1) rfl rfl)) ?_
  refine A.take 2 (some 20) (.pointer (some ⟨b2, 0, none⟩)) rfl (by kernel_rfl) (by kernel_rfl) (List.Sublist.cons _ (List.Sublist.cons_cons _ (List.Sublist.cons_cons _ (List.Sublist.slnil)))) (qt_move rfl rfl) ?_
  refine A.take 3 (some 21) (.pointer (some ⟨b2, 0, none⟩)) rfl (by kernel_rfl) (by kernel_rfl) (List.Sublist.cons _ (List.Sublist.cons_cons _ (List.Sublist.cons_cons _ (List.Sublist.slnil)))) (qt_pure (by kernel_rfl) fun _ => by kernel_rfl) ?_
  refine A.take 4 (some 22) (.pointer (some ⟨b2, 1, none⟩)) rfl (by kernel_rfl) (by kernel_rfl) (List.Sublist.cons _ (List.Sublist.cons_cons _ (List.Sublist.cons_cons _ (List.Sublist.slnil)))) (qt_pure (by kernel_rfl) fun _ => by kernel_rfl) ?_
  refine A.take 5 (some 23) (.int .i64 100) rfl (by kernel_rfl) (by kernel_rfl) (List.Sublist.cons _ (List.Sublist.cons_cons _ (List.Sublist.cons_cons _ (List.Sublist.slnil)))) (qt_load1 rfl rfl (by kernel_rfl) (reads_blk (i := 0) rfl rfl)) ?_
  refine A.take 6 (some 24) (.pointer (some ⟨b2, 0, none⟩)) rfl (by kernel_rfl) (by kernel_rfl) (List.Sublist.cons _ (List.Sublist.cons_cons _ (List.Sublist.cons_cons _ (List.Sublist.slnil)))) (qt_move rfl rfl) ?_
  refine A.take 7 (some 25) (.pointer (some ⟨b2, 0, none⟩)) rfl (by kernel_rfl) (by kernel_rfl) (List.Sublist.cons _ (List.Sublist.cons_cons _ (List.Sublist.cons_cons _ (List.Sublist.slnil)))) (qt_pure (by kernel_rfl) fun _ => by kernel_rfl) ?_
  refine A.take 8 (some 26) (.pointer (some ⟨b2, 2, none⟩)) rfl (by kernel_rfl) (by kernel_rfl) (List.Sublist.cons _ (List.Sublist.cons_cons _ (List.Sublist.cons_cons _ (List.Sublist.slnil)))) (qt_pure (by kernel_rfl) fun _ => by kernel_rfl) ?_
  refine A.take 9 (some 27) (.int .i64 60) rfl (by kernel_rfl) (by kernel_rfl) (List.Sublist.cons _ (List.Sublist.cons_cons _ (List.Sublist.cons_cons _ (List.Sublist.slnil)))) (qt_load1 rfl rfl (by kernel_rfl) (reads_blk (i := 0) rfl rfl)) ?_
  refine A.take 10 (some 28) (.int .i64 40) rfl (by kernel_rfl) (by kernel_rfl) (List.Sublist.cons _ (List.Sublist.cons_cons _ (List.Sublist.cons_cons _ (List.Sublist.slnil)))) (qt_pure (by kernel_rfl) fun _ => by kernel_rfl) ?_
  refine A.take 11 (some 29) (.bool false) rfl (by kernel_rfl) (by kernel_rfl) (List.Sublist.cons _ (List.Sublist.cons_cons _ (List.Sublist.cons_cons _ (List.Sublist.slnil)))) (qt_pure (by kernel_rfl) fun _ => by kernel_rfl) ?_
  refine A.take 12 (some 30) (.bool false) rfl (by kernel_rfl) (by kernel_rfl) (List.Sublist.cons _ (List.Sublist.cons_cons _ (List.Sublist.cons_cons _ (List.Sublist.slnil)))) (qt_move rfl rfl) ?_
  refine A.take 13 (some 31) (.pointer (some ⟨b2, 0, none⟩)) rfl (by kernel_rfl) (by kernel_rfl) (List.Sublist.cons _ (List.Sublist.cons_cons _ (List.Sublist.cons_cons _ (List.Sublist.slnil)))) (qt_move rfl rfl) ?_
  refine A.take 14 (some 32) (.pointer (some ⟨b2, 0, none⟩)) rfl (by kernel_rfl) (by kernel_rfl) (List.Sublist.cons _ (List.Sublist.cons_cons _ (List.Sublist.cons_cons _ (List.Sublist.slnil)))) (qt_pure (by kernel_rfl) fun _ => by kernel_rfl) ?_
  refine A.take 15 (some 33) (.pointer (some ⟨b2, 0, none⟩)) rfl (by kernel_rfl) (by kernel_rfl) (List.Sublist.cons _ (List.Sublist.cons_cons _ (List.Sublist.cons_cons _ (List.Sublist.slnil)))) (qt_pure (by kernel_rfl) fun _ => by kernel_rfl) ?_
  refine A.take 16 (some 34) (.pointer (some ⟨rb1, 0, none⟩)) rfl (by kernel_rfl) (by kernel_rfl) (List.Sublist.cons _ (List.Sublist.cons_cons _ (List.Sublist.cons_cons _ (List.Sublist.slnil)))) (qt_load1 rfl rfl (by kernel_rfl) (reads_blk (i := 0) rfl rfl)) ?_
  refine A.take 17 (some 35) (.agg #[(.int .u64 0), (.int .i64 40), (.int .u16 0), (.int .u16 0), (.int .u16 0), (.int .u16 0)]) rfl (by kernel_rfl) (by kernel_rfl) (List.Sublist.cons _ (List.Sublist.cons_cons _ (List.Sublist.cons_cons _ (List.Sublist.slnil)))) (qt_loadN (vs := [(.int .u64 0), (.int .i64 40), (.int .u16 0), (.int .u16 0), (.int .u16 0), (.int .u16 0)]) rfl rfl (by kernel_rfl) (reads_blk (i := 1) rfl rfl)) ?_
  refine A.only 18 rfl (by kernel_rfl) (A.call (some 36) [(.pointer (some ⟨rb1, 0, none⟩)), (.agg #[(.int .u64 0), (.int .i64 40), (.int .u16 0), (.int .u16 0), (.int .u16 0), (.int .u16 0)])] (fun _ : Unit => (.int .i64 0)) (fun _ => True) (fun _ => [ringI encPkt 118 74 rb1 rs1 2 ([⟨0, 60, 0, 0, 0, 0⟩, ⟨0, 40, 0, 0, 0, 0⟩]), blk b2 [(.pointer (some ⟨rb1, 0, none⟩)), (.int .i64 100), (.int .i64 60), (.int .u64 1), (.int .u64 0), (.int .u64 1), (.int .u64 60), (.int .u64 0), (.int .u64 50)] 112, blk b5 [(.int .u64 0), (.int .i64 40), (.int .u16 0), (.int .u16 0), (.int .u16 0), (.int .u16 0)] 74]) (by kernel_rfl) rfl (by kernel_rfl) rfl (fun w s => (ringP_push rb1 rs1 2 ([⟨0, 60, 0, 0, 0, 0⟩]) (⟨0, 40, 0, 0, 0, 0⟩) w (s.mem (i := 0) rfl) (by first | omega | (simp; done) | (simp; omega) | grind)).mono fun e w1 ⟨he, hr, hf⟩ => ⟨(), he, trivial, s.turn (i := 0) rfl hf hr (by have := (s.mem (i := 0) rfl : RingH _ _ _ _ _ _ _ _).bounds.2.2.2; simpa [ringI] using this) (fun _ h => .inl h)⟩) (fun _ _ => ?_))
  refine A.and (List.Sublist.cons _ (List.Sublist.cons_cons _ (List.Sublist.cons_cons _ (List.Sublist.slnil)))) ?_
  refine A.take 19 (some 37) (.bool false) rfl (by kernel_rfl) (by kernel_rfl) (List.Sublist.cons _ (List.Sublist.cons_cons _ (List.Sublist.cons_cons _ (List.Sublist.slnil)))) (qt_pure (by kernel_rfl) fun _ => by kernel_rfl) ?_
  refine A.take 20 (some 38) (.bool false) rfl (by kernel_rfl) (by kernel_rfl) (List.Sublist.cons _ (List.Sublist.cons_cons _ (List.Sublist.cons_cons _ (List.Sublist.slnil)))) (qt_pure (by kernel_rfl) fun _ => by kernel_rfl) ?_
  refine A.take 21 (some 17) (.bool false) rfl (by kernel_rfl) (by kernel_rfl) (List.Sublist.cons _ (List.Sublist.cons_cons _ (List.Sublist.cons_cons _ (List.Sublist.slnil)))) (qt_assign rfl rfl) ?_
  refine A.fin (by kernel_rfl) ?_
  refine A.norm [(0, (.pointer (some ⟨b2, 0, none⟩))), (1, (.agg #[(.int .u64 0), (.int .i64 40), (.int .u16 0), (.int .u16 0), (.int .u16 0), (.int .u16 0)])), (3, (.pointer (some ⟨b5, 0, none⟩))), (4, (.int .i64 0)), (5, (.bool false)), (8, (.bool false)), (17, (.bool false))] [ringI encPkt 118 74 rb1 rs1 2 ([⟨0, 60, 0, 0, 0, 0⟩, ⟨0, 40, 0, 0, 0, 0⟩]), blk b2 [(.pointer (some ⟨rb1, 0, none⟩)), (.int .i64 100), (.int .i64 60), (.int .u64 1), (.int .u64 0), (.int .u64 1), (.int .u64 60), (.int .u64 0), (.int .u64 50)] 112, blk b5 [(.int .u64 0), (.int .i64 40), (.int .u16 0), (.int .u16 0), (.int .u16 0), (.int .u16 0)] 74] (by exact ⟨rfl, rfl, rfl, rfl, rfl, rfl, rfl, trivial⟩) rfl ?_
  refine A.tn ?_
  refine A.cond_f rfl ?_
  refine A.skip ?_
  refine A.bn ?_
  refine A.tn ?_
  refine A.seq ?_
  refine A.draw [ringI encPkt 118 74 rb1 rs1 2 ([⟨0, 60, 0, 0, 0, 0⟩, ⟨0, 40, 0, 0, 0, 0⟩]), blk b5 [(.int .u64 0), (.int .i64 40), (.int .u16 0), (.int .u16 0), (.int .u16 0), (.int .u16 0)] 74] (by kernel_rfl) ?_
  refine A.take 0 (some 60) (.pointer (some ⟨b2, 0, none⟩)) rfl (by kernel_rfl) (by kernel_rfl) (List.Sublist.cons_cons _ (List.Sublist.cons _ (List.Sublist.cons_cons _ (List.Sublist.slnil)))) (qt_move rfl rfl) ?_
  refine A.take 1 (some 61) (.pointer (some ⟨b2, 0, none⟩)) rfl (by kernel_rfl) (by kernel_rfl) (List.Sublist.cons_cons _ (List.Sublist.cons _ (List.Sublist.cons_cons _ (List.Sublist.slnil)))) (qt_pure (by kernel_rfl) fun _ => by kernel_rfl) ?_
  refine A.take 2 (some 62) (.pointer (some ⟨b2, 2, none⟩)) rfl (by kernel_rfl) (by kernel_rfl) (List.Sublist.cons_cons _ (List.Sublist.cons _ (List.Sublist.cons_cons _ (List.Sublist.slnil)))) (qt_pure (by kernel_rfl) fun _ => by kernel_rfl) ?_
  refine A.take 4 (some 64) (.pointer (some ⟨b5, 1, none⟩)) rfl (by kernel_rfl) (by kernel_rfl) (List.Sublist.cons_cons _ (List.Sublist.cons _ (List.Sublist.cons_cons _ (List.Sublist.slnil)))) (qt_pure (by kernel_rfl) fun _ => by kernel_rfl) ?_
  refine A.take 5 (some 65) (.int .i64 40) rfl (by kernel_rfl) (by kernel_rfl) (List.Sublist.cons_cons _ (List.Sublist.cons _ (List.Sublist.cons_cons _ (List.Sublist.slnil)))) (qt_load1 rfl rfl (by kernel_rfl) (reads_blk (i := 1) rfl rfl)) ?_
  refine A.only 3 rfl (by kernel_rfl) (A.q (some 63) (.int .i64 60) (by kernel_rfl) (qt_load1 rfl rfl (by kernel_rfl) (reads_blk (i := 1) rfl rfl)) ?_)
  refine A.and (List.Sublist.cons_cons _ (List.Sublist.cons _ (List.Sublist.cons_cons _ (List.Sublist.slnil)))) ?_
  refine A.take 6 (some 66) (.int .i64 100) rfl (by kernel_rfl) (by kernel_rfl) (List.Sublist.cons_cons _ (List.Sublist.cons _ (List.Sublist.cons_cons _ (List.Sublist.slnil)))) (qt_pure (by kernel_rfl) fun _ => by kernel_rfl) ?_
  refine A.take 7 (some 67) (.pointer (some ⟨b2, 0, none⟩)) rfl (by kernel_rfl) (by kernel_rfl) (List.Sublist.cons_cons _ (List.Sublist.cons _ (List.Sublist.cons_cons _ (List.Sublist.slnil)))) (qt_pure (by kernel_rfl) fun _ => by kernel_rfl) ?_
  refine A.take 8 (some 68) (.pointer (some ⟨b2, 2, none⟩)) rfl (by kernel_rfl) (by kernel_rfl) (List.Sublist.cons_cons _ (List.Sublist.cons _ (List.Sublist.cons_cons _ (List.Sublist.slnil)))) (qt_pure (by kernel_rfl) fun _ => by kernel_rfl) ?_
  refine A.only 9 rfl (by kernel_rfl) (A.store 1 (vs := [(.int .i64 100)]) [ringI encPkt 118 74 rb1 rs1 2 ([⟨0, 60, 0, 0, 0, 0⟩, ⟨0, 40, 0, 0, 0, 0⟩]), blk b2 [(.pointer (some ⟨rb1, 0, none⟩)), (.int .i64 100), (.int .i64 100), (.int .u64 1), (.int .u64 0), (.int .u64 1), (.int .u64 60), (.int .u64 0), (.int .u64 50)] 112, blk b5 [(.int .u64 0), (.int .i64 40), (.int .u16 0), (.int .u16 0), (.int .u16 0), (.int .u16 0)] 74] (by kernel_rfl) rfl rfl rfl rfl (by kernel_rfl) rfl rfl (by kernel_rfl) rfl ?_)
  refine A.and (List.Sublist.cons_cons _ (List.Sublist.cons _ (List.Sublist.cons_cons _ (List.Sublist.slnil)))) ?_
  refine A.fin (by kernel_rfl) ?_
  refine A.norm [(0, (.pointer (some ⟨b2, 0, none⟩))), (1, (.agg #[(.int .u64 0), (.int .i64 40), (.int .u16 0), (.int .u16 0), (.int .u16 0), (.int .u16 0)])), (3, (.pointer (some ⟨b5, 0, none⟩))), (4, (.int .i64 0)), (5, (.bool false)), (8, (.bool false)), (17, (.bool false))] [ringI encPkt 118 74 rb1 rs1 2 ([⟨0, 60, 0, 0, 0, 0⟩, ⟨0, 40, 0, 0, 0, 0⟩]), blk b2 [(.pointer (some ⟨rb1, 0, none⟩)), (.int .i64 100), (.int .i64 100), (.int .u64 1), (.int .u64 0), (.int .u64 1), (.int .u64 60), (.int .u64 0), (.int .u64 50)] 112, blk b5 [(.int .u64 0), (.int .i64 40), (.int .u16 0), (.int .u16 0), (.int .u16 0), (.int .u16 0)] 74] (by exact ⟨rfl, rfl, rfl, rfl, rfl, rfl, rfl, trivial⟩) rfl ?_
  refine A.tn ?_
  refine A.seq ?_
  refine A.region ?_
  refine A.cons (A.q (some 69) (.pointer (some ⟨b2, 0, none⟩)) (by kernel_rfl) (qt_move rfl rfl) ?_)
  refine A.cons (A.q (some 70) (.pointer (some ⟨b2, 0, none⟩)) (by kernel_rfl) (qt_pure (by kernel_rfl) fun _ => by kernel_rfl) ?_)
  refine A.cons (A.q (some 71) (.pointer (some ⟨b2, 3, none⟩)) (by kernel_rfl) (qt_pure (by kernel_rfl) fun _ => by kernel_rfl) ?_)
  refine A.cons (A.q (some 72) (.pointer (some ⟨b2, 3, none⟩)) (by kernel_rfl) (qt_pure (by kernel_rfl) fun _ => by kernel_rfl) ?_)
  refine A.cons (A.q (some 73) (.int .u64 1) (by kernel_rfl) (qt_load1 rfl rfl (by kernel_rfl) (reads_blk (i := 1) rfl rfl)) ?_)
  refine A.cons (A.q (some 74) (.int .u64 2) (by kernel_rfl) (qt_pure (by kernel_rfl) fun _ => by kernel_rfl) ?_)
  refine A.cons (A.q (some 75) (.pointer (some ⟨b2, 0, none⟩)) (by kernel_rfl) (qt_pure (by kernel_rfl) fun _ => by kernel_rfl) ?_)
  refine A.cons (A.q (some 76) (.pointer (some ⟨b2, 3, none⟩)) (by kernel_rfl) (qt_pure (by kernel_rfl) fun _ => by kernel_rfl) ?_)
  refine A.cons (A.q (some 77) (.pointer (some ⟨b2, 3, none⟩)) (by kernel_rfl) (qt_pure (by kernel_rfl) fun _ => by kernel_rfl) ?_)
  refine A.cons (A.store 1 (vs := [(.int .u64 2)]) [ringI encPkt 118 74 rb1 rs1 2 ([⟨0, 60, 0, 0, 0, 0⟩, ⟨0, 40, 0, 0, 0, 0⟩]), blk b2 [(.pointer (some ⟨rb1, 0, none⟩)), (.int .i64 100), (.int .i64 100), (.int .u64 2), (.int .u64 0), (.int .u64 1), (.int .u64 60), (.int .u64 0), (.int .u64 50)] 112, blk b5 [(.int .u64 0), (.int .i64 40), (.int .u16 0), (.int .u16 0), (.int .u16 0), (.int .u16 0)] 74] (by kernel_rfl) rfl rfl rfl rfl (by kernel_rfl) rfl rfl (by kernel_rfl) rfl ?_)
  refine A.done ?_
  refine A.norm [(0, (.pointer (some ⟨b2, 0, none⟩))), (1, (.agg #[(.int .u64 0), (.int .i64 40), (.int .u16 0), (.int .u16 0), (.int .u16 0), (.int .u16 0)])), (3, (.pointer (some ⟨b5, 0, none⟩))), (4, (.int .i64 0)), (5, (.bool false)), (8, (.bool false)), (17, (.bool false))] [ringI encPkt 118 74 rb1 rs1 2 ([⟨0, 60, 0, 0, 0, 0⟩, ⟨0, 40, 0, 0, 0, 0⟩]), blk b2 [(.pointer (some ⟨rb1, 0, none⟩)), (.int .i64 100), (.int .i64 100), (.int .u64 2), (.int .u64 0), (.int .u64 1), (.int .u64 60), (.int .u64 0), (.int .u64 50)] 112, blk b5 [(.int .u64 0), (.int .i64 40), (.int .u16 0), (.int .u16 0), (.int .u16 0), (.int .u16 0)] 74] (by exact ⟨rfl, rfl, rfl, rfl, rfl, rfl, rfl, trivial⟩) rfl ?_
  refine A.tn ?_
  refine A.seq ?_
  refine A.draw [ringI encPkt 118 74 rb1 rs1 2 ([⟨0, 60, 0, 0, 0, 0⟩, ⟨0, 40, 0, 0, 0, 0⟩]), blk b5 [(.int .u64 0), (.int .i64 40), (.int .u16 0), (.int .u16 0), (.int .u16 0), (.int .u16 0)] 74] (by kernel_rfl) ?_
  refine A.take 0 (some 78) (.pointer (some ⟨b2, 0, none⟩)) rfl (by kernel_rfl) (by kernel_rfl) (List.Sublist.cons_cons _ (List.Sublist.cons _ (List.Sublist.cons_cons _ (List.Sublist.slnil)))) (qt_move rfl rfl) ?_
  refine A.take 1 (some 79) (.pointer (some ⟨b2, 0, none⟩)) rfl (by kernel_rfl) (by kernel_rfl) (List.Sublist.cons_cons _ (List.Sublist.cons _ (List.Sublist.cons_cons _ (List.Sublist.slnil)))) (qt_pure (by kernel_rfl) fun _ => by kernel_rfl) ?_
  refine A.take 2 (some 80) (.pointer (some ⟨b2, 3, none⟩)) rfl (by kernel_rfl) (by kernel_rfl) (List.Sublist.cons_cons _ (List.Sublist.cons _ (List.Sublist.cons_cons _ (List.Sublist.slnil)))) (qt_pure (by kernel_rfl) fun _ => by kernel_rfl) ?_
  refine A.take 3 (some 81) (.pointer (some ⟨b2, 6, none⟩)) rfl (by kernel_rfl) (by kernel_rfl) (List.Sublist.cons_cons _ (List.Sublist.cons _ (List.Sublist.cons_cons _ (List.Sublist.slnil)))) (qt_pure (by kernel_rfl) fun _ => by kernel_rfl) ?_
  refine A.take 5 (some 83) (.pointer (some ⟨b5, 1, none⟩)) rfl (by kernel_rfl) (by kernel_rfl) (List.Sublist.cons_cons _ (List.Sublist.cons _ (List.Sublist.cons_cons _ (List.Sublist.slnil)))) (qt_pure (by kernel_rfl) fun _ => by kernel_rfl) ?_
  refine A.take 6 (some 84) (.int .i64 40) rfl (by kernel_rfl) (by kernel_rfl) (List.Sublist.cons_cons _ (List.Sublist.cons _ (List.Sublist.cons_cons _ (List.Sublist.slnil)))) (qt_load1 rfl rfl (by kernel_rfl) (reads_blk (i := 1) rfl rfl)) ?_
  refine A.take 7 (some 85) (.int .u64 40) rfl (by kernel_rfl) (by kernel_rfl) (List.Sublist.cons_cons _ (List.Sublist.cons _ (List.Sublist.cons_cons _ (List.Sublist.slnil)))) (qt_pure (by kernel_rfl) fun _ => by kernel_rfl) ?_
  refine A.only 4 rfl (by kernel_rfl) (A.q (some 82) (.int .u64 60) (by kernel_rfl) (qt_load1 rfl rfl (by kernel_rfl) (reads_blk (i := 1) rfl rfl)) ?_)
  refine A.and (List.Sublist.cons_cons _ (List.Sublist.cons _ (List.Sublist.cons_cons _ (List.Sublist.slnil)))) ?_
  refine A.take 8 (some 86) (.int .u64 100) rfl (by kernel_rfl) (by kernel_rfl) (List.Sublist.cons_cons _ (List.Sublist.cons _ (List.Sublist.cons_cons _ (List.Sublist.slnil)))) (qt_pure (by kernel_rfl) fun _ => by kernel_rfl) ?_
  refine A.take 9 (some 87) (.pointer (some ⟨b2, 0, none⟩)) rfl (by kernel_rfl) (by kernel_rfl) (List.Sublist.cons_cons _ (List.Sublist.cons _ (List.Sublist.cons_cons _ (List.Sublist.slnil)))) (qt_pure (by kernel_rfl) fun _ => by kernel_rfl) ?_
  refine A.take 10 (some 88) (.pointer (some ⟨b2, 3, none⟩)) rfl (by kernel_rfl) (by kernel_rfl) (List.Sublist.cons_cons _ (List.Sublist.cons _ (List.Sublist.cons_cons _ (List.Sublist.slnil)))) (qt_pure (by kernel_rfl) fun _ => by kernel_rfl) ?_
  refine A.take 11 (some 89) (.pointer (some ⟨b2, 6, none⟩)) rfl (by kernel_rfl) (by kernel_rfl) (List.Sublist.cons_cons _ (List.Sublist.cons _ (List.Sublist.cons_cons _ (List.Sublist.slnil)))) (qt_pure (by kernel_rfl) fun _ => by kernel_rfl) ?_
  refine A.only 12 rfl (by kernel_rfl) (A.store 1 (vs := [(.int .u64 100)]) [ringI encPkt 118 74 rb1 rs1 2 ([⟨0, 60, 0, 0, 0, 0⟩, ⟨0, 40, 0, 0, 0, 0⟩]), blk b2 [(.pointer (some ⟨rb1, 0, none⟩)), (.int .i64 100), (.int .i64 100), (.int .u64 2), (.int .u64 0), (.int .u64 1), (.int .u64 100), (.int .u64 0), (.int .u64 50)] 112, blk b5 [(.int .u64 0), (.int .i64 40), (.int .u16 0), (.int .u16 0), (.int .u16 0), (.int .u16 0)] 74] (by kernel_rfl) rfl rfl rfl rfl (by kernel_rfl) rfl rfl (by kernel_rfl) rfl ?_)
  refine A.and (List.Sublist.cons_cons _ (List.Sublist.cons _ (List.Sublist.cons_cons _ (List.Sublist.slnil)))) ?_
  refine A.fin (by kernel_rfl) ?_
  refine A.norm [(0, (.pointer (some ⟨b2, 0, none⟩))), (1, (.agg #[(.int .u64 0), (.int .i64 40), (.int .u16 0), (.int .u16 0), (.int .u16 0), (.int .u16 0)])), (3, (.pointer (some ⟨b5, 0, none⟩))), (4, (.int .i64 0)), (5, (.bool false)), (8, (.bool false)), (17, (.bool false))] [ringI encPkt 118 74 rb1 rs1 2 ([⟨0, 60, 0, 0, 0, 0⟩, ⟨0, 40, 0, 0, 0, 0⟩]), blk b2 [(.pointer (some ⟨rb1, 0, none⟩)), (.int .i64 100), (.int .i64 100), (.int .u64 2), (.int .u64 0), (.int .u64 1), (.int .u64 100), (.int .u64 0), (.int .u64 50)] 112, blk b5 [(.int .u64 0), (.int .i64 40), (.int .u16 0), (.int .u16 0), (.int .u16 0), (.int .u16 0)] 74] (by exact ⟨rfl, rfl, rfl, rfl, rfl, rfl, rfl, trivial⟩) rfl ?_
  refine A.tn ?_
  refine A.seq ?_
  refine A.region ?_
  refine A.cons (A.q (some 4) (.int .i64 0) (by kernel_rfl) (qt_assign rfl rfl) ?_)
  refine A.done ?_
  refine A.norm [(0, (.pointer (some ⟨b2, 0, none⟩))), (1, (.agg #[(.int .u64 0), (.int .i64 40), (.int .u16 0), (.int .u16 0), (.int .u16 0), (.int .u16 0)])), (3, (.pointer (some ⟨b5, 0, none⟩))), (4, (.int .i64 0)), (5, (.bool false)), (8, (.bool false)), (17, (.bool false))] [ringI encPkt 118 74 rb1 rs1 2 ([⟨0, 60, 0, 0, 0, 0⟩, ⟨0, 40, 0, 0, 0, 0⟩]), blk b2 [(.pointer (some ⟨rb1, 0, none⟩)), (.int .i64 100), (.int .i64 100), (.int .u64 2), (.int .u64 0), (.int .u64 1), (.int .u64 100), (.int .u64 0), (.int .u64 50)] 112, blk b5 [(.int .u64 0), (.int .i64 40), (.int .u16 0), (.int .u16 0), (.int .u16 0), (.int .u16 0)] 74] (by exact ⟨rfl, rfl, rfl, rfl, rfl, rfl, rfl, trivial⟩) rfl ?_
  refine A.tn ?_
  refine A.ret ?_
  refine A.post [(.int .i64 0)] (fun a w r s => ⟨rv_tmp r rfl, trivial⟩) (A.back (by kernel_rfl) ?_)
  refine A.items [ringI encPkt 118 74 rb1 rs1 2 ([⟨0, 60, 0, 0, 0, 0⟩, ⟨0, 40, 0, 0, 0, 0⟩]), blk b2 [(.pointer (some ⟨rb1, 0, none⟩)), (.int .i64 100), (.int .i64 100), (.int .u64 2), (.int .u64 0), (.int .u64 1), (.int .u64 100), (.int .u64 0), (.int .u64 50)] 112] (List.Sublist.cons_cons _ (List.Sublist.cons_cons _ (List.Sublist.cons _ (List.Sublist.slnil)))) ?_
  refine A.cons (A.q (some 22) (.pointer (some ⟨b2, 0, none⟩)) (by kernel_rfl) (qt_move rfl rfl) ?_)
  refine A.cons (A.q (some 23) (.agg #[(.int .u64 0), (.int .i64 1), (.int .u16 0), (.int .u16 0), (.int .u16 0), (.int .u16 0)]) (by kernel_rfl) (qt_pure (by kernel_rfl) fun _ => by kernel_rfl) ?_)
  refine A.cons (A.inl (some 24) [(.pointer (some ⟨b2, 0, none⟩)), (.agg #[(.int .u64 0), (.int .i64 1), (.int .u16 0), (.int .u16 0), (.int .u16 0), (.int .u16 0)])] [(0, (.pointer (some ⟨b2, 0, none⟩))), (1, (.agg #[(.int .u64 0), (.int .i64 1), (.int .u16 0), (.int .u16 0), (.int .u16 0), (.int .u16 0)]))] (by kernel_rfl) rfl (by kernel_rfl) rfl Try.func43 rfl rfl rfl ?_)
  refine A.seq ?_
  refine A.region ?_
  refine A.cons (A.box 3 [(.int .u64 0), (.int .i64 1), (.int .u16 0), (.int .u16 0), (.int .u16 0), (.int .u16 0)] (by kernel_rfl) rfl rfl rfl (fun b6 => [ringI encPkt 118 74 rb1 rs1 2 ([⟨0, 60, 0, 0, 0, 0⟩, ⟨0, 40, 0, 0, 0, 0⟩]), blk b2 [(.pointer (some ⟨rb1, 0, none⟩)), (.int .i64 100), (.int .i64 100), (.int .u64 2), (.int .u64 0), (.int .u64 1), (.int .u64 100), (.int .u64 0), (.int .u64 50)] 112, blk b6 [(.int .u64 0), (.int .i64 1), (.int .u16 0), (.int .u16 0), (.int .u16 0), (.int .u16 0)] 74]) (fun _ => rfl) ?_)
  intro b6
  refine A.cons (A.q (some 4) (.int .i64 0) (by kernel_rfl) (qt_assign rfl rfl) ?_)
  refine A.done ?_
  refine A.norm [(0, (.pointer (some ⟨b2, 0, none⟩))), (1, (.agg #[(.int .u64 0), (.int .i64 1), (.int .u16 0), (.int .u16 0), (.int .u16 0), (.int .u16 0)])), (3, (.pointer (some ⟨b6, 0, none⟩))), (4, (.int .i64 0))] [ringI encPkt 118 74 rb1 rs1 2 ([⟨0, 60, 0, 0, 0, 0⟩, ⟨0, 40, 0, 0, 0, 0⟩]), blk b2 [(.pointer (some ⟨rb1, 0, none⟩)), (.int .i64 100), (.int .i64 100), (.int .u64 2), (.int .u64 0), (.int .u64 1), (.int .u64 100), (.int .u64 0), (.int .u64 50)] 112, blk b6 [(.int .u64 0), (.int .i64 1), (.int .u16 0), (.int .u16 0), (.int .u16 0), (.int .u16 0)] 74] (by exact ⟨rfl, rfl, rfl, rfl, trivial⟩) rfl ?_
  refine A.tn ?_
  refine A.seq ?_
  refine A.block ?_
  refine A.seq ?_
  refine A.region ?_
  refine A.cons (A.q (some 6) (.pointer (some ⟨b2, 0, none⟩)) (by kernel_rfl) (qt_move rfl rfl) ?_)
  refine A.cons (A.q (some 7) (.bool false) (by kernel_rfl) (qt_pure (by kernel_rfl) fun _ => by kernel_rfl) ?_)
  refine A.cons (A.q (some 5) (.bool false) (by kernel_rfl) (qt_assign rfl rfl) ?_)
  refine A.done ?_
  refine A.norm [(0, (.pointer (some ⟨b2, 0, none⟩))), (1, (.agg #[(.int .u64 0), (.int .i64 1), (.int .u16 0), (.int .u16 0), (.int .u16 0), (.int .u16 0)])), (3, (.pointer (some ⟨b6, 0, none⟩))), (4, (.int .i64 0)), (5, (.bool false))] [ringI encPkt 118 74 rb1 rs1 2 ([⟨0, 60, 0, 0, 0, 0⟩, ⟨0, 40, 0, 0, 0, 0⟩]), blk b2 [(.pointer (some ⟨rb1, 0, none⟩)), (.int .i64 100), (.int .i64 100), (.int .u64 2), (.int .u64 0), (.int .u64 1), (.int .u64 100), (.int .u64 0), (.int .u64 50)] 112, blk b6 [(.int .u64 0), (.int .i64 1), (.int .u16 0), (.int .u16 0), (.int .u16 0), (.int .u16 0)] 74] (by exact ⟨rfl, rfl, rfl, rfl, rfl, trivial⟩) rfl ?_
  refine A.tn ?_
  refine A.cond_f rfl ?_
  refine A.seq ?_
  refine A.region ?_
  refine A.cons (A.q (some 9) (.pointer (some ⟨b6, 1, none⟩)) (by kernel_rfl) (qt_pure (by kernel_rfl) fun _ => by kernel_rfl) ?_)
  refine A.cons (A.q (some 10) (.int .i64 1) (by kernel_rfl) (qt_load1 rfl rfl (by kernel_rfl) (reads_blk (i := 2) rfl rfl)) ?_)
  refine A.cons (A.q (some 11) (.bool false) (by kernel_rfl) (qt_pure (by kernel_rfl) fun _ => by kernel_rfl) ?_)
  refine A.cons (A.q (some 12) (.bool false) (by kernel_rfl) (qt_move rfl rfl) ?_)
  refine A.cons (A.q (some 13) (.pointer (some ⟨b6, 1, none⟩)) (by kernel_rfl) (qt_pure (by kernel_rfl) fun _ => by kernel_rfl) ?_)
  refine A.cons (A.q (some 14) (.int .i64 1) (by kernel_rfl) (qt_load1 rfl rfl (by kernel_rfl) (reads_blk (i := 2) rfl rfl)) ?_)
  refine A.cons (A.q (some 15) (.bool false) (by kernel_rfl) (qt_pure (by kernel_rfl) fun _ => by kernel_rfl) ?_)
  refine A.cons (A.q (some 16) (.bool false) (by kernel_rfl) (qt_pure (by kernel_rfl) fun _ => by kernel_rfl) ?_)
  refine A.cons (A.q (some 8) (.bool false) (by kernel_rfl) (qt_assign rfl rfl) ?_)
  refine A.done ?_
  refine A.norm [(0, (.pointer (some ⟨b2, 0, none⟩))), (1, (.agg #[(.int .u64 0), (.int .i64 1), (.int .u16 0), (.int .u16 0), (.int .u16 0), (.int .u16 0)])), (3, (.pointer (some ⟨b6, 0, none⟩))), (4, (.int .i64 0)), (5, (.bool false)), (8, (.bool false))] [ringI encPkt 118 74 rb1 rs1 2 ([⟨0, 60, 0, 0, 0, 0⟩, ⟨0, 40, 0, 0, 0, 0⟩]), blk b2 [(.pointer (some ⟨rb1, 0, none⟩)), (.int .i64 100), (.int .i64 100), (.int .u64 2), (.int .u64 0), (.int .u64 1), (.int .u64 100), (.int .u64 0), (.int .u64 50)] 112, blk b6 [(.int .u64 0), (.int .i64 1), (.int .u16 0), (.int .u16 0), (.int .u16 0), (.int .u16 0)] 74] (by exact ⟨rfl, rfl, rfl, rfl, rfl, rfl, trivial⟩) rfl ?_
  refine A.tn ?_
  refine A.cond_f rfl ?_
  refine A.seq ?_
  refine A.draw [blk b2 [(.pointer (some ⟨rb1, 0, none⟩)), (.int .i64 100), (.int .i64 100), (.int .u64 2), (.int .u64 0), (.int .u64 1), (.int .u64 100), (.int .u64 0), (.int .u64 50)] 112, blk b6 [(.int .u64 0), (.int .i64 1), (.int .u16 0), (.int .u16 0), (.int .u16 0), (.int .u16 0)] 74] (by kernel_rfl) ?_
  refine A.take 0 (some 18) (.pointer (some ⟨b6, 1, none⟩)) rfl (by kernel_rfl) (by kernel_rfl) (List.Sublist.cons _ (List.Sublist.cons_cons _ (List.Sublist.cons_cons _ (List.Sublist.slnil)))) (qt_pure (by kernel_rfl) fun _ => by kernel_rfl) ?_
  refine A.take 1 (some 19) (.int .i64 1) rfl (by kernel_rfl) (by kernel_rfl) (List.Sublist.cons _ (List.Sublist.cons_cons _ (List.Sublist.cons_cons _ (List.Sublist.slnil)))) (qt_load1 rfl rfl (by kernel_rfl) (reads_blk (i := 1) rfl rfl)) ?_
  refine A.take 2 (some 20) (.pointer (some ⟨b2, 0, none⟩)) rfl (by kernel_rfl) (by kernel_rfl) (List.Sublist.cons _ (List.Sublist.cons_cons _ (List.Sublist.cons_cons _ (List.Sublist.slnil)))) (qt_move rfl rfl) ?_
  refine A.take 3 (some 21) (.pointer (some ⟨b2, 0, none⟩)) rfl (by kernel_rfl) (by kernel_rfl) (List.Sublist.cons _ (List.Sublist.cons_cons _ (List.Sublist.cons_cons _ (List.Sublist.slnil)))) (qt_pure (by kernel_rfl) fun _ => by kernel_rfl) ?_
  refine A.take 4 (some 22) (.pointer (some ⟨b2, 1, none⟩)) rfl (by kernel_rfl) (by kernel_rfl) (List.Sublist.cons _ (List.Sublist.cons_cons _ (List.Sublist.cons_cons _ (List.Sublist.slnil)))) (qt_pure (by kernel_rfl) fun _ => by kernel_rfl) ?_
  refine A.take 5 (some 23) (.int .i64 100) rfl (by kernel_rfl) (by kernel_rfl) (List.Sublist.cons _ (List.Sublist.cons_cons _ (List.Sublist.cons_cons _ (List.Sublist.slnil)))) (qt_load1 rfl rfl (by kernel_rfl) (reads_blk (i := 0) rfl rfl)) ?_
  refine A.take 6 (some 24) (.pointer (some ⟨b2, 0, none⟩)) rfl (by kernel_rfl) (by kernel_rfl) (List.Sublist.cons _ (List.Sublist.cons_cons _ (List.Sublist.cons_cons _ (List.Sublist.slnil)))) (qt_move rfl rfl) ?_
  refine A.take 7 (some 25) (.pointer (some ⟨b2, 0, none⟩)) rfl (by kernel_rfl) (by kernel_rfl) (List.Sublist.cons _ (List.Sublist.cons_cons _ (List.Sublist.cons_cons _ (List.Sublist.slnil)))) (qt_pure (by kernel_rfl) fun _ => by kernel_rfl) ?_
  refine A.take 8 (some 26) (.pointer (some ⟨b2, 2, none⟩)) rfl (by kernel_rfl) (by kernel_rfl) (List.Sublist.cons _ (List.Sublist.cons_cons _ (List.Sublist.cons_cons _ (List.Sublist.slnil)))) (qt_pure (by kernel_rfl) fun _ => by kernel_rfl) ?_
  refine A.take 9 (some 27) (.int .i64 100) rfl (by kernel_rfl) (by kernel_rfl) (List.Sublist.cons _ (List.Sublist.cons_cons _ (List.Sublist.cons_cons _ (List.Sublist.slnil)))) (qt_load1 rfl rfl (by kernel_rfl) (reads_blk (i := 0) rfl rfl)) ?_
  refine A.take 10 (some 28) (.int .i64 0) rfl (by kernel_rfl) (by kernel_rfl) (List.Sublist.cons _ (List.Sublist.cons_cons _ (List.Sublist.cons_cons _ (List.Sublist.slnil)))) (qt_pure (by kernel_rfl) fun _ => by kernel_rfl) ?_
  refine A.take 11 (some 29) (.bool true) rfl (by kernel_rfl) (by kernel_rfl) (List.Sublist.cons _ (List.Sublist.cons_cons _ (List.Sublist.cons_cons _ (List.Sublist.slnil)))) (qt_pure (by kernel_rfl) fun _ => by kernel_rfl) ?_
  refine A.take 12 (some 30) (.bool true) rfl (by kernel_rfl) (by kernel_rfl) (List.Sublist.cons _ (List.Sublist.cons_cons _ (List.Sublist.cons_cons _ (List.Sublist.slnil)))) (qt_move rfl rfl) ?_
  refine A.takeJ 13 (some 31) rfl (by kernel_rfl) rfl rfl (by intro x hx; cases hx; rfl) (List.Sublist.cons _ (List.Sublist.cons_cons _ (List.Sublist.cons_cons _ (List.Sublist.slnil)))) ?_
  refine A.takeJ 14 (some 32) rfl (by kernel_rfl) rfl rfl (by intro x hx; cases hx; rfl) (List.Sublist.cons _ (List.Sublist.cons_cons _ (List.Sublist.cons_cons _ (List.Sublist.slnil)))) ?_
  refine A.takeJ 15 (some 33) rfl (by kernel_rfl) rfl rfl (by intro x hx; cases hx; rfl) (List.Sublist.cons _ (List.Sublist.cons_cons _ (List.Sublist.cons_cons _ (List.Sublist.slnil)))) ?_
  refine A.takeJ 16 (some 34) rfl (by kernel_rfl) rfl rfl (by intro x hx; cases hx; rfl) (List.Sublist.cons _ (List.Sublist.cons_cons _ (List.Sublist.cons_cons _ (List.Sublist.slnil)))) ?_
  refine A.takeJ 17 (some 35) rfl (by kernel_rfl) rfl rfl (by intro x hx; cases hx; rfl) (List.Sublist.cons _ (List.Sublist.cons_cons _ (List.Sublist.cons_cons _ (List.Sublist.slnil)))) ?_
  refine A.takeJ 18 (some 36) rfl (by kernel_rfl) rfl rfl (by intro x hx; cases hx; rfl) (List.Sublist.cons _ (List.Sublist.cons_cons _ (List.Sublist.cons_cons _ (List.Sublist.slnil)))) ?_
  refine A.takeJ 19 (some 37) rfl (by kernel_rfl) rfl rfl (by intro x hx; cases hx; rfl) (List.Sublist.cons _ (List.Sublist.cons_cons _ (List.Sublist.cons_cons _ (List.Sublist.slnil)))) ?_
  refine A.take 20 (some 38) (.bool true) rfl (by kernel_rfl) (by kernel_rfl) (List.Sublist.cons _ (List.Sublist.cons_cons _ (List.Sublist.cons_cons _ (List.Sublist.slnil)))) (qt_pure (by kernel_rfl) fun _ => by kernel_rfl) ?_
  refine A.take 21 (some 17) (.bool true) rfl (by kernel_rfl) (by kernel_rfl) (List.Sublist.cons _ (List.Sublist.cons_cons _ (List.Sublist.cons_cons _ (List.Sublist.slnil)))) (qt_assign rfl rfl) ?_
  refine A.fin (by kernel_rfl) ?_
  refine A.norm [(0, (.pointer (some ⟨b2, 0, none⟩))), (1, (.agg #[(.int .u64 0), (.int .i64 1), (.int .u16 0), (.int .u16 0), (.int .u16 0), (.int .u16 0)])), (3, (.pointer (some ⟨b6, 0, none⟩))), (4, (.int .i64 0)), (5, (.bool false)), (8, (.bool false)), (17, (.bool true))] [ringI encPkt 118 74 rb1 rs1 2 ([⟨0, 60, 0, 0, 0, 0⟩, ⟨0, 40, 0, 0, 0, 0⟩]), blk b2 [(.pointer (some ⟨rb1, 0, none⟩)), (.int .i64 100), (.int .i64 100), (.int .u64 2), (.int .u64 0), (.int .u64 1), (.int .u64 100), (.int .u64 0), (.int .u64 50)] 112, blk b6 [(.int .u64 0), (.int .i64 1), (.int .u16 0), (.int .u16 0), (.int .u16 0), (.int .u16 0)] 74] (by exact ⟨rfl, rfl, rfl, rfl, rfl, rfl, rfl, trivial⟩) rfl ?_
  refine A.tn ?_
  refine A.cond_t rfl ?_
  refine A.seq ?_
  refine A.region ?_
  refine A.cons (A.q (some 39) (.pointer (some ⟨b2, 0, none⟩)) (by kernel_rfl) (qt_move rfl rfl) ?_)
  refine A.cons (A.q (some 40) (.pointer (some ⟨b2, 0, none⟩)) (by kernel_rfl) (qt_pure (by kernel_rfl) fun _ => by kernel_rfl) ?_)
  refine A.cons (A.q (some 41) (.pointer (some ⟨b2, 3, none⟩)) (by kernel_rfl) (qt_pure (by kernel_rfl) fun _ => by kernel_rfl) ?_)
  refine A.cons (A.q (some 42) (.pointer (some ⟨b2, 5, none⟩)) (by kernel_rfl) (qt_pure (by kernel_rfl) fun _ => by kernel_rfl) ?_)
  refine A.cons (A.q (some 43) (.int .u64 1) (by kernel_rfl) (qt_load1 rfl rfl (by kernel_rfl) (reads_blk (i := 1) rfl rfl)) ?_)
  refine A.cons (A.q (some 44) (.int .u64 2) (by kernel_rfl) (qt_pure (by kernel_rfl) fun _ => by kernel_rfl) ?_)
  refine A.cons (A.q (some 45) (.pointer (some ⟨b2, 0, none⟩)) (by kernel_rfl) (qt_pure (by kernel_rfl) fun _ => by kernel_rfl) ?_)
  refine A.cons (A.q (some 46) (.pointer (some ⟨b2, 3, none⟩)) (by kernel_rfl) (qt_pure (by kernel_rfl) fun _ => by kernel_rfl) ?_)
  refine A.cons (A.q (some 47) (.pointer (some ⟨b2, 5, none⟩)) (by kernel_rfl) (qt_pure (by kernel_rfl) fun _ => by kernel_rfl) ?_)
  refine A.cons (A.store 1 (vs := [(.int .u64 2)]) [ringI encPkt 118 74 rb1 rs1 2 ([⟨0, 60, 0, 0, 0, 0⟩, ⟨0, 40, 0, 0, 0, 0⟩]), blk b2 [(.pointer (some ⟨rb1, 0, none⟩)), (.int .i64 100), (.int .i64 100), (.int .u64 2), (.int .u64 0), (.int .u64 2), (.int .u64 100), (.int .u64 0), (.int .u64 50)] 112, blk b6 [(.int .u64 0), (.int .i64 1), (.int .u16 0), (.int .u16 0), (.int .u16 0), (.int .u16 0)] 74] (by kernel_rfl) rfl rfl rfl rfl (by kernel_rfl) rfl rfl (by kernel_rfl) rfl ?_)
  refine A.done ?_
  refine A.norm [(0, (.pointer (some ⟨b2, 0, none⟩))), (1, (.agg #[(.int .u64 0), (.int .i64 1), (.int .u16 0), (.int .u16 0), (.int .u16 0), (.int .u16 0)])), (3, (.pointer (some ⟨b6, 0, none⟩))), (4, (.int .i64 0)), (5, (.bool false)), (8, (.bool false)), (17, (.bool true))] [ringI encPkt 118 74 rb1 rs1 2 ([⟨0, 60, 0, 0, 0, 0⟩, ⟨0, 40, 0, 0, 0, 0⟩]), blk b2 [(.pointer (some ⟨rb1, 0, none⟩)), (.int .i64 100), (.int .i64 100), (.int .u64 2), (.int .u64 0), (.int .u64 2), (.int .u64 100), (.int .u64 0), (.int .u64 50)] 112, blk b6 [(.int .u64 0), (.int .i64 1), (.int .u16 0), (.int .u16 0), (.int .u16 0), (.int .u16 0)] 74] (by exact ⟨rfl, rfl, rfl, rfl, rfl, rfl, rfl, trivial⟩) rfl ?_
  refine A.tn ?_
  refine A.seq ?_
  refine A.draw [ringI encPkt 118 74 rb1 rs1 2 ([⟨0, 60, 0, 0, 0, 0⟩, ⟨0, 40, 0, 0, 0, 0⟩]), blk b6 [(.int .u64 0), (.int .i64 1), (.int .u16 0), (.int .u16 0), (.int .u16 0), (.int .u16 0)] 74] (by kernel_rfl) ?_
  refine A.take 0 (some 48) (.pointer (some ⟨b2, 0, none⟩)) rfl (by kernel_rfl) (by kernel_rfl) (List.Sublist.cons_cons _ (List.Sublist.cons _ (List.Sublist.cons_cons _ (List.Sublist.slnil)))) (qt_move rfl rfl) ?_
  refine A.take 1 (some 49) (.pointer (some ⟨b2, 0, none⟩)) rfl (by kernel_rfl) (by kernel_rfl) (List.Sublist.cons_cons _ (List.Sublist.cons _ (List.Sublist.cons_cons _ (List.Sublist.slnil)))) (qt_pure (by kernel_rfl) fun _ => by kernel_rfl) ?_
  refine A.take 2 (some 50) (.pointer (some ⟨b2, 3, none⟩)) rfl (by kernel_rfl) (by kernel_rfl) (List.Sublist.cons_cons _ (List.Sublist.cons _ (List.Sublist.cons_cons _ (List.Sublist.slnil)))) (qt_pure (by kernel_rfl) fun _ => by kernel_rfl) ?_
  refine A.take 3 (some 51) (.pointer (some ⟨b2, 8, none⟩)) rfl (by kernel_rfl) (by kernel_rfl) (List.Sublist.cons_cons _ (List.Sublist.cons _ (List.Sublist.cons_cons _ (List.Sublist.slnil)))) (qt_pure (by kernel_rfl) fun _ => by kernel_rfl) ?_
  refine A.take 5 (some 53) (.pointer (some ⟨b6, 1, none⟩)) rfl (by kernel_rfl) (by kernel_rfl) (List.Sublist.cons_cons _ (List.Sublist.cons _ (List.Sublist.cons_cons _ (List.Sublist.slnil)))) (qt_pure (by kernel_rfl) fun _ => by kernel_rfl) ?_
  refine A.take 6 (some 54) (.int .i64 1) rfl (by kernel_rfl) (by kernel_rfl) (List.Sublist.cons_cons _ (List.Sublist.cons _ (List.Sublist.cons_cons _ (List.Sublist.slnil)))) (qt_load1 rfl rfl (by kernel_rfl) (reads_blk (i := 1) rfl rfl)) ?_
  refine A.take 7 (some 55) (.int .u64 1) rfl (by kernel_rfl) (by kernel_rfl) (List.Sublist.cons_cons _ (List.Sublist.cons _ (List.Sublist.cons_cons _ (List.Sublist.slnil)))) (qt_pure (by kernel_rfl) fun _ => by kernel_rfl) ?_
  refine A.only 4 rfl (by kernel_rfl) (A.q (some 52) (.int .u64 50) (by kernel_rfl) (qt_load1 rfl rfl (by kernel_rfl) (reads_blk (i := 1) rfl rfl)) ?_)
  refine A.and (List.Sublist.cons_cons _ (List.Sublist.cons _ (List.Sublist.cons_cons _ (List.Sublist.slnil)))) ?_
  refine A.take 8 (some 56) (.int .u64 51) rfl (by kernel_rfl) (by kernel_rfl) (List.Sublist.cons_cons _ (List.Sublist.cons _ (List.Sublist.cons_cons _ (List.Sublist.slnil)))) (qt_pure (by kernel_rfl) fun _ => by kernel_rfl) ?_
  refine A.take 9 (some 57) (.pointer (some ⟨b2, 0, none⟩)) rfl (by kernel_rfl) (by kernel_rfl) (List.Sublist.cons_cons _ (List.Sublist.cons _ (List.Sublist.cons_cons _ (List.Sublist.slnil)))) (qt_pure (by kernel_rfl) fun _ => by kernel_rfl) ?_
  refine A.take 10 (some 58) (.pointer (some ⟨b2, 3, none⟩)) rfl (by kernel_rfl) (by kernel_rfl) (List.Sublist.cons_cons _ (List.Sublist.cons _ (List.Sublist.cons_cons _ (List.Sublist.slnil)))) (qt_pure (by kernel_rfl) fun _ => by kernel_rfl) ?_
  refine A.take 11 (some 59) (.pointer (some ⟨b2, 8, none⟩)) rfl (by kernel_rfl) (by kernel_rfl) (List.Sublist.cons_cons _ (List.Sublist.cons _ (List.Sublist.cons_cons _ (List.Sublist.slnil)))) (qt_pure (by kernel_rfl) fun _ => by kernel_rfl) ?_
  refine A.only 12 rfl (by kernel_rfl) (A.store 1 (vs := [(.int .u64 51)]) [ringI encPkt 118 74 rb1 rs1 2 ([⟨0, 60, 0, 0, 0, 0⟩, ⟨0, 40, 0, 0, 0, 0⟩]), blk b2 [(.pointer (some ⟨rb1, 0, none⟩)), (.int .i64 100), (.int .i64 100), (.int .u64 2), (.int .u64 0), (.int .u64 2), (.int .u64 100), (.int .u64 0), (.int .u64 51)] 112, blk b6 [(.int .u64 0), (.int .i64 1), (.int .u16 0), (.int .u16 0), (.int .u16 0), (.int .u16 0)] 74] (by kernel_rfl) rfl rfl rfl rfl (by kernel_rfl) rfl rfl (by kernel_rfl) rfl ?_)
  refine A.and (List.Sublist.cons_cons _ (List.Sublist.cons _ (List.Sublist.cons_cons _ (List.Sublist.slnil)))) ?_
  refine A.fin (by kernel_rfl) ?_
  refine A.norm [(0, (.pointer (some ⟨b2, 0, none⟩))), (1, (.agg #[(.int .u64 0), (.int .i64 1), (.int .u16 0), (.int .u16 0), (.int .u16 0), (.int .u16 0)])), (3, (.pointer (some ⟨b6, 0, none⟩))), (4, (.int .i64 0)), (5, (.bool false)), (8, (.bool false)), (17, (.bool true))] [ringI encPkt 118 74 rb1 rs1 2 ([⟨0, 60, 0, 0, 0, 0⟩, ⟨0, 40, 0, 0, 0, 0⟩]), blk b2 [(.pointer (some ⟨rb1, 0, none⟩)), (.int .i64 100), (.int .i64 100), (.int .u64 2), (.int .u64 0), (.int .u64 2), (.int .u64 100), (.int .u64 0), (.int .u64 51)] 112, blk b6 [(.int .u64 0), (.int .i64 1), (.int .u16 0), (.int .u16 0), (.int .u16 0), (.int .u16 0)] 74] (by exact ⟨rfl, rfl, rfl, rfl, rfl, rfl, rfl, trivial⟩) rfl ?_
  refine A.tn ?_
  refine A.seq ?_
  refine A.region ?_
  refine A.cons (A.q (some 4) (.int .i64 30) (by kernel_rfl) (qt_assign rfl rfl) ?_)
  refine A.done ?_
  refine A.norm [(0, (.pointer (some ⟨b2, 0, none⟩))), (1, (.agg #[(.int .u64 0), (.int .i64 1), (.int .u16 0), (.int .u16 0), (.int .u16 0), (.int .u16 0)])), (3, (.pointer (some ⟨b6, 0, none⟩))), (4, (.int .i64 30)), (5, (.bool false)), (8, (.bool false)), (17, (.bool true))] [ringI encPkt 118 74 rb1 rs1 2 ([⟨0, 60, 0, 0, 0, 0⟩, ⟨0, 40, 0, 0, 0, 0⟩]), blk b2 [(.pointer (some ⟨rb1, 0, none⟩)), (.int .i64 100), (.int .i64 100), (.int .u64 2), (.int .u64 0), (.int .u64 2), (.int .u64 100), (.int .u64 0), (.int .u64 51)] 112, blk b6 [(.int .u64 0), (.int .i64 1), (.int .u16 0), (.int .u16 0), (.int .u16 0), (.int .u16 0)] 74] (by exact ⟨rfl, rfl, rfl, rfl, rfl, rfl, rfl, trivial⟩) rfl ?_
  refine A.tn ?_
  refine A.ret ?_
  refine A.br ?_
  refine A.tr ?_
  refine A.post [(.int .i64 30)] (fun a w r s => ⟨rv_tmp r rfl, trivial⟩) (A.back (by kernel_rfl) ?_)
  refine A.items [ringI encPkt 118 74 rb1 rs1 2 ([⟨0, 60, 0, 0, 0, 0⟩, ⟨0, 40, 0, 0, 0, 0⟩]), blk b2 [(.pointer (some ⟨rb1, 0, none⟩)), (.int .i64 100), (.int .i64 100), (.int .u64 2), (.int .u64 0), (.int .u64 2), (.int .u64 100), (.int .u64 0), (.int .u64 51)] 112] (List.Sublist.cons_cons _ (List.Sublist.cons_cons _ (List.Sublist.cons _ (List.Sublist.slnil)))) ?_
  refine A.cons (A.q (some 3) (.int .i64 0) (by kernel_rfl) (qt_assign rfl rfl) ?_)
  refine A.cons (A.q (some 4) (.int .i64 30) (by kernel_rfl) (qt_assign rfl rfl) ?_)
  refine A.cons (A.q (some 5) (.int .i64 0) (by kernel_rfl) (qt_assign rfl rfl) ?_)
  refine A.cons (A.q (some 6) (.int .i64 30) (by kernel_rfl) (qt_assign rfl rfl) ?_)
  refine A.done ?_
  refine A.norm [(0, (.bool false)), (1, (.pointer (some ⟨b2, 0, none⟩))), (2, (.int .i64 0)), (3, (.int .i64 0)), (4, (.int .i64 30)), (5, (.int .i64 0)), (6, (.int .i64 30))] [ringI encPkt 118 74 rb1 rs1 2 ([⟨0, 60, 0, 0, 0, 0⟩, ⟨0, 40, 0, 0, 0, 0⟩]), blk b2 [(.pointer (some ⟨rb1, 0, none⟩)), (.int .i64 100), (.int .i64 100), (.int .u64 2), (.int .u64 0), (.int .u64 2), (.int .u64 100), (.int .u64 0), (.int .u64 51)] 112] (by exact ⟨rfl, rfl, rfl, rfl, rfl, rfl, rfl, trivial⟩) rfl ?_
  refine A.tn ?_
  refine A.seq ?_
  refine A.region ?_
  refine A.cons (A.q (some 26) (.pointer (some ⟨b2, 0, none⟩)) (by kernel_rfl) (qt_move rfl rfl) ?_)
  refine A.cons (A.inl (some 27) [(.pointer (some ⟨b2, 0, none⟩))] [(0, (.pointer (some ⟨b2, 0, none⟩)))] (by kernel_rfl) rfl (by kernel_rfl) rfl Try.func44 rfl rfl rfl ?_)
  refine A.seq ?_
  refine A.region ?_
  refine A.cons (A.alloc 2 [(.int .u64 0), (.int .i64 0), (.int .u16 0), (.int .u16 0), (.int .u16 0), (.int .u16 0)] (by kernel_rfl) rfl (by kernel_rfl) (fun b7 => [ringI encPkt 118 74 rb1 rs1 2 ([⟨0, 60, 0, 0, 0, 0⟩, ⟨0, 40, 0, 0, 0, 0⟩]), blk b2 [(.pointer (some ⟨rb1, 0, none⟩)), (.int .i64 100), (.int .i64 100), (.int .u64 2), (.int .u64 0), (.int .u64 2), (.int .u64 100), (.int .u64 0), (.int .u64 51)] 112, blk b7 [(.int .u64 0), (.int .i64 0), (.int .u16 0), (.int .u16 0), (.int .u16 0), (.int .u16 0)] 74]) (fun _ => rfl) ?_)
  intro b7
  refine A.cons (A.q (some 3) (.int .i64 0) (by kernel_rfl) (qt_assign rfl rfl) ?_)
  refine A.done ?_
  refine A.norm [(0, (.pointer (some ⟨b2, 0, none⟩))), (2, (.pointer (some ⟨b7, 0, none⟩))), (3, (.int .i64 0))] [ringI encPkt 118 74 rb1 rs1 2 ([⟨0, 60, 0, 0, 0, 0⟩, ⟨0, 40, 0, 0, 0, 0⟩]), blk b2 [(.pointer (some ⟨rb1, 0, none⟩)), (.int .i64 100), (.int .i64 100), (.int .u64 2), (.int .u64 0), (.int .u64 2), (.int .u64 100), (.int .u64 0), (.int .u64 51)] 112, blk b7 [(.int .u64 0), (.int .i64 0), (.int .u16 0), (.int .u16 0), (.int .u16 0), (.int .u16 0)] 74] (by exact ⟨rfl, rfl, rfl, trivial⟩) rfl ?_
  refine A.tn ?_
  refine A.seq ?_
  refine A.seq ?_
  refine A.region ?_
  refine A.cons (A.q (some 6) (.pointer (some ⟨b2, 0, none⟩)) (by kernel_rfl) (qt_move rfl rfl) ?_)
  refine A.cons (A.q (some 7) (.bool false) (by kernel_rfl) (qt_pure (by kernel_rfl) fun _ => by kernel_rfl) ?_)
  refine A.done ?_
  refine A.norm [(0, (.pointer (some ⟨b2, 0, none⟩))), (2, (.pointer (some ⟨b7, 0, none⟩))), (3, (.int .i64 0)), (7, (.bool false))] [ringI encPkt 118 74 rb1 rs1 2 ([⟨0, 60, 0, 0, 0, 0⟩, ⟨0, 40, 0, 0, 0, 0⟩]), blk b2 [(.pointer (some ⟨rb1, 0, none⟩)), (.int .i64 100), (.int .i64 100), (.int .u64 2), (.int .u64 0), (.int .u64 2), (.int .u64 100), (.int .u64 0), (.int .u64 51)] 112, blk b7 [(.int .u64 0), (.int .i64 0), (.int .u16 0), (.int .u16 0), (.int .u16 0), (.int .u16 0)] 74] (by exact ⟨rfl, rfl, rfl, rfl, trivial⟩) rfl ?_
  refine A.tn ?_
  refine A.cond_f rfl ?_
  refine A.skip ?_
  refine A.tn ?_
  refine A.seq ?_
  refine A.region ?_
  refine A.cons (A.q (some 10) (.pointer (some ⟨b2, 0, none⟩)) (by kernel_rfl) (qt_move rfl rfl) ?_)
  refine A.cons (A.q (some 11) (.pointer (some ⟨b2, 0, none⟩)) (by kernel_rfl) (qt_pure (by kernel_rfl) fun _ => by kernel_rfl) ?_)
  refine A.cons (A.q (some 12) (.pointer (some ⟨b2, 0, none⟩)) (by kernel_rfl) (qt_pure (by kernel_rfl) fun _ => by kernel_rfl) ?_)
  refine A.cons (A.q (some 13) (.pointer (some ⟨rb1, 0, none⟩)) (by kernel_rfl) (qt_load1 rfl rfl (by kernel_rfl) (reads_blk (i := 1) rfl rfl)) ?_)
  refine A.cons (A.call (some 14) [(.pointer (some ⟨rb1, 0, none⟩))] (fun _ : Unit => (.tuple #[(.agg #[(.int .u64 0), (.int .i64 60), (.int .u16 0), (.int .u16 0), (.int .u16 0), (.int .u16 0)]), (.int .i64 0)])) (fun _ => True) (fun _ => [ringI encPkt 118 74 rb1 rs1 2 ([⟨0, 40, 0, 0, 0, 0⟩]), blk b2 [(.pointer (some ⟨rb1, 0, none⟩)), (.int .i64 100), (.int .i64 100), (.int .u64 2), (.int .u64 0), (.int .u64 2), (.int .u64 100), (.int .u64 0), (.int .u64 51)] 112, blk b7 [(.int .u64 0), (.int .i64 0), (.int .u16 0), (.int .u16 0), (.int .u16 0), (.int .u16 0)] 74]) (by kernel_rfl) rfl (by kernel_rfl) rfl (fun w s => (ringP_pop rb1 rs1 2 ([⟨0, 40, 0, 0, 0, 0⟩]) (⟨0, 60, 0, 0, 0, 0⟩) w (s.mem (i := 0) rfl)).mono fun e w1 ⟨he, hr, hf⟩ => ⟨(), he, trivial, s.turn (i := 0) rfl hf hr (by have := (s.mem (i := 0) rfl : RingH _ _ _ _ _ _ _ _).bounds.2.2.2; simpa [ringI] using this) (fun _ h => .inl h)⟩) (fun _ _ => ?_))
  refine A.cons (A.q (some 9) (.tuple #[(.agg #[(.int .u64 0), (.int .i64 60), (.int .u16 0), (.int .u16 0), (.int .u16 0), (.int .u16 0)]), (.int .i64 0)]) (by kernel_rfl) (qt_move rfl rfl) ?_)
  refine A.cons (A.q (some 15) (.agg #[(.int .u64 0), (.int .i64 60), (.int .u16 0), (.int .u16 0), (.int .u16 0), (.int .u16 0)]) (by kernel_rfl) (qt_pure (by kernel_rfl) fun _ => by kernel_rfl) ?_)
  refine A.cons (A.q (some 16) (.int .i64 0) (by kernel_rfl) (qt_pure (by kernel_rfl) fun _ => by kernel_rfl) ?_)
  refine A.cons (A.alloc 4 [(.int .u64 0), (.int .i64 0), (.int .u16 0), (.int .u16 0), (.int .u16 0), (.int .u16 0)] (by kernel_rfl) rfl (by kernel_rfl) (fun b8 => [ringI encPkt 118 74 rb1 rs1 2 ([⟨0, 40, 0, 0, 0, 0⟩]), blk b2 [(.pointer (some ⟨rb1, 0, none⟩)), (.int .i64 100), (.int .i64 100), (.int .u64 2), (.int .u64 0), (.int .u64 2), (.int .u64 100), (.int .u64 0), (.int .u64 51)] 112, blk b7 [(.int .u64 0), (.int .i64 0), (.int .u16 0), (.int .u16 0), (.int .u16 0), (.int .u16 0)] 74, blk b8 [(.int .u64 0), (.int .i64 0), (.int .u16 0), (.int .u16 0), (.int .u16 0), (.int .u16 0)] 74]) (fun _ => rfl) ?_)
  intro b8
  refine A.cons (A.store 3 (vs := [(.int .u64 0), (.int .i64 60), (.int .u16 0), (.int .u16 0), (.int .u16 0), (.int .u16 0)]) [ringI encPkt 118 74 rb1 rs1 2 ([⟨0, 40, 0, 0, 0, 0⟩]), blk b2 [(.pointer (some ⟨rb1, 0, none⟩)), (.int .i64 100), (.int .i64 100), (.int .u64 2), (.int .u64 0), (.int .u64 2), (.int .u64 100), (.int .u64 0), (.int .u64 51)] 112, blk b7 [(.int .u64 0), (.int .i64 0), (.int .u16 0), (.int .u16 0), (.int .u16 0), (.int .u16 0)] 74, blk b8 [(.int .u64 0), (.int .i64 60), (.int .u16 0), (.int .u16 0), (.int .u16 0), (.int .u16 0)] 74] (by kernel_rfl) rfl rfl rfl rfl (by kernel_rfl) rfl rfl (by kernel_rfl) rfl ?_)
  refine A.cons (A.q (some 5) (.int .i64 0) (by kernel_rfl) (qt_assign rfl rfl) ?_)
  refine A.done ?_
  refine A.norm [(0, (.pointer (some ⟨b2, 0, none⟩))), (2, (.pointer (some ⟨b7, 0, none⟩))), (3, (.int .i64 0)), (7, (.bool false)), (4, (.pointer (some ⟨b8, 0, none⟩))), (5, (.int .i64 0))] [ringI encPkt 118 74 rb1 rs1 2 ([⟨0, 40, 0, 0, 0, 0⟩]), blk b2 [(.pointer (some ⟨rb1, 0, none⟩)), (.int .i64 100), (.int .i64 100), (.int .u64 2), (.int .u64 0), (.int .u64 2), (.int .u64 100), (.int .u64 0), (.int .u64 51)] 112, blk b7 [(.int .u64 0), (.int .i64 0), (.int .u16 0), (.int .u16 0), (.int .u16 0), (.int .u16 0)] 74, blk b8 [(.int .u64 0), (.int .i64 60), (.int .u16 0), (.int .u16 0), (.int .u16 0), (.int .u16 0)] 74] (by exact ⟨rfl, rfl, rfl, rfl, rfl, rfl, trivial⟩) rfl ?_
  refine A.tn ?_
  refine A.seq ?_
  refine A.seq ?_
  refine A.region ?_
  refine A.cons (A.q (some 17) (.int .i64 0) (by kernel_rfl) (qt_move rfl rfl) ?_)
  refine A.cons (A.q (some 18) (.bool false) (by kernel_rfl) (qt_pure (by kernel_rfl) fun _ => by kernel_rfl) ?_)
  refine A.done ?_
  refine A.norm [(0, (.pointer (some ⟨b2, 0, none⟩))), (2, (.pointer (some ⟨b7, 0, none⟩))), (3, (.int .i64 0)), (7, (.bool false)), (4, (.pointer (some ⟨b8, 0, none⟩))), (5, (.int .i64 0)), (18, (.bool false))] [ringI encPkt 118 74 rb1 rs1 2 ([⟨0, 40, 0, 0, 0, 0⟩]), blk b2 [(.pointer (some ⟨rb1, 0, none⟩)), (.int .i64 100), (.int .i64 100), (.int .u64 2), (.int .u64 0), (.int .u64 2), (.int .u64 100), (.int .u64 0), (.int .u64 51)] 112, blk b7 [(.int .u64 0), (.int .i64 0), (.int .u16 0), (.int .u16 0), (.int .u16 0), (.int .u16 0)] 74, blk b8 [(.int .u64 0), (.int .i64 60), (.int .u16 0), (.int .u16 0), (.int .u16 0), (.int .u16 0)] 74] (by exact ⟨rfl, rfl, rfl, rfl, rfl, rfl, rfl, trivial⟩) rfl ?_
  refine A.tn ?_
  refine A.cond_f rfl ?_
  refine A.skip ?_
  refine A.tn ?_
  refine A.seq ?_
  refine A.draw [ringI encPkt 118 74 rb1 rs1 2 ([⟨0, 40, 0, 0, 0, 0⟩]), blk b7 [(.int .u64 0), (.int .i64 0), (.int .u16 0), (.int .u16 0), (.int .u16 0), (.int .u16 0)] 74, blk b8 [(.int .u64 0), (.int .i64 60), (.int .u16 0), (.int .u16 0), (.int .u16 0), (.int .u16 0)] 74] (by kernel_rfl) ?_
  refine A.take 0 (some 21) (.pointer (some ⟨b2, 0, none⟩)) rfl (by kernel_rfl) (by kernel_rfl) (List.Sublist.cons_cons _ (List.Sublist.cons _ (List.Sublist.cons_cons _ (List.Sublist.cons_cons _ (List.Sublist.slnil))))) (qt_move rfl rfl) ?_
  refine A.take 1 (some 22) (.pointer (some ⟨b2, 0, none⟩)) rfl (by kernel_rfl) (by kernel_rfl) (List.Sublist.cons_cons _ (List.Sublist.cons _ (List.Sublist.cons_cons _ (List.Sublist.cons_cons _ (List.Sublist.slnil))))) (qt_pure (by kernel_rfl) fun _ => by kernel_rfl) ?_
  refine A.take 2 (some 23) (.pointer (some ⟨b2, 2, none⟩)) rfl (by kernel_rfl) (by kernel_rfl) (List.Sublist.cons_cons _ (List.Sublist.cons _ (List.Sublist.cons_cons _ (List.Sublist.cons_cons _ (List.Sublist.slnil))))) (qt_pure (by kernel_rfl) fun _ => by kernel_rfl) ?_
  refine A.take 4 (some 25) (.pointer (some ⟨b8, 1, none⟩)) rfl (by kernel_rfl) (by kernel_rfl) (List.Sublist.cons_cons _ (List.Sublist.cons _ (List.Sublist.cons_cons _ (List.Sublist.cons_cons _ (List.Sublist.slnil))))) (qt_pure (by kernel_rfl) fun _ => by kernel_rfl) ?_
  refine A.take 5 (some 26) (.int .i64 60) rfl (by kernel_rfl) (by kernel_rfl) (List.Sublist.cons_cons _ (List.Sublist.cons _ (List.Sublist.cons_cons _ (List.Sublist.cons_cons _ (List.Sublist.slnil))))) (qt_load1 rfl rfl (by kernel_rfl) (reads_blk (i := 2) rfl rfl)) ?_
  refine A.only 3 rfl (by kernel_rfl) (A.q (some 24) (.int .i64 100) (by kernel_rfl) (qt_load1 rfl rfl (by kernel_rfl) (reads_blk (i := 1) rfl rfl)) ?_)
  refine A.and (List.Sublist.cons_cons _ (List.Sublist.cons _ (List.Sublist.cons_cons _ (List.Sublist.cons_cons _ (List.Sublist.slnil))))) ?_
  refine A.take 6 (some 27) (.int .i64 40) rfl (by kernel_rfl) (by kernel_rfl) (List.Sublist.cons_cons _ (List.Sublist.cons _ (List.Sublist.cons_cons _ (List.Sublist.cons_cons _ (List.Sublist.slnil))))) (qt_pure (by kernel_rfl) fun _ => by kernel_rfl) ?_
  refine A.take 7 (some 28) (.pointer (some ⟨b2, 0, none⟩)) rfl (by kernel_rfl) (by kernel_rfl) (List.Sublist.cons_cons _ (List.Sublist.cons _ (List.Sublist.cons_cons _ (List.Sublist.cons_cons _ (List.Sublist.slnil))))) (qt_pure (by kernel_rfl) fun _ => by kernel_rfl) ?_
  refine A.take 8 (some 29) (.pointer (some ⟨b2, 2, none⟩)) rfl (by kernel_rfl) (by kernel_rfl) (List.Sublist.cons_cons _ (List.Sublist.cons _ (List.Sublist.cons_cons _ (List.Sublist.cons_cons _ (List.Sublist.slnil))))) (qt_pure (by kernel_rfl) fun _ => by kernel_rfl) ?_
  refine A.only 9 rfl (by kernel_rfl) (A.store 1 (vs := [(.int .i64 40)]) [ringI encPkt 118 74 rb1 rs1 2 ([⟨0, 40, 0, 0, 0, 0⟩]), blk b2 [(.pointer (some ⟨rb1, 0, none⟩)), (.int .i64 100), (.int .i64 40), (.int .u64 2), (.int .u64 0), (.int .u64 2), (.int .u64 100), (.int .u64 0), (.int .u64 51)] 112, blk b7 [(.int .u64 0), (.int .i64 0), (.int .u16 0), (.int .u16 0), (.int .u16 0), (.int .u16 0)] 74, blk b8 [(.int .u64 0), (.int .i64 60), (.int .u16 0), (.int .u16 0), (.int .u16 0), (.int .u16 0)] 74] (by kernel_rfl) rfl rfl rfl rfl (by kernel_rfl) rfl rfl (by kernel_rfl) rfl ?_)
  refine A.and (List.Sublist.cons_cons _ (List.Sublist.cons _ (List.Sublist.cons_cons _ (List.Sublist.cons_cons _ (List.Sublist.slnil))))) ?_
  refine A.fin (by kernel_rfl) ?_
  refine A.norm [(0, (.pointer (some ⟨b2, 0, none⟩))), (2, (.pointer (some ⟨b7, 0, none⟩))), (3, (.int .i64 0)), (7, (.bool false)), (4, (.pointer (some ⟨b8, 0, none⟩))), (5, (.int .i64 0)), (18, (.bool false))] [ringI encPkt 118 74 rb1 rs1 2 ([⟨0, 40, 0, 0, 0, 0⟩]), blk b2 [(.pointer (some ⟨rb1, 0, none⟩)), (.int .i64 100), (.int .i64 40), (.int .u64 2), (.int .u64 0), (.int .u64 2), (.int .u64 100), (.int .u64 0), (.int .u64 51)] 112, blk b7 [(.int .u64 0), (.int .i64 0), (.int .u16 0), (.int .u16 0), (.int .u16 0), (.int .u16 0)] 74, blk b8 [(.int .u64 0), (.int .i64 60), (.int .u16 0), (.int .u16 0), (.int .u16 0), (.int .u16 0)] 74] (by exact ⟨rfl, rfl, rfl, rfl, rfl, rfl, rfl, trivial⟩) rfl ?_
  refine A.tn ?_
  refine A.seq ?_
  refine A.region ?_
  refine A.cons (A.q (some 30) (.pointer (some ⟨b2, 0, none⟩)) (by kernel_rfl) (qt_move rfl rfl) ?_)
  refine A.cons (A.q (some 31) (.pointer (some ⟨b2, 0, none⟩)) (by kernel_rfl) (qt_pure (by kernel_rfl) fun _ => by kernel_rfl) ?_)
  refine A.cons (A.q (some 32) (.pointer (some ⟨b2, 3, none⟩)) (by kernel_rfl) (qt_pure (by kernel_rfl) fun _ => by kernel_rfl) ?_)
  refine A.cons (A.q (some 33) (.pointer (some ⟨b2, 4, none⟩)) (by kernel_rfl) (qt_pure (by kernel_rfl) fun _ => by kernel_rfl) ?_)
  refine A.cons (A.q (some 34) (.int .u64 0) (by kernel_rfl) (qt_load1 rfl rfl (by kernel_rfl) (reads_blk (i := 1) rfl rfl)) ?_)
  refine A.cons (A.q (some 35) (.int .u64 1) (by kernel_rfl) (qt_pure (by kernel_rfl) fun _ => by kernel_rfl) ?_)
  refine A.cons (A.q (some 36) (.pointer (some ⟨b2, 0, none⟩)) (by kernel_rfl) (qt_pure (by kernel_rfl) fun _ => by kernel_rfl) ?_)
  refine A.cons (A.q (some 37) (.pointer (some ⟨b2, 3, none⟩)) (by kernel_rfl) (qt_pure (by kernel_rfl) fun _ => by kernel_rfl) ?_)
  refine A.cons (A.q (some 38) (.pointer (some ⟨b2, 4, none⟩)) (by kernel_rfl) (qt_pure (by kernel_rfl) fun _ => by kernel_rfl) ?_)
  refine A.cons (A.store 1 (vs := [(.int .u64 1)]) [ringI encPkt 118 74 rb1 rs1 2 ([⟨0, 40, 0, 0, 0, 0⟩]), blk b2 [(.pointer (some ⟨rb1, 0, none⟩)), (.int .i64 100), (.int .i64 40), (.int .u64 2), (.int .u64 1), (.int .u64 2), (.int .u64 100), (.int .u64 0), (.int .u64 51)] 112, blk b7 [(.int .u64 0), (.int .i64 0), (.int .u16 0), (.int .u16 0), (.int .u16 0), (.int .u16 0)] 74, blk b8 [(.int .u64 0), (.int .i64 60), (.int .u16 0), (.int .u16 0), (.int .u16 0), (.int .u16 0)] 74] (by kernel_rfl) rfl rfl rfl rfl (by kernel_rfl) rfl rfl (by kernel_rfl) rfl ?_)
  refine A.done ?_
  refine A.norm [(0, (.pointer (some ⟨b2, 0, none⟩))), (2, (.pointer (some ⟨b7, 0, none⟩))), (3, (.int .i64 0)), (7, (.bool false)), (4, (.pointer (some ⟨b8, 0, none⟩))), (5, (.int .i64 0)), (18, (.bool false))] [ringI encPkt 118 74 rb1 rs1 2 ([⟨0, 40, 0, 0, 0, 0⟩]), blk b2 [(.pointer (some ⟨rb1, 0, none⟩)), (.int .i64 100), (.int .i64 40), (.int .u64 2), (.int .u64 1), (.int .u64 2), (.int .u64 100), (.int .u64 0), (.int .u64 51)] 112, blk b7 [(.int .u64 0), (.int .i64 0), (.int .u16 0), (.int .u16 0), (.int .u16 0), (.int .u16 0)] 74, blk b8 [(.int .u64 0), (.int .i64 60), (.int .u16 0), (.int .u16 0), (.int .u16 0), (.int .u16 0)] 74] (by exact ⟨rfl, rfl, rfl, rfl, rfl, rfl, rfl, trivial⟩) rfl ?_
  refine A.tn ?_
  refine A.seq ?_
  refine A.draw [ringI encPkt 118 74 rb1 rs1 2 ([⟨0, 40, 0, 0, 0, 0⟩]), blk b7 [(.int .u64 0), (.int .i64 0), (.int .u16 0), (.int .u16 0), (.int .u16 0), (.int .u16 0)] 74, blk b8 [(.int .u64 0), (.int .i64 60), (.int .u16 0), (.int .u16 0), (.int .u16 0), (.int .u16 0)] 74] (by kernel_rfl) ?_
  refine A.take 0 (some 39) (.pointer (some ⟨b2, 0, none⟩)) rfl (by kernel_rfl) (by kernel_rfl) (List.Sublist.cons_cons _ (List.Sublist.cons _ (List.Sublist.cons_cons _ (List.Sublist.cons_cons _ (List.Sublist.slnil))))) (qt_move rfl rfl) ?_
  refine A.take 1 (some 40) (.pointer (some ⟨b2, 0, none⟩)) rfl (by kernel_rfl) (by kernel_rfl) (List.Sublist.cons_cons _ (List.Sublist.cons _ (List.Sublist.cons_cons _ (List.Sublist.cons_cons _ (List.Sublist.slnil))))) (qt_pure (by kernel_rfl) fun _ => by kernel_rfl) ?_
  refine A.take 2 (some 41) (.pointer (some ⟨b2, 3, none⟩)) rfl (by kernel_rfl) (by kernel_rfl) (List.Sublist.cons_cons _ (List.Sublist.cons _ (List.Sublist.cons_cons _ (List.Sublist.cons_cons _ (List.Sublist.slnil))))) (qt_pure (by kernel_rfl) fun _ => by kernel_rfl) ?_
  refine A.take 3 (some 42) (.pointer (some ⟨b2, 7, none⟩)) rfl (by kernel_rfl) (by kernel_rfl) (List.Sublist.cons_cons _ (List.Sublist.cons _ (List.Sublist.cons_cons _ (List.Sublist.cons_cons _ (List.Sublist.slnil))))) (qt_pure (by kernel_rfl) fun _ => by kernel_rfl) ?_
  refine A.take 5 (some 44) (.pointer (some ⟨b8, 1, none⟩)) rfl (by kernel_rfl) (by kernel_rfl) (List.Sublist.cons_cons _ (List.Sublist.cons _ (List.Sublist.cons_cons _ (List.Sublist.cons_cons _ (List.Sublist.slnil))))) (qt_pure (by kernel_rfl) fun _ => by kernel_rfl) ?_
  refine A.take 6 (some 45) (.int .i64 60) rfl (by kernel_rfl) (by kernel_rfl) (List.Sublist.cons_cons _ (List.Sublist.cons _ (List.Sublist.cons_cons _ (List.Sublist.cons_cons _ (List.Sublist.slnil))))) (qt_load1 rfl rfl (by kernel_rfl) (reads_blk (i := 2) rfl rfl)) ?_
  refine A.take 7 (some 46) (.int .u64 60) rfl (by kernel_rfl) (by kernel_rfl) (List.Sublist.cons_cons _ (List.Sublist.cons _ (List.Sublist.cons_cons _ (List.Sublist.cons_cons _ (List.Sublist.slnil))))) (qt_pure (by kernel_rfl) fun _ => by kernel_rfl) ?_
  refine A.only 4 rfl (by kernel_rfl) (A.q (some 43) (.int .u64 0) (by kernel_rfl) (qt_load1 rfl rfl (by kernel_rfl) (reads_blk (i := 1) rfl rfl)) ?_)
  refine A.and (List.Sublist.cons_cons _ (List.Sublist.cons _ (List.Sublist.cons_cons _ (List.Sublist.cons_cons _ (List.Sublist.slnil))))) ?_
  refine A.take 8 (some 47) (.int .u64 60) rfl (by kernel_rfl) (by kernel_rfl) (List.Sublist.cons_cons _ (List.Sublist.cons _ (List.Sublist.cons_cons _ (List.Sublist.cons_cons _ (List.Sublist.slnil))))) (qt_pure (by kernel_rfl) fun _ => by kernel_rfl) ?_
  refine A.take 9 (some 48) (.pointer (some ⟨b2, 0, none⟩)) rfl (by kernel_rfl) (by kernel_rfl) (List.Sublist.cons_cons _ (List.Sublist.cons _ (List.Sublist.cons_cons _ (List.Sublist.cons_cons _ (List.Sublist.slnil))))) (qt_pure (by kernel_rfl) fun _ => by kernel_rfl) ?_
  refine A.take 10 (some 49) (.pointer (some ⟨b2, 3, none⟩)) rfl (by kernel_rfl) (by kernel_rfl) (List.Sublist.cons_cons _ (List.Sublist.cons _ (List.Sublist.cons_cons _ (List.Sublist.cons_cons _ (List.Sublist.slnil))))) (qt_pure (by kernel_rfl) fun _ => by kernel_rfl) ?_
  refine A.take 11 (some 50) (.pointer (some ⟨b2, 7, none⟩)) rfl (by kernel_rfl) (by kernel_rfl) (List.Sublist.cons_cons _ (List.Sublist.cons _ (List.Sublist.cons_cons _ (List.Sublist.cons_cons _ (List.Sublist.slnil))))) (qt_pure (by kernel_rfl) fun _ => by kernel_rfl) ?_
  refine A.only 12 rfl (by kernel_rfl) (A.store 1 (vs := [(.int .u64 60)]) [ringI encPkt 118 74 rb1 rs1 2 ([⟨0, 40, 0, 0, 0, 0⟩]), blk b2 [(.pointer (some ⟨rb1, 0, none⟩)), (.int .i64 100), (.int .i64 40), (.int .u64 2), (.int .u64 1), (.int .u64 2), (.int .u64 100), (.int .u64 60), (.int .u64 51)] 112, blk b7 [(.int .u64 0), (.int .i64 0), (.int .u16 0), (.int .u16 0), (.int .u16 0), (.int .u16 0)] 74, blk b8 [(.int .u64 0), (.int .i64 60), (.int .u16 0), (.int .u16 0), (.int .u16 0), (.int .u16 0)] 74] (by kernel_rfl) rfl rfl rfl rfl (by kernel_rfl) rfl rfl (by kernel_rfl) rfl ?_)
  refine A.and (List.Sublist.cons_cons _ (List.Sublist.cons _ (List.Sublist.cons_cons _ (List.Sublist.cons_cons _ (List.Sublist.slnil))))) ?_
  refine A.fin (by kernel_rfl) ?_
  refine A.norm [(0, (.pointer (some ⟨b2, 0, none⟩))), (2, (.pointer (some ⟨b7, 0, none⟩))), (3, (.int .i64 0)), (7, (.bool false)), (4, (.pointer (some ⟨b8, 0, none⟩))), (5, (.int .i64 0)), (18, (.bool false))] [ringI encPkt 118 74 rb1 rs1 2 ([⟨0, 40, 0, 0, 0, 0⟩]), blk b2 [(.pointer (some ⟨rb1, 0, none⟩)), (.int .i64 100), (.int .i64 40), (.int .u64 2), (.int .u64 1), (.int .u64 2), (.int .u64 100), (.int .u64 60), (.int .u64 51)] 112, blk b7 [(.int .u64 0), (.int .i64 0), (.int .u16 0), (.int .u16 0), (.int .u16 0), (.int .u16 0)] 74, blk b8 [(.int .u64 0), (.int .i64 60), (.int .u16 0), (.int .u16 0), (.int .u16 0), (.int .u16 0)] 74] (by exact ⟨rfl, rfl, rfl, rfl, rfl, rfl, rfl, trivial⟩) rfl ?_
  refine A.tn ?_
  refine A.seq ?_
  refine A.region ?_
  refine A.cons (A.q (some 51) (.agg #[(.int .u64 0), (.int .i64 60), (.int .u16 0), (.int .u16 0), (.int .u16 0), (.int .u16 0)]) (by kernel_rfl) (qt_loadN (vs := [(.int .u64 0), (.int .i64 60), (.int .u16 0), (.int .u16 0), (.int .u16 0), (.int .u16 0)]) rfl rfl (by kernel_rfl) (reads_blk (i := 3) rfl rfl)) ?_)
  refine A.cons (A.store 2 (vs := [(.int .u64 0), (.int .i64 60), (.int .u16 0), (.int .u16 0), (.int .u16 0), (.int .u16 0)]) [ringI encPkt 118 74 rb1 rs1 2 ([⟨0, 40, 0, 0, 0, 0⟩]), blk b2 [(.pointer (some ⟨rb1, 0, none⟩)), (.int .i64 100), (.int .i64 40), (.int .u64 2), (.int .u64 1), (.int .u64 2), (.int .u64 100), (.int .u64 60), (.int .u64 51)] 112, blk b7 [(.int .u64 0), (.int .i64 60), (.int .u16 0), (.int .u16 0), (.int .u16 0), (.int .u16 0)] 74, blk b8 [(.int .u64 0), (.int .i64 60), (.int .u16 0), (.int .u16 0), (.int .u16 0), (.int .u16 0)] 74] (by kernel_rfl) rfl rfl rfl rfl (by kernel_rfl) rfl rfl (by kernel_rfl) rfl ?_)
  refine A.cons (A.q (some 3) (.int .i64 0) (by kernel_rfl) (qt_assign rfl rfl) ?_)
  refine A.done ?_
  refine A.norm [(0, (.pointer (some ⟨b2, 0, none⟩))), (2, (.pointer (some ⟨b7, 0, none⟩))), (3, (.int .i64 0)), (7, (.bool false)), (4, (.pointer (some ⟨b8, 0, none⟩))), (5, (.int .i64 0)), (18, (.bool false))] [ringI encPkt 118 74 rb1 rs1 2 ([⟨0, 40, 0, 0, 0, 0⟩]), blk b2 [(.pointer (some ⟨rb1, 0, none⟩)), (.int .i64 100), (.int .i64 40), (.int .u64 2), (.int .u64 1), (.int .u64 2), (.int .u64 100), (.int .u64 60), (.int .u64 51)] 112, blk b7 [(.int .u64 0), (.int .i64 60), (.int .u16 0), (.int .u16 0), (.int .u16 0), (.int .u16 0)] 74, blk b8 [(.int .u64 0), (.int .i64 60), (.int .u16 0), (.int .u16 0), (.int .u16 0), (.int .u16 0)] 74] (by exact ⟨rfl, rfl, rfl, rfl, rfl, rfl, rfl, trivial⟩) rfl ?_
  refine A.tn ?_
  refine A.ret ?_
  refine A.post [(.agg #[(.int .u64 0), (.int .i64 60), (.int .u16 0), (.int .u16 0), (.int .u16 0), (.int .u16 0)]), (.int .i64 0)] (fun a w r s => ⟨rv_cellN (vs := [(.int .u64 0), (.int .i64 60), (.int .u16 0), (.int .u16 0), (.int .u16 0), (.int .u16 0)]) r s rfl (by kernel_rfl) (reads_blk (i := 2) rfl rfl), rv_tmp r rfl, trivial⟩) (A.back (by kernel_rfl) ?_)
  refine A.items [ringI encPkt 118 74 rb1 rs1 2 ([⟨0, 40, 0, 0, 0, 0⟩]), blk b2 [(.pointer (some ⟨rb1, 0, none⟩)), (.int .i64 100), (.int .i64 40), (.int .u64 2), (.int .u64 1), (.int .u64 2), (.int .u64 100), (.int .u64 60), (.int .u64 51)] 112] (List.Sublist.cons_cons _ (List.Sublist.cons_cons _ (List.Sublist.cons _ (List.Sublist.cons _ (List.Sublist.slnil))))) ?_
  refine A.cons (A.q (some 25) (.tuple #[(.agg #[(.int .u64 0), (.int .i64 60), (.int .u16 0), (.int .u16 0), (.int .u16 0), (.int .u16 0)]), (.int .i64 0)]) (by kernel_rfl) (qt_move rfl rfl) ?_)
  refine A.cons (A.q (some 28) (.agg #[(.int .u64 0), (.int .i64 60), (.int .u16 0), (.int .u16 0), (.int .u16 0), (.int .u16 0)]) (by kernel_rfl) (qt_pure (by kernel_rfl) fun _ => by kernel_rfl) ?_)
  refine A.cons (A.q (some 29) (.int .i64 0) (by kernel_rfl) (qt_pure (by kernel_rfl) fun _ => by kernel_rfl) ?_)
  refine A.cons (A.alloc 7 [(.int .u64 0), (.int .i64 0), (.int .u16 0), (.int .u16 0), (.int .u16 0), (.int .u16 0)] (by kernel_rfl) rfl (by kernel_rfl) (fun b9 => [ringI encPkt 118 74 rb1 rs1 2 ([⟨0, 40, 0, 0, 0, 0⟩]), blk b2 [(.pointer (some ⟨rb1, 0, none⟩)), (.int .i64 100), (.int .i64 40), (.int .u64 2), (.int .u64 1), (.int .u64 2), (.int .u64 100), (.int .u64 60), (.int .u64 51)] 112, blk b9 [(.int .u64 0), (.int .i64 0), (.int .u16 0), (.int .u16 0), (.int .u16 0), (.int .u16 0)] 74]) (fun _ => rfl) ?_)
  intro b9
  refine A.cons (A.store 2 (vs := [(.int .u64 0), (.int .i64 60), (.int .u16 0), (.int .u16 0), (.int .u16 0), (.int .u16 0)]) [ringI encPkt 118 74 rb1 rs1 2 ([⟨0, 40, 0, 0, 0, 0⟩]), blk b2 [(.pointer (some ⟨rb1, 0, none⟩)), (.int .i64 100), (.int .i64 40), (.int .u64 2), (.int .u64 1), (.int .u64 2), (.int .u64 100), (.int .u64 60), (.int .u64 51)] 112, blk b9 [(.int .u64 0), (.int .i64 60), (.int .u16 0), (.int .u16 0), (.int .u16 0), (.int .u16 0)] 74] (by kernel_rfl) rfl rfl rfl rfl (by kernel_rfl) rfl rfl (by kernel_rfl) rfl ?_)
  refine A.cons (A.q (some 8) (.int .i64 0) (by kernel_rfl) (qt_assign rfl rfl) ?_)
  refine A.done ?_
  refine A.norm [(0, (.bool false)), (1, (.pointer (some ⟨b2, 0, none⟩))), (2, (.int .i64 0)), (3, (.int .i64 0)), (4, (.int .i64 30)), (5, (.int .i64 0)), (6, (.int .i64 30)), (7, (.pointer (some ⟨b9, 0, none⟩))), (8, (.int .i64 0))] [ringI encPkt 118 74 rb1 rs1 2 ([⟨0, 40, 0, 0, 0, 0⟩]), blk b2 [(.pointer (some ⟨rb1, 0, none⟩)), (.int .i64 100), (.int .i64 40), (.int .u64 2), (.int .u64 1), (.int .u64 2), (.int .u64 100), (.int .u64 60), (.int .u64 51)] 112, blk b9 [(.int .u64 0), (.int .i64 60), (.int .u16 0), (.int .u16 0), (.int .u16 0), (.int .u16 0)] 74] (by exact ⟨rfl, rfl, rfl, rfl, rfl, rfl, rfl, rfl, rfl, trivial⟩) rfl ?_
  refine A.tn ?_
  refine A.seq ?_
  refine A.region ?_
  refine A.cons (A.q (some 30) (.int .i64 0) (by kernel_rfl) (qt_move rfl rfl) ?_)
  refine A.cons (A.q (some 31) (.bool true) (by kernel_rfl) (qt_pure (by kernel_rfl) fun _ => by kernel_rfl) ?_)
  refine A.cons (A.q (some 32) (.bool true) (by kernel_rfl) (qt_move rfl rfl) ?_)
  refine A.cons (A.q (some 33) (.int .i64 0) (by kernel_rfl) (qt_move rfl rfl) ?_)
  refine A.cons (A.q (some 34) (.bool true) (by kernel_rfl) (qt_pure (by kernel_rfl) fun _ => by kernel_rfl) ?_)
  refine A.cons (A.q (some 35) (.bool true) (by kernel_rfl) (qt_pure (by kernel_rfl) fun _ => by kernel_rfl) ?_)
  refine A.cons (A.q (some 36) (.bool true) (by kernel_rfl) (qt_move rfl rfl) ?_)
  refine A.cons (A.q (some 37) (.int .i64 30) (by kernel_rfl) (qt_move rfl rfl) ?_)
  refine A.cons (A.q (some 38) (.bool true) (by kernel_rfl) (qt_pure (by kernel_rfl) fun _ => by kernel_rfl) ?_)
  refine A.cons (A.q (some 39) (.bool true) (by kernel_rfl) (qt_pure (by kernel_rfl) fun _ => by kernel_rfl) ?_)
  refine A.cons (A.q (some 40) (.bool true) (by kernel_rfl) (qt_move rfl rfl) ?_)
  refine A.cons (A.q (some 41) (.int .i64 0) (by kernel_rfl) (qt_move rfl rfl) ?_)
  refine A.cons (A.q (some 42) (.bool true) (by kernel_rfl) (qt_pure (by kernel_rfl) fun _ => by kernel_rfl) ?_)
  refine A.cons (A.q (some 43) (.bool true) (by kernel_rfl) (qt_pure (by kernel_rfl) fun _ => by kernel_rfl) ?_)
  refine A.cons (A.q (some 44) (.bool true) (by kernel_rfl) (qt_move rfl rfl) ?_)
  refine A.cons (A.q (some 45) (.int .i64 30) (by kernel_rfl) (qt_move rfl rfl) ?_)
  refine A.cons (A.q (some 46) (.bool true) (by kernel_rfl) (qt_pure (by kernel_rfl) fun _ => by kernel_rfl) ?_)
  refine A.cons (A.q (some 47) (.bool true) (by kernel_rfl) (qt_pure (by kernel_rfl) fun _ => by kernel_rfl) ?_)
  refine A.cons (A.q (some 48) (.bool true) (by kernel_rfl) (qt_move rfl rfl) ?_)
  refine A.cons (A.q (some 49) (.int .i64 0) (by kernel_rfl) (qt_move rfl rfl) ?_)
  refine A.cons (A.q (some 50) (.bool true) (by kernel_rfl) (qt_pure (by kernel_rfl) fun _ => by kernel_rfl) ?_)
  refine A.cons (A.q (some 51) (.bool true) (by kernel_rfl) (qt_pure (by kernel_rfl) fun _ => by kernel_rfl) ?_)
  refine A.cons (A.q (some 52) (.bool true) (by kernel_rfl) (qt_move rfl rfl) ?_)
  refine A.cons (A.q (some 53) (.pointer (some ⟨b9, 1, none⟩)) (by kernel_rfl) (qt_pure (by kernel_rfl) fun _ => by kernel_rfl) ?_)
  refine A.cons (A.q (some 54) (.int .i64 60) (by kernel_rfl) (qt_load1 rfl rfl (by kernel_rfl) (reads_blk (i := 2) rfl rfl)) ?_)
  refine A.cons (A.q (some 55) (.bool true) (by kernel_rfl) (qt_pure (by kernel_rfl) fun _ => by kernel_rfl) ?_)
  refine A.cons (A.q (some 56) (.bool true) (by kernel_rfl) (qt_pure (by kernel_rfl) fun _ => by kernel_rfl) ?_)
  refine A.cons (A.q (some 57) (.bool true) (by kernel_rfl) (qt_move rfl rfl) ?_)
  refine A.cons (A.q (some 58) (.pointer (some ⟨b2, 0, none⟩)) (by kernel_rfl) (qt_move rfl rfl) ?_)
  refine A.cons (A.inl (some 59) [(.pointer (some ⟨b2, 0, none⟩))] [(0, (.pointer (some ⟨b2, 0, none⟩)))] (by kernel_rfl) rfl (by kernel_rfl) rfl Try.func52 rfl rfl rfl ?_)
  refine A.seq ?_
  refine A.region ?_
  refine A.cons (A.q (some 2) (.int .i64 0) (by kernel_rfl) (qt_assign rfl rfl) ?_)
  refine A.done ?_
  refine A.norm [(0, (.pointer (some ⟨b2, 0, none⟩))), (2, (.int .i64 0))] [ringI encPkt 118 74 rb1 rs1 2 ([⟨0, 40, 0, 0, 0, 0⟩]), blk b2 [(.pointer (some ⟨rb1, 0, none⟩)), (.int .i64 100), (.int .i64 40), (.int .u64 2), (.int .u64 1), (.int .u64 2), (.int .u64 100), (.int .u64 60), (.int .u64 51)] 112, blk b9 [(.int .u64 0), (.int .i64 60), (.int .u16 0), (.int .u16 0), (.int .u16 0), (.int .u16 0)] 74] (by exact ⟨rfl, rfl, trivial⟩) rfl ?_
  refine A.tn ?_
  refine A.seq ?_
  refine A.seq ?_
  refine A.region ?_
  refine A.cons (A.q (some 5) (.pointer (some ⟨b2, 0, none⟩)) (by kernel_rfl) (qt_move rfl rfl) ?_)
  refine A.cons (A.inl (some 6) [(.pointer (some ⟨b2, 0, none⟩))] [(0, (.pointer (some ⟨b2, 0, none⟩)))] (by kernel_rfl) rfl (by kernel_rfl) rfl Try.func51 rfl rfl rfl ?_)
  refine A.seq ?_
  refine A.region ?_
  refine A.cons (A.q (some 2) (.int .i64 0) (by kernel_rfl) (qt_assign rfl rfl) ?_)
  refine A.done ?_
  refine A.norm [(0, (.pointer (some ⟨b2, 0, none⟩))), (2, (.int .i64 0))] [ringI encPkt 118 74 rb1 rs1 2 ([⟨0, 40, 0, 0, 0, 0⟩]), blk b2 [(.pointer (some ⟨rb1, 0, none⟩)), (.int .i64 100), (.int .i64 40), (.int .u64 2), (.int .u64 1), (.int .u64 2), (.int .u64 100), (.int .u64 60), (.int .u64 51)] 112, blk b9 [(.int .u64 0), (.int .i64 60), (.int .u16 0), (.int .u16 0), (.int .u16 0), (.int .u16 0)] 74] (by exact ⟨rfl, rfl, trivial⟩) rfl ?_
  refine A.tn ?_
  refine A.seq ?_
  refine A.seq ?_
  refine A.region ?_
  refine A.cons (A.q (some 3) (.pointer (some ⟨b2, 0, none⟩)) (by kernel_rfl) (qt_move rfl rfl) ?_)
  refine A.cons (A.q (some 4) (.bool false) (by kernel_rfl) (qt_pure (by kernel_rfl) fun _ => by kernel_rfl) ?_)
  refine A.done ?_
  refine A.norm [(0, (.pointer (some ⟨b2, 0, none⟩))), (2, (.int .i64 0)), (4, (.bool false))] [ringI encPkt 118 74 rb1 rs1 2 ([⟨0, 40, 0, 0, 0, 0⟩]), blk b2 [(.pointer (some ⟨rb1, 0, none⟩)), (.int .i64 100), (.int .i64 40), (.int .u64 2), (.int .u64 1), (.int .u64 2), (.int .u64 100), (.int .u64 60), (.int .u64 51)] 112, blk b9 [(.int .u64 0), (.int .i64 60), (.int .u16 0), (.int .u16 0), (.int .u16 0), (.int .u16 0)] 74] (by exact ⟨rfl, rfl, rfl, trivial⟩) rfl ?_
  refine A.tn ?_
  refine A.cond_f rfl ?_
  refine A.skip ?_
  refine A.tn ?_
  refine A.seq ?_
  refine A.region ?_
  refine A.cons (A.q (some 5) (.pointer (some ⟨b2, 0, none⟩)) (by kernel_rfl) (qt_move rfl rfl) ?_)
  refine A.cons (A.q (some 6) (.pointer (some ⟨b2, 0, none⟩)) (by kernel_rfl) (qt_pure (by kernel_rfl) fun _ => by kernel_rfl) ?_)
  refine A.cons (A.q (some 7) (.pointer (some ⟨b2, 0, none⟩)) (by kernel_rfl) (qt_pure (by kernel_rfl) fun _ => by kernel_rfl) ?_)
  refine A.cons (A.q (some 8) (.pointer (some ⟨rb1, 0, none⟩)) (by kernel_rfl) (qt_load1 rfl rfl (by kernel_rfl) (reads_blk (i := 1) rfl rfl)) ?_)
  refine A.cons (A.q (some 9) (.int .i64 1) (by kernel_rfl) (qt_call [(.pointer (some ⟨rb1, 0, none⟩))] rfl (by kernel_rfl) rfl (fun w s => ringP_len rb1 rs1 2 ([⟨0, 40, 0, 0, 0, 0⟩]) w (s.mem (i := 0) rfl))) ?_)
  refine A.cons (A.q (some 2) (.int .i64 1) (by kernel_rfl) (qt_assign rfl rfl) ?_)
  refine A.done ?_
  refine A.norm [(0, (.pointer (some ⟨b2, 0, none⟩))), (2, (.int .i64 1)), (4, (.bool false))] [ringI encPkt 118 74 rb1 rs1 2 ([⟨0, 40, 0, 0, 0, 0⟩]), blk b2 [(.pointer (some ⟨rb1, 0, none⟩)), (.int .i64 100), (.int .i64 40), (.int .u64 2), (.int .u64 1), (.int .u64 2), (.int .u64 100), (.int .u64 60), (.int .u64 51)] 112, blk b9 [(.int .u64 0), (.int .i64 60), (.int .u16 0), (.int .u16 0), (.int .u16 0), (.int .u16 0)] 74] (by exact ⟨rfl, rfl, rfl, trivial⟩) rfl ?_
  refine A.tn ?_
  refine A.ret ?_
  refine A.post [(.int .i64 1)] (fun a w r s => ⟨rv_tmp r rfl, trivial⟩) (A.back (by kernel_rfl) ?_)
  refine A.items [ringI encPkt 118 74 rb1 rs1 2 ([⟨0, 40, 0, 0, 0, 0⟩]), blk b2 [(.pointer (some ⟨rb1, 0, none⟩)), (.int .i64 100), (.int .i64 40), (.int .u64 2), (.int .u64 1), (.int .u64 2), (.int .u64 100), (.int .u64 60), (.int .u64 51)] 112] (List.Sublist.cons_cons _ (List.Sublist.cons_cons _ (List.Sublist.cons _ (List.Sublist.slnil)))) ?_
  refine A.cons (A.q (some 7) (.bool false) (by kernel_rfl) (qt_pure (by kernel_rfl) fun _ => by kernel_rfl) ?_)
  refine A.done ?_
  refine A.norm [(0, (.pointer (some ⟨b2, 0, none⟩))), (2, (.int .i64 0)), (7, (.bool false))] [ringI encPkt 118 74 rb1 rs1 2 ([⟨0, 40, 0, 0, 0, 0⟩]), blk b2 [(.pointer (some ⟨rb1, 0, none⟩)), (.int .i64 100), (.int .i64 40), (.int .u64 2), (.int .u64 1), (.int .u64 2), (.int .u64 100), (.int .u64 60), (.int .u64 51)] 112] (by exact ⟨rfl, rfl, rfl, trivial⟩) rfl ?_
  refine A.tn ?_
  refine A.cond_f rfl ?_
  refine A.skip ?_
  refine A.tn ?_
  refine A.seq ?_
  refine A.region ?_
  refine A.cons (A.q (some 9) (.pointer (some ⟨b2, 0, none⟩)) (by kernel_rfl) (qt_move rfl rfl) ?_)
  refine A.cons (A.q (some 10) (.pointer (some ⟨b2, 0, none⟩)) (by kernel_rfl) (qt_pure (by kernel_rfl) fun _ => by kernel_rfl) ?_)
  refine A.cons (A.q (some 11) (.pointer (some ⟨b2, 0, none⟩)) (by kernel_rfl) (qt_pure (by kernel_rfl) fun _ => by kernel_rfl) ?_)
  refine A.cons (A.q (some 12) (.pointer (some ⟨rb1, 0, none⟩)) (by kernel_rfl) (qt_load1 rfl rfl (by kernel_rfl) (reads_blk (i := 1) rfl rfl)) ?_)
  refine A.cons (A.q (some 13) (.tuple #[(.agg #[(.int .u64 0), (.int .i64 40), (.int .u16 0), (.int .u16 0), (.int .u16 0), (.int .u16 0)]), (.int .i64 0)]) (by kernel_rfl) (qt_call [(.pointer (some ⟨rb1, 0, none⟩)), (.int .i64 0)] rfl (by kernel_rfl) rfl (fun w s => ringP_at rb1 rs1 2 0 ([⟨0, 40, 0, 0, 0, 0⟩]) (⟨0, 40, 0, 0, 0, 0⟩) w (s.mem (i := 0) rfl) rfl)) ?_)
  refine A.cons (A.q (some 8) (.tuple #[(.agg #[(.int .u64 0), (.int .i64 40), (.int .u16 0), (.int .u16 0), (.int .u16 0), (.int .u16 0)]), (.int .i64 0)]) (by kernel_rfl) (qt_move rfl rfl) ?_)
  refine A.cons (A.q (some 14) (.agg #[(.int .u64 0), (.int .i64 40), (.int .u16 0), (.int .u16 0), (.int .u16 0), (.int .u16 0)]) (by kernel_rfl) (qt_pure (by kernel_rfl) fun _ => by kernel_rfl) ?_)
  refine A.cons (A.q (some 15) (.int .i64 0) (by kernel_rfl) (qt_pure (by kernel_rfl) fun _ => by kernel_rfl) ?_)
  refine A.cons (A.alloc 3 [(.int .u64 0), (.int .i64 0), (.int .u16 0), (.int .u16 0), (.int .u16 0), (.int .u16 0)] (by kernel_rfl) rfl (by kernel_rfl) (fun b10 => [ringI encPkt 118 74 rb1 rs1 2 ([⟨0, 40, 0, 0, 0, 0⟩]), blk b2 [(.pointer (some ⟨rb1, 0, none⟩)), (.int .i64 100), (.int .i64 40), (.int .u64 2), (.int .u64 1), (.int .u64 2), (.int .u64 100), (.int .u64 60), (.int .u64 51)] 112, blk b10 [(.int .u64 0), (.int .i64 0), (.int .u16 0), (.int .u16 0), (.int .u16 0), (.int .u16 0)] 74]) (fun _ => rfl) ?_)
  intro b10
  refine A.cons (A.store 2 (vs := [(.int .u64 0), (.int .i64 40), (.int .u16 0), (.int .u16 0), (.int .u16 0), (.int .u16 0)]) [ringI encPkt 118 74 rb1 rs1 2 ([⟨0, 40, 0, 0, 0, 0⟩]), blk b2 [(.pointer (some ⟨rb1, 0, none⟩)), (.int .i64 100), (.int .i64 40), (.int .u64 2), (.int .u64 1), (.int .u64 2), (.int .u64 100), (.int .u64 60), (.int .u64 51)] 112, blk b10 [(.int .u64 0), (.int .i64 40), (.int .u16 0), (.int .u16 0), (.int .u16 0), (.int .u16 0)] 74] (by kernel_rfl) rfl rfl rfl rfl (by kernel_rfl) rfl rfl (by kernel_rfl) rfl ?_)
  refine A.cons (A.q (some 4) (.int .i64 0) (by kernel_rfl) (qt_assign rfl rfl) ?_)
  refine A.done ?_
  refine A.norm [(0, (.pointer (some ⟨b2, 0, none⟩))), (2, (.int .i64 0)), (7, (.bool false)), (3, (.pointer (some ⟨b10, 0, none⟩)))] [ringI encPkt 118 74 rb1 rs1 2 ([⟨0, 40, 0, 0, 0, 0⟩]), blk b2 [(.pointer (some ⟨rb1, 0, none⟩)), (.int .i64 100), (.int .i64 40), (.int .u64 2), (.int .u64 1), (.int .u64 2), (.int .u64 100), (.int .u64 60), (.int .u64 51)] 112, blk b10 [(.int .u64 0), (.int .i64 40), (.int .u16 0), (.int .u16 0), (.int .u16 0), (.int .u16 0)] 74] (by exact ⟨rfl, rfl, rfl, rfl, trivial⟩) rfl ?_
  refine A.tn ?_
  refine A.seq ?_
  refine A.region ?_
  refine A.cons (A.q (some 16) (.pointer (some ⟨b10, 1, none⟩)) (by kernel_rfl) (qt_pure (by kernel_rfl) fun _ => by kernel_rfl) ?_)
  refine A.cons (A.q (some 17) (.int .i64 40) (by kernel_rfl) (qt_load1 rfl rfl (by kernel_rfl) (reads_blk (i := 2) rfl rfl)) ?_)
  refine A.cons (A.q (some 2) (.int .i64 40) (by kernel_rfl) (qt_assign rfl rfl) ?_)
  refine A.done ?_
  refine A.norm [(0, (.pointer (some ⟨b2, 0, none⟩))), (2, (.int .i64 40)), (7, (.bool false)), (3, (.pointer (some ⟨b10, 0, none⟩)))] [ringI encPkt 118 74 rb1 rs1 2 ([⟨0, 40, 0, 0, 0, 0⟩]), blk b2 [(.pointer (some ⟨rb1, 0, none⟩)), (.int .i64 100), (.int .i64 40), (.int .u64 2), (.int .u64 1), (.int .u64 2), (.int .u64 100), (.int .u64 60), (.int .u64 51)] 112, blk b10 [(.int .u64 0), (.int .i64 40), (.int .u16 0), (.int .u16 0), (.int .u16 0), (.int .u16 0)] 74] (by exact ⟨rfl, rfl, rfl, rfl, trivial⟩) rfl ?_
  refine A.tn ?_
  refine A.ret ?_
  refine A.post [(.int .i64 40)] (fun a w r s => ⟨rv_tmp r rfl, trivial⟩) (A.back (by kernel_rfl) ?_)
  refine A.items [ringI encPkt 118 74 rb1 rs1 2 ([⟨0, 40, 0, 0, 0, 0⟩]), blk b2 [(.pointer (some ⟨rb1, 0, none⟩)), (.int .i64 100), (.int .i64 40), (.int .u64 2), (.int .u64 1), (.int .u64 2), (.int .u64 100), (.int .u64 60), (.int .u64 51)] 112] (List.Sublist.cons_cons _ (List.Sublist.cons_cons _ (List.Sublist.cons _ (List.Sublist.slnil)))) ?_
  refine A.cons (A.q (some 60) (.bool true) (by kernel_rfl) (qt_pure (by kernel_rfl) fun _ => by kernel_rfl) ?_)
  refine A.cons (A.q (some 61) (.bool true) (by kernel_rfl) (qt_pure (by kernel_rfl) fun _ => by kernel_rfl) ?_)
  refine A.cons (A.q (some 62) (.bool true) (by kernel_rfl) (qt_move rfl rfl) ?_)
  refine A.cons (A.q (some 63) (.pointer (some ⟨b2, 0, none⟩)) (by kernel_rfl) (qt_move rfl rfl) ?_)
  refine A.cons (A.inl (some 64) [(.pointer (some ⟨b2, 0, none⟩))] [(0, (.pointer (some ⟨b2, 0, none⟩)))] (by kernel_rfl) rfl (by kernel_rfl) rfl Try.func46 rfl rfl rfl ?_)
  refine A.seq ?_
  refine A.region ?_
  refine A.cons (A.q (some 2) (.int .i64 0) (by kernel_rfl) (qt_assign rfl rfl) ?_)
  refine A.done ?_
  refine A.norm [(0, (.pointer (some ⟨b2, 0, none⟩))), (2, (.int .i64 0))] [ringI encPkt 118 74 rb1 rs1 2 ([⟨0, 40, 0, 0, 0, 0⟩]), blk b2 [(.pointer (some ⟨rb1, 0, none⟩)), (.int .i64 100), (.int .i64 40), (.int .u64 2), (.int .u64 1), (.int .u64 2), (.int .u64 100), (.int .u64 60), (.int .u64 51)] 112] (by exact ⟨rfl, rfl, trivial⟩) rfl ?_
  refine A.tn ?_
  refine A.seq ?_
  refine A.seq ?_
  refine A.region ?_
  refine A.cons (A.q (some 3) (.pointer (some ⟨b2, 0, none⟩)) (by kernel_rfl) (qt_move rfl rfl) ?_)
  refine A.cons (A.q (some 4) (.bool false) (by kernel_rfl) (qt_pure (by kernel_rfl) fun _ => by kernel_rfl) ?_)
  refine A.done ?_
  refine A.norm [(0, (.pointer (some ⟨b2, 0, none⟩))), (2, (.int .i64 0)), (4, (.bool false))] [ringI encPkt 118 74 rb1 rs1 2 ([⟨0, 40, 0, 0, 0, 0⟩]), blk b2 [(.pointer (some ⟨rb1, 0, none⟩)), (.int .i64 100), (.int .i64 40), (.int .u64 2), (.int .u64 1), (.int .u64 2), (.int .u64 100), (.int .u64 60), (.int .u64 51)] 112] (by exact ⟨rfl, rfl, rfl, trivial⟩) rfl ?_
  refine A.tn ?_
  refine A.cond_f rfl ?_
  refine A.skip ?_
  refine A.tn ?_
  refine A.seq ?_
  refine A.region ?_
  refine A.cons (A.q (some 5) (.pointer (some ⟨b2, 0, none⟩)) (by kernel_rfl) (qt_move rfl rfl) ?_)
  refine A.cons (A.q (some 6) (.pointer (some ⟨b2, 0, none⟩)) (by kernel_rfl) (qt_pure (by kernel_rfl) fun _ => by kernel_rfl) ?_)
  refine A.cons (A.q (some 7) (.pointer (some ⟨b2, 2, none⟩)) (by kernel_rfl) (qt_pure (by kernel_rfl) fun _ => by kernel_rfl) ?_)
  refine A.cons (A.q (some 8) (.int .i64 40) (by kernel_rfl) (qt_load1 rfl rfl (by kernel_rfl) (reads_blk (i := 1) rfl rfl)) ?_)
  refine A.cons (A.q (some 2) (.int .i64 40) (by kernel_rfl) (qt_assign rfl rfl) ?_)
  refine A.done ?_
  refine A.norm [(0, (.pointer (some ⟨b2, 0, none⟩))), (2, (.int .i64 40)), (4, (.bool false))] [ringI encPkt 118 74 rb1 rs1 2 ([⟨0, 40, 0, 0, 0, 0⟩]), blk b2 [(.pointer (some ⟨rb1, 0, none⟩)), (.int .i64 100), (.int .i64 40), (.int .u64 2), (.int .u64 1), (.int .u64 2), (.int .u64 100), (.int .u64 60), (.int .u64 51)] 112] (by exact ⟨rfl, rfl, rfl, trivial⟩) rfl ?_
  refine A.tn ?_
  refine A.ret ?_
  refine A.post [(.int .i64 40)] (fun a w r s => ⟨rv_tmp r rfl, trivial⟩) (A.back (by kernel_rfl) ?_)
  refine A.cons (A.q (some 65) (.bool true) (by kernel_rfl) (qt_pure (by kernel_rfl) fun _ => by kernel_rfl) ?_)
  refine A.cons (A.q (some 66) (.bool true) (by kernel_rfl) (qt_pure (by kernel_rfl) fun _ => by kernel_rfl) ?_)
  refine A.cons (A.q (some 67) (.bool true) (by kernel_rfl) (qt_move rfl rfl) ?_)
  refine A.cons (A.q (some 68) (.pointer (some ⟨b2, 0, none⟩)) (by kernel_rfl) (qt_move rfl rfl) ?_)
  refine A.cons (A.inl (some 69) [(.pointer (some ⟨b2, 0, none⟩))] [(0, (.pointer (some ⟨b2, 0, none⟩)))] (by kernel_rfl) rfl (by kernel_rfl) rfl Try.func49 rfl rfl rfl ?_)
  refine A.seq ?_
  refine A.region ?_
  refine A.cons (A.alloc 2 [(.int .u64 0), (.int .u64 0), (.int .u64 0), (.int .u64 0), (.int .u64 0), (.int .u64 0)] (by kernel_rfl) rfl (by kernel_rfl) (fun b11 => [ringI encPkt 118 74 rb1 rs1 2 ([⟨0, 40, 0, 0, 0, 0⟩]), blk b2 [(.pointer (some ⟨rb1, 0, none⟩)), (.int .i64 100), (.int .i64 40), (.int .u64 2), (.int .u64 1), (.int .u64 2), (.int .u64 100), (.int .u64 60), (.int .u64 51)] 112, blk b11 [(.int .u64 0), (.int .u64 0), (.int .u64 0), (.int .u64 0), (.int .u64 0), (.int .u64 0)] 87]) (fun _ => rfl) ?_)
  intro b11
  refine A.done ?_
  refine A.norm [(0, (.pointer (some ⟨b2, 0, none⟩))), (2, (.pointer (some ⟨b11, 0, none⟩)))] [ringI encPkt 118 74 rb1 rs1 2 ([⟨0, 40, 0, 0, 0, 0⟩]), blk b2 [(.pointer (some ⟨rb1, 0, none⟩)), (.int .i64 100), (.int .i64 40), (.int .u64 2), (.int .u64 1), (.int .u64 2), (.int .u64 100), (.int .u64 60), (.int .u64 51)] 112, blk b11 [(.int .u64 0), (.int .u64 0), (.int .u64 0), (.int .u64 0), (.int .u64 0), (.int .u64 0)] 87] (by exact ⟨rfl, rfl, trivial⟩) rfl ?_
  refine A.tn ?_
  refine A.seq ?_
  refine A.seq ?_
  refine A.region ?_
  refine A.cons (A.q (some 3) (.pointer (some ⟨b2, 0, none⟩)) (by kernel_rfl) (qt_move rfl rfl) ?_)
  refine A.cons (A.q (some 4) (.bool false) (by kernel_rfl) (qt_pure (by kernel_rfl) fun _ => by kernel_rfl) ?_)
  refine A.done ?_
  refine A.norm [(0, (.pointer (some ⟨b2, 0, none⟩))), (2, (.pointer (some ⟨b11, 0, none⟩))), (4, (.bool false))] [ringI encPkt 118 74 rb1 rs1 2 ([⟨0, 40, 0, 0, 0, 0⟩]), blk b2 [(.pointer (some ⟨rb1, 0, none⟩)), (.int .i64 100), (.int .i64 40), (.int .u64 2), (.int .u64 1), (.int .u64 2), (.int .u64 100), (.int .u64 60), (.int .u64 51)] 112, blk b11 [(.int .u64 0), (.int .u64 0), (.int .u64 0), (.int .u64 0), (.int .u64 0), (.int .u64 0)] 87] (by exact ⟨rfl, rfl, rfl, trivial⟩) rfl ?_
  refine A.tn ?_
  refine A.cond_f rfl ?_
  refine A.skip ?_
  refine A.tn ?_
  refine A.seq ?_
  refine A.region ?_
  refine A.cons (A.q (some 6) (.pointer (some ⟨b2, 0, none⟩)) (by kernel_rfl) (qt_move rfl rfl) ?_)
  refine A.cons (A.q (some 7) (.pointer (some ⟨b2, 0, none⟩)) (by kernel_rfl) (qt_pure (by kernel_rfl) fun _ => by kernel_rfl) ?_)
  refine A.cons (A.q (some 8) (.pointer (some ⟨b2, 3, none⟩)) (by kernel_rfl) (qt_pure (by kernel_rfl) fun _ => by kernel_rfl) ?_)
  refine A.cons (A.q (some 9) (.agg #[(.int .u64 2), (.int .u64 1), (.int .u64 2), (.int .u64 100), (.int .u64 60), (.int .u64 51)]) (by kernel_rfl) (qt_loadN (vs := [(.int .u64 2), (.int .u64 1), (.int .u64 2), (.int .u64 100), (.int .u64 60), (.int .u64 51)]) rfl rfl (by kernel_rfl) (reads_blk (i := 1) rfl rfl)) ?_)
  refine A.cons (A.store 2 (vs := [(.int .u64 2), (.int .u64 1), (.int .u64 2), (.int .u64 100), (.int .u64 60), (.int .u64 51)]) [ringI encPkt 118 74 rb1 rs1 2 ([⟨0, 40, 0, 0, 0, 0⟩]), blk b2 [(.pointer (some ⟨rb1, 0, none⟩)), (.int .i64 100), (.int .i64 40), (.int .u64 2), (.int .u64 1), (.int .u64 2), (.int .u64 100), (.int .u64 60), (.int .u64 51)] 112, blk b11 [(.int .u64 2), (.int .u64 1), (.int .u64 2), (.int .u64 100), (.int .u64 60), (.int .u64 51)] 87] (by kernel_rfl) rfl rfl rfl rfl (by kernel_rfl) rfl rfl (by kernel_rfl) rfl ?_)
  refine A.done ?_
  refine A.norm [(0, (.pointer (some ⟨b2, 0, none⟩))), (2, (.pointer (some ⟨b11, 0, none⟩))), (4, (.bool false))] [ringI encPkt 118 74 rb1 rs1 2 ([⟨0, 40, 0, 0, 0, 0⟩]), blk b2 [(.pointer (some ⟨rb1, 0, none⟩)), (.int .i64 100), (.int .i64 40), (.int .u64 2), (.int .u64 1), (.int .u64 2), (.int .u64 100), (.int .u64 60), (.int .u64 51)] 112, blk b11 [(.int .u64 2), (.int .u64 1), (.int .u64 2), (.int .u64 100), (.int .u64 60), (.int .u64 51)] 87] (by exact ⟨rfl, rfl, rfl, trivial⟩) rfl ?_
  refine A.tn ?_
  refine A.ret ?_
  refine A.post [(.agg #[(.int .u64 2), (.int .u64 1), (.int .u64 2), (.int .u64 100), (.int .u64 60), (.int .u64 51)])] (fun a w r s => ⟨rv_cellN (vs := [(.int .u64 2), (.int .u64 1), (.int .u64 2), (.int .u64 100), (.int .u64 60), (.int .u64 51)]) r s rfl (by kernel_rfl) (reads_blk (i := 2) rfl rfl), trivial⟩) (A.back (by kernel_rfl) ?_)
  refine A.items [ringI encPkt 118 74 rb1 rs1 2 ([⟨0, 40, 0, 0, 0, 0⟩]), blk b2 [(.pointer (some ⟨rb1, 0, none⟩)), (.int .i64 100), (.int .i64 40), (.int .u64 2), (.int .u64 1), (.int .u64 2), (.int .u64 100), (.int .u64 60), (.int .u64 51)] 112] (List.Sublist.cons_cons _ (List.Sublist.cons_cons _ (List.Sublist.cons _ (List.Sublist.slnil)))) ?_
  refine A.cons (A.q (some 70) (.agg #[(.int .u64 2), (.int .u64 1), (.int .u64 2), (.int .u64 100), (.int .u64 60), (.int .u64 51)]) (by kernel_rfl) (qt_pure (by kernel_rfl) fun _ => by kernel_rfl) ?_)
  refine A.cons (A.q (some 71) (.bool true) (by kernel_rfl) (qt_eqlA rfl rfl rfl (by kernel_rfl) (by kernel_rfl)) ?_)
  refine A.cons (A.q (some 72) (.bool true) (by kernel_rfl) (qt_pure (by kernel_rfl) fun _ => by kernel_rfl) ?_)
  refine A.cons (A.q (some 0) (.bool true) (by kernel_rfl) (qt_assign rfl rfl) ?_)
  refine A.done ?_
  refine A.norm [(0, (.bool true)), (1, (.pointer (some ⟨b2, 0, none⟩))), (2, (.int .i64 0)), (3, (.int .i64 0)), (4, (.int .i64 30)), (5, (.int .i64 0)), (6, (.int .i64 30)), (7, (.pointer (some ⟨b9, 0, none⟩))), (8, (.int .i64 0))] [ringI encPkt 118 74 rb1 rs1 2 ([⟨0, 40, 0, 0, 0, 0⟩]), blk b2 [(.pointer (some ⟨rb1, 0, none⟩)), (.int .i64 100), (.int .i64 40), (.int .u64 2), (.int .u64 1), (.int .u64 2), (.int .u64 100), (.int .u64 60), (.int .u64 51)] 112] (by exact ⟨rfl, rfl, rfl, rfl, rfl, rfl, rfl, rfl, rfl, trivial⟩) rfl ?_
  refine A.tn ?_
  refine A.ret ?_
  refine A.post [(.bool true)] (fun a w r s => ⟨rv_tmp r rfl, trivial⟩) (fun w1 s => ?_)
  exact ⟨rfl, s.fr⟩
end Go.Proofs.Ytkfmboicmdnjpaa
