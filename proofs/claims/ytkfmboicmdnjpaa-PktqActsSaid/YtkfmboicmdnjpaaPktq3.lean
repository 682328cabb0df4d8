/- What the functions of this layer do, proved operation by operation, for all arguments, under the conditions that each theorem states. -/
import Derived.Test.YtkfmboicmdnjpaaProg
import Derived.Test.YtkfmboicmdnjpaaPktq2
import Derived.Test.YtkfmboicmdnjpaaVh
namespace Go.Proofs.Ytkfmboicmdnjpaa
open Go V
set_option linter.unusedVariables false
set_option linter.unusedSimpArgs false
theorem lens_take {xs : List Pkt} {k : Nat} {x : Pkt} (h : xs[k]? = some x) : lens (xs.take (k + 1)) = lens (xs.take k) + x.len := by
  rw [List.take_add_one, h]; exact lens_snoc x _

set_option maxHeartbeats 8000000 in
set_option maxRecDepth 100000 in
theorem pktqNil_walk (x : Pkt) (w : World) :
    Calls Try.prog 13 #[(.agg #[(.int .u64 x.id), (.int .i64 x.len), (.int .u16 x.h0), (.int .u16 x.h1), (.int .u16 x.h2), (.int .u16 x.h3)])] w fun e w' => e = .returned (.bool true) ∧ Fr [] w w' := by
  refine calls_of (args := [(.agg #[(.int .u64 x.id), (.int .i64 x.len), (.int .u16 x.h0), (.int .u16 x.h1), (.int .u16 x.h2), (.int .u16 x.h3)])]) (penv [(.agg #[(.int .u64 x.id), (.int .i64 x.len), (.int .u16 x.h0), (.int .u16 x.h1), (.int .u16 x.h2), (.int .u16 x.h3)])]) [] [] Try.func13 rfl rfl (look_penv _) (HS.nil w) ?_
  refine A.norm [(0, (.agg #[(.int .u64 x.id), (.int .i64 x.len), (.int .u16 x.h0), (.int .u16 x.h1), (.int .u16 x.h2), (.int .u16 x.h3)]))] [] (by exact ⟨rfl, trivial⟩) rfl ?_
  refine A.seq ?_
  refine A.region ?_
  refine A.cons (A.box 1 [(.int .u64 x.id), (.int .i64 x.len), (.int .u16 x.h0), (.int .u16 x.h1), (.int .u16 x.h2), (.int .u16 x.h3)] (by kernel_rfl) rfl rfl rfl (fun b1 => [blk b1 [(.int .u64 x.id), (.int .i64 x.len), (.int .u16 x.h0), (.int .u16 x.h1), (.int .u16 x.h2), (.int .u16 x.h3)] 74]) (fun _ => rfl) ?_)
  intro b1
  refine A.cons (A.q (some 2) (.bool false) (by kernel_rfl) (qt_assign rfl rfl) ?_)
  refine A.done ?_
  refine A.norm [(0, (.agg #[(.int .u64 x.id), (.int .i64 x.len), (.int .u16 x.h0), (.int .u16 x.h1), (.int .u16 x.h2), (.int .u16 x.h3)])), (1, (.pointer (some ⟨b1, 0, none⟩))), (2, (.bool false))] [blk b1 [(.int .u64 x.id), (.int .i64 x.len), (.int .u16 x.h0), (.int .u16 x.h1), (.int .u16 x.h2), (.int .u16 x.h3)] 74] (by exact ⟨rfl, rfl, rfl, trivial⟩) rfl ?_
  refine A.tn ?_
  refine A.seq ?_
  refine A.region ?_
  refine A.cons (A.q (some 3) (.pointer none) (by kernel_rfl) (qt_assign rfl rfl) ?_)
  refine A.done ?_
  refine A.norm [(0, (.agg #[(.int .u64 x.id), (.int .i64 x.len), (.int .u16 x.h0), (.int .u16 x.h1), (.int .u16 x.h2), (.int .u16 x.h3)])), (1, (.pointer (some ⟨b1, 0, none⟩))), (2, (.bool false)), (3, (.pointer none))] [blk b1 [(.int .u64 x.id), (.int .i64 x.len), (.int .u16 x.h0), (.int .u16 x.h1), (.int .u16 x.h2), (.int .u16 x.h3)] 74] (by exact ⟨rfl, rfl, rfl, rfl, trivial⟩) rfl ?_
  refine A.tn ?_
  refine A.seq ?_
  refine A.region ?_
  refine A.cons (A.q (some 7) (.pointer none) (by kernel_rfl) (qt_move rfl rfl) ?_)
  refine A.cons (A.inl (some 8) [(.pointer none)] [(0, (.pointer none))] (by kernel_rfl) rfl (by kernel_rfl) rfl Try.func44 rfl rfl rfl ?_)
  refine A.seq ?_
  refine A.region ?_
  refine A.cons (A.alloc 2 [(.int .u64 0), (.int .i64 0), (.int .u16 0), (.int .u16 0), (.int .u16 0), (.int .u16 0)] (by kernel_rfl) rfl (by kernel_rfl) (fun b2 => [blk b1 [(.int .u64 x.id), (.int .i64 x.len), (.int .u16 x.h0), (.int .u16 x.h1), (.int .u16 x.h2), (.int .u16 x.h3)] 74, blk b2 [(.int .u64 0), (.int .i64 0), (.int .u16 0), (.int .u16 0), (.int .u16 0), (.int .u16 0)] 74]) (fun _ => rfl) ?_)
  intro b2
  refine A.cons (A.q (some 3) (.int .i64 0) (by kernel_rfl) (qt_assign rfl rfl) ?_)
  refine A.done ?_
  refine A.norm [(0, (.pointer none)), (2, (.pointer (some ⟨b2, 0, none⟩))), (3, (.int .i64 0))] [blk b1 [(.int .u64 x.id), (.int .i64 x.len), (.int .u16 x.h0), (.int .u16 x.h1), (.int .u16 x.h2), (.int .u16 x.h3)] 74, blk b2 [(.int .u64 0), (.int .i64 0), (.int .u16 0), (.int .u16 0), (.int .u16 0), (.int .u16 0)] 74] (by exact ⟨rfl, rfl, rfl, trivial⟩) rfl ?_
  refine A.tn ?_
  refine A.seq ?_
  refine A.seq ?_
  refine A.region ?_
  refine A.cons (A.q (some 6) (.pointer none) (by kernel_rfl) (qt_move rfl rfl) ?_)
  refine A.cons (A.q (some 7) (.bool true) (by kernel_rfl) (qt_pure (by kernel_rfl) fun _ => by kernel_rfl) ?_)
  refine A.done ?_
  refine A.norm [(0, (.pointer none)), (2, (.pointer (some ⟨b2, 0, none⟩))), (3, (.int .i64 0)), (7, (.bool true))] [blk b1 [(.int .u64 x.id), (.int .i64 x.len), (.int .u16 x.h0), (.int .u16 x.h1), (.int .u16 x.h2), (.int .u16 x.h3)] 74, blk b2 [(.int .u64 0), (.int .i64 0), (.int .u16 0), (.int .u16 0), (.int .u16 0), (.int .u16 0)] 74] (by exact ⟨rfl, rfl, rfl, rfl, trivial⟩) rfl ?_
  refine A.tn ?_
  refine A.cond_t rfl ?_
  refine A.seq ?_
  refine A.region ?_
  refine A.cons (A.q (some 8) (.agg #[(.int .u64 0), (.int .i64 0), (.int .u16 0), (.int .u16 0), (.int .u16 0), (.int .u16 0)]) (by kernel_rfl) (qt_pure (by kernel_rfl) fun _ => by kernel_rfl) ?_)
  refine A.cons (A.store 1 (vs := [(.int .u64 0), (.int .i64 0), (.int .u16 0), (.int .u16 0), (.int .u16 0), (.int .u16 0)]) [blk b1 [(.int .u64 x.id), (.int .i64 x.len), (.int .u16 x.h0), (.int .u16 x.h1), (.int .u16 x.h2), (.int .u16 x.h3)] 74, blk b2 [(.int .u64 0), (.int .i64 0), (.int .u16 0), (.int .u16 0), (.int .u16 0), (.int .u16 0)] 74] (by kernel_rfl) rfl rfl rfl rfl (by kernel_rfl) rfl rfl (by kernel_rfl) rfl ?_)
  refine A.cons (A.q (some 3) (.int .i64 7) (by kernel_rfl) (qt_assign rfl rfl) ?_)
  refine A.done ?_
  refine A.norm [(0, (.pointer none)), (2, (.pointer (some ⟨b2, 0, none⟩))), (3, (.int .i64 7)), (7, (.bool true))] [blk b1 [(.int .u64 x.id), (.int .i64 x.len), (.int .u16 x.h0), (.int .u16 x.h1), (.int .u16 x.h2), (.int .u16 x.h3)] 74, blk b2 [(.int .u64 0), (.int .i64 0), (.int .u16 0), (.int .u16 0), (.int .u16 0), (.int .u16 0)] 74] (by exact ⟨rfl, rfl, rfl, rfl, trivial⟩) rfl ?_
  refine A.tn ?_
  refine A.ret ?_
  refine A.tr ?_
  refine A.post [(.agg #[(.int .u64 0), (.int .i64 0), (.int .u16 0), (.int .u16 0), (.int .u16 0), (.int .u16 0)]), (.int .i64 7)] (fun a w r s => ⟨rv_cellN (vs := [(.int .u64 0), (.int .i64 0), (.int .u16 0), (.int .u16 0), (.int .u16 0), (.int .u16 0)]) r s rfl (by kernel_rfl) (reads_blk (i := 1) rfl rfl), rv_tmp r rfl, trivial⟩) (A.back (by kernel_rfl) ?_)
  refine A.items [blk b1 [(.int .u64 x.id), (.int .i64 x.len), (.int .u16 x.h0), (.int .u16 x.h1), (.int .u16 x.h2), (.int .u16 x.h3)] 74] (List.Sublist.cons_cons _ (List.Sublist.cons _ (List.Sublist.slnil))) ?_
  refine A.cons (A.q (some 6) (.tuple #[(.agg #[(.int .u64 0), (.int .i64 0), (.int .u16 0), (.int .u16 0), (.int .u16 0), (.int .u16 0)]), (.int .i64 7)]) (by kernel_rfl) (qt_move rfl rfl) ?_)
  refine A.cons (A.q (some 9) (.agg #[(.int .u64 0), (.int .i64 0), (.int .u16 0), (.int .u16 0), (.int .u16 0), (.int .u16 0)]) (by kernel_rfl) (qt_pure (by kernel_rfl) fun _ => by kernel_rfl) ?_)
  refine A.cons (A.q (some 10) (.int .i64 7) (by kernel_rfl) (qt_pure (by kernel_rfl) fun _ => by kernel_rfl) ?_)
  refine A.cons (A.alloc 4 [(.int .u64 0), (.int .i64 0), (.int .u16 0), (.int .u16 0), (.int .u16 0), (.int .u16 0)] (by kernel_rfl) rfl (by kernel_rfl) (fun b3 => [blk b1 [(.int .u64 x.id), (.int .i64 x.len), (.int .u16 x.h0), (.int .u16 x.h1), (.int .u16 x.h2), (.int .u16 x.h3)] 74, blk b3 [(.int .u64 0), (.int .i64 0), (.int .u16 0), (.int .u16 0), (.int .u16 0), (.int .u16 0)] 74]) (fun _ => rfl) ?_)
  intro b3
  refine A.cons (A.store 1 (vs := [(.int .u64 0), (.int .i64 0), (.int .u16 0), (.int .u16 0), (.int .u16 0), (.int .u16 0)]) [blk b1 [(.int .u64 x.id), (.int .i64 x.len), (.int .u16 x.h0), (.int .u16 x.h1), (.int .u16 x.h2), (.int .u16 x.h3)] 74, blk b3 [(.int .u64 0), (.int .i64 0), (.int .u16 0), (.int .u16 0), (.int .u16 0), (.int .u16 0)] 74] (by kernel_rfl) rfl rfl rfl rfl (by kernel_rfl) rfl rfl (by kernel_rfl) rfl ?_)
  refine A.cons (A.q (some 5) (.int .i64 7) (by kernel_rfl) (qt_assign rfl rfl) ?_)
  refine A.done ?_
  refine A.norm [(0, (.agg #[(.int .u64 x.id), (.int .i64 x.len), (.int .u16 x.h0), (.int .u16 x.h1), (.int .u16 x.h2), (.int .u16 x.h3)])), (1, (.pointer (some ⟨b1, 0, none⟩))), (2, (.bool false)), (3, (.pointer none)), (4, (.pointer (some ⟨b3, 0, none⟩))), (5, (.int .i64 7))] [blk b1 [(.int .u64 x.id), (.int .i64 x.len), (.int .u16 x.h0), (.int .u16 x.h1), (.int .u16 x.h2), (.int .u16 x.h3)] 74, blk b3 [(.int .u64 0), (.int .i64 0), (.int .u16 0), (.int .u16 0), (.int .u16 0), (.int .u16 0)] 74] (by exact ⟨rfl, rfl, rfl, rfl, rfl, rfl, trivial⟩) rfl ?_
  refine A.tn ?_
  refine A.seq ?_
  refine A.region ?_
  refine A.cons (A.q (some 11) (.agg #[(.int .u64 0), (.int .i64 0), (.int .u16 0), (.int .u16 0), (.int .u16 0), (.int .u16 0)]) (by kernel_rfl) (qt_loadN (vs := [(.int .u64 0), (.int .i64 0), (.int .u16 0), (.int .u16 0), (.int .u16 0), (.int .u16 0)]) rfl rfl (by kernel_rfl) (reads_blk (i := 1) rfl rfl)) ?_)
  refine A.cons (A.q (some 12) (.agg #[(.int .u64 0), (.int .i64 0), (.int .u16 0), (.int .u16 0), (.int .u16 0), (.int .u16 0)]) (by kernel_rfl) (qt_pure (by kernel_rfl) fun _ => by kernel_rfl) ?_)
  refine A.cons (A.q (some 13) (.bool true) (by kernel_rfl) (qt_eqlA rfl rfl rfl (by kernel_rfl) (by kernel_rfl)) ?_)
  refine A.cons (A.q (some 14) (.bool true) (by kernel_rfl) (qt_move rfl rfl) ?_)
  refine A.cons (A.q (some 15) (.int .i64 7) (by kernel_rfl) (qt_move rfl rfl) ?_)
  refine A.cons (A.q (some 16) (.bool true) (by kernel_rfl) (qt_pure (by kernel_rfl) fun _ => by kernel_rfl) ?_)
  refine A.cons (A.q (some 17) (.bool true) (by kernel_rfl) (qt_pure (by kernel_rfl) fun _ => by kernel_rfl) ?_)
  refine A.cons (A.q (some 18) (.bool true) (by kernel_rfl) (qt_move rfl rfl) ?_)
  refine A.cons (A.q (some 19) (.pointer none) (by kernel_rfl) (qt_move rfl rfl) ?_)
  refine A.cons (A.q (some 20) (.agg #[(.int .u64 x.id), (.int .i64 x.len), (.int .u16 x.h0), (.int .u16 x.h1), (.int .u16 x.h2), (.int .u16 x.h3)]) (by kernel_rfl) (qt_loadN (vs := [(.int .u64 x.id), (.int .i64 x.len), (.int .u16 x.h0), (.int .u16 x.h1), (.int .u16 x.h2), (.int .u16 x.h3)]) rfl rfl (by kernel_rfl) (reads_blk (i := 0) rfl rfl)) ?_)
  refine A.cons (A.inl (some 21) [(.pointer none), (.agg #[(.int .u64 x.id), (.int .i64 x.len), (.int .u16 x.h0), (.int .u16 x.h1), (.int .u16 x.h2), (.int .u16 x.h3)])] [(0, (.pointer none)), (1, (.agg #[(.int .u64 x.id), (.int .i64 x.len), (.int .u16 x.h0), (.int .u16 x.h1), (.int .u16 x.h2), (.int .u16 x.h3)]))] (by kernel_rfl) rfl (by kernel_rfl) rfl Try.func43 rfl rfl rfl ?_)
  refine A.seq ?_
  refine A.region ?_
  refine A.cons (A.box 3 [(.int .u64 x.id), (.int .i64 x.len), (.int .u16 x.h0), (.int .u16 x.h1), (.int .u16 x.h2), (.int .u16 x.h3)] (by kernel_rfl) rfl rfl rfl (fun b4 => [blk b1 [(.int .u64 x.id), (.int .i64 x.len), (.int .u16 x.h0), (.int .u16 x.h1), (.int .u16 x.h2), (.int .u16 x.h3)] 74, blk b3 [(.int .u64 0), (.int .i64 0), (.int .u16 0), (.int .u16 0), (.int .u16 0), (.int .u16 0)] 74, blk b4 [(.int .u64 x.id), (.int .i64 x.len), (.int .u16 x.h0), (.int .u16 x.h1), (.int .u16 x.h2), (.int .u16 x.h3)] 74]) (fun _ => rfl) ?_)
  intro b4
  refine A.cons (A.q (some 4) (.int .i64 0) (by kernel_rfl) (qt_assign rfl rfl) ?_)
  refine A.done ?_
  refine A.norm [(0, (.pointer none)), (1, (.agg #[(.int .u64 x.id), (.int .i64 x.len), (.int .u16 x.h0), (.int .u16 x.h1), (.int .u16 x.h2), (.int .u16 x.h3)])), (3, (.pointer (some ⟨b4, 0, none⟩))), (4, (.int .i64 0))] [blk b1 [(.int .u64 x.id), (.int .i64 x.len), (.int .u16 x.h0), (.int .u16 x.h1), (.int .u16 x.h2), (.int .u16 x.h3)] 74, blk b3 [(.int .u64 0), (.int .i64 0), (.int .u16 0), (.int .u16 0), (.int .u16 0), (.int .u16 0)] 74, blk b4 [(.int .u64 x.id), (.int .i64 x.len), (.int .u16 x.h0), (.int .u16 x.h1), (.int .u16 x.h2), (.int .u16 x.h3)] 74] (by exact ⟨rfl, rfl, rfl, rfl, trivial⟩) rfl ?_
  refine A.tn ?_
  refine A.seq ?_
  refine A.block ?_
  refine A.seq ?_
  refine A.region ?_
  refine A.cons (A.q (some 6) (.pointer none) (by kernel_rfl) (qt_move rfl rfl) ?_)
  refine A.cons (A.q (some 7) (.bool true) (by kernel_rfl) (qt_pure (by kernel_rfl) fun _ => by kernel_rfl) ?_)
  refine A.cons (A.q (some 5) (.bool true) (by kernel_rfl) (qt_assign rfl rfl) ?_)
  refine A.done ?_
  refine A.norm [(0, (.pointer none)), (1, (.agg #[(.int .u64 x.id), (.int .i64 x.len), (.int .u16 x.h0), (.int .u16 x.h1), (.int .u16 x.h2), (.int .u16 x.h3)])), (3, (.pointer (some ⟨b4, 0, none⟩))), (4, (.int .i64 0)), (5, (.bool true))] [blk b1 [(.int .u64 x.id), (.int .i64 x.len), (.int .u16 x.h0), (.int .u16 x.h1), (.int .u16 x.h2), (.int .u16 x.h3)] 74, blk b3 [(.int .u64 0), (.int .i64 0), (.int .u16 0), (.int .u16 0), (.int .u16 0), (.int .u16 0)] 74, blk b4 [(.int .u64 x.id), (.int .i64 x.len), (.int .u16 x.h0), (.int .u16 x.h1), (.int .u16 x.h2), (.int .u16 x.h3)] 74] (by exact ⟨rfl, rfl, rfl, rfl, rfl, trivial⟩) rfl ?_
  refine A.tn ?_
  refine A.cond_t rfl ?_
  refine A.seq ?_
  refine A.region ?_
  refine A.cons (A.q (some 4) (.int .i64 7) (by kernel_rfl) (qt_assign rfl rfl) ?_)
  refine A.done ?_
  refine A.norm [(0, (.pointer none)), (1, (.agg #[(.int .u64 x.id), (.int .i64 x.len), (.int .u16 x.h0), (.int .u16 x.h1), (.int .u16 x.h2), (.int .u16 x.h3)])), (3, (.pointer (some ⟨b4, 0, none⟩))), (4, (.int .i64 7)), (5, (.bool true))] [blk b1 [(.int .u64 x.id), (.int .i64 x.len), (.int .u16 x.h0), (.int .u16 x.h1), (.int .u16 x.h2), (.int .u16 x.h3)] 74, blk b3 [(.int .u64 0), (.int .i64 0), (.int .u16 0), (.int .u16 0), (.int .u16 0), (.int .u16 0)] 74, blk b4 [(.int .u64 x.id), (.int .i64 x.len), (.int .u16 x.h0), (.int .u16 x.h1), (.int .u16 x.h2), (.int .u16 x.h3)] 74] (by exact ⟨rfl, rfl, rfl, rfl, rfl, trivial⟩) rfl ?_
  refine A.tn ?_
  refine A.ret ?_
  refine A.br ?_
  refine A.tr ?_
  refine A.post [(.int .i64 7)] (fun a w r s => ⟨rv_tmp r rfl, trivial⟩) (A.back (by kernel_rfl) ?_)
  refine A.items [blk b1 [(.int .u64 x.id), (.int .i64 x.len), (.int .u16 x.h0), (.int .u16 x.h1), (.int .u16 x.h2), (.int .u16 x.h3)] 74, blk b3 [(.int .u64 0), (.int .i64 0), (.int .u16 0), (.int .u16 0), (.int .u16 0), (.int .u16 0)] 74] (List.Sublist.cons_cons _ (List.Sublist.cons_cons _ (List.Sublist.cons _ (List.Sublist.slnil)))) ?_
  refine A.cons (A.q (some 22) (.bool true) (by kernel_rfl) (qt_pure (by kernel_rfl) fun _ => by kernel_rfl) ?_)
  refine A.cons (A.q (some 23) (.bool true) (by kernel_rfl) (qt_pure (by kernel_rfl) fun _ => by kernel_rfl) ?_)
  refine A.cons (A.q (some 24) (.bool true) (by kernel_rfl) (qt_move rfl rfl) ?_)
  refine A.cons (A.q (some 25) (.pointer none) (by kernel_rfl) (qt_move rfl rfl) ?_)
  refine A.cons (A.inl (some 26) [(.pointer none)] [(0, (.pointer none))] (by kernel_rfl) rfl (by kernel_rfl) rfl Try.func52 rfl rfl rfl ?_)
  refine A.seq ?_
  refine A.region ?_
  refine A.cons (A.q (some 2) (.int .i64 0) (by kernel_rfl) (qt_assign rfl rfl) ?_)
  refine A.done ?_
  refine A.norm [(0, (.pointer none)), (2, (.int .i64 0))] [blk b1 [(.int .u64 x.id), (.int .i64 x.len), (.int .u16 x.h0), (.int .u16 x.h1), (.int .u16 x.h2), (.int .u16 x.h3)] 74, blk b3 [(.int .u64 0), (.int .i64 0), (.int .u16 0), (.int .u16 0), (.int .u16 0), (.int .u16 0)] 74] (by exact ⟨rfl, rfl, trivial⟩) rfl ?_
  refine A.tn ?_
  refine A.seq ?_
  refine A.seq ?_
  refine A.region ?_
  refine A.cons (A.q (some 5) (.pointer none) (by kernel_rfl) (qt_move rfl rfl) ?_)
  refine A.cons (A.inl (some 6) [(.pointer none)] [(0, (.pointer none))] (by kernel_rfl) rfl (by kernel_rfl) rfl Try.func51 rfl rfl rfl ?_)
  refine A.seq ?_
  refine A.region ?_
  refine A.cons (A.q (some 2) (.int .i64 0) (by kernel_rfl) (qt_assign rfl rfl) ?_)
  refine A.done ?_
  refine A.norm [(0, (.pointer none)), (2, (.int .i64 0))] [blk b1 [(.int .u64 x.id), (.int .i64 x.len), (.int .u16 x.h0), (.int .u16 x.h1), (.int .u16 x.h2), (.int .u16 x.h3)] 74, blk b3 [(.int .u64 0), (.int .i64 0), (.int .u16 0), (.int .u16 0), (.int .u16 0), (.int .u16 0)] 74] (by exact ⟨rfl, rfl, trivial⟩) rfl ?_
  refine A.tn ?_
  refine A.seq ?_
  refine A.seq ?_
  refine A.region ?_
  refine A.cons (A.q (some 3) (.pointer none) (by kernel_rfl) (qt_move rfl rfl) ?_)
  refine A.cons (A.q (some 4) (.bool true) (by kernel_rfl) (qt_pure (by kernel_rfl) fun _ => by kernel_rfl) ?_)
  refine A.done ?_
  refine A.norm [(0, (.pointer none)), (2, (.int .i64 0)), (4, (.bool true))] [blk b1 [(.int .u64 x.id), (.int .i64 x.len), (.int .u16 x.h0), (.int .u16 x.h1), (.int .u16 x.h2), (.int .u16 x.h3)] 74, blk b3 [(.int .u64 0), (.int .i64 0), (.int .u16 0), (.int .u16 0), (.int .u16 0), (.int .u16 0)] 74] (by exact ⟨rfl, rfl, rfl, trivial⟩) rfl ?_
  refine A.tn ?_
  refine A.cond_t rfl ?_
  refine A.seq ?_
  refine A.region ?_
  refine A.cons (A.q (some 2) (.int .i64 0) (by kernel_rfl) (qt_assign rfl rfl) ?_)
  refine A.done ?_
  refine A.norm [(0, (.pointer none)), (2, (.int .i64 0)), (4, (.bool true))] [blk b1 [(.int .u64 x.id), (.int .i64 x.len), (.int .u16 x.h0), (.int .u16 x.h1), (.int .u16 x.h2), (.int .u16 x.h3)] 74, blk b3 [(.int .u64 0), (.int .i64 0), (.int .u16 0), (.int .u16 0), (.int .u16 0), (.int .u16 0)] 74] (by exact ⟨rfl, rfl, rfl, trivial⟩) rfl ?_
  refine A.tn ?_
  refine A.ret ?_
  refine A.tr ?_
  refine A.post [(.int .i64 0)] (fun a w r s => ⟨rv_tmp r rfl, trivial⟩) (A.back (by kernel_rfl) ?_)
  refine A.cons (A.q (some 7) (.bool true) (by kernel_rfl) (qt_pure (by kernel_rfl) fun _ => by kernel_rfl) ?_)
  refine A.done ?_
  refine A.norm [(0, (.pointer none)), (2, (.int .i64 0)), (7, (.bool true))] [blk b1 [(.int .u64 x.id), (.int .i64 x.len), (.int .u16 x.h0), (.int .u16 x.h1), (.int .u16 x.h2), (.int .u16 x.h3)] 74, blk b3 [(.int .u64 0), (.int .i64 0), (.int .u16 0), (.int .u16 0), (.int .u16 0), (.int .u16 0)] 74] (by exact ⟨rfl, rfl, rfl, trivial⟩) rfl ?_
  refine A.tn ?_
  refine A.cond_t rfl ?_
  refine A.seq ?_
  refine A.region ?_
  refine A.cons (A.q (some 2) (.int .i64 0) (by kernel_rfl) (qt_assign rfl rfl) ?_)
  refine A.done ?_
  refine A.norm [(0, (.pointer none)), (2, (.int .i64 0)), (7, (.bool true))] [blk b1 [(.int .u64 x.id), (.int .i64 x.len), (.int .u16 x.h0), (.int .u16 x.h1), (.int .u16 x.h2), (.int .u16 x.h3)] 74, blk b3 [(.int .u64 0), (.int .i64 0), (.int .u16 0), (.int .u16 0), (.int .u16 0), (.int .u16 0)] 74] (by exact ⟨rfl, rfl, rfl, trivial⟩) rfl ?_
  refine A.tn ?_
  refine A.ret ?_
  refine A.tr ?_
  refine A.post [(.int .i64 0)] (fun a w r s => ⟨rv_tmp r rfl, trivial⟩) (A.back (by kernel_rfl) ?_)
  refine A.cons (A.q (some 27) (.bool true) (by kernel_rfl) (qt_pure (by kernel_rfl) fun _ => by kernel_rfl) ?_)
  refine A.cons (A.q (some 28) (.bool true) (by kernel_rfl) (qt_pure (by kernel_rfl) fun _ => by kernel_rfl) ?_)
  refine A.cons (A.q (some 29) (.bool true) (by kernel_rfl) (qt_move rfl rfl) ?_)
  refine A.cons (A.q (some 30) (.pointer none) (by kernel_rfl) (qt_move rfl rfl) ?_)
  refine A.cons (A.inl (some 31) [(.pointer none)] [(0, (.pointer none))] (by kernel_rfl) rfl (by kernel_rfl) rfl Try.func51 rfl rfl rfl ?_)
  refine A.seq ?_
  refine A.region ?_
  refine A.cons (A.q (some 2) (.int .i64 0) (by kernel_rfl) (qt_assign rfl rfl) ?_)
  refine A.done ?_
  refine A.norm [(0, (.pointer none)), (2, (.int .i64 0))] [blk b1 [(.int .u64 x.id), (.int .i64 x.len), (.int .u16 x.h0), (.int .u16 x.h1), (.int .u16 x.h2), (.int .u16 x.h3)] 74, blk b3 [(.int .u64 0), (.int .i64 0), (.int .u16 0), (.int .u16 0), (.int .u16 0), (.int .u16 0)] 74] (by exact ⟨rfl, rfl, trivial⟩) rfl ?_
  refine A.tn ?_
  refine A.seq ?_
  refine A.seq ?_
  refine A.region ?_
  refine A.cons (A.q (some 3) (.pointer none) (by kernel_rfl) (qt_move rfl rfl) ?_)
  refine A.cons (A.q (some 4) (.bool true) (by kernel_rfl) (qt_pure (by kernel_rfl) fun _ => by kernel_rfl) ?_)
  refine A.done ?_
  refine A.norm [(0, (.pointer none)), (2, (.int .i64 0)), (4, (.bool true))] [blk b1 [(.int .u64 x.id), (.int .i64 x.len), (.int .u16 x.h0), (.int .u16 x.h1), (.int .u16 x.h2), (.int .u16 x.h3)] 74, blk b3 [(.int .u64 0), (.int .i64 0), (.int .u16 0), (.int .u16 0), (.int .u16 0), (.int .u16 0)] 74] (by exact ⟨rfl, rfl, rfl, trivial⟩) rfl ?_
  refine A.tn ?_
  refine A.cond_t rfl ?_
  refine A.seq ?_
  refine A.region ?_
  refine A.cons (A.q (some 2) (.int .i64 0) (by kernel_rfl) (qt_assign rfl rfl) ?_)
  refine A.done ?_
  refine A.norm [(0, (.pointer none)), (2, (.int .i64 0)), (4, (.bool true))] [blk b1 [(.int .u64 x.id), (.int .i64 x.len), (.int .u16 x.h0), (.int .u16 x.h1), (.int .u16 x.h2), (.int .u16 x.h3)] 74, blk b3 [(.int .u64 0), (.int .i64 0), (.int .u16 0), (.int .u16 0), (.int .u16 0), (.int .u16 0)] 74] (by exact ⟨rfl, rfl, rfl, trivial⟩) rfl ?_
  refine A.tn ?_
  refine A.ret ?_
  refine A.tr ?_
  refine A.post [(.int .i64 0)] (fun a w r s => ⟨rv_tmp r rfl, trivial⟩) (A.back (by kernel_rfl) ?_)
  refine A.cons (A.q (some 32) (.bool true) (by kernel_rfl) (qt_pure (by kernel_rfl) fun _ => by kernel_rfl) ?_)
  refine A.cons (A.q (some 33) (.bool true) (by kernel_rfl) (qt_pure (by kernel_rfl) fun _ => by kernel_rfl) ?_)
  refine A.cons (A.q (some 34) (.bool true) (by kernel_rfl) (qt_move rfl rfl) ?_)
  refine A.cons (A.q (some 35) (.pointer none) (by kernel_rfl) (qt_move rfl rfl) ?_)
  refine A.cons (A.inl (some 36) [(.pointer none)] [(0, (.pointer none))] (by kernel_rfl) rfl (by kernel_rfl) rfl Try.func46 rfl rfl rfl ?_)
  refine A.seq ?_
  refine A.region ?_
  refine A.cons (A.q (some 2) (.int .i64 0) (by kernel_rfl) (qt_assign rfl rfl) ?_)
  refine A.done ?_
  refine A.norm [(0, (.pointer none)), (2, (.int .i64 0))] [blk b1 [(.int .u64 x.id), (.int .i64 x.len), (.int .u16 x.h0), (.int .u16 x.h1), (.int .u16 x.h2), (.int .u16 x.h3)] 74, blk b3 [(.int .u64 0), (.int .i64 0), (.int .u16 0), (.int .u16 0), (.int .u16 0), (.int .u16 0)] 74] (by exact ⟨rfl, rfl, trivial⟩) rfl ?_
  refine A.tn ?_
  refine A.seq ?_
  refine A.seq ?_
  refine A.region ?_
  refine A.cons (A.q (some 3) (.pointer none) (by kernel_rfl) (qt_move rfl rfl) ?_)
  refine A.cons (A.q (some 4) (.bool true) (by kernel_rfl) (qt_pure (by kernel_rfl) fun _ => by kernel_rfl) ?_)
  refine A.done ?_
  refine A.norm [(0, (.pointer none)), (2, (.int .i64 0)), (4, (.bool true))] [blk b1 [(.int .u64 x.id), (.int .i64 x.len), (.int .u16 x.h0), (.int .u16 x.h1), (.int .u16 x.h2), (.int .u16 x.h3)] 74, blk b3 [(.int .u64 0), (.int .i64 0), (.int .u16 0), (.int .u16 0), (.int .u16 0), (.int .u16 0)] 74] (by exact ⟨rfl, rfl, rfl, trivial⟩) rfl ?_
  refine A.tn ?_
  refine A.cond_t rfl ?_
  refine A.seq ?_
  refine A.region ?_
  refine A.cons (A.q (some 2) (.int .i64 0) (by kernel_rfl) (qt_assign rfl rfl) ?_)
  refine A.done ?_
  refine A.norm [(0, (.pointer none)), (2, (.int .i64 0)), (4, (.bool true))] [blk b1 [(.int .u64 x.id), (.int .i64 x.len), (.int .u16 x.h0), (.int .u16 x.h1), (.int .u16 x.h2), (.int .u16 x.h3)] 74, blk b3 [(.int .u64 0), (.int .i64 0), (.int .u16 0), (.int .u16 0), (.int .u16 0), (.int .u16 0)] 74] (by exact ⟨rfl, rfl, rfl, trivial⟩) rfl ?_
  refine A.tn ?_
  refine A.ret ?_
  refine A.tr ?_
  refine A.post [(.int .i64 0)] (fun a w r s => ⟨rv_tmp r rfl, trivial⟩) (A.back (by kernel_rfl) ?_)
  refine A.cons (A.q (some 37) (.bool true) (by kernel_rfl) (qt_pure (by kernel_rfl) fun _ => by kernel_rfl) ?_)
  refine A.cons (A.q (some 38) (.bool true) (by kernel_rfl) (qt_pure (by kernel_rfl) fun _ => by kernel_rfl) ?_)
  refine A.cons (A.q (some 39) (.bool true) (by kernel_rfl) (qt_move rfl rfl) ?_)
  refine A.cons (A.q (some 40) (.pointer none) (by kernel_rfl) (qt_move rfl rfl) ?_)
  refine A.cons (A.inl (some 41) [(.pointer none)] [(0, (.pointer none))] (by kernel_rfl) rfl (by kernel_rfl) rfl Try.func49 rfl rfl rfl ?_)
  refine A.seq ?_
  refine A.region ?_
  refine A.cons (A.alloc 2 [(.int .u64 0), (.int .u64 0), (.int .u64 0), (.int .u64 0), (.int .u64 0), (.int .u64 0)] (by kernel_rfl) rfl (by kernel_rfl) (fun b5 => [blk b1 [(.int .u64 x.id), (.int .i64 x.len), (.int .u16 x.h0), (.int .u16 x.h1), (.int .u16 x.h2), (.int .u16 x.h3)] 74, blk b3 [(.int .u64 0), (.int .i64 0), (.int .u16 0), (.int .u16 0), (.int .u16 0), (.int .u16 0)] 74, blk b5 [(.int .u64 0), (.int .u64 0), (.int .u64 0), (.int .u64 0), (.int .u64 0), (.int .u64 0)] 87]) (fun _ => rfl) ?_)
  intro b5
  refine A.done ?_
  refine A.norm [(0, (.pointer none)), (2, (.pointer (some ⟨b5, 0, none⟩)))] [blk b1 [(.int .u64 x.id), (.int .i64 x.len), (.int .u16 x.h0), (.int .u16 x.h1), (.int .u16 x.h2), (.int .u16 x.h3)] 74, blk b3 [(.int .u64 0), (.int .i64 0), (.int .u16 0), (.int .u16 0), (.int .u16 0), (.int .u16 0)] 74, blk b5 [(.int .u64 0), (.int .u64 0), (.int .u64 0), (.int .u64 0), (.int .u64 0), (.int .u64 0)] 87] (by exact ⟨rfl, rfl, trivial⟩) rfl ?_
  refine A.tn ?_
  refine A.seq ?_
  refine A.seq ?_
  refine A.region ?_
  refine A.cons (A.q (some 3) (.pointer none) (by kernel_rfl) (qt_move rfl rfl) ?_)
  refine A.cons (A.q (some 4) (.bool true) (by kernel_rfl) (qt_pure (by kernel_rfl) fun _ => by kernel_rfl) ?_)
  refine A.done ?_
  refine A.norm [(0, (.pointer none)), (2, (.pointer (some ⟨b5, 0, none⟩))), (4, (.bool true))] [blk b1 [(.int .u64 x.id), (.int .i64 x.len), (.int .u16 x.h0), (.int .u16 x.h1), (.int .u16 x.h2), (.int .u16 x.h3)] 74, blk b3 [(.int .u64 0), (.int .i64 0), (.int .u16 0), (.int .u16 0), (.int .u16 0), (.int .u16 0)] 74, blk b5 [(.int .u64 0), (.int .u64 0), (.int .u64 0), (.int .u64 0), (.int .u64 0), (.int .u64 0)] 87] (by exact ⟨rfl, rfl, rfl, trivial⟩) rfl ?_
  refine A.tn ?_
  refine A.cond_t rfl ?_
  refine A.seq ?_
  refine A.region ?_
  refine A.cons (A.q (some 5) (.agg #[(.int .u64 0), (.int .u64 0), (.int .u64 0), (.int .u64 0), (.int .u64 0), (.int .u64 0)]) (by kernel_rfl) (qt_pure (by kernel_rfl) fun _ => by kernel_rfl) ?_)
  refine A.cons (A.store 2 (vs := [(.int .u64 0), (.int .u64 0), (.int .u64 0), (.int .u64 0), (.int .u64 0), (.int .u64 0)]) [blk b1 [(.int .u64 x.id), (.int .i64 x.len), (.int .u16 x.h0), (.int .u16 x.h1), (.int .u16 x.h2), (.int .u16 x.h3)] 74, blk b3 [(.int .u64 0), (.int .i64 0), (.int .u16 0), (.int .u16 0), (.int .u16 0), (.int .u16 0)] 74, blk b5 [(.int .u64 0), (.int .u64 0), (.int .u64 0), (.int .u64 0), (.int .u64 0), (.int .u64 0)] 87] (by kernel_rfl) rfl rfl rfl rfl (by kernel_rfl) rfl rfl (by kernel_rfl) rfl ?_)
  refine A.done ?_
  refine A.norm [(0, (.pointer none)), (2, (.pointer (some ⟨b5, 0, none⟩))), (4, (.bool true))] [blk b1 [(.int .u64 x.id), (.int .i64 x.len), (.int .u16 x.h0), (.int .u16 x.h1), (.int .u16 x.h2), (.int .u16 x.h3)] 74, blk b3 [(.int .u64 0), (.int .i64 0), (.int .u16 0), (.int .u16 0), (.int .u16 0), (.int .u16 0)] 74, blk b5 [(.int .u64 0), (.int .u64 0), (.int .u64 0), (.int .u64 0), (.int .u64 0), (.int .u64 0)] 87] (by exact ⟨rfl, rfl, rfl, trivial⟩) rfl ?_
  refine A.tn ?_
  refine A.ret ?_
  refine A.tr ?_
  refine A.post [(.agg #[(.int .u64 0), (.int .u64 0), (.int .u64 0), (.int .u64 0), (.int .u64 0), (.int .u64 0)])] (fun a w r s => ⟨rv_cellN (vs := [(.int .u64 0), (.int .u64 0), (.int .u64 0), (.int .u64 0), (.int .u64 0), (.int .u64 0)]) r s rfl (by kernel_rfl) (reads_blk (i := 2) rfl rfl), trivial⟩) (A.back (by kernel_rfl) ?_)
  refine A.items [blk b1 [(.int .u64 x.id), (.int .i64 x.len), (.int .u16 x.h0), (.int .u16 x.h1), (.int .u16 x.h2), (.int .u16 x.h3)] 74, blk b3 [(.int .u64 0), (.int .i64 0), (.int .u16 0), (.int .u16 0), (.int .u16 0), (.int .u16 0)] 74] (List.Sublist.cons_cons _ (List.Sublist.cons_cons _ (List.Sublist.cons _ (List.Sublist.slnil)))) ?_
  refine A.cons (A.q (some 42) (.agg #[(.int .u64 0), (.int .u64 0), (.int .u64 0), (.int .u64 0), (.int .u64 0), (.int .u64 0)]) (by kernel_rfl) (qt_pure (by kernel_rfl) fun _ => by kernel_rfl) ?_)
  refine A.cons (A.q (some 43) (.bool true) (by kernel_rfl) (qt_eqlA rfl rfl rfl (by kernel_rfl) (by kernel_rfl)) ?_)
  refine A.cons (A.q (some 44) (.bool true) (by kernel_rfl) (qt_pure (by kernel_rfl) fun _ => by kernel_rfl) ?_)
  refine A.cons (A.q (some 45) (.bool true) (by kernel_rfl) (qt_move rfl rfl) ?_)
  refine A.cons (A.q (some 46) (.pointer none) (by kernel_rfl) (qt_move rfl rfl) ?_)
  refine A.cons (A.inl (some 47) [(.pointer none)] [(0, (.pointer none))] (by kernel_rfl) rfl (by kernel_rfl) rfl Try.func53 rfl rfl rfl ?_)
  refine A.seq ?_
  refine A.region ?_
  refine A.cons (A.q (some 2) (.slice none 0 0) (by kernel_rfl) (qt_assign rfl rfl) ?_)
  refine A.done ?_
  refine A.norm [(0, (.pointer none)), (2, (.slice none 0 0))] [blk b1 [(.int .u64 x.id), (.int .i64 x.len), (.int .u16 x.h0), (.int .u16 x.h1), (.int .u16 x.h2), (.int .u16 x.h3)] 74, blk b3 [(.int .u64 0), (.int .i64 0), (.int .u16 0), (.int .u16 0), (.int .u16 0), (.int .u16 0)] 74] (by exact ⟨rfl, rfl, trivial⟩) rfl ?_
  refine A.tn ?_
  refine A.seq ?_
  refine A.region ?_
  refine A.cons (A.q (some 3) (.slice none 0 0) (by kernel_rfl) (qt_assign rfl rfl) ?_)
  refine A.done ?_
  refine A.norm [(0, (.pointer none)), (2, (.slice none 0 0)), (3, (.slice none 0 0))] [blk b1 [(.int .u64 x.id), (.int .i64 x.len), (.int .u16 x.h0), (.int .u16 x.h1), (.int .u16 x.h2), (.int .u16 x.h3)] 74, blk b3 [(.int .u64 0), (.int .i64 0), (.int .u16 0), (.int .u16 0), (.int .u16 0), (.int .u16 0)] 74] (by exact ⟨rfl, rfl, rfl, trivial⟩) rfl ?_
  refine A.tn ?_
  refine A.seq ?_
  refine A.seq ?_
  refine A.region ?_
  refine A.cons (A.q (some 7) (.pointer none) (by kernel_rfl) (qt_move rfl rfl) ?_)
  refine A.cons (A.inl (some 8) [(.pointer none)] [(0, (.pointer none))] (by kernel_rfl) rfl (by kernel_rfl) rfl Try.func51 rfl rfl rfl ?_)
  refine A.seq ?_
  refine A.region ?_
  refine A.cons (A.q (some 2) (.int .i64 0) (by kernel_rfl) (qt_assign rfl rfl) ?_)
  refine A.done ?_
  refine A.norm [(0, (.pointer none)), (2, (.int .i64 0))] [blk b1 [(.int .u64 x.id), (.int .i64 x.len), (.int .u16 x.h0), (.int .u16 x.h1), (.int .u16 x.h2), (.int .u16 x.h3)] 74, blk b3 [(.int .u64 0), (.int .i64 0), (.int .u16 0), (.int .u16 0), (.int .u16 0), (.int .u16 0)] 74] (by exact ⟨rfl, rfl, trivial⟩) rfl ?_
  refine A.tn ?_
  refine A.seq ?_
  refine A.seq ?_
  refine A.region ?_
  refine A.cons (A.q (some 3) (.pointer none) (by kernel_rfl) (qt_move rfl rfl) ?_)
  refine A.cons (A.q (some 4) (.bool true) (by kernel_rfl) (qt_pure (by kernel_rfl) fun _ => by kernel_rfl) ?_)
  refine A.done ?_
  refine A.norm [(0, (.pointer none)), (2, (.int .i64 0)), (4, (.bool true))] [blk b1 [(.int .u64 x.id), (.int .i64 x.len), (.int .u16 x.h0), (.int .u16 x.h1), (.int .u16 x.h2), (.int .u16 x.h3)] 74, blk b3 [(.int .u64 0), (.int .i64 0), (.int .u16 0), (.int .u16 0), (.int .u16 0), (.int .u16 0)] 74] (by exact ⟨rfl, rfl, rfl, trivial⟩) rfl ?_
  refine A.tn ?_
  refine A.cond_t rfl ?_
  refine A.seq ?_
  refine A.region ?_
  refine A.cons (A.q (some 2) (.int .i64 0) (by kernel_rfl) (qt_assign rfl rfl) ?_)
  refine A.done ?_
  refine A.norm [(0, (.pointer none)), (2, (.int .i64 0)), (4, (.bool true))] [blk b1 [(.int .u64 x.id), (.int .i64 x.len), (.int .u16 x.h0), (.int .u16 x.h1), (.int .u16 x.h2), (.int .u16 x.h3)] 74, blk b3 [(.int .u64 0), (.int .i64 0), (.int .u16 0), (.int .u16 0), (.int .u16 0), (.int .u16 0)] 74] (by exact ⟨rfl, rfl, rfl, trivial⟩) rfl ?_
  refine A.tn ?_
  refine A.ret ?_
  refine A.tr ?_
  refine A.post [(.int .i64 0)] (fun a w r s => ⟨rv_tmp r rfl, trivial⟩) (A.back (by kernel_rfl) ?_)
  refine A.cons (A.q (some 9) (.int .i64 0) (by kernel_rfl) (qt_move rfl rfl) ?_)
  refine A.done ?_
  refine A.norm [(0, (.pointer none)), (2, (.slice none 0 0)), (3, (.slice none 0 0)), (8, (.int .i64 0)), (9, (.int .i64 0))] [blk b1 [(.int .u64 x.id), (.int .i64 x.len), (.int .u16 x.h0), (.int .u16 x.h1), (.int .u16 x.h2), (.int .u16 x.h3)] 74, blk b3 [(.int .u64 0), (.int .i64 0), (.int .u16 0), (.int .u16 0), (.int .u16 0), (.int .u16 0)] 74] (by exact ⟨rfl, rfl, rfl, rfl, rfl, trivial⟩) rfl ?_
  refine A.tn ?_
  refine A.block ?_
  refine A.unroll 400 ?_
  refine A.norm [(0, (.pointer none)), (2, (.slice none 0 0)), (3, (.slice none 0 0)), (8, (.int .i64 0)), (9, (.int .i64 0))] [blk b1 [(.int .u64 x.id), (.int .i64 x.len), (.int .u16 x.h0), (.int .u16 x.h1), (.int .u16 x.h2), (.int .u16 x.h3)] 74, blk b3 [(.int .u64 0), (.int .i64 0), (.int .u16 0), (.int .u16 0), (.int .u16 0), (.int .u16 0)] 74] (by exact ⟨rfl, rfl, rfl, rfl, rfl, trivial⟩) rfl (A.turnk (m := 399) ?_)
  refine A.seq ?_
  refine A.region ?_
  refine A.cons (A.q (some 10) (.bool false) (by kernel_rfl) (qt_pure (by kernel_rfl) fun _ => by kernel_rfl) ?_)
  refine A.done ?_
  refine A.norm [(0, (.pointer none)), (2, (.slice none 0 0)), (3, (.slice none 0 0)), (8, (.int .i64 0)), (9, (.int .i64 0)), (10, (.bool false))] [blk b1 [(.int .u64 x.id), (.int .i64 x.len), (.int .u16 x.h0), (.int .u16 x.h1), (.int .u16 x.h2), (.int .u16 x.h3)] 74, blk b3 [(.int .u64 0), (.int .i64 0), (.int .u16 0), (.int .u16 0), (.int .u16 0), (.int .u16 0)] 74] (by exact ⟨rfl, rfl, rfl, rfl, rfl, rfl, trivial⟩) rfl ?_
  refine A.tn ?_
  refine A.seq ?_
  refine A.cond_f rfl ?_
  refine A.exit ?_
  refine A.te ?_
  refine A.te ?_
  refine A.bh ?_
  refine A.tn ?_
  refine A.seq ?_
  refine A.region ?_
  refine A.cons (A.q (some 26) (.slice none 0 0) (by kernel_rfl) (qt_move rfl rfl) ?_)
  refine A.cons (A.q (some 2) (.slice none 0 0) (by kernel_rfl) (qt_assign rfl rfl) ?_)
  refine A.done ?_
  refine A.norm [(0, (.pointer none)), (2, (.slice none 0 0)), (3, (.slice none 0 0)), (8, (.int .i64 0)), (9, (.int .i64 0)), (10, (.bool false))] [blk b1 [(.int .u64 x.id), (.int .i64 x.len), (.int .u16 x.h0), (.int .u16 x.h1), (.int .u16 x.h2), (.int .u16 x.h3)] 74, blk b3 [(.int .u64 0), (.int .i64 0), (.int .u16 0), (.int .u16 0), (.int .u16 0), (.int .u16 0)] 74] (by exact ⟨rfl, rfl, rfl, rfl, rfl, rfl, trivial⟩) rfl ?_
  refine A.tn ?_
  refine A.ret ?_
  refine A.post [(.slice none 0 0)] (fun a w r s => ⟨rv_tmp r rfl, trivial⟩) (A.back (by kernel_rfl) ?_)
  refine A.cons (A.q (some 48) (.int .i64 0) (by kernel_rfl) (qt_pure (by kernel_rfl) fun _ => by kernel_rfl) ?_)
  refine A.cons (A.q (some 49) (.bool true) (by kernel_rfl) (qt_pure (by kernel_rfl) fun _ => by kernel_rfl) ?_)
  refine A.cons (A.q (some 50) (.bool true) (by kernel_rfl) (qt_pure (by kernel_rfl) fun _ => by kernel_rfl) ?_)
  refine A.cons (A.q (some 51) (.bool true) (by kernel_rfl) (qt_move rfl rfl) ?_)
  refine A.cons (A.q (some 52) (.bool true) (by kernel_rfl) (qt_call [] rfl (by kernel_rfl) rfl (fun w _ => hundred_spec  w)) ?_)
  refine A.cons (A.q (some 53) (.bool true) (by kernel_rfl) (qt_pure (by kernel_rfl) fun _ => by kernel_rfl) ?_)
  refine A.cons (A.q (some 2) (.bool true) (by kernel_rfl) (qt_assign rfl rfl) ?_)
  refine A.done ?_
  refine A.norm [(0, (.agg #[(.int .u64 x.id), (.int .i64 x.len), (.int .u16 x.h0), (.int .u16 x.h1), (.int .u16 x.h2), (.int .u16 x.h3)])), (1, (.pointer (some ⟨b1, 0, none⟩))), (2, (.bool true)), (3, (.pointer none)), (4, (.pointer (some ⟨b3, 0, none⟩))), (5, (.int .i64 7))] [blk b1 [(.int .u64 x.id), (.int .i64 x.len), (.int .u16 x.h0), (.int .u16 x.h1), (.int .u16 x.h2), (.int .u16 x.h3)] 74, blk b3 [(.int .u64 0), (.int .i64 0), (.int .u16 0), (.int .u16 0), (.int .u16 0), (.int .u16 0)] 74] (by exact ⟨rfl, rfl, rfl, rfl, rfl, rfl, trivial⟩) rfl ?_
  refine A.tn ?_
  refine A.ret ?_
  refine A.post [(.bool true)] (fun a w r s => ⟨rv_tmp r rfl, trivial⟩) (fun w1 s => ?_)
  exact ⟨rfl, s.fr⟩

set_option maxHeartbeats 8000000 in
set_option maxRecDepth 100000 in
theorem bytes_spec (A1 : Option Addr) (c1 : Nat) (q : List Pkt) (n m : Int) (a0 a1 a2 a3 a4 a5 : Int) (w : World) (hl : q.length ≤ 1000) (hv : ∀ x ∈ q, LenOk x) (hL : arrAt w A1 (V.flat encPkt q)) :
    Calls Try.prog 66 #[(.agg #[(.int .i64 n), (.int .i64 m), (.slice A1 q.length c1), (.int .u64 a0), (.int .u64 a1), (.int .u64 a2), (.int .u64 a3), (.int .u64 a4), (.int .u64 a5)])] w fun e w' => e = .returned (.int .i64 (lens q)) ∧ Fr [] w w' := by
  refine calls_of (args := [(.agg #[(.int .i64 n), (.int .i64 m), (.slice A1 q.length c1), (.int .u64 a0), (.int .u64 a1), (.int .u64 a2), (.int .u64 a3), (.int .u64 a4), (.int .u64 a5)])]) (penv [(.agg #[(.int .i64 n), (.int .i64 m), (.slice A1 q.length c1), (.int .u64 a0), (.int .u64 a1), (.int .u64 a2), (.int .u64 a3), (.int .u64 a4), (.int .u64 a5)])]) [] [] Try.func66 rfl rfl (look_penv _) (HS.nil w) ?_
  refine A.norm [(0, (.agg #[(.int .i64 n), (.int .i64 m), (.slice A1 q.length c1), (.int .u64 a0), (.int .u64 a1), (.int .u64 a2), (.int .u64 a3), (.int .u64 a4), (.int .u64 a5)]))] [] (by exact ⟨rfl, trivial⟩) rfl ?_
  refine A.seq ?_
  refine A.region ?_
  refine A.cons (A.box 1 [(.int .i64 n), (.int .i64 m), (.slice A1 q.length c1), (.int .u64 a0), (.int .u64 a1), (.int .u64 a2), (.int .u64 a3), (.int .u64 a4), (.int .u64 a5)] (by kernel_rfl) rfl rfl rfl (fun b1 => [blk b1 [(.int .i64 n), (.int .i64 m), (.slice A1 q.length c1), (.int .u64 a0), (.int .u64 a1), (.int .u64 a2), (.int .u64 a3), (.int .u64 a4), (.int .u64 a5)] 82]) (fun _ => rfl) ?_)
  intro b1
  refine A.cons (A.q (some 2) (.int .i64 0) (by kernel_rfl) (qt_assign rfl rfl) ?_)
  refine A.done ?_
  refine A.norm [(0, (.agg #[(.int .i64 n), (.int .i64 m), (.slice A1 q.length c1), (.int .u64 a0), (.int .u64 a1), (.int .u64 a2), (.int .u64 a3), (.int .u64 a4), (.int .u64 a5)])), (1, (.pointer (some ⟨b1, 0, none⟩))), (2, (.int .i64 0))] [blk b1 [(.int .i64 n), (.int .i64 m), (.slice A1 q.length c1), (.int .u64 a0), (.int .u64 a1), (.int .u64 a2), (.int .u64 a3), (.int .u64 a4), (.int .u64 a5)] 82] (by exact ⟨rfl, rfl, rfl, trivial⟩) rfl ?_
  refine A.tn ?_
  refine A.seq ?_
  refine A.region ?_
  refine A.cons (A.q (some 3) (.int .i64 0) (by kernel_rfl) (qt_assign rfl rfl) ?_)
  refine A.done ?_
  refine A.norm [(0, (.agg #[(.int .i64 n), (.int .i64 m), (.slice A1 q.length c1), (.int .u64 a0), (.int .u64 a1), (.int .u64 a2), (.int .u64 a3), (.int .u64 a4), (.int .u64 a5)])), (1, (.pointer (some ⟨b1, 0, none⟩))), (2, (.int .i64 0)), (3, (.int .i64 0))] [blk b1 [(.int .i64 n), (.int .i64 m), (.slice A1 q.length c1), (.int .u64 a0), (.int .u64 a1), (.int .u64 a2), (.int .u64 a3), (.int .u64 a4), (.int .u64 a5)] 82] (by exact ⟨rfl, rfl, rfl, rfl, trivial⟩) rfl ?_
  refine A.tn ?_
  refine A.seq ?_
  refine A.seq ?_
  refine A.region ?_
  refine A.cons (A.q (some 6) (.pointer (some ⟨b1, 2, none⟩)) (by kernel_rfl) (qt_pure (by kernel_rfl) fun _ => by kernel_rfl) ?_)
  refine A.cons (A.q (some 7) (.slice A1 q.length c1) (by kernel_rfl) (qt_load1 rfl rfl (by kernel_rfl) (reads_blk (i := 0) rfl rfl)) ?_)
  refine A.cons (A.q (some 8) (.int .i64 (q.length : Int)) (by kernel_rfl) (qt_pure (by kernel_rfl) fun _ => by kernel_rfl) ?_)
  refine A.cons (A.q (some 9) (.int .i64 0) (by kernel_rfl) (qt_move rfl rfl) ?_)
  refine A.done ?_
  refine A.norm [(0, (.agg #[(.int .i64 n), (.int .i64 m), (.slice A1 q.length c1), (.int .u64 a0), (.int .u64 a1), (.int .u64 a2), (.int .u64 a3), (.int .u64 a4), (.int .u64 a5)])), (1, (.pointer (some ⟨b1, 0, none⟩))), (2, (.int .i64 0)), (3, (.int .i64 0)), (7, (.slice A1 q.length c1)), (8, (.int .i64 (q.length : Int))), (9, (.int .i64 0))] [blk b1 [(.int .i64 n), (.int .i64 m), (.slice A1 q.length c1), (.int .u64 a0), (.int .u64 a1), (.int .u64 a2), (.int .u64 a3), (.int .u64 a4), (.int .u64 a5)] 82] (by exact ⟨rfl, rfl, rfl, rfl, rfl, rfl, rfl, trivial⟩) rfl ?_
  refine A.tn ?_
  refine A.block ?_
  refine A.loop (fun (x : Nat × Int) => match x with | (k, t) => [(2, (.int .i64 0)), (7, (.slice A1 q.length c1)), (8, (.int .i64 (q.length : Int))), (9, (.int .i64 (k : Int))), (3, (.int .i64 t))]) (fun (x : Nat × Int) => match x with | (k, t) => [blk b1 [(.int .i64 n), (.int .i64 m), (.slice A1 q.length c1), (.int .u64 a0), (.int .u64 a1), (.int .u64 a2), (.int .u64 a3), (.int .u64 a4), (.int .u64 a5)] 82]) (fun (x : Nat × Int) => match x with | (k, t) => k ≤ q.length ∧ t = lens (q.take k)) (fun (x : Nat × Int) => match x with | (k, t) => q.length - k) (0, 0) (⟨Nat.zero_le _, rfl⟩) ?_ ?_
  · exact A.here (by exact ⟨rfl, rfl, rfl, rfl, rfl, trivial⟩) (List.Sublist.refl _)
  · rintro ⟨k, t⟩ ⟨hk, ht⟩
    have hb := lens_pos (q.take k) (fun x hx => hv x (List.mem_of_mem_take hx))
    rw [← ht] at hb
    have hbl : (q.take k).length ≤ q.length := by simp; omega
    refine A.norm [(2, (.int .i64 0)), (7, (.slice A1 q.length c1)), (8, (.int .i64 (q.length : Int))), (9, (.int .i64 (k : Int))), (3, (.int .i64 t))] [blk b1 [(.int .i64 n), (.int .i64 m), (.slice A1 q.length c1), (.int .u64 a0), (.int .u64 a1), (.int .u64 a2), (.int .u64 a3), (.int .u64 a4), (.int .u64 a5)] 82] (by exact ⟨rfl, rfl, rfl, rfl, rfl, trivial⟩) rfl ?_
    refine A.seq ?_
    refine A.region ?_
    refine A.cons (A.q (some 10) (.bool (decide ((k : Int) < (q.length : Int)))) (by kernel_rfl) (qt_pure (by kernel_rfl) fun _ => by kernel_rfl) ?_)
    refine A.done ?_
    refine A.norm [(2, (.int .i64 0)), (7, (.slice A1 q.length c1)), (8, (.int .i64 (q.length : Int))), (9, (.int .i64 (k : Int))), (3, (.int .i64 t)), (10, (.bool (decide ((k : Int) < (q.length : Int)))))] [blk b1 [(.int .i64 n), (.int .i64 m), (.slice A1 q.length c1), (.int .u64 a0), (.int .u64 a1), (.int .u64 a2), (.int .u64 a3), (.int .u64 a4), (.int .u64 a5)] 82] (by exact ⟨rfl, rfl, rfl, rfl, rfl, rfl, trivial⟩) rfl ?_
    refine A.tn ?_
    refine A.seq ?_
    refine A.cond (E := decide ((k : Int) < (q.length : Int))) rfl (fun e1 => ?_) (fun e1 => ?_)
    · skip
      have p1 := e1; try simp only [decide_eq_true_eq, decide_eq_false_iff_not, beq_iff_eq, beq_eq_false_iff_ne, bne_iff_ne, bne_eq_false_iff_eq, ne_eq, Bool.and_eq_true, Bool.or_eq_true, Bool.or_eq_false_iff, Bool.not_eq_true', Bool.not_eq_false', Int.not_lt, Int.not_le, gt_iff_lt, ge_iff_le, Classical.not_not] at p1
      refine A.skip ?_
      refine A.tn ?_
      refine A.seq ?_
      refine A.block ?_
      refine A.seq ?_
      refine A.region ?_
      refine A.cons (A.q (some 11) (.pointer (some ((at0 A1).add (k * 6)))) (by kernel_rfl) (qt_indexN (el := 74) (enc := encPkt) (xs := q) (m := k) rfl rfl rfl (by kernel_rfl) (by kernel_rfl) encPkt_len (rd_old hL (by simp)) (by decide) (by first | omega | (simp; done) | (simp; omega))) ?_)
      obtain ⟨x2, hx2⟩ : ∃ x, (q)[k]? = some x := ⟨_, List.getElem?_eq_getElem (by omega)⟩
      refine A.cons (A.q (some 12) (.agg #[(.int .u64 x2.id), (.int .i64 x2.len), (.int .u16 x2.h0), (.int .u16 x2.h1), (.int .u16 x2.h2), (.int .u16 x2.h3)]) (by kernel_rfl) (qt_loadN (vs := [(.int .u64 x2.id), (.int .i64 x2.len), (.int .u16 x2.h0), (.int .u16 x2.h1), (.int .u16 x2.h2), (.int .u16 x2.h3)]) rfl rfl (by kernel_rfl) (reads_at0 (vs := [(.int .u64 x2.id), (.int .i64 x2.len), (.int .u16 x2.h0), (.int .u16 x2.h1), (.int .u16 x2.h2), (.int .u16 x2.h3)]) encPkt_len (rd_old hL (by simp)) hx2 (by simp) rfl)) ?_)
      refine A.cons (A.alloc 5 [(.int .u64 0), (.int .i64 0), (.int .u16 0), (.int .u16 0), (.int .u16 0), (.int .u16 0)] (by kernel_rfl) rfl (by kernel_rfl) (fun b3 => [blk b1 [(.int .i64 n), (.int .i64 m), (.slice A1 q.length c1), (.int .u64 a0), (.int .u64 a1), (.int .u64 a2), (.int .u64 a3), (.int .u64 a4), (.int .u64 a5)] 82, blk b3 [(.int .u64 0), (.int .i64 0), (.int .u16 0), (.int .u16 0), (.int .u16 0), (.int .u16 0)] 74]) (fun _ => rfl) ?_)
      intro b3
      refine A.cons (A.store 1 (vs := [(.int .u64 x2.id), (.int .i64 x2.len), (.int .u16 x2.h0), (.int .u16 x2.h1), (.int .u16 x2.h2), (.int .u16 x2.h3)]) [blk b1 [(.int .i64 n), (.int .i64 m), (.slice A1 q.length c1), (.int .u64 a0), (.int .u64 a1), (.int .u64 a2), (.int .u64 a3), (.int .u64 a4), (.int .u64 a5)] 82, blk b3 [(.int .u64 x2.id), (.int .i64 x2.len), (.int .u16 x2.h0), (.int .u16 x2.h1), (.int .u16 x2.h2), (.int .u16 x2.h3)] 74] (by kernel_rfl) rfl rfl rfl rfl (by kernel_rfl) rfl rfl (by kernel_rfl) rfl ?_)
      refine A.done ?_
      refine A.norm [(2, (.int .i64 0)), (7, (.slice A1 q.length c1)), (8, (.int .i64 (q.length : Int))), (9, (.int .i64 (k : Int))), (3, (.int .i64 t)), (10, (.bool (decide ((k : Int) < (q.length : Int))))), (5, (.pointer (some ⟨b3, 0, none⟩)))] [blk b1 [(.int .i64 n), (.int .i64 m), (.slice A1 q.length c1), (.int .u64 a0), (.int .u64 a1), (.int .u64 a2), (.int .u64 a3), (.int .u64 a4), (.int .u64 a5)] 82, blk b3 [(.int .u64 x2.id), (.int .i64 x2.len), (.int .u16 x2.h0), (.int .u16 x2.h1), (.int .u16 x2.h2), (.int .u16 x2.h3)] 74] (by exact ⟨rfl, rfl, rfl, rfl, rfl, rfl, rfl, trivial⟩) rfl ?_
      refine A.tn ?_
      refine A.region ?_
      refine A.cons (A.q (some 13) (.int .i64 t) (by kernel_rfl) (qt_move rfl rfl) ?_)
      refine A.cons (A.q (some 14) (.pointer (some ⟨b3, 1, none⟩)) (by kernel_rfl) (qt_pure (by kernel_rfl) fun _ => by kernel_rfl) ?_)
      refine A.cons (A.q (some 15) (.int .i64 x2.len) (by kernel_rfl) (qt_load1 rfl rfl (by kernel_rfl) (reads_blk (i := 1) rfl rfl)) ?_)
      refine A.cons (A.q (some 16) (.int .i64 (t + x2.len)) (by kernel_rfl) (qt_as (congrArg (Value.int .i64) (wrap_i64 (e := t + x2.len) (by first | (constructor <;> omega) | (have hlv := hv _ (List.mem_of_getElem? ‹q[k]? = some _›); simp only [LenOk] at hlv; constructor <;> omega)))) (qt_pure (v := .int .i64 (IntKind.i64.wrap (t + x2.len))) (by kernel_rfl) fun _ => by kernel_rfl)) ?_)
      refine A.cons (A.q (some 3) (.int .i64 (t + x2.len)) (by kernel_rfl) (qt_assign rfl rfl) ?_)
      refine A.done ?_
      refine A.norm [(2, (.int .i64 0)), (7, (.slice A1 q.length c1)), (8, (.int .i64 (q.length : Int))), (9, (.int .i64 (k : Int))), (3, (.int .i64 (t + x2.len))), (10, (.bool (decide ((k : Int) < (q.length : Int))))), (5, (.pointer (some ⟨b3, 0, none⟩)))] [blk b1 [(.int .i64 n), (.int .i64 m), (.slice A1 q.length c1), (.int .u64 a0), (.int .u64 a1), (.int .u64 a2), (.int .u64 a3), (.int .u64 a4), (.int .u64 a5)] 82, blk b3 [(.int .u64 x2.id), (.int .i64 x2.len), (.int .u16 x2.h0), (.int .u16 x2.h1), (.int .u16 x2.h2), (.int .u16 x2.h3)] 74] (by exact ⟨rfl, rfl, rfl, rfl, rfl, rfl, rfl, trivial⟩) rfl ?_
      refine A.bn ?_
      refine A.tn ?_
      refine A.region ?_
      refine A.cons (A.q (some 17) (.int .i64 ((k : Int) + 1)) (by kernel_rfl) (qt_as (congrArg (Value.int .i64) (wrap_i64 (e := (k : Int) + 1) (by first | (constructor <;> omega) | (have hlv := hv _ (List.mem_of_getElem? ‹q[k]? = some _›); simp only [LenOk] at hlv; constructor <;> omega)))) (qt_pure (v := .int .i64 (IntKind.i64.wrap ((k : Int) + 1))) (by kernel_rfl) fun _ => by kernel_rfl)) ?_)
      refine A.cons (A.q (some 9) (.int .i64 ((k : Int) + 1)) (by kernel_rfl) (qt_move rfl rfl) ?_)
      refine A.done ?_
      refine A.norm [(2, (.int .i64 0)), (7, (.slice A1 q.length c1)), (8, (.int .i64 (q.length : Int))), (9, (.int .i64 ((k : Int) + 1))), (3, (.int .i64 (t + x2.len))), (10, (.bool (decide ((k : Int) < (q.length : Int))))), (5, (.pointer (some ⟨b3, 0, none⟩)))] [blk b1 [(.int .i64 n), (.int .i64 m), (.slice A1 q.length c1), (.int .u64 a0), (.int .u64 a1), (.int .u64 a2), (.int .u64 a3), (.int .u64 a4), (.int .u64 a5)] 82, blk b3 [(.int .u64 x2.id), (.int .i64 x2.len), (.int .u16 x2.h0), (.int .u16 x2.h1), (.int .u16 x2.h2), (.int .u16 x2.h3)] 74] (by exact ⟨rfl, rfl, rfl, rfl, rfl, rfl, rfl, trivial⟩) rfl ?_
      refine A.tn ?_
      refine A.next (k + 1, t + x2.len) (⟨by omega, by rw [ht, lens_take hx2]⟩) (by simp only []; omega) ?_
      exact A.here (by exact ⟨rfl, rfl, rfl, rfl, rfl, trivial⟩) (List.Sublist.cons_cons _ (List.Sublist.cons _ (List.Sublist.slnil)))
    · skip
      have p1 := e1; try simp only [decide_eq_true_eq, decide_eq_false_iff_not, beq_iff_eq, beq_eq_false_iff_ne, bne_iff_ne, bne_eq_false_iff_eq, ne_eq, Bool.and_eq_true, Bool.or_eq_true, Bool.or_eq_false_iff, Bool.not_eq_true', Bool.not_eq_false', Int.not_lt, Int.not_le, gt_iff_lt, ge_iff_le, Classical.not_not] at p1
      refine A.exit ?_
      refine A.te ?_
      refine A.te ?_
      refine A.bh ?_
      refine A.tn ?_
      refine A.seq ?_
      refine A.region ?_
      refine A.cons (A.q (some 18) (.int .i64 t) (by kernel_rfl) (qt_move rfl rfl) ?_)
      refine A.cons (A.q (some 2) (.int .i64 t) (by kernel_rfl) (qt_assign rfl rfl) ?_)
      refine A.done ?_
      refine A.norm [(2, (.int .i64 t)), (7, (.slice A1 q.length c1)), (8, (.int .i64 (q.length : Int))), (9, (.int .i64 (k : Int))), (3, (.int .i64 t)), (10, (.bool (decide ((k : Int) < (q.length : Int)))))] [blk b1 [(.int .i64 n), (.int .i64 m), (.slice A1 q.length c1), (.int .u64 a0), (.int .u64 a1), (.int .u64 a2), (.int .u64 a3), (.int .u64 a4), (.int .u64 a5)] 82] (by exact ⟨rfl, rfl, rfl, rfl, rfl, rfl, trivial⟩) rfl ?_
      refine A.tn ?_
      refine A.ret ?_
      refine A.post [(.int .i64 t)] (fun a w r s => ⟨rv_tmp r rfl, trivial⟩) (fun w1 s => ?_)
      refine ⟨congrArg Ending.returned (?_ : ((.int .i64 t) : Value) = _), s.fr⟩
      refine congrArg (Value.int .i64) ?_; rw [ht, show k = q.length by simp at *; omega, List.take_length]

set_option maxHeartbeats 8000000 in
set_option maxRecDepth 100000 in
theorem count0_spec (A1 : Option Addr) (c1 : Nat) (q : List Pkt) (n m : Int) (a0 a1 a2 a3 a4 a5 k v v' : Int) (w : World) (h1 : IntKind.u64.wrap (a0 + 1) = v) (h2 : IntKind.u64.wrap (a3 + IntKind.u64.wrap k) = v') :
    Calls Try.prog 67 #[(.agg #[(.int .i64 n), (.int .i64 m), (.slice A1 q.length c1), (.int .u64 a0), (.int .u64 a1), (.int .u64 a2), (.int .u64 a3), (.int .u64 a4), (.int .u64 a5)]), (.int .i64 0), (.int .i64 k)] w fun e w' => e = .returned (.agg #[(.int .i64 n), (.int .i64 m), (.slice A1 q.length c1), (.int .u64 v), (.int .u64 a1), (.int .u64 a2), (.int .u64 v'), (.int .u64 a4), (.int .u64 a5)]) ∧ Fr [] w w' := by
  refine calls_of (args := [(.agg #[(.int .i64 n), (.int .i64 m), (.slice A1 q.length c1), (.int .u64 a0), (.int .u64 a1), (.int .u64 a2), (.int .u64 a3), (.int .u64 a4), (.int .u64 a5)]), (.int .i64 0), (.int .i64 k)]) (penv [(.agg #[(.int .i64 n), (.int .i64 m), (.slice A1 q.length c1), (.int .u64 a0), (.int .u64 a1), (.int .u64 a2), (.int .u64 a3), (.int .u64 a4), (.int .u64 a5)]), (.int .i64 0), (.int .i64 k)]) [] [] Try.func67 rfl rfl (look_penv _) (HS.nil w) ?_
  refine A.norm [(0, (.agg #[(.int .i64 n), (.int .i64 m), (.slice A1 q.length c1), (.int .u64 a0), (.int .u64 a1), (.int .u64 a2), (.int .u64 a3), (.int .u64 a4), (.int .u64 a5)])), (1, (.int .i64 0)), (2, (.int .i64 k))] [] (by exact ⟨rfl, rfl, rfl, trivial⟩) rfl ?_
  refine A.seq ?_
  refine A.region ?_
  refine A.cons (A.box 3 [(.int .i64 n), (.int .i64 m), (.slice A1 q.length c1), (.int .u64 a0), (.int .u64 a1), (.int .u64 a2), (.int .u64 a3), (.int .u64 a4), (.int .u64 a5)] (by kernel_rfl) rfl rfl rfl (fun b1 => [blk b1 [(.int .i64 n), (.int .i64 m), (.slice A1 q.length c1), (.int .u64 a0), (.int .u64 a1), (.int .u64 a2), (.int .u64 a3), (.int .u64 a4), (.int .u64 a5)] 82]) (fun _ => rfl) ?_)
  intro b1
  refine A.cons (A.alloc 6 [(.int .i64 0), (.int .i64 0), (.slice none 0 0), (.int .u64 0), (.int .u64 0), (.int .u64 0), (.int .u64 0), (.int .u64 0), (.int .u64 0)] (by kernel_rfl) rfl (by kernel_rfl) (fun b2 => [blk b1 [(.int .i64 n), (.int .i64 m), (.slice A1 q.length c1), (.int .u64 a0), (.int .u64 a1), (.int .u64 a2), (.int .u64 a3), (.int .u64 a4), (.int .u64 a5)] 82, blk b2 [(.int .i64 0), (.int .i64 0), (.slice none 0 0), (.int .u64 0), (.int .u64 0), (.int .u64 0), (.int .u64 0), (.int .u64 0), (.int .u64 0)] 82]) (fun _ => rfl) ?_)
  intro b2
  refine A.done ?_
  refine A.norm [(0, (.agg #[(.int .i64 n), (.int .i64 m), (.slice A1 q.length c1), (.int .u64 a0), (.int .u64 a1), (.int .u64 a2), (.int .u64 a3), (.int .u64 a4), (.int .u64 a5)])), (1, (.int .i64 0)), (2, (.int .i64 k)), (3, (.pointer (some ⟨b1, 0, none⟩))), (6, (.pointer (some ⟨b2, 0, none⟩)))] [blk b1 [(.int .i64 n), (.int .i64 m), (.slice A1 q.length c1), (.int .u64 a0), (.int .u64 a1), (.int .u64 a2), (.int .u64 a3), (.int .u64 a4), (.int .u64 a5)] 82, blk b2 [(.int .i64 0), (.int .i64 0), (.slice none 0 0), (.int .u64 0), (.int .u64 0), (.int .u64 0), (.int .u64 0), (.int .u64 0), (.int .u64 0)] 82] (by exact ⟨rfl, rfl, rfl, rfl, rfl, trivial⟩) rfl ?_
  refine A.tn ?_
  refine A.seq ?_
  refine A.region ?_
  refine A.cons (A.q (some 8) (.pointer (some ⟨b1, 3, none⟩)) (by kernel_rfl) (qt_pure (by kernel_rfl) fun _ => by kernel_rfl) ?_)
  refine A.cons (A.q (some 9) (.agg #[(.int .u64 a0), (.int .u64 a1), (.int .u64 a2), (.int .u64 a3), (.int .u64 a4), (.int .u64 a5)]) (by kernel_rfl) (qt_loadN (vs := [(.int .u64 a0), (.int .u64 a1), (.int .u64 a2), (.int .u64 a3), (.int .u64 a4), (.int .u64 a5)]) rfl rfl (by kernel_rfl) (reads_blk (i := 0) rfl rfl)) ?_)
  refine A.cons (A.alloc 7 [(.int .u64 0), (.int .u64 0), (.int .u64 0), (.int .u64 0), (.int .u64 0), (.int .u64 0)] (by kernel_rfl) rfl (by kernel_rfl) (fun b3 => [blk b1 [(.int .i64 n), (.int .i64 m), (.slice A1 q.length c1), (.int .u64 a0), (.int .u64 a1), (.int .u64 a2), (.int .u64 a3), (.int .u64 a4), (.int .u64 a5)] 82, blk b2 [(.int .i64 0), (.int .i64 0), (.slice none 0 0), (.int .u64 0), (.int .u64 0), (.int .u64 0), (.int .u64 0), (.int .u64 0), (.int .u64 0)] 82, blk b3 [(.int .u64 0), (.int .u64 0), (.int .u64 0), (.int .u64 0), (.int .u64 0), (.int .u64 0)] 80]) (fun _ => rfl) ?_)
  intro b3
  refine A.cons (A.store 2 (vs := [(.int .u64 a0), (.int .u64 a1), (.int .u64 a2), (.int .u64 a3), (.int .u64 a4), (.int .u64 a5)]) [blk b1 [(.int .i64 n), (.int .i64 m), (.slice A1 q.length c1), (.int .u64 a0), (.int .u64 a1), (.int .u64 a2), (.int .u64 a3), (.int .u64 a4), (.int .u64 a5)] 82, blk b2 [(.int .i64 0), (.int .i64 0), (.slice none 0 0), (.int .u64 0), (.int .u64 0), (.int .u64 0), (.int .u64 0), (.int .u64 0), (.int .u64 0)] 82, blk b3 [(.int .u64 a0), (.int .u64 a1), (.int .u64 a2), (.int .u64 a3), (.int .u64 a4), (.int .u64 a5)] 80] (by kernel_rfl) rfl rfl rfl rfl (by kernel_rfl) rfl rfl (by kernel_rfl) rfl ?_)
  refine A.done ?_
  refine A.norm [(0, (.agg #[(.int .i64 n), (.int .i64 m), (.slice A1 q.length c1), (.int .u64 a0), (.int .u64 a1), (.int .u64 a2), (.int .u64 a3), (.int .u64 a4), (.int .u64 a5)])), (1, (.int .i64 0)), (2, (.int .i64 k)), (3, (.pointer (some ⟨b1, 0, none⟩))), (6, (.pointer (some ⟨b2, 0, none⟩))), (7, (.pointer (some ⟨b3, 0, none⟩)))] [blk b1 [(.int .i64 n), (.int .i64 m), (.slice A1 q.length c1), (.int .u64 a0), (.int .u64 a1), (.int .u64 a2), (.int .u64 a3), (.int .u64 a4), (.int .u64 a5)] 82, blk b2 [(.int .i64 0), (.int .i64 0), (.slice none 0 0), (.int .u64 0), (.int .u64 0), (.int .u64 0), (.int .u64 0), (.int .u64 0), (.int .u64 0)] 82, blk b3 [(.int .u64 a0), (.int .u64 a1), (.int .u64 a2), (.int .u64 a3), (.int .u64 a4), (.int .u64 a5)] 80] (by exact ⟨rfl, rfl, rfl, rfl, rfl, rfl, trivial⟩) rfl ?_
  refine A.tn ?_
  refine A.seq ?_
  refine A.region ?_
  refine A.cons (A.q (some 10) (.int .i64 0) (by kernel_rfl) (qt_move rfl rfl) ?_)
  refine A.cons (A.q (some 11) (.int .i64 0) (by kernel_rfl) (qt_move rfl rfl) ?_)
  refine A.cons (A.q (some 12) (.pointer (some ⟨b3, 0, none⟩)) (by kernel_rfl) (qt_pure (by kernel_rfl) fun _ => by kernel_rfl) ?_)
  refine A.cons (A.q (some 13) (.int .u64 a0) (by kernel_rfl) (qt_load1 rfl rfl (by kernel_rfl) (reads_blk (i := 2) rfl rfl)) ?_)
  refine A.cons (A.q (some 14) (.int .u64 (IntKind.u64.wrap (a0 + 1))) (by kernel_rfl) (qt_pure (by kernel_rfl) fun _ => by kernel_rfl) ?_)
  refine A.cons (A.q (some 15) (.pointer (some ⟨b3, 0, none⟩)) (by kernel_rfl) (qt_pure (by kernel_rfl) fun _ => by kernel_rfl) ?_)
  refine A.cons (A.store 2 (vs := [(.int .u64 (IntKind.u64.wrap (a0 + 1)))]) [blk b1 [(.int .i64 n), (.int .i64 m), (.slice A1 q.length c1), (.int .u64 a0), (.int .u64 a1), (.int .u64 a2), (.int .u64 a3), (.int .u64 a4), (.int .u64 a5)] 82, blk b2 [(.int .i64 0), (.int .i64 0), (.slice none 0 0), (.int .u64 0), (.int .u64 0), (.int .u64 0), (.int .u64 0), (.int .u64 0), (.int .u64 0)] 82, blk b3 [(.int .u64 (IntKind.u64.wrap (a0 + 1))), (.int .u64 a1), (.int .u64 a2), (.int .u64 a3), (.int .u64 a4), (.int .u64 a5)] 80] (by kernel_rfl) rfl rfl rfl rfl (by kernel_rfl) rfl rfl (by kernel_rfl) rfl ?_)
  refine A.done ?_
  refine A.norm [(0, (.agg #[(.int .i64 n), (.int .i64 m), (.slice A1 q.length c1), (.int .u64 a0), (.int .u64 a1), (.int .u64 a2), (.int .u64 a3), (.int .u64 a4), (.int .u64 a5)])), (1, (.int .i64 0)), (2, (.int .i64 k)), (3, (.pointer (some ⟨b1, 0, none⟩))), (6, (.pointer (some ⟨b2, 0, none⟩))), (7, (.pointer (some ⟨b3, 0, none⟩)))] [blk b1 [(.int .i64 n), (.int .i64 m), (.slice A1 q.length c1), (.int .u64 a0), (.int .u64 a1), (.int .u64 a2), (.int .u64 a3), (.int .u64 a4), (.int .u64 a5)] 82, blk b2 [(.int .i64 0), (.int .i64 0), (.slice none 0 0), (.int .u64 0), (.int .u64 0), (.int .u64 0), (.int .u64 0), (.int .u64 0), (.int .u64 0)] 82, blk b3 [(.int .u64 (IntKind.u64.wrap (a0 + 1))), (.int .u64 a1), (.int .u64 a2), (.int .u64 a3), (.int .u64 a4), (.int .u64 a5)] 80] (by exact ⟨rfl, rfl, rfl, rfl, rfl, rfl, trivial⟩) rfl ?_
  refine A.tn ?_
  refine A.seq ?_
  refine A.region ?_
  refine A.cons (A.q (some 16) (.int .i64 0) (by kernel_rfl) (qt_move rfl rfl) ?_)
  refine A.cons (A.q (some 17) (.int .i64 3) (by kernel_rfl) (qt_pure (by kernel_rfl) fun _ => by kernel_rfl) ?_)
  refine A.cons (A.q (some 18) (.int .i64 0) (by kernel_rfl) (qt_move rfl rfl) ?_)
  refine A.cons (A.q (some 19) (.int .i64 3) (by kernel_rfl) (qt_pure (by kernel_rfl) fun _ => by kernel_rfl) ?_)
  refine A.cons (A.q (some 20) (.pointer (some ⟨b3, 3, none⟩)) (by kernel_rfl) (qt_pure (by kernel_rfl) fun _ => by kernel_rfl) ?_)
  refine A.cons (A.q (some 21) (.int .u64 a3) (by kernel_rfl) (qt_load1 rfl rfl (by kernel_rfl) (reads_blk (i := 2) rfl rfl)) ?_)
  refine A.cons (A.q (some 22) (.int .i64 k) (by kernel_rfl) (qt_move rfl rfl) ?_)
  refine A.cons (A.q (some 23) (.int .u64 (IntKind.u64.wrap (k))) (by kernel_rfl) (qt_pure (by kernel_rfl) fun _ => by kernel_rfl) ?_)
  refine A.cons (A.q (some 24) (.int .u64 (IntKind.u64.wrap (a3 + (IntKind.u64.wrap (k))))) (by kernel_rfl) (qt_pure (by kernel_rfl) fun _ => by kernel_rfl) ?_)
  refine A.cons (A.q (some 25) (.pointer (some ⟨b3, 3, none⟩)) (by kernel_rfl) (qt_pure (by kernel_rfl) fun _ => by kernel_rfl) ?_)
  refine A.cons (A.store 2 (vs := [(.int .u64 (IntKind.u64.wrap (a3 + (IntKind.u64.wrap (k)))))]) [blk b1 [(.int .i64 n), (.int .i64 m), (.slice A1 q.length c1), (.int .u64 a0), (.int .u64 a1), (.int .u64 a2), (.int .u64 a3), (.int .u64 a4), (.int .u64 a5)] 82, blk b2 [(.int .i64 0), (.int .i64 0), (.slice none 0 0), (.int .u64 0), (.int .u64 0), (.int .u64 0), (.int .u64 0), (.int .u64 0), (.int .u64 0)] 82, blk b3 [(.int .u64 (IntKind.u64.wrap (a0 + 1))), (.int .u64 a1), (.int .u64 a2), (.int .u64 (IntKind.u64.wrap (a3 + (IntKind.u64.wrap (k))))), (.int .u64 a4), (.int .u64 a5)] 80] (by kernel_rfl) rfl rfl rfl rfl (by kernel_rfl) rfl rfl (by kernel_rfl) rfl ?_)
  refine A.done ?_
  refine A.norm [(0, (.agg #[(.int .i64 n), (.int .i64 m), (.slice A1 q.length c1), (.int .u64 a0), (.int .u64 a1), (.int .u64 a2), (.int .u64 a3), (.int .u64 a4), (.int .u64 a5)])), (1, (.int .i64 0)), (2, (.int .i64 k)), (3, (.pointer (some ⟨b1, 0, none⟩))), (6, (.pointer (some ⟨b2, 0, none⟩))), (7, (.pointer (some ⟨b3, 0, none⟩)))] [blk b1 [(.int .i64 n), (.int .i64 m), (.slice A1 q.length c1), (.int .u64 a0), (.int .u64 a1), (.int .u64 a2), (.int .u64 a3), (.int .u64 a4), (.int .u64 a5)] 82, blk b2 [(.int .i64 0), (.int .i64 0), (.slice none 0 0), (.int .u64 0), (.int .u64 0), (.int .u64 0), (.int .u64 0), (.int .u64 0), (.int .u64 0)] 82, blk b3 [(.int .u64 (IntKind.u64.wrap (a0 + 1))), (.int .u64 a1), (.int .u64 a2), (.int .u64 (IntKind.u64.wrap (a3 + (IntKind.u64.wrap (k))))), (.int .u64 a4), (.int .u64 a5)] 80] (by exact ⟨rfl, rfl, rfl, rfl, rfl, rfl, trivial⟩) rfl ?_
  refine A.tn ?_
  refine A.seq ?_
  refine A.region ?_
  refine A.cons (A.q (some 26) (.pointer (some ⟨b1, 0, none⟩)) (by kernel_rfl) (qt_pure (by kernel_rfl) fun _ => by kernel_rfl) ?_)
  refine A.cons (A.q (some 27) (.int .i64 n) (by kernel_rfl) (qt_load1 rfl rfl (by kernel_rfl) (reads_blk (i := 0) rfl rfl)) ?_)
  refine A.cons (A.q (some 28) (.pointer (some ⟨b1, 1, none⟩)) (by kernel_rfl) (qt_pure (by kernel_rfl) fun _ => by kernel_rfl) ?_)
  refine A.cons (A.q (some 29) (.int .i64 m) (by kernel_rfl) (qt_load1 rfl rfl (by kernel_rfl) (reads_blk (i := 0) rfl rfl)) ?_)
  refine A.cons (A.q (some 30) (.pointer (some ⟨b1, 2, none⟩)) (by kernel_rfl) (qt_pure (by kernel_rfl) fun _ => by kernel_rfl) ?_)
  refine A.cons (A.q (some 31) (.slice A1 q.length c1) (by kernel_rfl) (qt_load1 rfl rfl (by kernel_rfl) (reads_blk (i := 0) rfl rfl)) ?_)
  refine A.cons (A.q (some 32) (.agg #[(.int .u64 (IntKind.u64.wrap (a0 + 1))), (.int .u64 a1), (.int .u64 a2), (.int .u64 (IntKind.u64.wrap (a3 + (IntKind.u64.wrap (k))))), (.int .u64 a4), (.int .u64 a5)]) (by kernel_rfl) (qt_loadN (vs := [(.int .u64 (IntKind.u64.wrap (a0 + 1))), (.int .u64 a1), (.int .u64 a2), (.int .u64 (IntKind.u64.wrap (a3 + (IntKind.u64.wrap (k))))), (.int .u64 a4), (.int .u64 a5)]) rfl rfl (by kernel_rfl) (reads_blk (i := 2) rfl rfl)) ?_)
  refine A.cons (A.q (some 33) (.agg #[(.int .i64 n), (.int .i64 m), (.slice A1 q.length c1), (.int .u64 (IntKind.u64.wrap (a0 + 1))), (.int .u64 a1), (.int .u64 a2), (.int .u64 (IntKind.u64.wrap (a3 + (IntKind.u64.wrap (k))))), (.int .u64 a4), (.int .u64 a5)]) (by kernel_rfl) (qt_pure (by kernel_rfl) fun _ => by kernel_rfl) ?_)
  refine A.cons (A.store 1 (vs := [(.int .i64 n), (.int .i64 m), (.slice A1 q.length c1), (.int .u64 (IntKind.u64.wrap (a0 + 1))), (.int .u64 a1), (.int .u64 a2), (.int .u64 (IntKind.u64.wrap (a3 + (IntKind.u64.wrap (k))))), (.int .u64 a4), (.int .u64 a5)]) [blk b1 [(.int .i64 n), (.int .i64 m), (.slice A1 q.length c1), (.int .u64 a0), (.int .u64 a1), (.int .u64 a2), (.int .u64 a3), (.int .u64 a4), (.int .u64 a5)] 82, blk b2 [(.int .i64 n), (.int .i64 m), (.slice A1 q.length c1), (.int .u64 (IntKind.u64.wrap (a0 + 1))), (.int .u64 a1), (.int .u64 a2), (.int .u64 (IntKind.u64.wrap (a3 + (IntKind.u64.wrap (k))))), (.int .u64 a4), (.int .u64 a5)] 82, blk b3 [(.int .u64 (IntKind.u64.wrap (a0 + 1))), (.int .u64 a1), (.int .u64 a2), (.int .u64 (IntKind.u64.wrap (a3 + (IntKind.u64.wrap (k))))), (.int .u64 a4), (.int .u64 a5)] 80] (by kernel_rfl) rfl rfl rfl rfl (by kernel_rfl) rfl rfl (by kernel_rfl) rfl ?_)
  refine A.done ?_
  refine A.norm [(0, (.agg #[(.int .i64 n), (.int .i64 m), (.slice A1 q.length c1), (.int .u64 a0), (.int .u64 a1), (.int .u64 a2), (.int .u64 a3), (.int .u64 a4), (.int .u64 a5)])), (1, (.int .i64 0)), (2, (.int .i64 k)), (3, (.pointer (some ⟨b1, 0, none⟩))), (6, (.pointer (some ⟨b2, 0, none⟩))), (7, (.pointer (some ⟨b3, 0, none⟩)))] [blk b1 [(.int .i64 n), (.int .i64 m), (.slice A1 q.length c1), (.int .u64 a0), (.int .u64 a1), (.int .u64 a2), (.int .u64 a3), (.int .u64 a4), (.int .u64 a5)] 82, blk b2 [(.int .i64 n), (.int .i64 m), (.slice A1 q.length c1), (.int .u64 (IntKind.u64.wrap (a0 + 1))), (.int .u64 a1), (.int .u64 a2), (.int .u64 (IntKind.u64.wrap (a3 + (IntKind.u64.wrap (k))))), (.int .u64 a4), (.int .u64 a5)] 82, blk b3 [(.int .u64 (IntKind.u64.wrap (a0 + 1))), (.int .u64 a1), (.int .u64 a2), (.int .u64 (IntKind.u64.wrap (a3 + (IntKind.u64.wrap (k))))), (.int .u64 a4), (.int .u64 a5)] 80] (by exact ⟨rfl, rfl, rfl, rfl, rfl, rfl, trivial⟩) rfl ?_
  refine A.tn ?_
  refine A.ret ?_
  refine A.post [(.agg #[(.int .i64 n), (.int .i64 m), (.slice A1 q.length c1), (.int .u64 (IntKind.u64.wrap (a0 + 1))), (.int .u64 a1), (.int .u64 a2), (.int .u64 (IntKind.u64.wrap (a3 + (IntKind.u64.wrap (k))))), (.int .u64 a4), (.int .u64 a5)])] (fun a w r s => ⟨rv_cellN (vs := [(.int .i64 n), (.int .i64 m), (.slice A1 q.length c1), (.int .u64 (IntKind.u64.wrap (a0 + 1))), (.int .u64 a1), (.int .u64 a2), (.int .u64 (IntKind.u64.wrap (a3 + (IntKind.u64.wrap (k))))), (.int .u64 a4), (.int .u64 a5)]) r s rfl (by kernel_rfl) (reads_blk (i := 1) rfl rfl), trivial⟩) (fun w1 s => ?_)
  refine ⟨congrArg Ending.returned (?_ : ((.agg #[(.int .i64 n), (.int .i64 m), (.slice A1 q.length c1), (.int .u64 (IntKind.u64.wrap (a0 + 1))), (.int .u64 a1), (.int .u64 a2), (.int .u64 (IntKind.u64.wrap (a3 + (IntKind.u64.wrap (k))))), (.int .u64 a4), (.int .u64 a5)]) : Value) = _), s.fr⟩
  rw [h1, h2]

set_option maxHeartbeats 8000000 in
set_option maxRecDepth 100000 in
theorem count1_spec (A1 : Option Addr) (c1 : Nat) (q : List Pkt) (n m : Int) (a0 a1 a2 a3 a4 a5 k v v' : Int) (w : World) (h1 : IntKind.u64.wrap (a1 + 1) = v) (h2 : IntKind.u64.wrap (a4 + IntKind.u64.wrap k) = v') :
    Calls Try.prog 67 #[(.agg #[(.int .i64 n), (.int .i64 m), (.slice A1 q.length c1), (.int .u64 a0), (.int .u64 a1), (.int .u64 a2), (.int .u64 a3), (.int .u64 a4), (.int .u64 a5)]), (.int .i64 1), (.int .i64 k)] w fun e w' => e = .returned (.agg #[(.int .i64 n), (.int .i64 m), (.slice A1 q.length c1), (.int .u64 a0), (.int .u64 v), (.int .u64 a2), (.int .u64 a3), (.int .u64 v'), (.int .u64 a5)]) ∧ Fr [] w w' := by
  refine calls_of (args := [(.agg #[(.int .i64 n), (.int .i64 m), (.slice A1 q.length c1), (.int .u64 a0), (.int .u64 a1), (.int .u64 a2), (.int .u64 a3), (.int .u64 a4), (.int .u64 a5)]), (.int .i64 1), (.int .i64 k)]) (penv [(.agg #[(.int .i64 n), (.int .i64 m), (.slice A1 q.length c1), (.int .u64 a0), (.int .u64 a1), (.int .u64 a2), (.int .u64 a3), (.int .u64 a4), (.int .u64 a5)]), (.int .i64 1), (.int .i64 k)]) [] [] Try.func67 rfl rfl (look_penv _) (HS.nil w) ?_
  refine A.norm [(0, (.agg #[(.int .i64 n), (.int .i64 m), (.slice A1 q.length c1), (.int .u64 a0), (.int .u64 a1), (.int .u64 a2), (.int .u64 a3), (.int .u64 a4), (.int .u64 a5)])), (1, (.int .i64 1)), (2, (.int .i64 k))] [] (by exact ⟨rfl, rfl, rfl, trivial⟩) rfl ?_
  refine A.seq ?_
  refine A.region ?_
  refine A.cons (A.box 3 [(.int .i64 n), (.int .i64 m), (.slice A1 q.length c1), (.int .u64 a0), (.int .u64 a1), (.int .u64 a2), (.int .u64 a3), (.int .u64 a4), (.int .u64 a5)] (by kernel_rfl) rfl rfl rfl (fun b1 => [blk b1 [(.int .i64 n), (.int .i64 m), (.slice A1 q.length c1), (.int .u64 a0), (.int .u64 a1), (.int .u64 a2), (.int .u64 a3), (.int .u64 a4), (.int .u64 a5)] 82]) (fun _ => rfl) ?_)
  intro b1
  refine A.cons (A.alloc 6 [(.int .i64 0), (.int .i64 0), (.slice none 0 0), (.int .u64 0), (.int .u64 0), (.int .u64 0), (.int .u64 0), (.int .u64 0), (.int .u64 0)] (by kernel_rfl) rfl (by kernel_rfl) (fun b2 => [blk b1 [(.int .i64 n), (.int .i64 m), (.slice A1 q.length c1), (.int .u64 a0), (.int .u64 a1), (.int .u64 a2), (.int .u64 a3), (.int .u64 a4), (.int .u64 a5)] 82, blk b2 [(.int .i64 0), (.int .i64 0), (.slice none 0 0), (.int .u64 0), (.int .u64 0), (.int .u64 0), (.int .u64 0), (.int .u64 0), (.int .u64 0)] 82]) (fun _ => rfl) ?_)
  intro b2
  refine A.done ?_
  refine A.norm [(0, (.agg #[(.int .i64 n), (.int .i64 m), (.slice A1 q.length c1), (.int .u64 a0), (.int .u64 a1), (.int .u64 a2), (.int .u64 a3), (.int .u64 a4), (.int .u64 a5)])), (1, (.int .i64 1)), (2, (.int .i64 k)), (3, (.pointer (some ⟨b1, 0, none⟩))), (6, (.pointer (some ⟨b2, 0, none⟩)))] [blk b1 [(.int .i64 n), (.int .i64 m), (.slice A1 q.length c1), (.int .u64 a0), (.int .u64 a1), (.int .u64 a2), (.int .u64 a3), (.int .u64 a4), (.int .u64 a5)] 82, blk b2 [(.int .i64 0), (.int .i64 0), (.slice none 0 0), (.int .u64 0), (.int .u64 0), (.int .u64 0), (.int .u64 0), (.int .u64 0), (.int .u64 0)] 82] (by exact ⟨rfl, rfl, rfl, rfl, rfl, trivial⟩) rfl ?_
  refine A.tn ?_
  refine A.seq ?_
  refine A.region ?_
  refine A.cons (A.q (some 8) (.pointer (some ⟨b1, 3, none⟩)) (by kernel_rfl) (qt_pure (by kernel_rfl) fun _ => by kernel_rfl) ?_)
  refine A.cons (A.q (some 9) (.agg #[(.int .u64 a0), (.int .u64 a1), (.int .u64 a2), (.int .u64 a3), (.int .u64 a4), (.int .u64 a5)]) (by kernel_rfl) (qt_loadN (vs := [(.int .u64 a0), (.int .u64 a1), (.int .u64 a2), (.int .u64 a3), (.int .u64 a4), (.int .u64 a5)]) rfl rfl (by kernel_rfl) (reads_blk (i := 0) rfl rfl)) ?_)
  refine A.cons (A.alloc 7 [(.int .u64 0), (.int .u64 0), (.int .u64 0), (.int .u64 0), (.int .u64 0), (.int .u64 0)] (by kernel_rfl) rfl (by kernel_rfl) (fun b3 => [blk b1 [(.int .i64 n), (.int .i64 m), (.slice A1 q.length c1), (.int .u64 a0), (.int .u64 a1), (.int .u64 a2), (.int .u64 a3), (.int .u64 a4), (.int .u64 a5)] 82, blk b2 [(.int .i64 0), (.int .i64 0), (.slice none 0 0), (.int .u64 0), (.int .u64 0), (.int .u64 0), (.int .u64 0), (.int .u64 0), (.int .u64 0)] 82, blk b3 [(.int .u64 0), (.int .u64 0), (.int .u64 0), (.int .u64 0), (.int .u64 0), (.int .u64 0)] 80]) (fun _ => rfl) ?_)
  intro b3
  refine A.cons (A.store 2 (vs := [(.int .u64 a0), (.int .u64 a1), (.int .u64 a2), (.int .u64 a3), (.int .u64 a4), (.int .u64 a5)]) [blk b1 [(.int .i64 n), (.int .i64 m), (.slice A1 q.length c1), (.int .u64 a0), (.int .u64 a1), (.int .u64 a2), (.int .u64 a3), (.int .u64 a4), (.int .u64 a5)] 82, blk b2 [(.int .i64 0), (.int .i64 0), (.slice none 0 0), (.int .u64 0), (.int .u64 0), (.int .u64 0), (.int .u64 0), (.int .u64 0), (.int .u64 0)] 82, blk b3 [(.int .u64 a0), (.int .u64 a1), (.int .u64 a2), (.int .u64 a3), (.int .u64 a4), (.int .u64 a5)] 80] (by kernel_rfl) rfl rfl rfl rfl (by kernel_rfl) rfl rfl (by kernel_rfl) rfl ?_)
  refine A.done ?_
  refine A.norm [(0, (.agg #[(.int .i64 n), (.int .i64 m), (.slice A1 q.length c1), (.int .u64 a0), (.int .u64 a1), (.int .u64 a2), (.int .u64 a3), (.int .u64 a4), (.int .u64 a5)])), (1, (.int .i64 1)), (2, (.int .i64 k)), (3, (.pointer (some ⟨b1, 0, none⟩))), (6, (.pointer (some ⟨b2, 0, none⟩))), (7, (.pointer (some ⟨b3, 0, none⟩)))] [blk b1 [(.int .i64 n), (.int .i64 m), (.slice A1 q.length c1), (.int .u64 a0), (.int .u64 a1), (.int .u64 a2), (.int .u64 a3), (.int .u64 a4), (.int .u64 a5)] 82, blk b2 [(.int .i64 0), (.int .i64 0), (.slice none 0 0), (.int .u64 0), (.int .u64 0), (.int .u64 0), (.int .u64 0), (.int .u64 0), (.int .u64 0)] 82, blk b3 [(.int .u64 a0), (.int .u64 a1), (.int .u64 a2), (.int .u64 a3), (.int .u64 a4), (.int .u64 a5)] 80] (by exact ⟨rfl, rfl, rfl, rfl, rfl, rfl, trivial⟩) rfl ?_
  refine A.tn ?_
  refine A.seq ?_
  refine A.region ?_
  refine A.cons (A.q (some 10) (.int .i64 1) (by kernel_rfl) (qt_move rfl rfl) ?_)
  refine A.cons (A.q (some 11) (.int .i64 1) (by kernel_rfl) (qt_move rfl rfl) ?_)
  refine A.cons (A.q (some 12) (.pointer (some ⟨b3, 1, none⟩)) (by kernel_rfl) (qt_pure (by kernel_rfl) fun _ => by kernel_rfl) ?_)
  refine A.cons (A.q (some 13) (.int .u64 a1) (by kernel_rfl) (qt_load1 rfl rfl (by kernel_rfl) (reads_blk (i := 2) rfl rfl)) ?_)
  refine A.cons (A.q (some 14) (.int .u64 (IntKind.u64.wrap (a1 + 1))) (by kernel_rfl) (qt_pure (by kernel_rfl) fun _ => by kernel_rfl) ?_)
  refine A.cons (A.q (some 15) (.pointer (some ⟨b3, 1, none⟩)) (by kernel_rfl) (qt_pure (by kernel_rfl) fun _ => by kernel_rfl) ?_)
  refine A.cons (A.store 2 (vs := [(.int .u64 (IntKind.u64.wrap (a1 + 1)))]) [blk b1 [(.int .i64 n), (.int .i64 m), (.slice A1 q.length c1), (.int .u64 a0), (.int .u64 a1), (.int .u64 a2), (.int .u64 a3), (.int .u64 a4), (.int .u64 a5)] 82, blk b2 [(.int .i64 0), (.int .i64 0), (.slice none 0 0), (.int .u64 0), (.int .u64 0), (.int .u64 0), (.int .u64 0), (.int .u64 0), (.int .u64 0)] 82, blk b3 [(.int .u64 a0), (.int .u64 (IntKind.u64.wrap (a1 + 1))), (.int .u64 a2), (.int .u64 a3), (.int .u64 a4), (.int .u64 a5)] 80] (by kernel_rfl) rfl rfl rfl rfl (by kernel_rfl) rfl rfl (by kernel_rfl) rfl ?_)
  refine A.done ?_
  refine A.norm [(0, (.agg #[(.int .i64 n), (.int .i64 m), (.slice A1 q.length c1), (.int .u64 a0), (.int .u64 a1), (.int .u64 a2), (.int .u64 a3), (.int .u64 a4), (.int .u64 a5)])), (1, (.int .i64 1)), (2, (.int .i64 k)), (3, (.pointer (some ⟨b1, 0, none⟩))), (6, (.pointer (some ⟨b2, 0, none⟩))), (7, (.pointer (some ⟨b3, 0, none⟩)))] [blk b1 [(.int .i64 n), (.int .i64 m), (.slice A1 q.length c1), (.int .u64 a0), (.int .u64 a1), (.int .u64 a2), (.int .u64 a3), (.int .u64 a4), (.int .u64 a5)] 82, blk b2 [(.int .i64 0), (.int .i64 0), (.slice none 0 0), (.int .u64 0), (.int .u64 0), (.int .u64 0), (.int .u64 0), (.int .u64 0), (.int .u64 0)] 82, blk b3 [(.int .u64 a0), (.int .u64 (IntKind.u64.wrap (a1 + 1))), (.int .u64 a2), (.int .u64 a3), (.int .u64 a4), (.int .u64 a5)] 80] (by exact ⟨rfl, rfl, rfl, rfl, rfl, rfl, trivial⟩) rfl ?_
  refine A.tn ?_
  refine A.seq ?_
  refine A.region ?_
  refine A.cons (A.q (some 16) (.int .i64 1) (by kernel_rfl) (qt_move rfl rfl) ?_)
  refine A.cons (A.q (some 17) (.int .i64 4) (by kernel_rfl) (qt_pure (by kernel_rfl) fun _ => by kernel_rfl) ?_)
  refine A.cons (A.q (some 18) (.int .i64 1) (by kernel_rfl) (qt_move rfl rfl) ?_)
  refine A.cons (A.q (some 19) (.int .i64 4) (by kernel_rfl) (qt_pure (by kernel_rfl) fun _ => by kernel_rfl) ?_)
  refine A.cons (A.q (some 20) (.pointer (some ⟨b3, 4, none⟩)) (by kernel_rfl) (qt_pure (by kernel_rfl) fun _ => by kernel_rfl) ?_)
  refine A.cons (A.q (some 21) (.int .u64 a4) (by kernel_rfl) (qt_load1 rfl rfl (by kernel_rfl) (reads_blk (i := 2) rfl rfl)) ?_)
  refine A.cons (A.q (some 22) (.int .i64 k) (by kernel_rfl) (qt_move rfl rfl) ?_)
  refine A.cons (A.q (some 23) (.int .u64 (IntKind.u64.wrap (k))) (by kernel_rfl) (qt_pure (by kernel_rfl) fun _ => by kernel_rfl) ?_)
  refine A.cons (A.q (some 24) (.int .u64 (IntKind.u64.wrap (a4 + (IntKind.u64.wrap (k))))) (by kernel_rfl) (qt_pure (by kernel_rfl) fun _ => by kernel_rfl) ?_)
  refine A.cons (A.q (some 25) (.pointer (some ⟨b3, 4, none⟩)) (by kernel_rfl) (qt_pure (by kernel_rfl) fun _ => by kernel_rfl) ?_)
  refine A.cons (A.store 2 (vs := [(.int .u64 (IntKind.u64.wrap (a4 + (IntKind.u64.wrap (k)))))]) [blk b1 [(.int .i64 n), (.int .i64 m), (.slice A1 q.length c1), (.int .u64 a0), (.int .u64 a1), (.int .u64 a2), (.int .u64 a3), (.int .u64 a4), (.int .u64 a5)] 82, blk b2 [(.int .i64 0), (.int .i64 0), (.slice none 0 0), (.int .u64 0), (.int .u64 0), (.int .u64 0), (.int .u64 0), (.int .u64 0), (.int .u64 0)] 82, blk b3 [(.int .u64 a0), (.int .u64 (IntKind.u64.wrap (a1 + 1))), (.int .u64 a2), (.int .u64 a3), (.int .u64 (IntKind.u64.wrap (a4 + (IntKind.u64.wrap (k))))), (.int .u64 a5)] 80] (by kernel_rfl) rfl rfl rfl rfl (by kernel_rfl) rfl rfl (by kernel_rfl) rfl ?_)
  refine A.done ?_
  refine A.norm [(0, (.agg #[(.int .i64 n), (.int .i64 m), (.slice A1 q.length c1), (.int .u64 a0), (.int .u64 a1), (.int .u64 a2), (.int .u64 a3), (.int .u64 a4), (.int .u64 a5)])), (1, (.int .i64 1)), (2, (.int .i64 k)), (3, (.pointer (some ⟨b1, 0, none⟩))), (6, (.pointer (some ⟨b2, 0, none⟩))), (7, (.pointer (some ⟨b3, 0, none⟩)))] [blk b1 [(.int .i64 n), (.int .i64 m), (.slice A1 q.length c1), (.int .u64 a0), (.int .u64 a1), (.int .u64 a2), (.int .u64 a3), (.int .u64 a4), (.int .u64 a5)] 82, blk b2 [(.int .i64 0), (.int .i64 0), (.slice none 0 0), (.int .u64 0), (.int .u64 0), (.int .u64 0), (.int .u64 0), (.int .u64 0), (.int .u64 0)] 82, blk b3 [(.int .u64 a0), (.int .u64 (IntKind.u64.wrap (a1 + 1))), (.int .u64 a2), (.int .u64 a3), (.int .u64 (IntKind.u64.wrap (a4 + (IntKind.u64.wrap (k))))), (.int .u64 a5)] 80] (by exact ⟨rfl, rfl, rfl, rfl, rfl, rfl, trivial⟩) rfl ?_
  refine A.tn ?_
  refine A.seq ?_
  refine A.region ?_
  refine A.cons (A.q (some 26) (.pointer (some ⟨b1, 0, none⟩)) (by kernel_rfl) (qt_pure (by kernel_rfl) fun _ => by kernel_rfl) ?_)
  refine A.cons (A.q (some 27) (.int .i64 n) (by kernel_rfl) (qt_load1 rfl rfl (by kernel_rfl) (reads_blk (i := 0) rfl rfl)) ?_)
  refine A.cons (A.q (some 28) (.pointer (some ⟨b1, 1, none⟩)) (by kernel_rfl) (qt_pure (by kernel_rfl) fun _ => by kernel_rfl) ?_)
  refine A.cons (A.q (some 29) (.int .i64 m) (by kernel_rfl) (qt_load1 rfl rfl (by kernel_rfl) (reads_blk (i := 0) rfl rfl)) ?_)
  refine A.cons (A.q (some 30) (.pointer (some ⟨b1, 2, none⟩)) (by kernel_rfl) (qt_pure (by kernel_rfl) fun _ => by kernel_rfl) ?_)
  refine A.cons (A.q (some 31) (.slice A1 q.length c1) (by kernel_rfl) (qt_load1 rfl rfl (by kernel_rfl) (reads_blk (i := 0) rfl rfl)) ?_)
  refine A.cons (A.q (some 32) (.agg #[(.int .u64 a0), (.int .u64 (IntKind.u64.wrap (a1 + 1))), (.int .u64 a2), (.int .u64 a3), (.int .u64 (IntKind.u64.wrap (a4 + (IntKind.u64.wrap (k))))), (.int .u64 a5)]) (by kernel_rfl) (qt_loadN (vs := [(.int .u64 a0), (.int .u64 (IntKind.u64.wrap (a1 + 1))), (.int .u64 a2), (.int .u64 a3), (.int .u64 (IntKind.u64.wrap (a4 + (IntKind.u64.wrap (k))))), (.int .u64 a5)]) rfl rfl (by kernel_rfl) (reads_blk (i := 2) rfl rfl)) ?_)
  refine A.cons (A.q (some 33) (.agg #[(.int .i64 n), (.int .i64 m), (.slice A1 q.length c1), (.int .u64 a0), (.int .u64 (IntKind.u64.wrap (a1 + 1))), (.int .u64 a2), (.int .u64 a3), (.int .u64 (IntKind.u64.wrap (a4 + (IntKind.u64.wrap (k))))), (.int .u64 a5)]) (by kernel_rfl) (qt_pure (by kernel_rfl) fun _ => by kernel_rfl) ?_)
  refine A.cons (A.store 1 (vs := [(.int .i64 n), (.int .i64 m), (.slice A1 q.length c1), (.int .u64 a0), (.int .u64 (IntKind.u64.wrap (a1 + 1))), (.int .u64 a2), (.int .u64 a3), (.int .u64 (IntKind.u64.wrap (a4 + (IntKind.u64.wrap (k))))), (.int .u64 a5)]) [blk b1 [(.int .i64 n), (.int .i64 m), (.slice A1 q.length c1), (.int .u64 a0), (.int .u64 a1), (.int .u64 a2), (.int .u64 a3), (.int .u64 a4), (.int .u64 a5)] 82, blk b2 [(.int .i64 n), (.int .i64 m), (.slice A1 q.length c1), (.int .u64 a0), (.int .u64 (IntKind.u64.wrap (a1 + 1))), (.int .u64 a2), (.int .u64 a3), (.int .u64 (IntKind.u64.wrap (a4 + (IntKind.u64.wrap (k))))), (.int .u64 a5)] 82, blk b3 [(.int .u64 a0), (.int .u64 (IntKind.u64.wrap (a1 + 1))), (.int .u64 a2), (.int .u64 a3), (.int .u64 (IntKind.u64.wrap (a4 + (IntKind.u64.wrap (k))))), (.int .u64 a5)] 80] (by kernel_rfl) rfl rfl rfl rfl (by kernel_rfl) rfl rfl (by kernel_rfl) rfl ?_)
  refine A.done ?_
  refine A.norm [(0, (.agg #[(.int .i64 n), (.int .i64 m), (.slice A1 q.length c1), (.int .u64 a0), (.int .u64 a1), (.int .u64 a2), (.int .u64 a3), (.int .u64 a4), (.int .u64 a5)])), (1, (.int .i64 1)), (2, (.int .i64 k)), (3, (.pointer (some ⟨b1, 0, none⟩))), (6, (.pointer (some ⟨b2, 0, none⟩))), (7, (.pointer (some ⟨b3, 0, none⟩)))] [blk b1 [(.int .i64 n), (.int .i64 m), (.slice A1 q.length c1), (.int .u64 a0), (.int .u64 a1), (.int .u64 a2), (.int .u64 a3), (.int .u64 a4), (.int .u64 a5)] 82, blk b2 [(.int .i64 n), (.int .i64 m), (.slice A1 q.length c1), (.int .u64 a0), (.int .u64 (IntKind.u64.wrap (a1 + 1))), (.int .u64 a2), (.int .u64 a3), (.int .u64 (IntKind.u64.wrap (a4 + (IntKind.u64.wrap (k))))), (.int .u64 a5)] 82, blk b3 [(.int .u64 a0), (.int .u64 (IntKind.u64.wrap (a1 + 1))), (.int .u64 a2), (.int .u64 a3), (.int .u64 (IntKind.u64.wrap (a4 + (IntKind.u64.wrap (k))))), (.int .u64 a5)] 80] (by exact ⟨rfl, rfl, rfl, rfl, rfl, rfl, trivial⟩) rfl ?_
  refine A.tn ?_
  refine A.ret ?_
  refine A.post [(.agg #[(.int .i64 n), (.int .i64 m), (.slice A1 q.length c1), (.int .u64 a0), (.int .u64 (IntKind.u64.wrap (a1 + 1))), (.int .u64 a2), (.int .u64 a3), (.int .u64 (IntKind.u64.wrap (a4 + (IntKind.u64.wrap (k))))), (.int .u64 a5)])] (fun a w r s => ⟨rv_cellN (vs := [(.int .i64 n), (.int .i64 m), (.slice A1 q.length c1), (.int .u64 a0), (.int .u64 (IntKind.u64.wrap (a1 + 1))), (.int .u64 a2), (.int .u64 a3), (.int .u64 (IntKind.u64.wrap (a4 + (IntKind.u64.wrap (k))))), (.int .u64 a5)]) r s rfl (by kernel_rfl) (reads_blk (i := 1) rfl rfl), trivial⟩) (fun w1 s => ?_)
  refine ⟨congrArg Ending.returned (?_ : ((.agg #[(.int .i64 n), (.int .i64 m), (.slice A1 q.length c1), (.int .u64 a0), (.int .u64 (IntKind.u64.wrap (a1 + 1))), (.int .u64 a2), (.int .u64 a3), (.int .u64 (IntKind.u64.wrap (a4 + (IntKind.u64.wrap (k))))), (.int .u64 a5)]) : Value) = _), s.fr⟩
  rw [h1, h2]

set_option maxHeartbeats 8000000 in
set_option maxRecDepth 100000 in
theorem count2_spec (A1 : Option Addr) (c1 : Nat) (q : List Pkt) (n m : Int) (a0 a1 a2 a3 a4 a5 k v v' : Int) (w : World) (h1 : IntKind.u64.wrap (a2 + 1) = v) (h2 : IntKind.u64.wrap (a5 + IntKind.u64.wrap k) = v') :
    Calls Try.prog 67 #[(.agg #[(.int .i64 n), (.int .i64 m), (.slice A1 q.length c1), (.int .u64 a0), (.int .u64 a1), (.int .u64 a2), (.int .u64 a3), (.int .u64 a4), (.int .u64 a5)]), (.int .i64 2), (.int .i64 k)] w fun e w' => e = .returned (.agg #[(.int .i64 n), (.int .i64 m), (.slice A1 q.length c1), (.int .u64 a0), (.int .u64 a1), (.int .u64 v), (.int .u64 a3), (.int .u64 a4), (.int .u64 v')]) ∧ Fr [] w w' := by
  refine calls_of (args := [(.agg #[(.int .i64 n), (.int .i64 m), (.slice A1 q.length c1), (.int .u64 a0), (.int .u64 a1), (.int .u64 a2), (.int .u64 a3), (.int .u64 a4), (.int .u64 a5)]), (.int .i64 2), (.int .i64 k)]) (penv [(.agg #[(.int .i64 n), (.int .i64 m), (.slice A1 q.length c1), (.int .u64 a0), (.int .u64 a1), (.int .u64 a2), (.int .u64 a3), (.int .u64 a4), (.int .u64 a5)]), (.int .i64 2), (.int .i64 k)]) [] [] Try.func67 rfl rfl (look_penv _) (HS.nil w) ?_
  refine A.norm [(0, (.agg #[(.int .i64 n), (.int .i64 m), (.slice A1 q.length c1), (.int .u64 a0), (.int .u64 a1), (.int .u64 a2), (.int .u64 a3), (.int .u64 a4), (.int .u64 a5)])), (1, (.int .i64 2)), (2, (.int .i64 k))] [] (by exact ⟨rfl, rfl, rfl, trivial⟩) rfl ?_
  refine A.seq ?_
  refine A.region ?_
  refine A.cons (A.box 3 [(.int .i64 n), (.int .i64 m), (.slice A1 q.length c1), (.int .u64 a0), (.int .u64 a1), (.int .u64 a2), (.int .u64 a3), (.int .u64 a4), (.int .u64 a5)] (by kernel_rfl) rfl rfl rfl (fun b1 => [blk b1 [(.int .i64 n), (.int .i64 m), (.slice A1 q.length c1), (.int .u64 a0), (.int .u64 a1), (.int .u64 a2), (.int .u64 a3), (.int .u64 a4), (.int .u64 a5)] 82]) (fun _ => rfl) ?_)
  intro b1
  refine A.cons (A.alloc 6 [(.int .i64 0), (.int .i64 0), (.slice none 0 0), (.int .u64 0), (.int .u64 0), (.int .u64 0), (.int .u64 0), (.int .u64 0), (.int .u64 0)] (by kernel_rfl) rfl (by kernel_rfl) (fun b2 => [blk b1 [(.int .i64 n), (.int .i64 m), (.slice A1 q.length c1), (.int .u64 a0), (.int .u64 a1), (.int .u64 a2), (.int .u64 a3), (.int .u64 a4), (.int .u64 a5)] 82, blk b2 [(.int .i64 0), (.int .i64 0), (.slice none 0 0), (.int .u64 0), (.int .u64 0), (.int .u64 0), (.int .u64 0), (.int .u64 0), (.int .u64 0)] 82]) (fun _ => rfl) ?_)
  intro b2
  refine A.done ?_
  refine A.norm [(0, (.agg #[(.int .i64 n), (.int .i64 m), (.slice A1 q.length c1), (.int .u64 a0), (.int .u64 a1), (.int .u64 a2), (.int .u64 a3), (.int .u64 a4), (.int .u64 a5)])), (1, (.int .i64 2)), (2, (.int .i64 k)), (3, (.pointer (some ⟨b1, 0, none⟩))), (6, (.pointer (some ⟨b2, 0, none⟩)))] [blk b1 [(.int .i64 n), (.int .i64 m), (.slice A1 q.length c1), (.int .u64 a0), (.int .u64 a1), (.int .u64 a2), (.int .u64 a3), (.int .u64 a4), (.int .u64 a5)] 82, blk b2 [(.int .i64 0), (.int .i64 0), (.slice none 0 0), (.int .u64 0), (.int .u64 0), (.int .u64 0), (.int .u64 0), (.int .u64 0), (.int .u64 0)] 82] (by exact ⟨rfl, rfl, rfl, rfl, rfl, trivial⟩) rfl ?_
  refine A.tn ?_
  refine A.seq ?_
  refine A.region ?_
  refine A.cons (A.q (some 8) (.pointer (some ⟨b1, 3, none⟩)) (by kernel_rfl) (qt_pure (by kernel_rfl) fun _ => by kernel_rfl) ?_)
  refine A.cons (A.q (some 9) (.agg #[(.int .u64 a0), (.int .u64 a1), (.int .u64 a2), (.int .u64 a3), (.int .u64 a4), (.int .u64 a5)]) (by kernel_rfl) (qt_loadN (vs := [(.int .u64 a0), (.int .u64 a1), (.int .u64 a2), (.int .u64 a3), (.int .u64 a4), (.int .u64 a5)]) rfl rfl (by kernel_rfl) (reads_blk (i := 0) rfl rfl)) ?_)
  refine A.cons (A.alloc 7 [(.int .u64 0), (.int .u64 0), (.int .u64 0), (.int .u64 0), (.int .u64 0), (.int .u64 0)] (by kernel_rfl) rfl (by kernel_rfl) (fun b3 => [blk b1 [(.int .i64 n), (.int .i64 m), (.slice A1 q.length c1), (.int .u64 a0), (.int .u64 a1), (.int .u64 a2), (.int .u64 a3), (.int .u64 a4), (.int .u64 a5)] 82, blk b2 [(.int .i64 0), (.int .i64 0), (.slice none 0 0), (.int .u64 0), (.int .u64 0), (.int .u64 0), (.int .u64 0), (.int .u64 0), (.int .u64 0)] 82, blk b3 [(.int .u64 0), (.int .u64 0), (.int .u64 0), (.int .u64 0), (.int .u64 0), (.int .u64 0)] 80]) (fun _ => rfl) ?_)
  intro b3
  refine A.cons (A.store 2 (vs := [(.int .u64 a0), (.int .u64 a1), (.int .u64 a2), (.int .u64 a3), (.int .u64 a4), (.int .u64 a5)]) [blk b1 [(.int .i64 n), (.int .i64 m), (.slice A1 q.length c1), (.int .u64 a0), (.int .u64 a1), (.int .u64 a2), (.int .u64 a3), (.int .u64 a4), (.int .u64 a5)] 82, blk b2 [(.int .i64 0), (.int .i64 0), (.slice none 0 0), (.int .u64 0), (.int .u64 0), (.int .u64 0), (.int .u64 0), (.int .u64 0), (.int .u64 0)] 82, blk b3 [(.int .u64 a0), (.int .u64 a1), (.int .u64 a2), (.int .u64 a3), (.int .u64 a4), (.int .u64 a5)] 80] (by kernel_rfl) rfl rfl rfl rfl (by kernel_rfl) rfl rfl (by kernel_rfl) rfl ?_)
  refine A.done ?_
  refine A.norm [(0, (.agg #[(.int .i64 n), (.int .i64 m), (.slice A1 q.length c1), (.int .u64 a0), (.int .u64 a1), (.int .u64 a2), (.int .u64 a3), (.int .u64 a4), (.int .u64 a5)])), (1, (.int .i64 2)), (2, (.int .i64 k)), (3, (.pointer (some ⟨b1, 0, none⟩))), (6, (.pointer (some ⟨b2, 0, none⟩))), (7, (.pointer (some ⟨b3, 0, none⟩)))] [blk b1 [(.int .i64 n), (.int .i64 m), (.slice A1 q.length c1), (.int .u64 a0), (.int .u64 a1), (.int .u64 a2), (.int .u64 a3), (.int .u64 a4), (.int .u64 a5)] 82, blk b2 [(.int .i64 0), (.int .i64 0), (.slice none 0 0), (.int .u64 0), (.int .u64 0), (.int .u64 0), (.int .u64 0), (.int .u64 0), (.int .u64 0)] 82, blk b3 [(.int .u64 a0), (.int .u64 a1), (.int .u64 a2), (.int .u64 a3), (.int .u64 a4), (.int .u64 a5)] 80] (by exact ⟨rfl, rfl, rfl, rfl, rfl, rfl, trivial⟩) rfl ?_
  refine A.tn ?_
  refine A.seq ?_
  refine A.region ?_
  refine A.cons (A.q (some 10) (.int .i64 2) (by kernel_rfl) (qt_move rfl rfl) ?_)
  refine A.cons (A.q (some 11) (.int .i64 2) (by kernel_rfl) (qt_move rfl rfl) ?_)
  refine A.cons (A.q (some 12) (.pointer (some ⟨b3, 2, none⟩)) (by kernel_rfl) (qt_pure (by kernel_rfl) fun _ => by kernel_rfl) ?_)
  refine A.cons (A.q (some 13) (.int .u64 a2) (by kernel_rfl) (qt_load1 rfl rfl (by kernel_rfl) (reads_blk (i := 2) rfl rfl)) ?_)
  refine A.cons (A.q (some 14) (.int .u64 (IntKind.u64.wrap (a2 + 1))) (by kernel_rfl) (qt_pure (by kernel_rfl) fun _ => by kernel_rfl) ?_)
  refine A.cons (A.q (some 15) (.pointer (some ⟨b3, 2, none⟩)) (by kernel_rfl) (qt_pure (by kernel_rfl) fun _ => by kernel_rfl) ?_)
  refine A.cons (A.store 2 (vs := [(.int .u64 (IntKind.u64.wrap (a2 + 1)))]) [blk b1 [(.int .i64 n), (.int .i64 m), (.slice A1 q.length c1), (.int .u64 a0), (.int .u64 a1), (.int .u64 a2), (.int .u64 a3), (.int .u64 a4), (.int .u64 a5)] 82, blk b2 [(.int .i64 0), (.int .i64 0), (.slice none 0 0), (.int .u64 0), (.int .u64 0), (.int .u64 0), (.int .u64 0), (.int .u64 0), (.int .u64 0)] 82, blk b3 [(.int .u64 a0), (.int .u64 a1), (.int .u64 (IntKind.u64.wrap (a2 + 1))), (.int .u64 a3), (.int .u64 a4), (.int .u64 a5)] 80] (by kernel_rfl) rfl rfl rfl rfl (by kernel_rfl) rfl rfl (by kernel_rfl) rfl ?_)
  refine A.done ?_
  refine A.norm [(0, (.agg #[(.int .i64 n), (.int .i64 m), (.slice A1 q.length c1), (.int .u64 a0), (.int .u64 a1), (.int .u64 a2), (.int .u64 a3), (.int .u64 a4), (.int .u64 a5)])), (1, (.int .i64 2)), (2, (.int .i64 k)), (3, (.pointer (some ⟨b1, 0, none⟩))), (6, (.pointer (some ⟨b2, 0, none⟩))), (7, (.pointer (some ⟨b3, 0, none⟩)))] [blk b1 [(.int .i64 n), (.int .i64 m), (.slice A1 q.length c1), (.int .u64 a0), (.int .u64 a1), (.int .u64 a2), (.int .u64 a3), (.int .u64 a4), (.int .u64 a5)] 82, blk b2 [(.int .i64 0), (.int .i64 0), (.slice none 0 0), (.int .u64 0), (.int .u64 0), (.int .u64 0), (.int .u64 0), (.int .u64 0), (.int .u64 0)] 82, blk b3 [(.int .u64 a0), (.int .u64 a1), (.int .u64 (IntKind.u64.wrap (a2 + 1))), (.int .u64 a3), (.int .u64 a4), (.int .u64 a5)] 80] (by exact ⟨rfl, rfl, rfl, rfl, rfl, rfl, trivial⟩) rfl ?_
  refine A.tn ?_
  refine A.seq ?_
  refine A.region ?_
  refine A.cons (A.q (some 16) (.int .i64 2) (by kernel_rfl) (qt_move rfl rfl) ?_)
  refine A.cons (A.q (some 17) (.int .i64 5) (by kernel_rfl) (qt_pure (by kernel_rfl) fun _ => by kernel_rfl) ?_)
  refine A.cons (A.q (some 18) (.int .i64 2) (by kernel_rfl) (qt_move rfl rfl) ?_)
  refine A.cons (A.q (some 19) (.int .i64 5) (by kernel_rfl) (qt_pure (by kernel_rfl) fun _ => by kernel_rfl) ?_)
  refine A.cons (A.q (some 20) (.pointer (some ⟨b3, 5, none⟩)) (by kernel_rfl) (qt_pure (by kernel_rfl) fun _ => by kernel_rfl) ?_)
  refine A.cons (A.q (some 21) (.int .u64 a5) (by kernel_rfl) (qt_load1 rfl rfl (by kernel_rfl) (reads_blk (i := 2) rfl rfl)) ?_)
  refine A.cons (A.q (some 22) (.int .i64 k) (by kernel_rfl) (qt_move rfl rfl) ?_)
  refine A.cons (A.q (some 23) (.int .u64 (IntKind.u64.wrap (k))) (by kernel_rfl) (qt_pure (by kernel_rfl) fun _ => by kernel_rfl) ?_)
  refine A.cons (A.q (some 24) (.int .u64 (IntKind.u64.wrap (a5 + (IntKind.u64.wrap (k))))) (by kernel_rfl) (qt_pure (by kernel_rfl) fun _ => by kernel_rfl) ?_)
  refine A.cons (A.q (some 25) (.pointer (some ⟨b3, 5, none⟩)) (by kernel_rfl) (qt_pure (by kernel_rfl) fun _ => by kernel_rfl) ?_)
  refine A.cons (A.store 2 (vs := [(.int .u64 (IntKind.u64.wrap (a5 + (IntKind.u64.wrap (k)))))]) [blk b1 [(.int .i64 n), (.int .i64 m), (.slice A1 q.length c1), (.int .u64 a0), (.int .u64 a1), (.int .u64 a2), (.int .u64 a3), (.int .u64 a4), (.int .u64 a5)] 82, blk b2 [(.int .i64 0), (.int .i64 0), (.slice none 0 0), (.int .u64 0), (.int .u64 0), (.int .u64 0), (.int .u64 0), (.int .u64 0), (.int .u64 0)] 82, blk b3 [(.int .u64 a0), (.int .u64 a1), (.int .u64 (IntKind.u64.wrap (a2 + 1))), (.int .u64 a3), (.int .u64 a4), (.int .u64 (IntKind.u64.wrap (a5 + (IntKind.u64.wrap (k)))))] 80] (by kernel_rfl) rfl rfl rfl rfl (by kernel_rfl) rfl rfl (by kernel_rfl) rfl ?_)
  refine A.done ?_
  refine A.norm [(0, (.agg #[(.int .i64 n), (.int .i64 m), (.slice A1 q.length c1), (.int .u64 a0), (.int .u64 a1), (.int .u64 a2), (.int .u64 a3), (.int .u64 a4), (.int .u64 a5)])), (1, (.int .i64 2)), (2, (.int .i64 k)), (3, (.pointer (some ⟨b1, 0, none⟩))), (6, (.pointer (some ⟨b2, 0, none⟩))), (7, (.pointer (some ⟨b3, 0, none⟩)))] [blk b1 [(.int .i64 n), (.int .i64 m), (.slice A1 q.length c1), (.int .u64 a0), (.int .u64 a1), (.int .u64 a2), (.int .u64 a3), (.int .u64 a4), (.int .u64 a5)] 82, blk b2 [(.int .i64 0), (.int .i64 0), (.slice none 0 0), (.int .u64 0), (.int .u64 0), (.int .u64 0), (.int .u64 0), (.int .u64 0), (.int .u64 0)] 82, blk b3 [(.int .u64 a0), (.int .u64 a1), (.int .u64 (IntKind.u64.wrap (a2 + 1))), (.int .u64 a3), (.int .u64 a4), (.int .u64 (IntKind.u64.wrap (a5 + (IntKind.u64.wrap (k)))))] 80] (by exact ⟨rfl, rfl, rfl, rfl, rfl, rfl, trivial⟩) rfl ?_
  refine A.tn ?_
  refine A.seq ?_
  refine A.region ?_
  refine A.cons (A.q (some 26) (.pointer (some ⟨b1, 0, none⟩)) (by kernel_rfl) (qt_pure (by kernel_rfl) fun _ => by kernel_rfl) ?_)
  refine A.cons (A.q (some 27) (.int .i64 n) (by kernel_rfl) (qt_load1 rfl rfl (by kernel_rfl) (reads_blk (i := 0) rfl rfl)) ?_)
  refine A.cons (A.q (some 28) (.pointer (some ⟨b1, 1, none⟩)) (by kernel_rfl) (qt_pure (by kernel_rfl) fun _ => by kernel_rfl) ?_)
  refine A.cons (A.q (some 29) (.int .i64 m) (by kernel_rfl) (qt_load1 rfl rfl (by kernel_rfl) (reads_blk (i := 0) rfl rfl)) ?_)
  refine A.cons (A.q (some 30) (.pointer (some ⟨b1, 2, none⟩)) (by kernel_rfl) (qt_pure (by kernel_rfl) fun _ => by kernel_rfl) ?_)
  refine A.cons (A.q (some 31) (.slice A1 q.length c1) (by kernel_rfl) (qt_load1 rfl rfl (by kernel_rfl) (reads_blk (i := 0) rfl rfl)) ?_)
  refine A.cons (A.q (some 32) (.agg #[(.int .u64 a0), (.int .u64 a1), (.int .u64 (IntKind.u64.wrap (a2 + 1))), (.int .u64 a3), (.int .u64 a4), (.int .u64 (IntKind.u64.wrap (a5 + (IntKind.u64.wrap (k)))))]) (by kernel_rfl) (qt_loadN (vs := [(.int .u64 a0), (.int .u64 a1), (.int .u64 (IntKind.u64.wrap (a2 + 1))), (.int .u64 a3), (.int .u64 a4), (.int .u64 (IntKind.u64.wrap (a5 + (IntKind.u64.wrap (k)))))]) rfl rfl (by kernel_rfl) (reads_blk (i := 2) rfl rfl)) ?_)
  refine A.cons (A.q (some 33) (.agg #[(.int .i64 n), (.int .i64 m), (.slice A1 q.length c1), (.int .u64 a0), (.int .u64 a1), (.int .u64 (IntKind.u64.wrap (a2 + 1))), (.int .u64 a3), (.int .u64 a4), (.int .u64 (IntKind.u64.wrap (a5 + (IntKind.u64.wrap (k)))))]) (by kernel_rfl) (qt_pure (by kernel_rfl) fun _ => by kernel_rfl) ?_)
  refine A.cons (A.store 1 (vs := [(.int .i64 n), (.int .i64 m), (.slice A1 q.length c1), (.int .u64 a0), (.int .u64 a1), (.int .u64 (IntKind.u64.wrap (a2 + 1))), (.int .u64 a3), (.int .u64 a4), (.int .u64 (IntKind.u64.wrap (a5 + (IntKind.u64.wrap (k)))))]) [blk b1 [(.int .i64 n), (.int .i64 m), (.slice A1 q.length c1), (.int .u64 a0), (.int .u64 a1), (.int .u64 a2), (.int .u64 a3), (.int .u64 a4), (.int .u64 a5)] 82, blk b2 [(.int .i64 n), (.int .i64 m), (.slice A1 q.length c1), (.int .u64 a0), (.int .u64 a1), (.int .u64 (IntKind.u64.wrap (a2 + 1))), (.int .u64 a3), (.int .u64 a4), (.int .u64 (IntKind.u64.wrap (a5 + (IntKind.u64.wrap (k)))))] 82, blk b3 [(.int .u64 a0), (.int .u64 a1), (.int .u64 (IntKind.u64.wrap (a2 + 1))), (.int .u64 a3), (.int .u64 a4), (.int .u64 (IntKind.u64.wrap (a5 + (IntKind.u64.wrap (k)))))] 80] (by kernel_rfl) rfl rfl rfl rfl (by kernel_rfl) rfl rfl (by kernel_rfl) rfl ?_)
  refine A.done ?_
  refine A.norm [(0, (.agg #[(.int .i64 n), (.int .i64 m), (.slice A1 q.length c1), (.int .u64 a0), (.int .u64 a1), (.int .u64 a2), (.int .u64 a3), (.int .u64 a4), (.int .u64 a5)])), (1, (.int .i64 2)), (2, (.int .i64 k)), (3, (.pointer (some ⟨b1, 0, none⟩))), (6, (.pointer (some ⟨b2, 0, none⟩))), (7, (.pointer (some ⟨b3, 0, none⟩)))] [blk b1 [(.int .i64 n), (.int .i64 m), (.slice A1 q.length c1), (.int .u64 a0), (.int .u64 a1), (.int .u64 a2), (.int .u64 a3), (.int .u64 a4), (.int .u64 a5)] 82, blk b2 [(.int .i64 n), (.int .i64 m), (.slice A1 q.length c1), (.int .u64 a0), (.int .u64 a1), (.int .u64 (IntKind.u64.wrap (a2 + 1))), (.int .u64 a3), (.int .u64 a4), (.int .u64 (IntKind.u64.wrap (a5 + (IntKind.u64.wrap (k)))))] 82, blk b3 [(.int .u64 a0), (.int .u64 a1), (.int .u64 (IntKind.u64.wrap (a2 + 1))), (.int .u64 a3), (.int .u64 a4), (.int .u64 (IntKind.u64.wrap (a5 + (IntKind.u64.wrap (k)))))] 80] (by exact ⟨rfl, rfl, rfl, rfl, rfl, rfl, trivial⟩) rfl ?_
  refine A.tn ?_
  refine A.ret ?_
  refine A.post [(.agg #[(.int .i64 n), (.int .i64 m), (.slice A1 q.length c1), (.int .u64 a0), (.int .u64 a1), (.int .u64 (IntKind.u64.wrap (a2 + 1))), (.int .u64 a3), (.int .u64 a4), (.int .u64 (IntKind.u64.wrap (a5 + (IntKind.u64.wrap (k)))))])] (fun a w r s => ⟨rv_cellN (vs := [(.int .i64 n), (.int .i64 m), (.slice A1 q.length c1), (.int .u64 a0), (.int .u64 a1), (.int .u64 (IntKind.u64.wrap (a2 + 1))), (.int .u64 a3), (.int .u64 a4), (.int .u64 (IntKind.u64.wrap (a5 + (IntKind.u64.wrap (k)))))]) r s rfl (by kernel_rfl) (reads_blk (i := 1) rfl rfl), trivial⟩) (fun w1 s => ?_)
  refine ⟨congrArg Ending.returned (?_ : ((.agg #[(.int .i64 n), (.int .i64 m), (.slice A1 q.length c1), (.int .u64 a0), (.int .u64 a1), (.int .u64 (IntKind.u64.wrap (a2 + 1))), (.int .u64 a3), (.int .u64 a4), (.int .u64 (IntKind.u64.wrap (a5 + (IntKind.u64.wrap (k)))))]) : Value) = _), s.fr⟩
  rw [h1, h2]

set_option maxHeartbeats 8000000 in
set_option maxRecDepth 100000 in
theorem sameq_spec (qb rb rs n : Nat) (A1 : Option Addr) (c1 : Nat) (q : List Pkt) (m u ci co cd bi bo bd : Int) (w : World) (hQ : w.heap[qb]? = some (.cells [(.pointer (some ⟨rb, 0, none⟩)), (.int .i64 m), (.int .i64 u), (.int .u64 ci), (.int .u64 co), (.int .u64 cd), (.int .u64 bi), (.int .u64 bo), (.int .u64 bd)].toArray 112 (0, 0))) (hR : RingH encPkt 118 74 rb rs n q w) (hL : arrAt w A1 (V.flat encPkt q)) (hv : ∀ x ∈ q, LenOk x) (hu : u = lens q) :
    Calls Try.prog 50 #[(.pointer (some ⟨qb, 0, none⟩)), (.agg #[(.int .i64 (n : Int)), (.int .i64 m), (.slice A1 q.length c1), (.int .u64 ci), (.int .u64 co), (.int .u64 cd), (.int .u64 bi), (.int .u64 bo), (.int .u64 bd)])] w fun e w' => e = .returned (.bool true) ∧ Fr [] w w' := by
  have hbn := hR.bounds
  refine calls_of (args := [(.pointer (some ⟨qb, 0, none⟩)), (.agg #[(.int .i64 (n : Int)), (.int .i64 m), (.slice A1 q.length c1), (.int .u64 ci), (.int .u64 co), (.int .u64 cd), (.int .u64 bi), (.int .u64 bo), (.int .u64 bd)])]) (penv [(.pointer (some ⟨qb, 0, none⟩)), (.agg #[(.int .i64 (n : Int)), (.int .i64 m), (.slice A1 q.length c1), (.int .u64 ci), (.int .u64 co), (.int .u64 cd), (.int .u64 bi), (.int .u64 bo), (.int .u64 bd)])]) [] [] Try.func50 rfl rfl (look_penv _) (HS.nil w) ?_
  refine A.norm [(0, (.pointer (some ⟨qb, 0, none⟩))), (1, (.agg #[(.int .i64 (n : Int)), (.int .i64 m), (.slice A1 q.length c1), (.int .u64 ci), (.int .u64 co), (.int .u64 cd), (.int .u64 bi), (.int .u64 bo), (.int .u64 bd)]))] [] (by exact ⟨rfl, rfl, trivial⟩) rfl ?_
  refine A.seq ?_
  refine A.region ?_
  refine A.cons (A.box 3 [(.int .i64 (n : Int)), (.int .i64 m), (.slice A1 q.length c1), (.int .u64 ci), (.int .u64 co), (.int .u64 cd), (.int .u64 bi), (.int .u64 bo), (.int .u64 bd)] (by kernel_rfl) rfl rfl rfl (fun b1 => [blk b1 [(.int .i64 (n : Int)), (.int .i64 m), (.slice A1 q.length c1), (.int .u64 ci), (.int .u64 co), (.int .u64 cd), (.int .u64 bi), (.int .u64 bo), (.int .u64 bd)] 82]) (fun _ => rfl) ?_)
  intro b1
  refine A.cons (A.q (some 4) (.bool false) (by kernel_rfl) (qt_assign rfl rfl) ?_)
  refine A.done ?_
  refine A.norm [(0, (.pointer (some ⟨qb, 0, none⟩))), (1, (.agg #[(.int .i64 (n : Int)), (.int .i64 m), (.slice A1 q.length c1), (.int .u64 ci), (.int .u64 co), (.int .u64 cd), (.int .u64 bi), (.int .u64 bo), (.int .u64 bd)])), (3, (.pointer (some ⟨b1, 0, none⟩))), (4, (.bool false))] [blk b1 [(.int .i64 (n : Int)), (.int .i64 m), (.slice A1 q.length c1), (.int .u64 ci), (.int .u64 co), (.int .u64 cd), (.int .u64 bi), (.int .u64 bo), (.int .u64 bd)] 82] (by exact ⟨rfl, rfl, rfl, rfl, trivial⟩) rfl ?_
  refine A.tn ?_
  refine A.seq ?_
  refine A.draw [blk b1 [(.int .i64 (n : Int)), (.int .i64 m), (.slice A1 q.length c1), (.int .u64 ci), (.int .u64 co), (.int .u64 cd), (.int .u64 bi), (.int .u64 bo), (.int .u64 bd)] 82] (by kernel_rfl) ?_
  refine A.take 0 (some 5) (.pointer (some ⟨qb, 0, none⟩)) rfl (by kernel_rfl) (by kernel_rfl) (List.Sublist.refl _) (qt_move rfl rfl) ?_
  refine A.take 2 (some 7) (.pointer (some ⟨b1, 2, none⟩)) rfl (by kernel_rfl) (by kernel_rfl) (List.Sublist.refl _) (qt_pure (by kernel_rfl) fun _ => by kernel_rfl) ?_
  refine A.take 3 (some 8) (.slice A1 q.length c1) rfl (by kernel_rfl) (by kernel_rfl) (List.Sublist.refl _) (qt_load1 rfl rfl (by kernel_rfl) (reads_blk (i := 0) rfl rfl)) ?_
  refine A.take 4 (some 9) (.int .i64 (q.length : Int)) rfl (by kernel_rfl) (by kernel_rfl) (List.Sublist.refl _) (qt_pure (by kernel_rfl) fun _ => by kernel_rfl) ?_
  refine A.only 1 rfl (by kernel_rfl) (A.inl (some 6) [(.pointer (some ⟨qb, 0, none⟩))] [(0, (.pointer (some ⟨qb, 0, none⟩)))] (by kernel_rfl) rfl (by kernel_rfl) rfl Try.func51 rfl rfl rfl ?_)
  refine A.seq ?_
  refine A.region ?_
  refine A.cons (A.q (some 2) (.int .i64 0) (by kernel_rfl) (qt_assign rfl rfl) ?_)
  refine A.done ?_
  refine A.norm [(0, (.pointer (some ⟨qb, 0, none⟩))), (2, (.int .i64 0))] [blk b1 [(.int .i64 (n : Int)), (.int .i64 m), (.slice A1 q.length c1), (.int .u64 ci), (.int .u64 co), (.int .u64 cd), (.int .u64 bi), (.int .u64 bo), (.int .u64 bd)] 82] (by exact ⟨rfl, rfl, trivial⟩) rfl ?_
  refine A.tn ?_
  refine A.seq ?_
  refine A.seq ?_
  refine A.region ?_
  refine A.cons (A.q (some 3) (.pointer (some ⟨qb, 0, none⟩)) (by kernel_rfl) (qt_move rfl rfl) ?_)
  refine A.cons (A.q (some 4) (.bool false) (by kernel_rfl) (qt_pure (by kernel_rfl) fun _ => by kernel_rfl) ?_)
  refine A.done ?_
  refine A.norm [(0, (.pointer (some ⟨qb, 0, none⟩))), (2, (.int .i64 0)), (4, (.bool false))] [blk b1 [(.int .i64 (n : Int)), (.int .i64 m), (.slice A1 q.length c1), (.int .u64 ci), (.int .u64 co), (.int .u64 cd), (.int .u64 bi), (.int .u64 bo), (.int .u64 bd)] 82] (by exact ⟨rfl, rfl, rfl, trivial⟩) rfl ?_
  refine A.tn ?_
  refine A.cond_f rfl ?_
  refine A.skip ?_
  refine A.tn ?_
  refine A.seq ?_
  refine A.region ?_
  refine A.cons (A.q (some 5) (.pointer (some ⟨qb, 0, none⟩)) (by kernel_rfl) (qt_move rfl rfl) ?_)
  refine A.cons (A.q (some 6) (.pointer (some ⟨qb, 0, none⟩)) (by kernel_rfl) (qt_pure (by kernel_rfl) fun _ => by kernel_rfl) ?_)
  refine A.cons (A.q (some 7) (.pointer (some ⟨qb, 0, none⟩)) (by kernel_rfl) (qt_pure (by kernel_rfl) fun _ => by kernel_rfl) ?_)
  refine A.cons (A.q (some 8) (.pointer (some ⟨rb, 0, none⟩)) (by kernel_rfl) (qt_load1 rfl rfl (by kernel_rfl) (reads_oldblk hQ rfl)) ?_)
  refine A.cons (A.q (some 9) (.int .i64 (q.length : Int)) (by kernel_rfl) (qt_call [(.pointer (some ⟨rb, 0, none⟩))] rfl (by kernel_rfl) rfl (fun w s => ringP_len rb rs n q w (old_item (it := ringI encPkt 118 74 rb rs n q) s hR))) ?_)
  refine A.cons (A.q (some 2) (.int .i64 (q.length : Int)) (by kernel_rfl) (qt_assign rfl rfl) ?_)
  refine A.done ?_
  refine A.norm [(0, (.pointer (some ⟨qb, 0, none⟩))), (2, (.int .i64 (q.length : Int))), (4, (.bool false))] [blk b1 [(.int .i64 (n : Int)), (.int .i64 m), (.slice A1 q.length c1), (.int .u64 ci), (.int .u64 co), (.int .u64 cd), (.int .u64 bi), (.int .u64 bo), (.int .u64 bd)] 82] (by exact ⟨rfl, rfl, rfl, trivial⟩) rfl ?_
  refine A.tn ?_
  refine A.ret ?_
  refine A.post [(.int .i64 (q.length : Int))] (fun a w r s => ⟨rv_tmp r rfl, trivial⟩) (A.back (by kernel_rfl) ?_)
  refine A.and (List.Sublist.refl _) ?_
  refine A.take 5 (some 10) (.bool ((q.length : Int) == (q.length : Int))) rfl (by kernel_rfl) (by kernel_rfl) (List.Sublist.refl _) (qt_pure (by kernel_rfl) fun _ => by kernel_rfl) ?_
  refine A.take 6 (some 11) (.bool ((q.length : Int) == (q.length : Int))) rfl (by kernel_rfl) (by kernel_rfl) (List.Sublist.refl _) (qt_move rfl rfl) ?_
  refine A.bool ((q.length : Int) == (q.length : Int)) (fun e1 => ?_) (fun e1 => ?_)
  · skip
    refine A.sub [(0, (.pointer (some ⟨qb, 0, none⟩))), (1, (.agg #[(.int .i64 (n : Int)), (.int .i64 m), (.slice A1 q.length c1), (.int .u64 ci), (.int .u64 co), (.int .u64 cd), (.int .u64 bi), (.int .u64 bo), (.int .u64 bd)])), (3, (.pointer (some ⟨b1, 0, none⟩))), (4, (.bool false)), (5, (.pointer (some ⟨qb, 0, none⟩))), (7, (.pointer (some ⟨b1, 2, none⟩))), (8, (.slice A1 q.length c1)), (9, (.int .i64 (q.length : Int))), (6, (.int .i64 (q.length : Int))), (10, (.bool true)), (11, (.bool true))] (by exact ⟨rfl, rfl, rfl, rfl, rfl, rfl, rfl, rfl, rfl, (congrArg (fun z => some (Value.bool z)) e1), (congrArg (fun z => some (Value.bool z)) e1), trivial⟩) ?_
    refine A.take 7 (some 12) (.pointer (some ⟨qb, 0, none⟩)) rfl (by kernel_rfl) (by kernel_rfl) (List.Sublist.refl _) (qt_move rfl rfl) ?_
    refine A.take 9 (some 14) (.agg #[(.int .i64 (n : Int)), (.int .i64 m), (.slice A1 q.length c1), (.int .u64 ci), (.int .u64 co), (.int .u64 cd), (.int .u64 bi), (.int .u64 bo), (.int .u64 bd)]) rfl (by kernel_rfl) (by kernel_rfl) (List.Sublist.refl _) (qt_loadN (vs := [(.int .i64 (n : Int)), (.int .i64 m), (.slice A1 q.length c1), (.int .u64 ci), (.int .u64 co), (.int .u64 cd), (.int .u64 bi), (.int .u64 bo), (.int .u64 bd)]) rfl rfl (by kernel_rfl) (reads_blk (i := 0) rfl rfl)) ?_
    refine A.only 8 rfl (by kernel_rfl) (A.inl (some 13) [(.pointer (some ⟨qb, 0, none⟩))] [(0, (.pointer (some ⟨qb, 0, none⟩)))] (by kernel_rfl) rfl (by kernel_rfl) rfl Try.func46 rfl rfl rfl ?_)
    refine A.seq ?_
    refine A.region ?_
    refine A.cons (A.q (some 2) (.int .i64 0) (by kernel_rfl) (qt_assign rfl rfl) ?_)
    refine A.done ?_
    refine A.norm [(0, (.pointer (some ⟨qb, 0, none⟩))), (2, (.int .i64 0))] [blk b1 [(.int .i64 (n : Int)), (.int .i64 m), (.slice A1 q.length c1), (.int .u64 ci), (.int .u64 co), (.int .u64 cd), (.int .u64 bi), (.int .u64 bo), (.int .u64 bd)] 82] (by exact ⟨rfl, rfl, trivial⟩) rfl ?_
    refine A.tn ?_
    refine A.seq ?_
    refine A.seq ?_
    refine A.region ?_
    refine A.cons (A.q (some 3) (.pointer (some ⟨qb, 0, none⟩)) (by kernel_rfl) (qt_move rfl rfl) ?_)
    refine A.cons (A.q (some 4) (.bool false) (by kernel_rfl) (qt_pure (by kernel_rfl) fun _ => by kernel_rfl) ?_)
    refine A.done ?_
    refine A.norm [(0, (.pointer (some ⟨qb, 0, none⟩))), (2, (.int .i64 0)), (4, (.bool false))] [blk b1 [(.int .i64 (n : Int)), (.int .i64 m), (.slice A1 q.length c1), (.int .u64 ci), (.int .u64 co), (.int .u64 cd), (.int .u64 bi), (.int .u64 bo), (.int .u64 bd)] 82] (by exact ⟨rfl, rfl, rfl, trivial⟩) rfl ?_
    refine A.tn ?_
    refine A.cond_f rfl ?_
    refine A.skip ?_
    refine A.tn ?_
    refine A.seq ?_
    refine A.region ?_
    refine A.cons (A.q (some 5) (.pointer (some ⟨qb, 0, none⟩)) (by kernel_rfl) (qt_move rfl rfl) ?_)
    refine A.cons (A.q (some 6) (.pointer (some ⟨qb, 0, none⟩)) (by kernel_rfl) (qt_pure (by kernel_rfl) fun _ => by kernel_rfl) ?_)
    refine A.cons (A.q (some 7) (.pointer (some ⟨qb, 2, none⟩)) (by kernel_rfl) (qt_pure (by kernel_rfl) fun _ => by kernel_rfl) ?_)
    refine A.cons (A.q (some 8) (.int .i64 u) (by kernel_rfl) (qt_load1 rfl rfl (by kernel_rfl) (reads_oldblk hQ rfl)) ?_)
    refine A.cons (A.q (some 2) (.int .i64 u) (by kernel_rfl) (qt_assign rfl rfl) ?_)
    refine A.done ?_
    refine A.norm [(0, (.pointer (some ⟨qb, 0, none⟩))), (2, (.int .i64 u)), (4, (.bool false))] [blk b1 [(.int .i64 (n : Int)), (.int .i64 m), (.slice A1 q.length c1), (.int .u64 ci), (.int .u64 co), (.int .u64 cd), (.int .u64 bi), (.int .u64 bo), (.int .u64 bd)] 82] (by exact ⟨rfl, rfl, rfl, trivial⟩) rfl ?_
    refine A.tn ?_
    refine A.ret ?_
    refine A.post [(.int .i64 u)] (fun a w r s => ⟨rv_tmp r rfl, trivial⟩) (A.back (by kernel_rfl) ?_)
    refine A.and (List.Sublist.refl _) ?_
    refine A.take 10 (some 15) (.int .i64 (lens q)) rfl (by kernel_rfl) (by kernel_rfl) (List.Sublist.refl _) (qt_call [(.agg #[(.int .i64 (n : Int)), (.int .i64 m), (.slice A1 q.length c1), (.int .u64 ci), (.int .u64 co), (.int .u64 cd), (.int .u64 bi), (.int .u64 bo), (.int .u64 bd)])] rfl (by kernel_rfl) rfl (fun w s => bytes_spec A1 c1 q (n : Int) m ci co cd bi bo bd w (by omega) (hv) ((rd_old hL (by simp)) w s))) ?_
    refine A.take 11 (some 16) (.bool (u == (lens q))) rfl (by kernel_rfl) (by kernel_rfl) (List.Sublist.refl _) (qt_pure (by kernel_rfl) fun _ => by kernel_rfl) ?_
    refine A.take 12 (some 17) (.bool (u == (lens q))) rfl (by kernel_rfl) (by kernel_rfl) (List.Sublist.refl _) (qt_pure (by kernel_rfl) fun _ => by kernel_rfl) ?_
    refine A.take 13 (some 18) (.bool (u == (lens q))) rfl (by kernel_rfl) (by kernel_rfl) (List.Sublist.refl _) (qt_move rfl rfl) ?_
    refine A.bool (u == (lens q)) (fun e2 => ?_) (fun e2 => ?_)
    · skip
      refine A.sub [(0, (.pointer (some ⟨qb, 0, none⟩))), (1, (.agg #[(.int .i64 (n : Int)), (.int .i64 m), (.slice A1 q.length c1), (.int .u64 ci), (.int .u64 co), (.int .u64 cd), (.int .u64 bi), (.int .u64 bo), (.int .u64 bd)])), (3, (.pointer (some ⟨b1, 0, none⟩))), (4, (.bool false)), (5, (.pointer (some ⟨qb, 0, none⟩))), (7, (.pointer (some ⟨b1, 2, none⟩))), (8, (.slice A1 q.length c1)), (9, (.int .i64 (q.length : Int))), (6, (.int .i64 (q.length : Int))), (10, (.bool true)), (11, (.bool true)), (12, (.pointer (some ⟨qb, 0, none⟩))), (14, (.agg #[(.int .i64 (n : Int)), (.int .i64 m), (.slice A1 q.length c1), (.int .u64 ci), (.int .u64 co), (.int .u64 cd), (.int .u64 bi), (.int .u64 bo), (.int .u64 bd)])), (13, (.int .i64 u)), (15, (.int .i64 (lens q))), (16, (.bool true)), (17, (.bool true)), (18, (.bool true))] (by exact ⟨rfl, rfl, rfl, rfl, rfl, rfl, rfl, rfl, rfl, rfl, rfl, rfl, rfl, rfl, rfl, (congrArg (fun z => some (Value.bool z)) e2), (congrArg (fun z => some (Value.bool z)) e2), (congrArg (fun z => some (Value.bool z)) e2), trivial⟩) ?_
      refine A.take 14 (some 19) (.pointer (some ⟨qb, 0, none⟩)) rfl (by kernel_rfl) (by kernel_rfl) (List.Sublist.refl _) (qt_move rfl rfl) ?_
      refine A.take 16 (some 21) (.agg #[(.int .i64 (n : Int)), (.int .i64 m), (.slice A1 q.length c1), (.int .u64 ci), (.int .u64 co), (.int .u64 cd), (.int .u64 bi), (.int .u64 bo), (.int .u64 bd)]) rfl (by kernel_rfl) (by kernel_rfl) (List.Sublist.refl _) (qt_loadN (vs := [(.int .i64 (n : Int)), (.int .i64 m), (.slice A1 q.length c1), (.int .u64 ci), (.int .u64 co), (.int .u64 cd), (.int .u64 bi), (.int .u64 bo), (.int .u64 bd)]) rfl rfl (by kernel_rfl) (reads_blk (i := 0) rfl rfl)) ?_
      refine A.only 15 rfl (by kernel_rfl) (A.inl (some 20) [(.pointer (some ⟨qb, 0, none⟩))] [(0, (.pointer (some ⟨qb, 0, none⟩)))] (by kernel_rfl) rfl (by kernel_rfl) rfl Try.func52 rfl rfl rfl ?_)
      refine A.seq ?_
      refine A.region ?_
      refine A.cons (A.q (some 2) (.int .i64 0) (by kernel_rfl) (qt_assign rfl rfl) ?_)
      refine A.done ?_
      refine A.norm [(0, (.pointer (some ⟨qb, 0, none⟩))), (2, (.int .i64 0))] [blk b1 [(.int .i64 (n : Int)), (.int .i64 m), (.slice A1 q.length c1), (.int .u64 ci), (.int .u64 co), (.int .u64 cd), (.int .u64 bi), (.int .u64 bo), (.int .u64 bd)] 82] (by exact ⟨rfl, rfl, trivial⟩) rfl ?_
      refine A.tn ?_
      refine A.seq ?_
      refine A.seq ?_
      refine A.region ?_
      refine A.cons (A.q (some 5) (.pointer (some ⟨qb, 0, none⟩)) (by kernel_rfl) (qt_move rfl rfl) ?_)
      refine A.cons (A.inl (some 6) [(.pointer (some ⟨qb, 0, none⟩))] [(0, (.pointer (some ⟨qb, 0, none⟩)))] (by kernel_rfl) rfl (by kernel_rfl) rfl Try.func51 rfl rfl rfl ?_)
      refine A.seq ?_
      refine A.region ?_
      refine A.cons (A.q (some 2) (.int .i64 0) (by kernel_rfl) (qt_assign rfl rfl) ?_)
      refine A.done ?_
      refine A.norm [(0, (.pointer (some ⟨qb, 0, none⟩))), (2, (.int .i64 0))] [blk b1 [(.int .i64 (n : Int)), (.int .i64 m), (.slice A1 q.length c1), (.int .u64 ci), (.int .u64 co), (.int .u64 cd), (.int .u64 bi), (.int .u64 bo), (.int .u64 bd)] 82] (by exact ⟨rfl, rfl, trivial⟩) rfl ?_
      refine A.tn ?_
      refine A.seq ?_
      refine A.seq ?_
      refine A.region ?_
      refine A.cons (A.q (some 3) (.pointer (some ⟨qb, 0, none⟩)) (by kernel_rfl) (qt_move rfl rfl) ?_)
      refine A.cons (A.q (some 4) (.bool false) (by kernel_rfl) (qt_pure (by kernel_rfl) fun _ => by kernel_rfl) ?_)
      refine A.done ?_
      refine A.norm [(0, (.pointer (some ⟨qb, 0, none⟩))), (2, (.int .i64 0)), (4, (.bool false))] [blk b1 [(.int .i64 (n : Int)), (.int .i64 m), (.slice A1 q.length c1), (.int .u64 ci), (.int .u64 co), (.int .u64 cd), (.int .u64 bi), (.int .u64 bo), (.int .u64 bd)] 82] (by exact ⟨rfl, rfl, rfl, trivial⟩) rfl ?_
      refine A.tn ?_
      refine A.cond_f rfl ?_
      refine A.skip ?_
      refine A.tn ?_
      refine A.seq ?_
      refine A.region ?_
      refine A.cons (A.q (some 5) (.pointer (some ⟨qb, 0, none⟩)) (by kernel_rfl) (qt_move rfl rfl) ?_)
      refine A.cons (A.q (some 6) (.pointer (some ⟨qb, 0, none⟩)) (by kernel_rfl) (qt_pure (by kernel_rfl) fun _ => by kernel_rfl) ?_)
      refine A.cons (A.q (some 7) (.pointer (some ⟨qb, 0, none⟩)) (by kernel_rfl) (qt_pure (by kernel_rfl) fun _ => by kernel_rfl) ?_)
      refine A.cons (A.q (some 8) (.pointer (some ⟨rb, 0, none⟩)) (by kernel_rfl) (qt_load1 rfl rfl (by kernel_rfl) (reads_oldblk hQ rfl)) ?_)
      refine A.cons (A.q (some 9) (.int .i64 (q.length : Int)) (by kernel_rfl) (qt_call [(.pointer (some ⟨rb, 0, none⟩))] rfl (by kernel_rfl) rfl (fun w s => ringP_len rb rs n q w (old_item (it := ringI encPkt 118 74 rb rs n q) s hR))) ?_)
      refine A.cons (A.q (some 2) (.int .i64 (q.length : Int)) (by kernel_rfl) (qt_assign rfl rfl) ?_)
      refine A.done ?_
      refine A.norm [(0, (.pointer (some ⟨qb, 0, none⟩))), (2, (.int .i64 (q.length : Int))), (4, (.bool false))] [blk b1 [(.int .i64 (n : Int)), (.int .i64 m), (.slice A1 q.length c1), (.int .u64 ci), (.int .u64 co), (.int .u64 cd), (.int .u64 bi), (.int .u64 bo), (.int .u64 bd)] 82] (by exact ⟨rfl, rfl, rfl, trivial⟩) rfl ?_
      refine A.tn ?_
      refine A.ret ?_
      refine A.post [(.int .i64 (q.length : Int))] (fun a w r s => ⟨rv_tmp r rfl, trivial⟩) (A.back (by kernel_rfl) ?_)
      refine A.cons (A.q (some 7) (.bool ((q.length : Int) == 0)) (by kernel_rfl) (qt_pure (by kernel_rfl) fun _ => by kernel_rfl) ?_)
      refine A.done ?_
      refine A.norm [(0, (.pointer (some ⟨qb, 0, none⟩))), (2, (.int .i64 0)), (7, (.bool ((q.length : Int) == 0)))] [blk b1 [(.int .i64 (n : Int)), (.int .i64 m), (.slice A1 q.length c1), (.int .u64 ci), (.int .u64 co), (.int .u64 cd), (.int .u64 bi), (.int .u64 bo), (.int .u64 bd)] 82] (by exact ⟨rfl, rfl, rfl, trivial⟩) rfl ?_
      refine A.tn ?_
      refine A.cond (E := (q.length : Int) == 0) rfl (fun e3 => ?_) (fun e3 => ?_)
      · skip
        have p3 := e3; try simp only [decide_eq_true_eq, decide_eq_false_iff_not, beq_iff_eq, beq_eq_false_iff_ne, bne_iff_ne, bne_eq_false_iff_eq, ne_eq, Bool.and_eq_true, Bool.or_eq_true, Bool.or_eq_false_iff, Bool.not_eq_true', Bool.not_eq_false', Int.not_lt, Int.not_le, gt_iff_lt, ge_iff_le, Classical.not_not] at p3
        refine A.seq ?_
        refine A.region ?_
        refine A.cons (A.q (some 2) (.int .i64 0) (by kernel_rfl) (qt_assign rfl rfl) ?_)
        refine A.done ?_
        refine A.norm [(0, (.pointer (some ⟨qb, 0, none⟩))), (2, (.int .i64 0)), (7, (.bool ((q.length : Int) == 0)))] [blk b1 [(.int .i64 (n : Int)), (.int .i64 m), (.slice A1 q.length c1), (.int .u64 ci), (.int .u64 co), (.int .u64 cd), (.int .u64 bi), (.int .u64 bo), (.int .u64 bd)] 82] (by exact ⟨rfl, rfl, rfl, trivial⟩) rfl ?_
        refine A.tn ?_
        refine A.ret ?_
        refine A.tr ?_
        refine A.post [(.int .i64 0)] (fun a w r s => ⟨rv_tmp r rfl, trivial⟩) (A.back (by kernel_rfl) ?_)
        refine A.and (List.Sublist.refl _) ?_
        refine A.only 17 rfl (by kernel_rfl) (A.inl (some 22) [(.agg #[(.int .i64 (n : Int)), (.int .i64 m), (.slice A1 q.length c1), (.int .u64 ci), (.int .u64 co), (.int .u64 cd), (.int .u64 bi), (.int .u64 bo), (.int .u64 bd)])] [(0, (.agg #[(.int .i64 (n : Int)), (.int .i64 m), (.slice A1 q.length c1), (.int .u64 ci), (.int .u64 co), (.int .u64 cd), (.int .u64 bi), (.int .u64 bo), (.int .u64 bd)]))] (by kernel_rfl) rfl (by kernel_rfl) rfl Try.func68 rfl rfl rfl ?_)
        refine A.seq ?_
        refine A.region ?_
        refine A.cons (A.box 1 [(.int .i64 (n : Int)), (.int .i64 m), (.slice A1 q.length c1), (.int .u64 ci), (.int .u64 co), (.int .u64 cd), (.int .u64 bi), (.int .u64 bo), (.int .u64 bd)] (by kernel_rfl) rfl rfl rfl (fun b2 => [blk b1 [(.int .i64 (n : Int)), (.int .i64 m), (.slice A1 q.length c1), (.int .u64 ci), (.int .u64 co), (.int .u64 cd), (.int .u64 bi), (.int .u64 bo), (.int .u64 bd)] 82, blk b2 [(.int .i64 (n : Int)), (.int .i64 m), (.slice A1 q.length c1), (.int .u64 ci), (.int .u64 co), (.int .u64 cd), (.int .u64 bi), (.int .u64 bo), (.int .u64 bd)] 82]) (fun _ => rfl) ?_)
        intro b2
        refine A.cons (A.q (some 2) (.int .i64 0) (by kernel_rfl) (qt_assign rfl rfl) ?_)
        refine A.done ?_
        refine A.norm [(0, (.agg #[(.int .i64 (n : Int)), (.int .i64 m), (.slice A1 q.length c1), (.int .u64 ci), (.int .u64 co), (.int .u64 cd), (.int .u64 bi), (.int .u64 bo), (.int .u64 bd)])), (1, (.pointer (some ⟨b2, 0, none⟩))), (2, (.int .i64 0))] [blk b1 [(.int .i64 (n : Int)), (.int .i64 m), (.slice A1 q.length c1), (.int .u64 ci), (.int .u64 co), (.int .u64 cd), (.int .u64 bi), (.int .u64 bo), (.int .u64 bd)] 82, blk b2 [(.int .i64 (n : Int)), (.int .i64 m), (.slice A1 q.length c1), (.int .u64 ci), (.int .u64 co), (.int .u64 cd), (.int .u64 bi), (.int .u64 bo), (.int .u64 bd)] 82] (by exact ⟨rfl, rfl, rfl, trivial⟩) rfl ?_
        refine A.tn ?_
        refine A.seq ?_
        refine A.seq ?_
        refine A.region ?_
        refine A.cons (A.q (some 3) (.pointer (some ⟨b2, 2, none⟩)) (by kernel_rfl) (qt_pure (by kernel_rfl) fun _ => by kernel_rfl) ?_)
        refine A.cons (A.q (some 4) (.slice A1 q.length c1) (by kernel_rfl) (qt_load1 rfl rfl (by kernel_rfl) (reads_blk (i := 1) rfl rfl)) ?_)
        refine A.cons (A.q (some 5) (.int .i64 (q.length : Int)) (by kernel_rfl) (qt_pure (by kernel_rfl) fun _ => by kernel_rfl) ?_)
        refine A.cons (A.q (some 6) (.bool ((q.length : Int) == 0)) (by kernel_rfl) (qt_pure (by kernel_rfl) fun _ => by kernel_rfl) ?_)
        refine A.done ?_
        refine A.norm [(0, (.agg #[(.int .i64 (n : Int)), (.int .i64 m), (.slice A1 q.length c1), (.int .u64 ci), (.int .u64 co), (.int .u64 cd), (.int .u64 bi), (.int .u64 bo), (.int .u64 bd)])), (1, (.pointer (some ⟨b2, 0, none⟩))), (2, (.int .i64 0)), (6, (.bool ((q.length : Int) == 0)))] [blk b1 [(.int .i64 (n : Int)), (.int .i64 m), (.slice A1 q.length c1), (.int .u64 ci), (.int .u64 co), (.int .u64 cd), (.int .u64 bi), (.int .u64 bo), (.int .u64 bd)] 82, blk b2 [(.int .i64 (n : Int)), (.int .i64 m), (.slice A1 q.length c1), (.int .u64 ci), (.int .u64 co), (.int .u64 cd), (.int .u64 bi), (.int .u64 bo), (.int .u64 bd)] 82] (by exact ⟨rfl, rfl, rfl, rfl, trivial⟩) rfl ?_
        refine A.tn ?_
        refine A.cond (E := (q.length : Int) == 0) rfl (fun e4 => ?_) (fun e4 => ?_)
        · skip
          have p4 := e4; try simp only [decide_eq_true_eq, decide_eq_false_iff_not, beq_iff_eq, beq_eq_false_iff_ne, bne_iff_ne, bne_eq_false_iff_eq, ne_eq, Bool.and_eq_true, Bool.or_eq_true, Bool.or_eq_false_iff, Bool.not_eq_true', Bool.not_eq_false', Int.not_lt, Int.not_le, gt_iff_lt, ge_iff_le, Classical.not_not] at p4
          refine A.seq ?_
          refine A.region ?_
          refine A.cons (A.q (some 2) (.int .i64 0) (by kernel_rfl) (qt_assign rfl rfl) ?_)
          refine A.done ?_
          refine A.norm [(0, (.agg #[(.int .i64 (n : Int)), (.int .i64 m), (.slice A1 q.length c1), (.int .u64 ci), (.int .u64 co), (.int .u64 cd), (.int .u64 bi), (.int .u64 bo), (.int .u64 bd)])), (1, (.pointer (some ⟨b2, 0, none⟩))), (2, (.int .i64 0)), (6, (.bool ((q.length : Int) == 0)))] [blk b1 [(.int .i64 (n : Int)), (.int .i64 m), (.slice A1 q.length c1), (.int .u64 ci), (.int .u64 co), (.int .u64 cd), (.int .u64 bi), (.int .u64 bo), (.int .u64 bd)] 82, blk b2 [(.int .i64 (n : Int)), (.int .i64 m), (.slice A1 q.length c1), (.int .u64 ci), (.int .u64 co), (.int .u64 cd), (.int .u64 bi), (.int .u64 bo), (.int .u64 bd)] 82] (by exact ⟨rfl, rfl, rfl, rfl, trivial⟩) rfl ?_
          refine A.tn ?_
          refine A.ret ?_
          refine A.tr ?_
          refine A.post [(.int .i64 0)] (fun a w r s => ⟨rv_tmp r rfl, trivial⟩) (A.back (by kernel_rfl) ?_)
          refine A.items [blk b1 [(.int .i64 (n : Int)), (.int .i64 m), (.slice A1 q.length c1), (.int .u64 ci), (.int .u64 co), (.int .u64 cd), (.int .u64 bi), (.int .u64 bo), (.int .u64 bd)] 82] (List.Sublist.cons_cons _ (List.Sublist.cons _ (List.Sublist.slnil))) ?_
          refine A.and (List.Sublist.refl _) ?_
          refine A.take 18 (some 23) (.bool true) rfl (by kernel_rfl) (by kernel_rfl) (List.Sublist.refl _) (qt_pure (by kernel_rfl) fun _ => by kernel_rfl) ?_
          refine A.take 19 (some 24) (.bool true) rfl (by kernel_rfl) (by kernel_rfl) (List.Sublist.refl _) (qt_pure (by kernel_rfl) fun _ => by kernel_rfl) ?_
          refine A.take 20 (some 25) (.bool true) rfl (by kernel_rfl) (by kernel_rfl) (List.Sublist.refl _) (qt_move rfl rfl) ?_
          refine A.take 21 (some 26) (.pointer (some ⟨qb, 0, none⟩)) rfl (by kernel_rfl) (by kernel_rfl) (List.Sublist.refl _) (qt_move rfl rfl) ?_
          refine A.take 23 (some 28) (.pointer (some ⟨b1, 3, none⟩)) rfl (by kernel_rfl) (by kernel_rfl) (List.Sublist.refl _) (qt_pure (by kernel_rfl) fun _ => by kernel_rfl) ?_
          refine A.take 24 (some 29) (.agg #[(.int .u64 ci), (.int .u64 co), (.int .u64 cd), (.int .u64 bi), (.int .u64 bo), (.int .u64 bd)]) rfl (by kernel_rfl) (by kernel_rfl) (List.Sublist.refl _) (qt_loadN (vs := [(.int .u64 ci), (.int .u64 co), (.int .u64 cd), (.int .u64 bi), (.int .u64 bo), (.int .u64 bd)]) rfl rfl (by kernel_rfl) (reads_blk (i := 0) rfl rfl)) ?_
          refine A.only 22 rfl (by kernel_rfl) (A.inl (some 27) [(.pointer (some ⟨qb, 0, none⟩))] [(0, (.pointer (some ⟨qb, 0, none⟩)))] (by kernel_rfl) rfl (by kernel_rfl) rfl Try.func49 rfl rfl rfl ?_)
          refine A.seq ?_
          refine A.region ?_
          refine A.cons (A.alloc 2 [(.int .u64 0), (.int .u64 0), (.int .u64 0), (.int .u64 0), (.int .u64 0), (.int .u64 0)] (by kernel_rfl) rfl (by kernel_rfl) (fun b3 => [blk b1 [(.int .i64 (n : Int)), (.int .i64 m), (.slice A1 q.length c1), (.int .u64 ci), (.int .u64 co), (.int .u64 cd), (.int .u64 bi), (.int .u64 bo), (.int .u64 bd)] 82, blk b3 [(.int .u64 0), (.int .u64 0), (.int .u64 0), (.int .u64 0), (.int .u64 0), (.int .u64 0)] 87]) (fun _ => rfl) ?_)
          intro b3
          refine A.done ?_
          refine A.norm [(0, (.pointer (some ⟨qb, 0, none⟩))), (2, (.pointer (some ⟨b3, 0, none⟩)))] [blk b1 [(.int .i64 (n : Int)), (.int .i64 m), (.slice A1 q.length c1), (.int .u64 ci), (.int .u64 co), (.int .u64 cd), (.int .u64 bi), (.int .u64 bo), (.int .u64 bd)] 82, blk b3 [(.int .u64 0), (.int .u64 0), (.int .u64 0), (.int .u64 0), (.int .u64 0), (.int .u64 0)] 87] (by exact ⟨rfl, rfl, trivial⟩) rfl ?_
          refine A.tn ?_
          refine A.seq ?_
          refine A.seq ?_
          refine A.region ?_
          refine A.cons (A.q (some 3) (.pointer (some ⟨qb, 0, none⟩)) (by kernel_rfl) (qt_move rfl rfl) ?_)
          refine A.cons (A.q (some 4) (.bool false) (by kernel_rfl) (qt_pure (by kernel_rfl) fun _ => by kernel_rfl) ?_)
          refine A.done ?_
          refine A.norm [(0, (.pointer (some ⟨qb, 0, none⟩))), (2, (.pointer (some ⟨b3, 0, none⟩))), (4, (.bool false))] [blk b1 [(.int .i64 (n : Int)), (.int .i64 m), (.slice A1 q.length c1), (.int .u64 ci), (.int .u64 co), (.int .u64 cd), (.int .u64 bi), (.int .u64 bo), (.int .u64 bd)] 82, blk b3 [(.int .u64 0), (.int .u64 0), (.int .u64 0), (.int .u64 0), (.int .u64 0), (.int .u64 0)] 87] (by exact ⟨rfl, rfl, rfl, trivial⟩) rfl ?_
          refine A.tn ?_
          refine A.cond_f rfl ?_
          refine A.skip ?_
          refine A.tn ?_
          refine A.seq ?_
          refine A.region ?_
          refine A.cons (A.q (some 6) (.pointer (some ⟨qb, 0, none⟩)) (by kernel_rfl) (qt_move rfl rfl) ?_)
          refine A.cons (A.q (some 7) (.pointer (some ⟨qb, 0, none⟩)) (by kernel_rfl) (qt_pure (by kernel_rfl) fun _ => by kernel_rfl) ?_)
          refine A.cons (A.q (some 8) (.pointer (some ⟨qb, 3, none⟩)) (by kernel_rfl) (qt_pure (by kernel_rfl) fun _ => by kernel_rfl) ?_)
          refine A.cons (A.q (some 9) (.agg #[(.int .u64 ci), (.int .u64 co), (.int .u64 cd), (.int .u64 bi), (.int .u64 bo), (.int .u64 bd)]) (by kernel_rfl) (qt_loadN (vs := [(.int .u64 ci), (.int .u64 co), (.int .u64 cd), (.int .u64 bi), (.int .u64 bo), (.int .u64 bd)]) rfl rfl (by kernel_rfl) (reads_oldblk hQ rfl)) ?_)
          refine A.cons (A.store 1 (vs := [(.int .u64 ci), (.int .u64 co), (.int .u64 cd), (.int .u64 bi), (.int .u64 bo), (.int .u64 bd)]) [blk b1 [(.int .i64 (n : Int)), (.int .i64 m), (.slice A1 q.length c1), (.int .u64 ci), (.int .u64 co), (.int .u64 cd), (.int .u64 bi), (.int .u64 bo), (.int .u64 bd)] 82, blk b3 [(.int .u64 ci), (.int .u64 co), (.int .u64 cd), (.int .u64 bi), (.int .u64 bo), (.int .u64 bd)] 87] (by kernel_rfl) rfl rfl rfl rfl (by kernel_rfl) rfl rfl (by kernel_rfl) rfl ?_)
          refine A.done ?_
          refine A.norm [(0, (.pointer (some ⟨qb, 0, none⟩))), (2, (.pointer (some ⟨b3, 0, none⟩))), (4, (.bool false))] [blk b1 [(.int .i64 (n : Int)), (.int .i64 m), (.slice A1 q.length c1), (.int .u64 ci), (.int .u64 co), (.int .u64 cd), (.int .u64 bi), (.int .u64 bo), (.int .u64 bd)] 82, blk b3 [(.int .u64 ci), (.int .u64 co), (.int .u64 cd), (.int .u64 bi), (.int .u64 bo), (.int .u64 bd)] 87] (by exact ⟨rfl, rfl, rfl, trivial⟩) rfl ?_
          refine A.tn ?_
          refine A.ret ?_
          refine A.post [(.agg #[(.int .u64 ci), (.int .u64 co), (.int .u64 cd), (.int .u64 bi), (.int .u64 bo), (.int .u64 bd)])] (fun a w r s => ⟨rv_cellN (vs := [(.int .u64 ci), (.int .u64 co), (.int .u64 cd), (.int .u64 bi), (.int .u64 bo), (.int .u64 bd)]) r s rfl (by kernel_rfl) (reads_blk (i := 1) rfl rfl), trivial⟩) (A.back (by kernel_rfl) ?_)
          refine A.items [blk b1 [(.int .i64 (n : Int)), (.int .i64 m), (.slice A1 q.length c1), (.int .u64 ci), (.int .u64 co), (.int .u64 cd), (.int .u64 bi), (.int .u64 bo), (.int .u64 bd)] 82] (List.Sublist.cons_cons _ (List.Sublist.cons _ (List.Sublist.slnil))) ?_
          refine A.and (List.Sublist.refl _) ?_
          refine A.only 25 rfl (by kernel_rfl) (A.inl (some 30) [(.agg #[(.int .u64 ci), (.int .u64 co), (.int .u64 cd), (.int .u64 bi), (.int .u64 bo), (.int .u64 bd)])] [(0, (.agg #[(.int .u64 ci), (.int .u64 co), (.int .u64 cd), (.int .u64 bi), (.int .u64 bo), (.int .u64 bd)]))] (by kernel_rfl) rfl (by kernel_rfl) rfl Try.func69 rfl rfl rfl ?_)
          refine A.seq ?_
          refine A.region ?_
          refine A.cons (A.box 1 [(.int .u64 ci), (.int .u64 co), (.int .u64 cd), (.int .u64 bi), (.int .u64 bo), (.int .u64 bd)] (by kernel_rfl) rfl rfl rfl (fun b4 => [blk b1 [(.int .i64 (n : Int)), (.int .i64 m), (.slice A1 q.length c1), (.int .u64 ci), (.int .u64 co), (.int .u64 cd), (.int .u64 bi), (.int .u64 bo), (.int .u64 bd)] 82, blk b4 [(.int .u64 ci), (.int .u64 co), (.int .u64 cd), (.int .u64 bi), (.int .u64 bo), (.int .u64 bd)] 80]) (fun _ => rfl) ?_)
          intro b4
          refine A.cons (A.alloc 2 [(.int .u64 0), (.int .u64 0), (.int .u64 0), (.int .u64 0), (.int .u64 0), (.int .u64 0)] (by kernel_rfl) rfl (by kernel_rfl) (fun b5 => [blk b1 [(.int .i64 (n : Int)), (.int .i64 m), (.slice A1 q.length c1), (.int .u64 ci), (.int .u64 co), (.int .u64 cd), (.int .u64 bi), (.int .u64 bo), (.int .u64 bd)] 82, blk b4 [(.int .u64 ci), (.int .u64 co), (.int .u64 cd), (.int .u64 bi), (.int .u64 bo), (.int .u64 bd)] 80, blk b5 [(.int .u64 0), (.int .u64 0), (.int .u64 0), (.int .u64 0), (.int .u64 0), (.int .u64 0)] 87]) (fun _ => rfl) ?_)
          intro b5
          refine A.done ?_
          refine A.norm [(0, (.agg #[(.int .u64 ci), (.int .u64 co), (.int .u64 cd), (.int .u64 bi), (.int .u64 bo), (.int .u64 bd)])), (1, (.pointer (some ⟨b4, 0, none⟩))), (2, (.pointer (some ⟨b5, 0, none⟩)))] [blk b1 [(.int .i64 (n : Int)), (.int .i64 m), (.slice A1 q.length c1), (.int .u64 ci), (.int .u64 co), (.int .u64 cd), (.int .u64 bi), (.int .u64 bo), (.int .u64 bd)] 82, blk b4 [(.int .u64 ci), (.int .u64 co), (.int .u64 cd), (.int .u64 bi), (.int .u64 bo), (.int .u64 bd)] 80, blk b5 [(.int .u64 0), (.int .u64 0), (.int .u64 0), (.int .u64 0), (.int .u64 0), (.int .u64 0)] 87] (by exact ⟨rfl, rfl, rfl, trivial⟩) rfl ?_
          refine A.tn ?_
          refine A.seq ?_
          refine A.region ?_
          refine A.cons (A.q (some 3) (.pointer (some ⟨b4, 0, none⟩)) (by kernel_rfl) (qt_pure (by kernel_rfl) fun _ => by kernel_rfl) ?_)
          refine A.cons (A.q (some 4) (.int .u64 ci) (by kernel_rfl) (qt_load1 rfl rfl (by kernel_rfl) (reads_blk (i := 1) rfl rfl)) ?_)
          refine A.cons (A.q (some 5) (.pointer (some ⟨b4, 1, none⟩)) (by kernel_rfl) (qt_pure (by kernel_rfl) fun _ => by kernel_rfl) ?_)
          refine A.cons (A.q (some 6) (.int .u64 co) (by kernel_rfl) (qt_load1 rfl rfl (by kernel_rfl) (reads_blk (i := 1) rfl rfl)) ?_)
          refine A.cons (A.q (some 7) (.pointer (some ⟨b4, 2, none⟩)) (by kernel_rfl) (qt_pure (by kernel_rfl) fun _ => by kernel_rfl) ?_)
          refine A.cons (A.q (some 8) (.int .u64 cd) (by kernel_rfl) (qt_load1 rfl rfl (by kernel_rfl) (reads_blk (i := 1) rfl rfl)) ?_)
          refine A.cons (A.q (some 9) (.pointer (some ⟨b4, 3, none⟩)) (by kernel_rfl) (qt_pure (by kernel_rfl) fun _ => by kernel_rfl) ?_)
          refine A.cons (A.q (some 10) (.int .u64 bi) (by kernel_rfl) (qt_load1 rfl rfl (by kernel_rfl) (reads_blk (i := 1) rfl rfl)) ?_)
          refine A.cons (A.q (some 11) (.pointer (some ⟨b4, 4, none⟩)) (by kernel_rfl) (qt_pure (by kernel_rfl) fun _ => by kernel_rfl) ?_)
          refine A.cons (A.q (some 12) (.int .u64 bo) (by kernel_rfl) (qt_load1 rfl rfl (by kernel_rfl) (reads_blk (i := 1) rfl rfl)) ?_)
          refine A.cons (A.q (some 13) (.pointer (some ⟨b4, 5, none⟩)) (by kernel_rfl) (qt_pure (by kernel_rfl) fun _ => by kernel_rfl) ?_)
          refine A.cons (A.q (some 14) (.int .u64 bd) (by kernel_rfl) (qt_load1 rfl rfl (by kernel_rfl) (reads_blk (i := 1) rfl rfl)) ?_)
          refine A.cons (A.q (some 15) (.agg #[(.int .u64 ci), (.int .u64 co), (.int .u64 cd), (.int .u64 bi), (.int .u64 bo), (.int .u64 bd)]) (by kernel_rfl) (qt_pure (by kernel_rfl) fun _ => by kernel_rfl) ?_)
          refine A.cons (A.store 2 (vs := [(.int .u64 ci), (.int .u64 co), (.int .u64 cd), (.int .u64 bi), (.int .u64 bo), (.int .u64 bd)]) [blk b1 [(.int .i64 (n : Int)), (.int .i64 m), (.slice A1 q.length c1), (.int .u64 ci), (.int .u64 co), (.int .u64 cd), (.int .u64 bi), (.int .u64 bo), (.int .u64 bd)] 82, blk b4 [(.int .u64 ci), (.int .u64 co), (.int .u64 cd), (.int .u64 bi), (.int .u64 bo), (.int .u64 bd)] 80, blk b5 [(.int .u64 ci), (.int .u64 co), (.int .u64 cd), (.int .u64 bi), (.int .u64 bo), (.int .u64 bd)] 87] (by kernel_rfl) rfl rfl rfl rfl (by kernel_rfl) rfl rfl (by kernel_rfl) rfl ?_)
          refine A.done ?_
          refine A.norm [(0, (.agg #[(.int .u64 ci), (.int .u64 co), (.int .u64 cd), (.int .u64 bi), (.int .u64 bo), (.int .u64 bd)])), (1, (.pointer (some ⟨b4, 0, none⟩))), (2, (.pointer (some ⟨b5, 0, none⟩)))] [blk b1 [(.int .i64 (n : Int)), (.int .i64 m), (.slice A1 q.length c1), (.int .u64 ci), (.int .u64 co), (.int .u64 cd), (.int .u64 bi), (.int .u64 bo), (.int .u64 bd)] 82, blk b4 [(.int .u64 ci), (.int .u64 co), (.int .u64 cd), (.int .u64 bi), (.int .u64 bo), (.int .u64 bd)] 80, blk b5 [(.int .u64 ci), (.int .u64 co), (.int .u64 cd), (.int .u64 bi), (.int .u64 bo), (.int .u64 bd)] 87] (by exact ⟨rfl, rfl, rfl, trivial⟩) rfl ?_
          refine A.tn ?_
          refine A.ret ?_
          refine A.post [(.agg #[(.int .u64 ci), (.int .u64 co), (.int .u64 cd), (.int .u64 bi), (.int .u64 bo), (.int .u64 bd)])] (fun a w r s => ⟨rv_cellN (vs := [(.int .u64 ci), (.int .u64 co), (.int .u64 cd), (.int .u64 bi), (.int .u64 bo), (.int .u64 bd)]) r s rfl (by kernel_rfl) (reads_blk (i := 2) rfl rfl), trivial⟩) (A.back (by kernel_rfl) ?_)
          refine A.items [blk b1 [(.int .i64 (n : Int)), (.int .i64 m), (.slice A1 q.length c1), (.int .u64 ci), (.int .u64 co), (.int .u64 cd), (.int .u64 bi), (.int .u64 bo), (.int .u64 bd)] 82] (List.Sublist.cons_cons _ (List.Sublist.cons _ (List.Sublist.cons _ (List.Sublist.slnil)))) ?_
          refine A.and (List.Sublist.refl _) ?_
          refine A.take 26 (some 31) (.bool ((ci == ci) && ((co == co) && ((cd == cd) && ((bi == bi) && ((bo == bo) && (bd == bd))))))) rfl (by kernel_rfl) (by kernel_rfl) (List.Sublist.refl _) (qt_eqlA rfl rfl rfl (by kernel_rfl) (by kernel_rfl)) ?_
          refine A.take 27 (some 32) (.bool ((ci == ci) && ((co == co) && ((cd == cd) && ((bi == bi) && ((bo == bo) && (bd == bd))))))) rfl (by kernel_rfl) (by kernel_rfl) (List.Sublist.refl _) (qt_pure (by kernel_rfl) fun _ => by kernel_rfl) ?_
          refine A.take 28 (some 33) (.bool ((ci == ci) && ((co == co) && ((cd == cd) && ((bi == bi) && ((bo == bo) && (bd == bd))))))) rfl (by kernel_rfl) (by kernel_rfl) (List.Sublist.refl _) (qt_move rfl rfl) ?_
          refine A.bool ((ci == ci) && ((co == co) && ((cd == cd) && ((bi == bi) && ((bo == bo) && (bd == bd)))))) (fun e5 => ?_) (fun e5 => ?_)
          · skip
            refine A.sub [(0, (.pointer (some ⟨qb, 0, none⟩))), (1, (.agg #[(.int .i64 (n : Int)), (.int .i64 m), (.slice A1 q.length c1), (.int .u64 ci), (.int .u64 co), (.int .u64 cd), (.int .u64 bi), (.int .u64 bo), (.int .u64 bd)])), (3, (.pointer (some ⟨b1, 0, none⟩))), (4, (.bool false)), (5, (.pointer (some ⟨qb, 0, none⟩))), (7, (.pointer (some ⟨b1, 2, none⟩))), (8, (.slice A1 q.length c1)), (9, (.int .i64 (q.length : Int))), (6, (.int .i64 (q.length : Int))), (10, (.bool true)), (11, (.bool true)), (12, (.pointer (some ⟨qb, 0, none⟩))), (14, (.agg #[(.int .i64 (n : Int)), (.int .i64 m), (.slice A1 q.length c1), (.int .u64 ci), (.int .u64 co), (.int .u64 cd), (.int .u64 bi), (.int .u64 bo), (.int .u64 bd)])), (13, (.int .i64 u)), (15, (.int .i64 (lens q))), (16, (.bool true)), (17, (.bool true)), (18, (.bool true)), (19, (.pointer (some ⟨qb, 0, none⟩))), (21, (.agg #[(.int .i64 (n : Int)), (.int .i64 m), (.slice A1 q.length c1), (.int .u64 ci), (.int .u64 co), (.int .u64 cd), (.int .u64 bi), (.int .u64 bo), (.int .u64 bd)])), (20, (.int .i64 0)), (22, (.int .i64 0)), (23, (.bool true)), (24, (.bool true)), (25, (.bool true)), (26, (.pointer (some ⟨qb, 0, none⟩))), (28, (.pointer (some ⟨b1, 3, none⟩))), (29, (.agg #[(.int .u64 ci), (.int .u64 co), (.int .u64 cd), (.int .u64 bi), (.int .u64 bo), (.int .u64 bd)])), (27, (.agg #[(.int .u64 ci), (.int .u64 co), (.int .u64 cd), (.int .u64 bi), (.int .u64 bo), (.int .u64 bd)])), (30, (.agg #[(.int .u64 ci), (.int .u64 co), (.int .u64 cd), (.int .u64 bi), (.int .u64 bo), (.int .u64 bd)])), (31, (.bool true)), (32, (.bool true)), (33, (.bool true))] (by exact ⟨rfl, rfl, rfl, rfl, rfl, rfl, rfl, rfl, rfl, rfl, rfl, rfl, rfl, rfl, rfl, rfl, rfl, rfl, rfl, rfl, rfl, rfl, rfl, rfl, rfl, rfl, rfl, rfl, rfl, rfl, (congrArg (fun z => some (Value.bool z)) e5), (congrArg (fun z => some (Value.bool z)) e5), (congrArg (fun z => some (Value.bool z)) e5), trivial⟩) ?_
            refine A.take 29 (some 34) (.pointer (some ⟨qb, 0, none⟩)) rfl (by kernel_rfl) (by kernel_rfl) (List.Sublist.refl _) (qt_move rfl rfl) ?_
            refine A.take 31 (some 36) (.pointer (some ⟨b1, 2, none⟩)) rfl (by kernel_rfl) (by kernel_rfl) (List.Sublist.refl _) (qt_pure (by kernel_rfl) fun _ => by kernel_rfl) ?_
            refine A.take 32 (some 37) (.slice A1 q.length c1) rfl (by kernel_rfl) (by kernel_rfl) (List.Sublist.refl _) (qt_load1 rfl rfl (by kernel_rfl) (reads_blk (i := 0) rfl rfl)) ?_
            refine A.only 30 rfl (by kernel_rfl) (A.inl (some 35) [(.pointer (some ⟨qb, 0, none⟩))] [(0, (.pointer (some ⟨qb, 0, none⟩)))] (by kernel_rfl) rfl (by kernel_rfl) rfl Try.func53 rfl rfl rfl ?_)
            refine A.seq ?_
            refine A.region ?_
            refine A.cons (A.q (some 2) (.slice none 0 0) (by kernel_rfl) (qt_assign rfl rfl) ?_)
            refine A.done ?_
            refine A.norm [(0, (.pointer (some ⟨qb, 0, none⟩))), (2, (.slice none 0 0))] [blk b1 [(.int .i64 (n : Int)), (.int .i64 m), (.slice A1 q.length c1), (.int .u64 ci), (.int .u64 co), (.int .u64 cd), (.int .u64 bi), (.int .u64 bo), (.int .u64 bd)] 82] (by exact ⟨rfl, rfl, trivial⟩) rfl ?_
            refine A.tn ?_
            refine A.seq ?_
            refine A.region ?_
            refine A.cons (A.q (some 3) (.slice none 0 0) (by kernel_rfl) (qt_assign rfl rfl) ?_)
            refine A.done ?_
            refine A.norm [(0, (.pointer (some ⟨qb, 0, none⟩))), (2, (.slice none 0 0)), (3, (.slice none 0 0))] [blk b1 [(.int .i64 (n : Int)), (.int .i64 m), (.slice A1 q.length c1), (.int .u64 ci), (.int .u64 co), (.int .u64 cd), (.int .u64 bi), (.int .u64 bo), (.int .u64 bd)] 82] (by exact ⟨rfl, rfl, rfl, trivial⟩) rfl ?_
            refine A.tn ?_
            refine A.seq ?_
            refine A.seq ?_
            refine A.region ?_
            refine A.cons (A.q (some 7) (.pointer (some ⟨qb, 0, none⟩)) (by kernel_rfl) (qt_move rfl rfl) ?_)
            refine A.cons (A.inl (some 8) [(.pointer (some ⟨qb, 0, none⟩))] [(0, (.pointer (some ⟨qb, 0, none⟩)))] (by kernel_rfl) rfl (by kernel_rfl) rfl Try.func51 rfl rfl rfl ?_)
            refine A.seq ?_
            refine A.region ?_
            refine A.cons (A.q (some 2) (.int .i64 0) (by kernel_rfl) (qt_assign rfl rfl) ?_)
            refine A.done ?_
            refine A.norm [(0, (.pointer (some ⟨qb, 0, none⟩))), (2, (.int .i64 0))] [blk b1 [(.int .i64 (n : Int)), (.int .i64 m), (.slice A1 q.length c1), (.int .u64 ci), (.int .u64 co), (.int .u64 cd), (.int .u64 bi), (.int .u64 bo), (.int .u64 bd)] 82] (by exact ⟨rfl, rfl, trivial⟩) rfl ?_
            refine A.tn ?_
            refine A.seq ?_
            refine A.seq ?_
            refine A.region ?_
            refine A.cons (A.q (some 3) (.pointer (some ⟨qb, 0, none⟩)) (by kernel_rfl) (qt_move rfl rfl) ?_)
            refine A.cons (A.q (some 4) (.bool false) (by kernel_rfl) (qt_pure (by kernel_rfl) fun _ => by kernel_rfl) ?_)
            refine A.done ?_
            refine A.norm [(0, (.pointer (some ⟨qb, 0, none⟩))), (2, (.int .i64 0)), (4, (.bool false))] [blk b1 [(.int .i64 (n : Int)), (.int .i64 m), (.slice A1 q.length c1), (.int .u64 ci), (.int .u64 co), (.int .u64 cd), (.int .u64 bi), (.int .u64 bo), (.int .u64 bd)] 82] (by exact ⟨rfl, rfl, rfl, trivial⟩) rfl ?_
            refine A.tn ?_
            refine A.cond_f rfl ?_
            refine A.skip ?_
            refine A.tn ?_
            refine A.seq ?_
            refine A.region ?_
            refine A.cons (A.q (some 5) (.pointer (some ⟨qb, 0, none⟩)) (by kernel_rfl) (qt_move rfl rfl) ?_)
            refine A.cons (A.q (some 6) (.pointer (some ⟨qb, 0, none⟩)) (by kernel_rfl) (qt_pure (by kernel_rfl) fun _ => by kernel_rfl) ?_)
            refine A.cons (A.q (some 7) (.pointer (some ⟨qb, 0, none⟩)) (by kernel_rfl) (qt_pure (by kernel_rfl) fun _ => by kernel_rfl) ?_)
            refine A.cons (A.q (some 8) (.pointer (some ⟨rb, 0, none⟩)) (by kernel_rfl) (qt_load1 rfl rfl (by kernel_rfl) (reads_oldblk hQ rfl)) ?_)
            refine A.cons (A.q (some 9) (.int .i64 (q.length : Int)) (by kernel_rfl) (qt_call [(.pointer (some ⟨rb, 0, none⟩))] rfl (by kernel_rfl) rfl (fun w s => ringP_len rb rs n q w (old_item (it := ringI encPkt 118 74 rb rs n q) s hR))) ?_)
            refine A.cons (A.q (some 2) (.int .i64 (q.length : Int)) (by kernel_rfl) (qt_assign rfl rfl) ?_)
            refine A.done ?_
            refine A.norm [(0, (.pointer (some ⟨qb, 0, none⟩))), (2, (.int .i64 (q.length : Int))), (4, (.bool false))] [blk b1 [(.int .i64 (n : Int)), (.int .i64 m), (.slice A1 q.length c1), (.int .u64 ci), (.int .u64 co), (.int .u64 cd), (.int .u64 bi), (.int .u64 bo), (.int .u64 bd)] 82] (by exact ⟨rfl, rfl, rfl, trivial⟩) rfl ?_
            refine A.tn ?_
            refine A.ret ?_
            refine A.post [(.int .i64 (q.length : Int))] (fun a w r s => ⟨rv_tmp r rfl, trivial⟩) (A.back (by kernel_rfl) ?_)
            refine A.cons (A.q (some 9) (.int .i64 0) (by kernel_rfl) (qt_move rfl rfl) ?_)
            refine A.done ?_
            refine A.norm [(0, (.pointer (some ⟨qb, 0, none⟩))), (2, (.slice none 0 0)), (3, (.slice none 0 0)), (8, (.int .i64 (q.length : Int))), (9, (.int .i64 0))] [blk b1 [(.int .i64 (n : Int)), (.int .i64 m), (.slice A1 q.length c1), (.int .u64 ci), (.int .u64 co), (.int .u64 cd), (.int .u64 bi), (.int .u64 bo), (.int .u64 bd)] 82] (by exact ⟨rfl, rfl, rfl, rfl, rfl, trivial⟩) rfl ?_
            refine A.tn ?_
            refine A.block ?_
            refine A.ownNil 74 6 [blk b1 [(.int .i64 (n : Int)), (.int .i64 m), (.slice A1 q.length c1), (.int .u64 ci), (.int .u64 co), (.int .u64 cd), (.int .u64 bi), (.int .u64 bo), (.int .u64 bd)] 82, sl none (([] : List Pkt).length) 0 74 6 (V.flat encPkt ([] : List Pkt))] rfl ?_
            refine A.loop (fun (x : Nat × (List Pkt) × (Option Addr) × Nat) => match x with | (i, ys, Ap, cq) => [(0, (.pointer (some ⟨qb, 0, none⟩))), (2, (.slice none 0 0)), (8, (.int .i64 (q.length : Int))), (9, (.int .i64 (i : Int))), (3, (.slice Ap ys.length cq))]) (fun (x : Nat × (List Pkt) × (Option Addr) × Nat) => match x with | (i, ys, Ap, cq) => [blk b1 [(.int .i64 (n : Int)), (.int .i64 m), (.slice A1 q.length c1), (.int .u64 ci), (.int .u64 co), (.int .u64 cd), (.int .u64 bi), (.int .u64 bo), (.int .u64 bd)] 82, sl Ap (ys.length) cq 74 6 (V.flat encPkt ys)]) (fun (x : Nat × (List Pkt) × (Option Addr) × Nat) => match x with | (i, ys, Ap, cq) => i ≤ q.length ∧ ys = q.take i) (fun (x : Nat × (List Pkt) × (Option Addr) × Nat) => match x with | (i, ys, Ap, cq) => q.length - i) (0, [], none, 0) (⟨Nat.zero_le _, rfl⟩) ?_ ?_
            · exact A.here (by exact ⟨rfl, rfl, rfl, rfl, rfl, trivial⟩) (List.Sublist.refl _)
            · rintro ⟨i, ys, Ap, cq⟩ ⟨hi, hys⟩
              have hyl : ys.length = i := by rw [hys]; simp; omega
              refine A.norm [(0, (.pointer (some ⟨qb, 0, none⟩))), (2, (.slice none 0 0)), (8, (.int .i64 (q.length : Int))), (9, (.int .i64 (i : Int))), (3, (.slice Ap ys.length cq))] [blk b1 [(.int .i64 (n : Int)), (.int .i64 m), (.slice A1 q.length c1), (.int .u64 ci), (.int .u64 co), (.int .u64 cd), (.int .u64 bi), (.int .u64 bo), (.int .u64 bd)] 82, sl Ap (ys.length) cq 74 6 (V.flat encPkt ys)] (by exact ⟨rfl, rfl, rfl, rfl, rfl, trivial⟩) rfl ?_
              refine A.seq ?_
              refine A.region ?_
              refine A.cons (A.q (some 10) (.bool (decide ((i : Int) < (q.length : Int)))) (by kernel_rfl) (qt_pure (by kernel_rfl) fun _ => by kernel_rfl) ?_)
              refine A.done ?_
              refine A.norm [(0, (.pointer (some ⟨qb, 0, none⟩))), (2, (.slice none 0 0)), (8, (.int .i64 (q.length : Int))), (9, (.int .i64 (i : Int))), (3, (.slice Ap ys.length cq)), (10, (.bool (decide ((i : Int) < (q.length : Int)))))] [blk b1 [(.int .i64 (n : Int)), (.int .i64 m), (.slice A1 q.length c1), (.int .u64 ci), (.int .u64 co), (.int .u64 cd), (.int .u64 bi), (.int .u64 bo), (.int .u64 bd)] 82, sl Ap (ys.length) cq 74 6 (V.flat encPkt ys)] (by exact ⟨rfl, rfl, rfl, rfl, rfl, rfl, trivial⟩) rfl ?_
              refine A.tn ?_
              refine A.seq ?_
              refine A.cond (E := decide ((i : Int) < (q.length : Int))) rfl (fun e6 => ?_) (fun e6 => ?_)
              · skip
                have p6 := e6; try simp only [decide_eq_true_eq, decide_eq_false_iff_not, beq_iff_eq, beq_eq_false_iff_ne, bne_iff_ne, bne_eq_false_iff_eq, ne_eq, Bool.and_eq_true, Bool.or_eq_true, Bool.or_eq_false_iff, Bool.not_eq_true', Bool.not_eq_false', Int.not_lt, Int.not_le, gt_iff_lt, ge_iff_le, Classical.not_not] at p6
                refine A.skip ?_
                refine A.tn ?_
                refine A.seq ?_
                refine A.block ?_
                refine A.seq ?_
                refine A.region ?_
                refine A.cons (A.q (some 11) (.int .i64 (i : Int)) (by kernel_rfl) (qt_move rfl rfl) ?_)
                refine A.cons (A.q (some 4) (.int .i64 (i : Int)) (by kernel_rfl) (qt_assign rfl rfl) ?_)
                refine A.done ?_
                refine A.norm [(0, (.pointer (some ⟨qb, 0, none⟩))), (2, (.slice none 0 0)), (8, (.int .i64 (q.length : Int))), (9, (.int .i64 (i : Int))), (3, (.slice Ap ys.length cq)), (10, (.bool (decide ((i : Int) < (q.length : Int))))), (4, (.int .i64 (i : Int)))] [blk b1 [(.int .i64 (n : Int)), (.int .i64 m), (.slice A1 q.length c1), (.int .u64 ci), (.int .u64 co), (.int .u64 cd), (.int .u64 bi), (.int .u64 bo), (.int .u64 bd)] 82, sl Ap (ys.length) cq 74 6 (V.flat encPkt ys)] (by exact ⟨rfl, rfl, rfl, rfl, rfl, rfl, rfl, trivial⟩) rfl ?_
                refine A.tn ?_
                refine A.seq ?_
                refine A.region ?_
                refine A.cons (A.q (some 13) (.pointer (some ⟨qb, 0, none⟩)) (by kernel_rfl) (qt_move rfl rfl) ?_)
                refine A.cons (A.q (some 14) (.pointer (some ⟨qb, 0, none⟩)) (by kernel_rfl) (qt_pure (by kernel_rfl) fun _ => by kernel_rfl) ?_)
                refine A.cons (A.q (some 15) (.pointer (some ⟨qb, 0, none⟩)) (by kernel_rfl) (qt_pure (by kernel_rfl) fun _ => by kernel_rfl) ?_)
                refine A.cons (A.q (some 16) (.pointer (some ⟨rb, 0, none⟩)) (by kernel_rfl) (qt_load1 rfl rfl (by kernel_rfl) (reads_oldblk hQ rfl)) ?_)
                refine A.cons (A.q (some 17) (.int .i64 (i : Int)) (by kernel_rfl) (qt_move rfl rfl) ?_)
                obtain ⟨x6, hx6⟩ : ∃ x, (q)[i]? = some x := ⟨_, List.getElem?_eq_getElem (by omega)⟩
                refine A.cons (A.q (some 18) (.tuple #[(.agg #[(.int .u64 x6.id), (.int .i64 x6.len), (.int .u16 x6.h0), (.int .u16 x6.h1), (.int .u16 x6.h2), (.int .u16 x6.h3)]), (.int .i64 0)]) (by kernel_rfl) (qt_call [(.pointer (some ⟨rb, 0, none⟩)), (.int .i64 (i : Int))] rfl (by kernel_rfl) rfl (fun w s => ringP_at rb rs n i q x6 w (old_item (it := ringI encPkt 118 74 rb rs n q) s hR) hx6)) ?_)
                refine A.cons (A.q (some 12) (.tuple #[(.agg #[(.int .u64 x6.id), (.int .i64 x6.len), (.int .u16 x6.h0), (.int .u16 x6.h1), (.int .u16 x6.h2), (.int .u16 x6.h3)]), (.int .i64 0)]) (by kernel_rfl) (qt_move rfl rfl) ?_)
                refine A.cons (A.q (some 19) (.agg #[(.int .u64 x6.id), (.int .i64 x6.len), (.int .u16 x6.h0), (.int .u16 x6.h1), (.int .u16 x6.h2), (.int .u16 x6.h3)]) (by kernel_rfl) (qt_pure (by kernel_rfl) fun _ => by kernel_rfl) ?_)
                refine A.cons (A.q (some 20) (.int .i64 0) (by kernel_rfl) (qt_pure (by kernel_rfl) fun _ => by kernel_rfl) ?_)
                refine A.cons (A.alloc 5 [(.int .u64 0), (.int .i64 0), (.int .u16 0), (.int .u16 0), (.int .u16 0), (.int .u16 0)] (by kernel_rfl) rfl (by kernel_rfl) (fun b7 => [blk b1 [(.int .i64 (n : Int)), (.int .i64 m), (.slice A1 q.length c1), (.int .u64 ci), (.int .u64 co), (.int .u64 cd), (.int .u64 bi), (.int .u64 bo), (.int .u64 bd)] 82, sl Ap (ys.length) cq 74 6 (V.flat encPkt ys), blk b7 [(.int .u64 0), (.int .i64 0), (.int .u16 0), (.int .u16 0), (.int .u16 0), (.int .u16 0)] 74]) (fun _ => rfl) ?_)
                intro b7
                refine A.cons (A.store 2 (vs := [(.int .u64 x6.id), (.int .i64 x6.len), (.int .u16 x6.h0), (.int .u16 x6.h1), (.int .u16 x6.h2), (.int .u16 x6.h3)]) [blk b1 [(.int .i64 (n : Int)), (.int .i64 m), (.slice A1 q.length c1), (.int .u64 ci), (.int .u64 co), (.int .u64 cd), (.int .u64 bi), (.int .u64 bo), (.int .u64 bd)] 82, sl Ap (ys.length) cq 74 6 (V.flat encPkt ys), blk b7 [(.int .u64 x6.id), (.int .i64 x6.len), (.int .u16 x6.h0), (.int .u16 x6.h1), (.int .u16 x6.h2), (.int .u16 x6.h3)] 74] (by kernel_rfl) rfl rfl rfl rfl (by kernel_rfl) rfl rfl (by kernel_rfl) rfl ?_)
                refine A.cons (A.q (some 6) (.int .i64 0) (by kernel_rfl) (qt_assign rfl rfl) ?_)
                refine A.done ?_
                refine A.norm [(0, (.pointer (some ⟨qb, 0, none⟩))), (2, (.slice none 0 0)), (8, (.int .i64 (q.length : Int))), (9, (.int .i64 (i : Int))), (3, (.slice Ap ys.length cq)), (10, (.bool (decide ((i : Int) < (q.length : Int))))), (4, (.int .i64 (i : Int))), (5, (.pointer (some ⟨b7, 0, none⟩)))] [blk b1 [(.int .i64 (n : Int)), (.int .i64 m), (.slice A1 q.length c1), (.int .u64 ci), (.int .u64 co), (.int .u64 cd), (.int .u64 bi), (.int .u64 bo), (.int .u64 bd)] 82, sl Ap (ys.length) cq 74 6 (V.flat encPkt ys), blk b7 [(.int .u64 x6.id), (.int .i64 x6.len), (.int .u16 x6.h0), (.int .u16 x6.h1), (.int .u16 x6.h2), (.int .u16 x6.h3)] 74] (by exact ⟨rfl, rfl, rfl, rfl, rfl, rfl, rfl, rfl, trivial⟩) rfl ?_
                refine A.tn ?_
                refine A.region ?_
                refine A.cons (A.q (some 21) (.slice Ap ys.length cq) (by kernel_rfl) (qt_move rfl rfl) ?_)
                refine A.cons (A.q (some 22) (.agg #[(.int .u64 x6.id), (.int .i64 x6.len), (.int .u16 x6.h0), (.int .u16 x6.h1), (.int .u16 x6.h2), (.int .u16 x6.h3)]) (by kernel_rfl) (qt_loadN (vs := [(.int .u64 x6.id), (.int .i64 x6.len), (.int .u16 x6.h0), (.int .u16 x6.h1), (.int .u16 x6.h2), (.int .u16 x6.h3)]) rfl rfl (by kernel_rfl) (reads_blk (i := 2) rfl rfl)) ?_)
                refine A.cons (A.buildSlice 23 (e := 74) [(.int .u64 x6.id), (.int .i64 x6.len), (.int .u16 x6.h0), (.int .u16 x6.h1), (.int .u16 x6.h2), (.int .u16 x6.h3)] (by kernel_rfl) rfl (fun _ => by kernel_rfl) (fun b8 => [blk b1 [(.int .i64 (n : Int)), (.int .i64 m), (.slice A1 q.length c1), (.int .u64 ci), (.int .u64 co), (.int .u64 cd), (.int .u64 bi), (.int .u64 bo), (.int .u64 bd)] 82, sl Ap (ys.length) cq 74 6 (V.flat encPkt ys), blk b7 [(.int .u64 x6.id), (.int .i64 x6.len), (.int .u16 x6.h0), (.int .u16 x6.h1), (.int .u16 x6.h2), (.int .u16 x6.h3)] 74, blk b8 [(.int .u64 x6.id), (.int .i64 x6.len), (.int .u16 x6.h0), (.int .u16 x6.h1), (.int .u16 x6.h2), (.int .u16 x6.h3)] 74]) (fun _ => rfl) ?_)
                intro b8
                refine A.cons (A.appendC (enc := encPkt) (xs := ys) ([x6]) 1 24 (e := 74) (z := (.agg #[(.int .u64 0), (.int .i64 0), (.int .u16 0), (.int .u16 0), (.int .u16 0), (.int .u16 0)])) (sz := 6) (by_ := 24) (by kernel_rfl) rfl rfl rfl (by kernel_rfl) (by kernel_rfl) (by rfl) (by decide) encPkt_len encPkt_one rfl (rd_blk (i := 3) rfl) (by first | omega | (simp at *; omega)) (fun A9 c9 => [blk b1 [(.int .i64 (n : Int)), (.int .i64 m), (.slice A1 q.length c1), (.int .u64 ci), (.int .u64 co), (.int .u64 cd), (.int .u64 bi), (.int .u64 bo), (.int .u64 bd)] 82, sl A9 ((ys ++ ([x6])).length) c9 74 6 (V.flat encPkt (ys ++ ([x6]))), blk b7 [(.int .u64 x6.id), (.int .i64 x6.len), (.int .u16 x6.h0), (.int .u16 x6.h1), (.int .u16 x6.h2), (.int .u16 x6.h3)] 74, blk b8 [(.int .u64 x6.id), (.int .i64 x6.len), (.int .u16 x6.h0), (.int .u16 x6.h1), (.int .u16 x6.h2), (.int .u16 x6.h3)] 74]) (fun _ _ => rfl) ?_)
                intro A9 c9
                refine A.cons (A.q (some 3) (.slice A9 ((ys ++ ([x6])).length) c9) (by kernel_rfl) (qt_assign rfl rfl) ?_)
                refine A.done ?_
                refine A.norm [(0, (.pointer (some ⟨qb, 0, none⟩))), (2, (.slice none 0 0)), (8, (.int .i64 (q.length : Int))), (9, (.int .i64 (i : Int))), (3, (.slice A9 ((ys ++ ([x6])).length) c9)), (10, (.bool (decide ((i : Int) < (q.length : Int))))), (4, (.int .i64 (i : Int))), (5, (.pointer (some ⟨b7, 0, none⟩)))] [blk b1 [(.int .i64 (n : Int)), (.int .i64 m), (.slice A1 q.length c1), (.int .u64 ci), (.int .u64 co), (.int .u64 cd), (.int .u64 bi), (.int .u64 bo), (.int .u64 bd)] 82, sl A9 ((ys ++ ([x6])).length) c9 74 6 (V.flat encPkt (ys ++ ([x6]))), blk b7 [(.int .u64 x6.id), (.int .i64 x6.len), (.int .u16 x6.h0), (.int .u16 x6.h1), (.int .u16 x6.h2), (.int .u16 x6.h3)] 74, blk b8 [(.int .u64 x6.id), (.int .i64 x6.len), (.int .u16 x6.h0), (.int .u16 x6.h1), (.int .u16 x6.h2), (.int .u16 x6.h3)] 74] (by exact ⟨rfl, rfl, rfl, rfl, rfl, rfl, rfl, rfl, trivial⟩) rfl ?_
                refine A.bn ?_
                refine A.tn ?_
                refine A.region ?_
                refine A.cons (A.q (some 25) (.int .i64 ((i : Int) + 1)) (by kernel_rfl) (qt_as (congrArg (Value.int .i64) (wrap_i64 (e := (i : Int) + 1) (by constructor <;> omega))) (qt_pure (v := .int .i64 (IntKind.i64.wrap ((i : Int) + 1))) (by kernel_rfl) fun _ => by kernel_rfl)) ?_)
                refine A.cons (A.q (some 9) (.int .i64 ((i : Int) + 1)) (by kernel_rfl) (qt_move rfl rfl) ?_)
                refine A.done ?_
                refine A.norm [(0, (.pointer (some ⟨qb, 0, none⟩))), (2, (.slice none 0 0)), (8, (.int .i64 (q.length : Int))), (9, (.int .i64 ((i : Int) + 1))), (3, (.slice A9 ((ys ++ ([x6])).length) c9)), (10, (.bool (decide ((i : Int) < (q.length : Int))))), (4, (.int .i64 (i : Int))), (5, (.pointer (some ⟨b7, 0, none⟩)))] [blk b1 [(.int .i64 (n : Int)), (.int .i64 m), (.slice A1 q.length c1), (.int .u64 ci), (.int .u64 co), (.int .u64 cd), (.int .u64 bi), (.int .u64 bo), (.int .u64 bd)] 82, sl A9 ((ys ++ ([x6])).length) c9 74 6 (V.flat encPkt (ys ++ ([x6]))), blk b7 [(.int .u64 x6.id), (.int .i64 x6.len), (.int .u16 x6.h0), (.int .u16 x6.h1), (.int .u16 x6.h2), (.int .u16 x6.h3)] 74, blk b8 [(.int .u64 x6.id), (.int .i64 x6.len), (.int .u16 x6.h0), (.int .u16 x6.h1), (.int .u16 x6.h2), (.int .u16 x6.h3)] 74] (by exact ⟨rfl, rfl, rfl, rfl, rfl, rfl, rfl, rfl, trivial⟩) rfl ?_
                refine A.tn ?_
                refine A.next (i + 1, ys ++ ([x6]), A9, c9) (⟨by omega, by rw [hys, List.take_add_one, hx6]; rfl⟩) (by simp only []; omega) ?_
                exact A.here (by exact ⟨rfl, rfl, rfl, rfl, rfl, trivial⟩) (List.Sublist.cons_cons _ (List.Sublist.cons_cons _ (List.Sublist.cons _ (List.Sublist.cons _ (List.Sublist.slnil)))))
              · skip
                have p6 := e6; try simp only [decide_eq_true_eq, decide_eq_false_iff_not, beq_iff_eq, beq_eq_false_iff_ne, bne_iff_ne, bne_eq_false_iff_eq, ne_eq, Bool.and_eq_true, Bool.or_eq_true, Bool.or_eq_false_iff, Bool.not_eq_true', Bool.not_eq_false', Int.not_lt, Int.not_le, gt_iff_lt, ge_iff_le, Classical.not_not] at p6
                refine A.exit ?_
                refine A.te ?_
                refine A.te ?_
                refine A.bh ?_
                refine A.tn ?_
                refine A.seq ?_
                refine A.region ?_
                refine A.cons (A.q (some 26) (.slice Ap ys.length cq) (by kernel_rfl) (qt_move rfl rfl) ?_)
                refine A.cons (A.q (some 2) (.slice Ap ys.length cq) (by kernel_rfl) (qt_assign rfl rfl) ?_)
                refine A.done ?_
                refine A.norm [(0, (.pointer (some ⟨qb, 0, none⟩))), (2, (.slice Ap ys.length cq)), (8, (.int .i64 (q.length : Int))), (9, (.int .i64 (i : Int))), (3, (.slice Ap ys.length cq)), (10, (.bool (decide ((i : Int) < (q.length : Int)))))] [blk b1 [(.int .i64 (n : Int)), (.int .i64 m), (.slice A1 q.length c1), (.int .u64 ci), (.int .u64 co), (.int .u64 cd), (.int .u64 bi), (.int .u64 bo), (.int .u64 bd)] 82, sl Ap (ys.length) cq 74 6 (V.flat encPkt ys)] (by exact ⟨rfl, rfl, rfl, rfl, rfl, rfl, trivial⟩) rfl ?_
                refine A.tn ?_
                refine A.ret ?_
                refine A.post [(.slice Ap ys.length cq)] (fun a w r s => ⟨rv_tmp r rfl, trivial⟩) (A.back (by kernel_rfl) ?_)
                refine A.and (List.Sublist.cons_cons _ (List.Sublist.cons _ (List.Sublist.slnil))) ?_
                refine A.only 33 rfl (by kernel_rfl) (A.q (some 38) (.bool true) (by kernel_rfl) (qt_call [(.slice Ap ys.length cq), (.slice A1 q.length c1)] rfl (by kernel_rfl) rfl (fun w s => same_spec2 Ap A1 cq c1 ys q w (by omega) ((rd_sl (i := 1) rfl) w s) ((rd_old hL (by simp)) w s) (by rw [hys]; exact List.take_of_length_le (by omega)))) ?_)
                refine A.and (List.Sublist.cons_cons _ (List.Sublist.cons _ (List.Sublist.slnil))) ?_
                refine A.take 34 (some 39) (.bool true) rfl (by kernel_rfl) (by kernel_rfl) (List.Sublist.cons_cons _ (List.Sublist.cons _ (List.Sublist.slnil))) (qt_pure (by kernel_rfl) fun _ => by kernel_rfl) ?_
                refine A.take 35 (some 4) (.bool true) rfl (by kernel_rfl) (by kernel_rfl) (List.Sublist.cons_cons _ (List.Sublist.cons _ (List.Sublist.slnil))) (qt_assign rfl rfl) ?_
                refine A.fin (by kernel_rfl) ?_
                refine A.norm [(0, (.pointer (some ⟨qb, 0, none⟩))), (1, (.agg #[(.int .i64 (n : Int)), (.int .i64 m), (.slice A1 q.length c1), (.int .u64 ci), (.int .u64 co), (.int .u64 cd), (.int .u64 bi), (.int .u64 bo), (.int .u64 bd)])), (3, (.pointer (some ⟨b1, 0, none⟩))), (4, (.bool true))] [blk b1 [(.int .i64 (n : Int)), (.int .i64 m), (.slice A1 q.length c1), (.int .u64 ci), (.int .u64 co), (.int .u64 cd), (.int .u64 bi), (.int .u64 bo), (.int .u64 bd)] 82, sl Ap (ys.length) cq 74 6 (V.flat encPkt ys)] (by exact ⟨rfl, rfl, rfl, rfl, trivial⟩) rfl ?_
                refine A.tn ?_
                refine A.ret ?_
                refine A.post [(.bool true)] (fun a w r s => ⟨rv_tmp r rfl, trivial⟩) (fun w1 s => ?_)
                exact ⟨rfl, s.fr⟩
          · exact absurd e5 (by simp [hu] at e5)
        · exact absurd e4 (by rw [e3]; decide)
      · skip
        have p3 := e3; try simp only [decide_eq_true_eq, decide_eq_false_iff_not, beq_iff_eq, beq_eq_false_iff_ne, bne_iff_ne, bne_eq_false_iff_eq, ne_eq, Bool.and_eq_true, Bool.or_eq_true, Bool.or_eq_false_iff, Bool.not_eq_true', Bool.not_eq_false', Int.not_lt, Int.not_le, gt_iff_lt, ge_iff_le, Classical.not_not] at p3
        refine A.skip ?_
        refine A.tn ?_
        refine A.seq ?_
        refine A.region ?_
        refine A.cons (A.q (some 9) (.pointer (some ⟨qb, 0, none⟩)) (by kernel_rfl) (qt_move rfl rfl) ?_)
        refine A.cons (A.q (some 10) (.pointer (some ⟨qb, 0, none⟩)) (by kernel_rfl) (qt_pure (by kernel_rfl) fun _ => by kernel_rfl) ?_)
        refine A.cons (A.q (some 11) (.pointer (some ⟨qb, 0, none⟩)) (by kernel_rfl) (qt_pure (by kernel_rfl) fun _ => by kernel_rfl) ?_)
        refine A.cons (A.q (some 12) (.pointer (some ⟨rb, 0, none⟩)) (by kernel_rfl) (qt_load1 rfl rfl (by kernel_rfl) (reads_oldblk hQ rfl)) ?_)
        obtain ⟨x10, hx10⟩ : ∃ x, (q)[0]? = some x := ⟨_, List.getElem?_eq_getElem (by omega)⟩
        refine A.cons (A.q (some 13) (.tuple #[(.agg #[(.int .u64 x10.id), (.int .i64 x10.len), (.int .u16 x10.h0), (.int .u16 x10.h1), (.int .u16 x10.h2), (.int .u16 x10.h3)]), (.int .i64 0)]) (by kernel_rfl) (qt_call [(.pointer (some ⟨rb, 0, none⟩)), (.int .i64 0)] rfl (by kernel_rfl) rfl (fun w s => ringP_at rb rs n 0 q x10 w (old_item (it := ringI encPkt 118 74 rb rs n q) s hR) hx10)) ?_)
        refine A.cons (A.q (some 8) (.tuple #[(.agg #[(.int .u64 x10.id), (.int .i64 x10.len), (.int .u16 x10.h0), (.int .u16 x10.h1), (.int .u16 x10.h2), (.int .u16 x10.h3)]), (.int .i64 0)]) (by kernel_rfl) (qt_move rfl rfl) ?_)
        refine A.cons (A.q (some 14) (.agg #[(.int .u64 x10.id), (.int .i64 x10.len), (.int .u16 x10.h0), (.int .u16 x10.h1), (.int .u16 x10.h2), (.int .u16 x10.h3)]) (by kernel_rfl) (qt_pure (by kernel_rfl) fun _ => by kernel_rfl) ?_)
        refine A.cons (A.q (some 15) (.int .i64 0) (by kernel_rfl) (qt_pure (by kernel_rfl) fun _ => by kernel_rfl) ?_)
        refine A.cons (A.alloc 3 [(.int .u64 0), (.int .i64 0), (.int .u16 0), (.int .u16 0), (.int .u16 0), (.int .u16 0)] (by kernel_rfl) rfl (by kernel_rfl) (fun b11 => [blk b1 [(.int .i64 (n : Int)), (.int .i64 m), (.slice A1 q.length c1), (.int .u64 ci), (.int .u64 co), (.int .u64 cd), (.int .u64 bi), (.int .u64 bo), (.int .u64 bd)] 82, blk b11 [(.int .u64 0), (.int .i64 0), (.int .u16 0), (.int .u16 0), (.int .u16 0), (.int .u16 0)] 74]) (fun _ => rfl) ?_)
        intro b11
        refine A.cons (A.store 1 (vs := [(.int .u64 x10.id), (.int .i64 x10.len), (.int .u16 x10.h0), (.int .u16 x10.h1), (.int .u16 x10.h2), (.int .u16 x10.h3)]) [blk b1 [(.int .i64 (n : Int)), (.int .i64 m), (.slice A1 q.length c1), (.int .u64 ci), (.int .u64 co), (.int .u64 cd), (.int .u64 bi), (.int .u64 bo), (.int .u64 bd)] 82, blk b11 [(.int .u64 x10.id), (.int .i64 x10.len), (.int .u16 x10.h0), (.int .u16 x10.h1), (.int .u16 x10.h2), (.int .u16 x10.h3)] 74] (by kernel_rfl) rfl rfl rfl rfl (by kernel_rfl) rfl rfl (by kernel_rfl) rfl ?_)
        refine A.cons (A.q (some 4) (.int .i64 0) (by kernel_rfl) (qt_assign rfl rfl) ?_)
        refine A.done ?_
        refine A.norm [(0, (.pointer (some ⟨qb, 0, none⟩))), (2, (.int .i64 0)), (7, (.bool ((q.length : Int) == 0))), (3, (.pointer (some ⟨b11, 0, none⟩)))] [blk b1 [(.int .i64 (n : Int)), (.int .i64 m), (.slice A1 q.length c1), (.int .u64 ci), (.int .u64 co), (.int .u64 cd), (.int .u64 bi), (.int .u64 bo), (.int .u64 bd)] 82, blk b11 [(.int .u64 x10.id), (.int .i64 x10.len), (.int .u16 x10.h0), (.int .u16 x10.h1), (.int .u16 x10.h2), (.int .u16 x10.h3)] 74] (by exact ⟨rfl, rfl, rfl, rfl, trivial⟩) rfl ?_
        refine A.tn ?_
        refine A.seq ?_
        refine A.region ?_
        refine A.cons (A.q (some 16) (.pointer (some ⟨b11, 1, none⟩)) (by kernel_rfl) (qt_pure (by kernel_rfl) fun _ => by kernel_rfl) ?_)
        refine A.cons (A.q (some 17) (.int .i64 x10.len) (by kernel_rfl) (qt_load1 rfl rfl (by kernel_rfl) (reads_blk (i := 1) rfl rfl)) ?_)
        refine A.cons (A.q (some 2) (.int .i64 x10.len) (by kernel_rfl) (qt_assign rfl rfl) ?_)
        refine A.done ?_
        refine A.norm [(0, (.pointer (some ⟨qb, 0, none⟩))), (2, (.int .i64 x10.len)), (7, (.bool ((q.length : Int) == 0))), (3, (.pointer (some ⟨b11, 0, none⟩)))] [blk b1 [(.int .i64 (n : Int)), (.int .i64 m), (.slice A1 q.length c1), (.int .u64 ci), (.int .u64 co), (.int .u64 cd), (.int .u64 bi), (.int .u64 bo), (.int .u64 bd)] 82, blk b11 [(.int .u64 x10.id), (.int .i64 x10.len), (.int .u16 x10.h0), (.int .u16 x10.h1), (.int .u16 x10.h2), (.int .u16 x10.h3)] 74] (by exact ⟨rfl, rfl, rfl, rfl, trivial⟩) rfl ?_
        refine A.tn ?_
        refine A.ret ?_
        refine A.post [(.int .i64 x10.len)] (fun a w r s => ⟨rv_tmp r rfl, trivial⟩) (A.back (by kernel_rfl) ?_)
        refine A.items [blk b1 [(.int .i64 (n : Int)), (.int .i64 m), (.slice A1 q.length c1), (.int .u64 ci), (.int .u64 co), (.int .u64 cd), (.int .u64 bi), (.int .u64 bo), (.int .u64 bd)] 82] (List.Sublist.cons_cons _ (List.Sublist.cons _ (List.Sublist.slnil))) ?_
        refine A.and (List.Sublist.refl _) ?_
        refine A.only 17 rfl (by kernel_rfl) (A.inl (some 22) [(.agg #[(.int .i64 (n : Int)), (.int .i64 m), (.slice A1 q.length c1), (.int .u64 ci), (.int .u64 co), (.int .u64 cd), (.int .u64 bi), (.int .u64 bo), (.int .u64 bd)])] [(0, (.agg #[(.int .i64 (n : Int)), (.int .i64 m), (.slice A1 q.length c1), (.int .u64 ci), (.int .u64 co), (.int .u64 cd), (.int .u64 bi), (.int .u64 bo), (.int .u64 bd)]))] (by kernel_rfl) rfl (by kernel_rfl) rfl Try.func68 rfl rfl rfl ?_)
        refine A.seq ?_
        refine A.region ?_
        refine A.cons (A.box 1 [(.int .i64 (n : Int)), (.int .i64 m), (.slice A1 q.length c1), (.int .u64 ci), (.int .u64 co), (.int .u64 cd), (.int .u64 bi), (.int .u64 bo), (.int .u64 bd)] (by kernel_rfl) rfl rfl rfl (fun b12 => [blk b1 [(.int .i64 (n : Int)), (.int .i64 m), (.slice A1 q.length c1), (.int .u64 ci), (.int .u64 co), (.int .u64 cd), (.int .u64 bi), (.int .u64 bo), (.int .u64 bd)] 82, blk b12 [(.int .i64 (n : Int)), (.int .i64 m), (.slice A1 q.length c1), (.int .u64 ci), (.int .u64 co), (.int .u64 cd), (.int .u64 bi), (.int .u64 bo), (.int .u64 bd)] 82]) (fun _ => rfl) ?_)
        intro b12
        refine A.cons (A.q (some 2) (.int .i64 0) (by kernel_rfl) (qt_assign rfl rfl) ?_)
        refine A.done ?_
        refine A.norm [(0, (.agg #[(.int .i64 (n : Int)), (.int .i64 m), (.slice A1 q.length c1), (.int .u64 ci), (.int .u64 co), (.int .u64 cd), (.int .u64 bi), (.int .u64 bo), (.int .u64 bd)])), (1, (.pointer (some ⟨b12, 0, none⟩))), (2, (.int .i64 0))] [blk b1 [(.int .i64 (n : Int)), (.int .i64 m), (.slice A1 q.length c1), (.int .u64 ci), (.int .u64 co), (.int .u64 cd), (.int .u64 bi), (.int .u64 bo), (.int .u64 bd)] 82, blk b12 [(.int .i64 (n : Int)), (.int .i64 m), (.slice A1 q.length c1), (.int .u64 ci), (.int .u64 co), (.int .u64 cd), (.int .u64 bi), (.int .u64 bo), (.int .u64 bd)] 82] (by exact ⟨rfl, rfl, rfl, trivial⟩) rfl ?_
        refine A.tn ?_
        refine A.seq ?_
        refine A.seq ?_
        refine A.region ?_
        refine A.cons (A.q (some 3) (.pointer (some ⟨b12, 2, none⟩)) (by kernel_rfl) (qt_pure (by kernel_rfl) fun _ => by kernel_rfl) ?_)
        refine A.cons (A.q (some 4) (.slice A1 q.length c1) (by kernel_rfl) (qt_load1 rfl rfl (by kernel_rfl) (reads_blk (i := 1) rfl rfl)) ?_)
        refine A.cons (A.q (some 5) (.int .i64 (q.length : Int)) (by kernel_rfl) (qt_pure (by kernel_rfl) fun _ => by kernel_rfl) ?_)
        refine A.cons (A.q (some 6) (.bool ((q.length : Int) == 0)) (by kernel_rfl) (qt_pure (by kernel_rfl) fun _ => by kernel_rfl) ?_)
        refine A.done ?_
        refine A.norm [(0, (.agg #[(.int .i64 (n : Int)), (.int .i64 m), (.slice A1 q.length c1), (.int .u64 ci), (.int .u64 co), (.int .u64 cd), (.int .u64 bi), (.int .u64 bo), (.int .u64 bd)])), (1, (.pointer (some ⟨b12, 0, none⟩))), (2, (.int .i64 0)), (6, (.bool ((q.length : Int) == 0)))] [blk b1 [(.int .i64 (n : Int)), (.int .i64 m), (.slice A1 q.length c1), (.int .u64 ci), (.int .u64 co), (.int .u64 cd), (.int .u64 bi), (.int .u64 bo), (.int .u64 bd)] 82, blk b12 [(.int .i64 (n : Int)), (.int .i64 m), (.slice A1 q.length c1), (.int .u64 ci), (.int .u64 co), (.int .u64 cd), (.int .u64 bi), (.int .u64 bo), (.int .u64 bd)] 82] (by exact ⟨rfl, rfl, rfl, rfl, trivial⟩) rfl ?_
        refine A.tn ?_
        refine A.cond (E := (q.length : Int) == 0) rfl (fun e7 => ?_) (fun e7 => ?_)
        · exact absurd e7 (by rw [e3]; decide)
        · skip
          have p7 := e7; try simp only [decide_eq_true_eq, decide_eq_false_iff_not, beq_iff_eq, beq_eq_false_iff_ne, bne_iff_ne, bne_eq_false_iff_eq, ne_eq, Bool.and_eq_true, Bool.or_eq_true, Bool.or_eq_false_iff, Bool.not_eq_true', Bool.not_eq_false', Int.not_lt, Int.not_le, gt_iff_lt, ge_iff_le, Classical.not_not] at p7
          refine A.skip ?_
          refine A.tn ?_
          refine A.seq ?_
          refine A.region ?_
          refine A.cons (A.q (some 7) (.pointer (some ⟨b12, 2, none⟩)) (by kernel_rfl) (qt_pure (by kernel_rfl) fun _ => by kernel_rfl) ?_)
          refine A.cons (A.q (some 8) (.slice A1 q.length c1) (by kernel_rfl) (qt_load1 rfl rfl (by kernel_rfl) (reads_blk (i := 1) rfl rfl)) ?_)
          refine A.cons (A.q (some 9) (.pointer (some ((at0 A1).add (0 * 6)))) (by kernel_rfl) (qt_indexN (el := 74) (enc := encPkt) (xs := q) (m := 0) rfl rfl rfl (by kernel_rfl) (by kernel_rfl) encPkt_len (rd_old hL (by simp)) (by decide) (by first | omega | (simp at *; omega))) ?_)
          refine A.cons (A.q (some 10) (.pointer (some ((at0 A1).add (0 * 6 + 1)))) (by kernel_rfl) (qt_fieldOf2 (0 * 6) 1 rfl rfl (by kernel_rfl)) ?_)
          refine A.cons (A.q (some 11) (.int .i64 x10.len) (by kernel_rfl) (qt_load1 rfl rfl (by kernel_rfl) (reads_at (f := 1) (vs := [(.int .i64 x10.len)]) encPkt_len (rd_old hL (by simp)) hx10 (by simp) rfl)) ?_)
          refine A.cons (A.q (some 2) (.int .i64 x10.len) (by kernel_rfl) (qt_assign rfl rfl) ?_)
          refine A.done ?_
          refine A.norm [(0, (.agg #[(.int .i64 (n : Int)), (.int .i64 m), (.slice A1 q.length c1), (.int .u64 ci), (.int .u64 co), (.int .u64 cd), (.int .u64 bi), (.int .u64 bo), (.int .u64 bd)])), (1, (.pointer (some ⟨b12, 0, none⟩))), (2, (.int .i64 x10.len)), (6, (.bool ((q.length : Int) == 0)))] [blk b1 [(.int .i64 (n : Int)), (.int .i64 m), (.slice A1 q.length c1), (.int .u64 ci), (.int .u64 co), (.int .u64 cd), (.int .u64 bi), (.int .u64 bo), (.int .u64 bd)] 82, blk b12 [(.int .i64 (n : Int)), (.int .i64 m), (.slice A1 q.length c1), (.int .u64 ci), (.int .u64 co), (.int .u64 cd), (.int .u64 bi), (.int .u64 bo), (.int .u64 bd)] 82] (by exact ⟨rfl, rfl, rfl, rfl, trivial⟩) rfl ?_
          refine A.tn ?_
          refine A.ret ?_
          refine A.post [(.int .i64 x10.len)] (fun a w r s => ⟨rv_tmp r rfl, trivial⟩) (A.back (by kernel_rfl) ?_)
          refine A.items [blk b1 [(.int .i64 (n : Int)), (.int .i64 m), (.slice A1 q.length c1), (.int .u64 ci), (.int .u64 co), (.int .u64 cd), (.int .u64 bi), (.int .u64 bo), (.int .u64 bd)] 82] (List.Sublist.cons_cons _ (List.Sublist.cons _ (List.Sublist.slnil))) ?_
          refine A.and (List.Sublist.refl _) ?_
          refine A.take 18 (some 23) (.bool (x10.len == x10.len)) rfl (by kernel_rfl) (by kernel_rfl) (List.Sublist.refl _) (qt_pure (by kernel_rfl) fun _ => by kernel_rfl) ?_
          refine A.take 19 (some 24) (.bool (x10.len == x10.len)) rfl (by kernel_rfl) (by kernel_rfl) (List.Sublist.refl _) (qt_pure (by kernel_rfl) fun _ => by kernel_rfl) ?_
          refine A.take 20 (some 25) (.bool (x10.len == x10.len)) rfl (by kernel_rfl) (by kernel_rfl) (List.Sublist.refl _) (qt_move rfl rfl) ?_
          refine A.bool (x10.len == x10.len) (fun e8 => ?_) (fun e8 => ?_)
          · skip
            refine A.sub [(0, (.pointer (some ⟨qb, 0, none⟩))), (1, (.agg #[(.int .i64 (n : Int)), (.int .i64 m), (.slice A1 q.length c1), (.int .u64 ci), (.int .u64 co), (.int .u64 cd), (.int .u64 bi), (.int .u64 bo), (.int .u64 bd)])), (3, (.pointer (some ⟨b1, 0, none⟩))), (4, (.bool false)), (5, (.pointer (some ⟨qb, 0, none⟩))), (7, (.pointer (some ⟨b1, 2, none⟩))), (8, (.slice A1 q.length c1)), (9, (.int .i64 (q.length : Int))), (6, (.int .i64 (q.length : Int))), (10, (.bool true)), (11, (.bool true)), (12, (.pointer (some ⟨qb, 0, none⟩))), (14, (.agg #[(.int .i64 (n : Int)), (.int .i64 m), (.slice A1 q.length c1), (.int .u64 ci), (.int .u64 co), (.int .u64 cd), (.int .u64 bi), (.int .u64 bo), (.int .u64 bd)])), (13, (.int .i64 u)), (15, (.int .i64 (lens q))), (16, (.bool true)), (17, (.bool true)), (18, (.bool true)), (19, (.pointer (some ⟨qb, 0, none⟩))), (21, (.agg #[(.int .i64 (n : Int)), (.int .i64 m), (.slice A1 q.length c1), (.int .u64 ci), (.int .u64 co), (.int .u64 cd), (.int .u64 bi), (.int .u64 bo), (.int .u64 bd)])), (20, (.int .i64 x10.len)), (22, (.int .i64 x10.len)), (23, (.bool true)), (24, (.bool true)), (25, (.bool true))] (by exact ⟨rfl, rfl, rfl, rfl, rfl, rfl, rfl, rfl, rfl, rfl, rfl, rfl, rfl, rfl, rfl, rfl, rfl, rfl, rfl, rfl, rfl, rfl, (congrArg (fun z => some (Value.bool z)) e8), (congrArg (fun z => some (Value.bool z)) e8), (congrArg (fun z => some (Value.bool z)) e8), trivial⟩) ?_
            refine A.take 21 (some 26) (.pointer (some ⟨qb, 0, none⟩)) rfl (by kernel_rfl) (by kernel_rfl) (List.Sublist.refl _) (qt_move rfl rfl) ?_
            refine A.take 23 (some 28) (.pointer (some ⟨b1, 3, none⟩)) rfl (by kernel_rfl) (by kernel_rfl) (List.Sublist.refl _) (qt_pure (by kernel_rfl) fun _ => by kernel_rfl) ?_
            refine A.take 24 (some 29) (.agg #[(.int .u64 ci), (.int .u64 co), (.int .u64 cd), (.int .u64 bi), (.int .u64 bo), (.int .u64 bd)]) rfl (by kernel_rfl) (by kernel_rfl) (List.Sublist.refl _) (qt_loadN (vs := [(.int .u64 ci), (.int .u64 co), (.int .u64 cd), (.int .u64 bi), (.int .u64 bo), (.int .u64 bd)]) rfl rfl (by kernel_rfl) (reads_blk (i := 0) rfl rfl)) ?_
            refine A.only 22 rfl (by kernel_rfl) (A.inl (some 27) [(.pointer (some ⟨qb, 0, none⟩))] [(0, (.pointer (some ⟨qb, 0, none⟩)))] (by kernel_rfl) rfl (by kernel_rfl) rfl Try.func49 rfl rfl rfl ?_)
            refine A.seq ?_
            refine A.region ?_
            refine A.cons (A.alloc 2 [(.int .u64 0), (.int .u64 0), (.int .u64 0), (.int .u64 0), (.int .u64 0), (.int .u64 0)] (by kernel_rfl) rfl (by kernel_rfl) (fun b13 => [blk b1 [(.int .i64 (n : Int)), (.int .i64 m), (.slice A1 q.length c1), (.int .u64 ci), (.int .u64 co), (.int .u64 cd), (.int .u64 bi), (.int .u64 bo), (.int .u64 bd)] 82, blk b13 [(.int .u64 0), (.int .u64 0), (.int .u64 0), (.int .u64 0), (.int .u64 0), (.int .u64 0)] 87]) (fun _ => rfl) ?_)
            intro b13
            refine A.done ?_
            refine A.norm [(0, (.pointer (some ⟨qb, 0, none⟩))), (2, (.pointer (some ⟨b13, 0, none⟩)))] [blk b1 [(.int .i64 (n : Int)), (.int .i64 m), (.slice A1 q.length c1), (.int .u64 ci), (.int .u64 co), (.int .u64 cd), (.int .u64 bi), (.int .u64 bo), (.int .u64 bd)] 82, blk b13 [(.int .u64 0), (.int .u64 0), (.int .u64 0), (.int .u64 0), (.int .u64 0), (.int .u64 0)] 87] (by exact ⟨rfl, rfl, trivial⟩) rfl ?_
            refine A.tn ?_
            refine A.seq ?_
            refine A.seq ?_
            refine A.region ?_
            refine A.cons (A.q (some 3) (.pointer (some ⟨qb, 0, none⟩)) (by kernel_rfl) (qt_move rfl rfl) ?_)
            refine A.cons (A.q (some 4) (.bool false) (by kernel_rfl) (qt_pure (by kernel_rfl) fun _ => by kernel_rfl) ?_)
            refine A.done ?_
            refine A.norm [(0, (.pointer (some ⟨qb, 0, none⟩))), (2, (.pointer (some ⟨b13, 0, none⟩))), (4, (.bool false))] [blk b1 [(.int .i64 (n : Int)), (.int .i64 m), (.slice A1 q.length c1), (.int .u64 ci), (.int .u64 co), (.int .u64 cd), (.int .u64 bi), (.int .u64 bo), (.int .u64 bd)] 82, blk b13 [(.int .u64 0), (.int .u64 0), (.int .u64 0), (.int .u64 0), (.int .u64 0), (.int .u64 0)] 87] (by exact ⟨rfl, rfl, rfl, trivial⟩) rfl ?_
            refine A.tn ?_
            refine A.cond_f rfl ?_
            refine A.skip ?_
            refine A.tn ?_
            refine A.seq ?_
            refine A.region ?_
            refine A.cons (A.q (some 6) (.pointer (some ⟨qb, 0, none⟩)) (by kernel_rfl) (qt_move rfl rfl) ?_)
            refine A.cons (A.q (some 7) (.pointer (some ⟨qb, 0, none⟩)) (by kernel_rfl) (qt_pure (by kernel_rfl) fun _ => by kernel_rfl) ?_)
            refine A.cons (A.q (some 8) (.pointer (some ⟨qb, 3, none⟩)) (by kernel_rfl) (qt_pure (by kernel_rfl) fun _ => by kernel_rfl) ?_)
            refine A.cons (A.q (some 9) (.agg #[(.int .u64 ci), (.int .u64 co), (.int .u64 cd), (.int .u64 bi), (.int .u64 bo), (.int .u64 bd)]) (by kernel_rfl) (qt_loadN (vs := [(.int .u64 ci), (.int .u64 co), (.int .u64 cd), (.int .u64 bi), (.int .u64 bo), (.int .u64 bd)]) rfl rfl (by kernel_rfl) (reads_oldblk hQ rfl)) ?_)
            refine A.cons (A.store 1 (vs := [(.int .u64 ci), (.int .u64 co), (.int .u64 cd), (.int .u64 bi), (.int .u64 bo), (.int .u64 bd)]) [blk b1 [(.int .i64 (n : Int)), (.int .i64 m), (.slice A1 q.length c1), (.int .u64 ci), (.int .u64 co), (.int .u64 cd), (.int .u64 bi), (.int .u64 bo), (.int .u64 bd)] 82, blk b13 [(.int .u64 ci), (.int .u64 co), (.int .u64 cd), (.int .u64 bi), (.int .u64 bo), (.int .u64 bd)] 87] (by kernel_rfl) rfl rfl rfl rfl (by kernel_rfl) rfl rfl (by kernel_rfl) rfl ?_)
            refine A.done ?_
            refine A.norm [(0, (.pointer (some ⟨qb, 0, none⟩))), (2, (.pointer (some ⟨b13, 0, none⟩))), (4, (.bool false))] [blk b1 [(.int .i64 (n : Int)), (.int .i64 m), (.slice A1 q.length c1), (.int .u64 ci), (.int .u64 co), (.int .u64 cd), (.int .u64 bi), (.int .u64 bo), (.int .u64 bd)] 82, blk b13 [(.int .u64 ci), (.int .u64 co), (.int .u64 cd), (.int .u64 bi), (.int .u64 bo), (.int .u64 bd)] 87] (by exact ⟨rfl, rfl, rfl, trivial⟩) rfl ?_
            refine A.tn ?_
            refine A.ret ?_
            refine A.post [(.agg #[(.int .u64 ci), (.int .u64 co), (.int .u64 cd), (.int .u64 bi), (.int .u64 bo), (.int .u64 bd)])] (fun a w r s => ⟨rv_cellN (vs := [(.int .u64 ci), (.int .u64 co), (.int .u64 cd), (.int .u64 bi), (.int .u64 bo), (.int .u64 bd)]) r s rfl (by kernel_rfl) (reads_blk (i := 1) rfl rfl), trivial⟩) (A.back (by kernel_rfl) ?_)
            refine A.items [blk b1 [(.int .i64 (n : Int)), (.int .i64 m), (.slice A1 q.length c1), (.int .u64 ci), (.int .u64 co), (.int .u64 cd), (.int .u64 bi), (.int .u64 bo), (.int .u64 bd)] 82] (List.Sublist.cons_cons _ (List.Sublist.cons _ (List.Sublist.slnil))) ?_
            refine A.and (List.Sublist.refl _) ?_
            refine A.only 25 rfl (by kernel_rfl) (A.inl (some 30) [(.agg #[(.int .u64 ci), (.int .u64 co), (.int .u64 cd), (.int .u64 bi), (.int .u64 bo), (.int .u64 bd)])] [(0, (.agg #[(.int .u64 ci), (.int .u64 co), (.int .u64 cd), (.int .u64 bi), (.int .u64 bo), (.int .u64 bd)]))] (by kernel_rfl) rfl (by kernel_rfl) rfl Try.func69 rfl rfl rfl ?_)
            refine A.seq ?_
            refine A.region ?_
            refine A.cons (A.box 1 [(.int .u64 ci), (.int .u64 co), (.int .u64 cd), (.int .u64 bi), (.int .u64 bo), (.int .u64 bd)] (by kernel_rfl) rfl rfl rfl (fun b14 => [blk b1 [(.int .i64 (n : Int)), (.int .i64 m), (.slice A1 q.length c1), (.int .u64 ci), (.int .u64 co), (.int .u64 cd), (.int .u64 bi), (.int .u64 bo), (.int .u64 bd)] 82, blk b14 [(.int .u64 ci), (.int .u64 co), (.int .u64 cd), (.int .u64 bi), (.int .u64 bo), (.int .u64 bd)] 80]) (fun _ => rfl) ?_)
            intro b14
            refine A.cons (A.alloc 2 [(.int .u64 0), (.int .u64 0), (.int .u64 0), (.int .u64 0), (.int .u64 0), (.int .u64 0)] (by kernel_rfl) rfl (by kernel_rfl) (fun b15 => [blk b1 [(.int .i64 (n : Int)), (.int .i64 m), (.slice A1 q.length c1), (.int .u64 ci), (.int .u64 co), (.int .u64 cd), (.int .u64 bi), (.int .u64 bo), (.int .u64 bd)] 82, blk b14 [(.int .u64 ci), (.int .u64 co), (.int .u64 cd), (.int .u64 bi), (.int .u64 bo), (.int .u64 bd)] 80, blk b15 [(.int .u64 0), (.int .u64 0), (.int .u64 0), (.int .u64 0), (.int .u64 0), (.int .u64 0)] 87]) (fun _ => rfl) ?_)
            intro b15
            refine A.done ?_
            refine A.norm [(0, (.agg #[(.int .u64 ci), (.int .u64 co), (.int .u64 cd), (.int .u64 bi), (.int .u64 bo), (.int .u64 bd)])), (1, (.pointer (some ⟨b14, 0, none⟩))), (2, (.pointer (some ⟨b15, 0, none⟩)))] [blk b1 [(.int .i64 (n : Int)), (.int .i64 m), (.slice A1 q.length c1), (.int .u64 ci), (.int .u64 co), (.int .u64 cd), (.int .u64 bi), (.int .u64 bo), (.int .u64 bd)] 82, blk b14 [(.int .u64 ci), (.int .u64 co), (.int .u64 cd), (.int .u64 bi), (.int .u64 bo), (.int .u64 bd)] 80, blk b15 [(.int .u64 0), (.int .u64 0), (.int .u64 0), (.int .u64 0), (.int .u64 0), (.int .u64 0)] 87] (by exact ⟨rfl, rfl, rfl, trivial⟩) rfl ?_
            refine A.tn ?_
            refine A.seq ?_
            refine A.region ?_
            refine A.cons (A.q (some 3) (.pointer (some ⟨b14, 0, none⟩)) (by kernel_rfl) (qt_pure (by kernel_rfl) fun _ => by kernel_rfl) ?_)
            refine A.cons (A.q (some 4) (.int .u64 ci) (by kernel_rfl) (qt_load1 rfl rfl (by kernel_rfl) (reads_blk (i := 1) rfl rfl)) ?_)
            refine A.cons (A.q (some 5) (.pointer (some ⟨b14, 1, none⟩)) (by kernel_rfl) (qt_pure (by kernel_rfl) fun _ => by kernel_rfl) ?_)
            refine A.cons (A.q (some 6) (.int .u64 co) (by kernel_rfl) (qt_load1 rfl rfl (by kernel_rfl) (reads_blk (i := 1) rfl rfl)) ?_)
            refine A.cons (A.q (some 7) (.pointer (some ⟨b14, 2, none⟩)) (by kernel_rfl) (qt_pure (by kernel_rfl) fun _ => by kernel_rfl) ?_)
            refine A.cons (A.q (some 8) (.int .u64 cd) (by kernel_rfl) (qt_load1 rfl rfl (by kernel_rfl) (reads_blk (i := 1) rfl rfl)) ?_)
            refine A.cons (A.q (some 9) (.pointer (some ⟨b14, 3, none⟩)) (by kernel_rfl) (qt_pure (by kernel_rfl) fun _ => by kernel_rfl) ?_)
            refine A.cons (A.q (some 10) (.int .u64 bi) (by kernel_rfl) (qt_load1 rfl rfl (by kernel_rfl) (reads_blk (i := 1) rfl rfl)) ?_)
            refine A.cons (A.q (some 11) (.pointer (some ⟨b14, 4, none⟩)) (by kernel_rfl) (qt_pure (by kernel_rfl) fun _ => by kernel_rfl) ?_)
            refine A.cons (A.q (some 12) (.int .u64 bo) (by kernel_rfl) (qt_load1 rfl rfl (by kernel_rfl) (reads_blk (i := 1) rfl rfl)) ?_)
            refine A.cons (A.q (some 13) (.pointer (some ⟨b14, 5, none⟩)) (by kernel_rfl) (qt_pure (by kernel_rfl) fun _ => by kernel_rfl) ?_)
            refine A.cons (A.q (some 14) (.int .u64 bd) (by kernel_rfl) (qt_load1 rfl rfl (by kernel_rfl) (reads_blk (i := 1) rfl rfl)) ?_)
            refine A.cons (A.q (some 15) (.agg #[(.int .u64 ci), (.int .u64 co), (.int .u64 cd), (.int .u64 bi), (.int .u64 bo), (.int .u64 bd)]) (by kernel_rfl) (qt_pure (by kernel_rfl) fun _ => by kernel_rfl) ?_)
            refine A.cons (A.store 2 (vs := [(.int .u64 ci), (.int .u64 co), (.int .u64 cd), (.int .u64 bi), (.int .u64 bo), (.int .u64 bd)]) [blk b1 [(.int .i64 (n : Int)), (.int .i64 m), (.slice A1 q.length c1), (.int .u64 ci), (.int .u64 co), (.int .u64 cd), (.int .u64 bi), (.int .u64 bo), (.int .u64 bd)] 82, blk b14 [(.int .u64 ci), (.int .u64 co), (.int .u64 cd), (.int .u64 bi), (.int .u64 bo), (.int .u64 bd)] 80, blk b15 [(.int .u64 ci), (.int .u64 co), (.int .u64 cd), (.int .u64 bi), (.int .u64 bo), (.int .u64 bd)] 87] (by kernel_rfl) rfl rfl rfl rfl (by kernel_rfl) rfl rfl (by kernel_rfl) rfl ?_)
            refine A.done ?_
            refine A.norm [(0, (.agg #[(.int .u64 ci), (.int .u64 co), (.int .u64 cd), (.int .u64 bi), (.int .u64 bo), (.int .u64 bd)])), (1, (.pointer (some ⟨b14, 0, none⟩))), (2, (.pointer (some ⟨b15, 0, none⟩)))] [blk b1 [(.int .i64 (n : Int)), (.int .i64 m), (.slice A1 q.length c1), (.int .u64 ci), (.int .u64 co), (.int .u64 cd), (.int .u64 bi), (.int .u64 bo), (.int .u64 bd)] 82, blk b14 [(.int .u64 ci), (.int .u64 co), (.int .u64 cd), (.int .u64 bi), (.int .u64 bo), (.int .u64 bd)] 80, blk b15 [(.int .u64 ci), (.int .u64 co), (.int .u64 cd), (.int .u64 bi), (.int .u64 bo), (.int .u64 bd)] 87] (by exact ⟨rfl, rfl, rfl, trivial⟩) rfl ?_
            refine A.tn ?_
            refine A.ret ?_
            refine A.post [(.agg #[(.int .u64 ci), (.int .u64 co), (.int .u64 cd), (.int .u64 bi), (.int .u64 bo), (.int .u64 bd)])] (fun a w r s => ⟨rv_cellN (vs := [(.int .u64 ci), (.int .u64 co), (.int .u64 cd), (.int .u64 bi), (.int .u64 bo), (.int .u64 bd)]) r s rfl (by kernel_rfl) (reads_blk (i := 2) rfl rfl), trivial⟩) (A.back (by kernel_rfl) ?_)
            refine A.items [blk b1 [(.int .i64 (n : Int)), (.int .i64 m), (.slice A1 q.length c1), (.int .u64 ci), (.int .u64 co), (.int .u64 cd), (.int .u64 bi), (.int .u64 bo), (.int .u64 bd)] 82] (List.Sublist.cons_cons _ (List.Sublist.cons _ (List.Sublist.cons _ (List.Sublist.slnil)))) ?_
            refine A.and (List.Sublist.refl _) ?_
            refine A.take 26 (some 31) (.bool ((ci == ci) && ((co == co) && ((cd == cd) && ((bi == bi) && ((bo == bo) && (bd == bd))))))) rfl (by kernel_rfl) (by kernel_rfl) (List.Sublist.refl _) (qt_eqlA rfl rfl rfl (by kernel_rfl) (by kernel_rfl)) ?_
            refine A.take 27 (some 32) (.bool ((ci == ci) && ((co == co) && ((cd == cd) && ((bi == bi) && ((bo == bo) && (bd == bd))))))) rfl (by kernel_rfl) (by kernel_rfl) (List.Sublist.refl _) (qt_pure (by kernel_rfl) fun _ => by kernel_rfl) ?_
            refine A.take 28 (some 33) (.bool ((ci == ci) && ((co == co) && ((cd == cd) && ((bi == bi) && ((bo == bo) && (bd == bd))))))) rfl (by kernel_rfl) (by kernel_rfl) (List.Sublist.refl _) (qt_move rfl rfl) ?_
            refine A.bool ((ci == ci) && ((co == co) && ((cd == cd) && ((bi == bi) && ((bo == bo) && (bd == bd)))))) (fun e9 => ?_) (fun e9 => ?_)
            · skip
              refine A.sub [(0, (.pointer (some ⟨qb, 0, none⟩))), (1, (.agg #[(.int .i64 (n : Int)), (.int .i64 m), (.slice A1 q.length c1), (.int .u64 ci), (.int .u64 co), (.int .u64 cd), (.int .u64 bi), (.int .u64 bo), (.int .u64 bd)])), (3, (.pointer (some ⟨b1, 0, none⟩))), (4, (.bool false)), (5, (.pointer (some ⟨qb, 0, none⟩))), (7, (.pointer (some ⟨b1, 2, none⟩))), (8, (.slice A1 q.length c1)), (9, (.int .i64 (q.length : Int))), (6, (.int .i64 (q.length : Int))), (10, (.bool true)), (11, (.bool true)), (12, (.pointer (some ⟨qb, 0, none⟩))), (14, (.agg #[(.int .i64 (n : Int)), (.int .i64 m), (.slice A1 q.length c1), (.int .u64 ci), (.int .u64 co), (.int .u64 cd), (.int .u64 bi), (.int .u64 bo), (.int .u64 bd)])), (13, (.int .i64 u)), (15, (.int .i64 (lens q))), (16, (.bool true)), (17, (.bool true)), (18, (.bool true)), (19, (.pointer (some ⟨qb, 0, none⟩))), (21, (.agg #[(.int .i64 (n : Int)), (.int .i64 m), (.slice A1 q.length c1), (.int .u64 ci), (.int .u64 co), (.int .u64 cd), (.int .u64 bi), (.int .u64 bo), (.int .u64 bd)])), (20, (.int .i64 x10.len)), (22, (.int .i64 x10.len)), (23, (.bool true)), (24, (.bool true)), (25, (.bool true)), (26, (.pointer (some ⟨qb, 0, none⟩))), (28, (.pointer (some ⟨b1, 3, none⟩))), (29, (.agg #[(.int .u64 ci), (.int .u64 co), (.int .u64 cd), (.int .u64 bi), (.int .u64 bo), (.int .u64 bd)])), (27, (.agg #[(.int .u64 ci), (.int .u64 co), (.int .u64 cd), (.int .u64 bi), (.int .u64 bo), (.int .u64 bd)])), (30, (.agg #[(.int .u64 ci), (.int .u64 co), (.int .u64 cd), (.int .u64 bi), (.int .u64 bo), (.int .u64 bd)])), (31, (.bool true)), (32, (.bool true)), (33, (.bool true))] (by exact ⟨rfl, rfl, rfl, rfl, rfl, rfl, rfl, rfl, rfl, rfl, rfl, rfl, rfl, rfl, rfl, rfl, rfl, rfl, rfl, rfl, rfl, rfl, rfl, rfl, rfl, rfl, rfl, rfl, rfl, rfl, (congrArg (fun z => some (Value.bool z)) e9), (congrArg (fun z => some (Value.bool z)) e9), (congrArg (fun z => some (Value.bool z)) e9), trivial⟩) ?_
              refine A.take 29 (some 34) (.pointer (some ⟨qb, 0, none⟩)) rfl (by kernel_rfl) (by kernel_rfl) (List.Sublist.refl _) (qt_move rfl rfl) ?_
              refine A.take 31 (some 36) (.pointer (some ⟨b1, 2, none⟩)) rfl (by kernel_rfl) (by kernel_rfl) (List.Sublist.refl _) (qt_pure (by kernel_rfl) fun _ => by kernel_rfl) ?_
              refine A.take 32 (some 37) (.slice A1 q.length c1) rfl (by kernel_rfl) (by kernel_rfl) (List.Sublist.refl _) (qt_load1 rfl rfl (by kernel_rfl) (reads_blk (i := 0) rfl rfl)) ?_
              refine A.only 30 rfl (by kernel_rfl) (A.inl (some 35) [(.pointer (some ⟨qb, 0, none⟩))] [(0, (.pointer (some ⟨qb, 0, none⟩)))] (by kernel_rfl) rfl (by kernel_rfl) rfl Try.func53 rfl rfl rfl ?_)
              refine A.seq ?_
              refine A.region ?_
              refine A.cons (A.q (some 2) (.slice none 0 0) (by kernel_rfl) (qt_assign rfl rfl) ?_)
              refine A.done ?_
              refine A.norm [(0, (.pointer (some ⟨qb, 0, none⟩))), (2, (.slice none 0 0))] [blk b1 [(.int .i64 (n : Int)), (.int .i64 m), (.slice A1 q.length c1), (.int .u64 ci), (.int .u64 co), (.int .u64 cd), (.int .u64 bi), (.int .u64 bo), (.int .u64 bd)] 82] (by exact ⟨rfl, rfl, trivial⟩) rfl ?_
              refine A.tn ?_
              refine A.seq ?_
              refine A.region ?_
              refine A.cons (A.q (some 3) (.slice none 0 0) (by kernel_rfl) (qt_assign rfl rfl) ?_)
              refine A.done ?_
              refine A.norm [(0, (.pointer (some ⟨qb, 0, none⟩))), (2, (.slice none 0 0)), (3, (.slice none 0 0))] [blk b1 [(.int .i64 (n : Int)), (.int .i64 m), (.slice A1 q.length c1), (.int .u64 ci), (.int .u64 co), (.int .u64 cd), (.int .u64 bi), (.int .u64 bo), (.int .u64 bd)] 82] (by exact ⟨rfl, rfl, rfl, trivial⟩) rfl ?_
              refine A.tn ?_
              refine A.seq ?_
              refine A.seq ?_
              refine A.region ?_
              refine A.cons (A.q (some 7) (.pointer (some ⟨qb, 0, none⟩)) (by kernel_rfl) (qt_move rfl rfl) ?_)
              refine A.cons (A.inl (some 8) [(.pointer (some ⟨qb, 0, none⟩))] [(0, (.pointer (some ⟨qb, 0, none⟩)))] (by kernel_rfl) rfl (by kernel_rfl) rfl Try.func51 rfl rfl rfl ?_)
              refine A.seq ?_
              refine A.region ?_
              refine A.cons (A.q (some 2) (.int .i64 0) (by kernel_rfl) (qt_assign rfl rfl) ?_)
              refine A.done ?_
              refine A.norm [(0, (.pointer (some ⟨qb, 0, none⟩))), (2, (.int .i64 0))] [blk b1 [(.int .i64 (n : Int)), (.int .i64 m), (.slice A1 q.length c1), (.int .u64 ci), (.int .u64 co), (.int .u64 cd), (.int .u64 bi), (.int .u64 bo), (.int .u64 bd)] 82] (by exact ⟨rfl, rfl, trivial⟩) rfl ?_
              refine A.tn ?_
              refine A.seq ?_
              refine A.seq ?_
              refine A.region ?_
              refine A.cons (A.q (some 3) (.pointer (some ⟨qb, 0, none⟩)) (by kernel_rfl) (qt_move rfl rfl) ?_)
              refine A.cons (A.q (some 4) (.bool false) (by kernel_rfl) (qt_pure (by kernel_rfl) fun _ => by kernel_rfl) ?_)
              refine A.done ?_
              refine A.norm [(0, (.pointer (some ⟨qb, 0, none⟩))), (2, (.int .i64 0)), (4, (.bool false))] [blk b1 [(.int .i64 (n : Int)), (.int .i64 m), (.slice A1 q.length c1), (.int .u64 ci), (.int .u64 co), (.int .u64 cd), (.int .u64 bi), (.int .u64 bo), (.int .u64 bd)] 82] (by exact ⟨rfl, rfl, rfl, trivial⟩) rfl ?_
              refine A.tn ?_
              refine A.cond_f rfl ?_
              refine A.skip ?_
              refine A.tn ?_
              refine A.seq ?_
              refine A.region ?_
              refine A.cons (A.q (some 5) (.pointer (some ⟨qb, 0, none⟩)) (by kernel_rfl) (qt_move rfl rfl) ?_)
              refine A.cons (A.q (some 6) (.pointer (some ⟨qb, 0, none⟩)) (by kernel_rfl) (qt_pure (by kernel_rfl) fun _ => by kernel_rfl) ?_)
              refine A.cons (A.q (some 7) (.pointer (some ⟨qb, 0, none⟩)) (by kernel_rfl) (qt_pure (by kernel_rfl) fun _ => by kernel_rfl) ?_)
              refine A.cons (A.q (some 8) (.pointer (some ⟨rb, 0, none⟩)) (by kernel_rfl) (qt_load1 rfl rfl (by kernel_rfl) (reads_oldblk hQ rfl)) ?_)
              refine A.cons (A.q (some 9) (.int .i64 (q.length : Int)) (by kernel_rfl) (qt_call [(.pointer (some ⟨rb, 0, none⟩))] rfl (by kernel_rfl) rfl (fun w s => ringP_len rb rs n q w (old_item (it := ringI encPkt 118 74 rb rs n q) s hR))) ?_)
              refine A.cons (A.q (some 2) (.int .i64 (q.length : Int)) (by kernel_rfl) (qt_assign rfl rfl) ?_)
              refine A.done ?_
              refine A.norm [(0, (.pointer (some ⟨qb, 0, none⟩))), (2, (.int .i64 (q.length : Int))), (4, (.bool false))] [blk b1 [(.int .i64 (n : Int)), (.int .i64 m), (.slice A1 q.length c1), (.int .u64 ci), (.int .u64 co), (.int .u64 cd), (.int .u64 bi), (.int .u64 bo), (.int .u64 bd)] 82] (by exact ⟨rfl, rfl, rfl, trivial⟩) rfl ?_
              refine A.tn ?_
              refine A.ret ?_
              refine A.post [(.int .i64 (q.length : Int))] (fun a w r s => ⟨rv_tmp r rfl, trivial⟩) (A.back (by kernel_rfl) ?_)
              refine A.cons (A.q (some 9) (.int .i64 0) (by kernel_rfl) (qt_move rfl rfl) ?_)
              refine A.done ?_
              refine A.norm [(0, (.pointer (some ⟨qb, 0, none⟩))), (2, (.slice none 0 0)), (3, (.slice none 0 0)), (8, (.int .i64 (q.length : Int))), (9, (.int .i64 0))] [blk b1 [(.int .i64 (n : Int)), (.int .i64 m), (.slice A1 q.length c1), (.int .u64 ci), (.int .u64 co), (.int .u64 cd), (.int .u64 bi), (.int .u64 bo), (.int .u64 bd)] 82] (by exact ⟨rfl, rfl, rfl, rfl, rfl, trivial⟩) rfl ?_
              refine A.tn ?_
              refine A.block ?_
              refine A.ownNil 74 6 [blk b1 [(.int .i64 (n : Int)), (.int .i64 m), (.slice A1 q.length c1), (.int .u64 ci), (.int .u64 co), (.int .u64 cd), (.int .u64 bi), (.int .u64 bo), (.int .u64 bd)] 82, sl none (([] : List Pkt).length) 0 74 6 (V.flat encPkt ([] : List Pkt))] rfl ?_
              refine A.loop (fun (x : Nat × (List Pkt) × (Option Addr) × Nat) => match x with | (i, ys, Ap, cq) => [(0, (.pointer (some ⟨qb, 0, none⟩))), (2, (.slice none 0 0)), (8, (.int .i64 (q.length : Int))), (9, (.int .i64 (i : Int))), (3, (.slice Ap ys.length cq))]) (fun (x : Nat × (List Pkt) × (Option Addr) × Nat) => match x with | (i, ys, Ap, cq) => [blk b1 [(.int .i64 (n : Int)), (.int .i64 m), (.slice A1 q.length c1), (.int .u64 ci), (.int .u64 co), (.int .u64 cd), (.int .u64 bi), (.int .u64 bo), (.int .u64 bd)] 82, sl Ap (ys.length) cq 74 6 (V.flat encPkt ys)]) (fun (x : Nat × (List Pkt) × (Option Addr) × Nat) => match x with | (i, ys, Ap, cq) => i ≤ q.length ∧ ys = q.take i) (fun (x : Nat × (List Pkt) × (Option Addr) × Nat) => match x with | (i, ys, Ap, cq) => q.length - i) (0, [], none, 0) (⟨Nat.zero_le _, rfl⟩) ?_ ?_
              · exact A.here (by exact ⟨rfl, rfl, rfl, rfl, rfl, trivial⟩) (List.Sublist.refl _)
              · rintro ⟨i, ys, Ap, cq⟩ ⟨hi, hys⟩
                have hyl : ys.length = i := by rw [hys]; simp; omega
                refine A.norm [(0, (.pointer (some ⟨qb, 0, none⟩))), (2, (.slice none 0 0)), (8, (.int .i64 (q.length : Int))), (9, (.int .i64 (i : Int))), (3, (.slice Ap ys.length cq))] [blk b1 [(.int .i64 (n : Int)), (.int .i64 m), (.slice A1 q.length c1), (.int .u64 ci), (.int .u64 co), (.int .u64 cd), (.int .u64 bi), (.int .u64 bo), (.int .u64 bd)] 82, sl Ap (ys.length) cq 74 6 (V.flat encPkt ys)] (by exact ⟨rfl, rfl, rfl, rfl, rfl, trivial⟩) rfl ?_
                refine A.seq ?_
                refine A.region ?_
                refine A.cons (A.q (some 10) (.bool (decide ((i : Int) < (q.length : Int)))) (by kernel_rfl) (qt_pure (by kernel_rfl) fun _ => by kernel_rfl) ?_)
                refine A.done ?_
                refine A.norm [(0, (.pointer (some ⟨qb, 0, none⟩))), (2, (.slice none 0 0)), (8, (.int .i64 (q.length : Int))), (9, (.int .i64 (i : Int))), (3, (.slice Ap ys.length cq)), (10, (.bool (decide ((i : Int) < (q.length : Int)))))] [blk b1 [(.int .i64 (n : Int)), (.int .i64 m), (.slice A1 q.length c1), (.int .u64 ci), (.int .u64 co), (.int .u64 cd), (.int .u64 bi), (.int .u64 bo), (.int .u64 bd)] 82, sl Ap (ys.length) cq 74 6 (V.flat encPkt ys)] (by exact ⟨rfl, rfl, rfl, rfl, rfl, rfl, trivial⟩) rfl ?_
                refine A.tn ?_
                refine A.seq ?_
                refine A.cond (E := decide ((i : Int) < (q.length : Int))) rfl (fun e10 => ?_) (fun e10 => ?_)
                · skip
                  have p10 := e10; try simp only [decide_eq_true_eq, decide_eq_false_iff_not, beq_iff_eq, beq_eq_false_iff_ne, bne_iff_ne, bne_eq_false_iff_eq, ne_eq, Bool.and_eq_true, Bool.or_eq_true, Bool.or_eq_false_iff, Bool.not_eq_true', Bool.not_eq_false', Int.not_lt, Int.not_le, gt_iff_lt, ge_iff_le, Classical.not_not] at p10
                  refine A.skip ?_
                  refine A.tn ?_
                  refine A.seq ?_
                  refine A.block ?_
                  refine A.seq ?_
                  refine A.region ?_
                  refine A.cons (A.q (some 11) (.int .i64 (i : Int)) (by kernel_rfl) (qt_move rfl rfl) ?_)
                  refine A.cons (A.q (some 4) (.int .i64 (i : Int)) (by kernel_rfl) (qt_assign rfl rfl) ?_)
                  refine A.done ?_
                  refine A.norm [(0, (.pointer (some ⟨qb, 0, none⟩))), (2, (.slice none 0 0)), (8, (.int .i64 (q.length : Int))), (9, (.int .i64 (i : Int))), (3, (.slice Ap ys.length cq)), (10, (.bool (decide ((i : Int) < (q.length : Int))))), (4, (.int .i64 (i : Int)))] [blk b1 [(.int .i64 (n : Int)), (.int .i64 m), (.slice A1 q.length c1), (.int .u64 ci), (.int .u64 co), (.int .u64 cd), (.int .u64 bi), (.int .u64 bo), (.int .u64 bd)] 82, sl Ap (ys.length) cq 74 6 (V.flat encPkt ys)] (by exact ⟨rfl, rfl, rfl, rfl, rfl, rfl, rfl, trivial⟩) rfl ?_
                  refine A.tn ?_
                  refine A.seq ?_
                  refine A.region ?_
                  refine A.cons (A.q (some 13) (.pointer (some ⟨qb, 0, none⟩)) (by kernel_rfl) (qt_move rfl rfl) ?_)
                  refine A.cons (A.q (some 14) (.pointer (some ⟨qb, 0, none⟩)) (by kernel_rfl) (qt_pure (by kernel_rfl) fun _ => by kernel_rfl) ?_)
                  refine A.cons (A.q (some 15) (.pointer (some ⟨qb, 0, none⟩)) (by kernel_rfl) (qt_pure (by kernel_rfl) fun _ => by kernel_rfl) ?_)
                  refine A.cons (A.q (some 16) (.pointer (some ⟨rb, 0, none⟩)) (by kernel_rfl) (qt_load1 rfl rfl (by kernel_rfl) (reads_oldblk hQ rfl)) ?_)
                  refine A.cons (A.q (some 17) (.int .i64 (i : Int)) (by kernel_rfl) (qt_move rfl rfl) ?_)
                  obtain ⟨x16, hx16⟩ : ∃ x, (q)[i]? = some x := ⟨_, List.getElem?_eq_getElem (by omega)⟩
                  refine A.cons (A.q (some 18) (.tuple #[(.agg #[(.int .u64 x16.id), (.int .i64 x16.len), (.int .u16 x16.h0), (.int .u16 x16.h1), (.int .u16 x16.h2), (.int .u16 x16.h3)]), (.int .i64 0)]) (by kernel_rfl) (qt_call [(.pointer (some ⟨rb, 0, none⟩)), (.int .i64 (i : Int))] rfl (by kernel_rfl) rfl (fun w s => ringP_at rb rs n i q x16 w (old_item (it := ringI encPkt 118 74 rb rs n q) s hR) hx16)) ?_)
                  refine A.cons (A.q (some 12) (.tuple #[(.agg #[(.int .u64 x16.id), (.int .i64 x16.len), (.int .u16 x16.h0), (.int .u16 x16.h1), (.int .u16 x16.h2), (.int .u16 x16.h3)]), (.int .i64 0)]) (by kernel_rfl) (qt_move rfl rfl) ?_)
                  refine A.cons (A.q (some 19) (.agg #[(.int .u64 x16.id), (.int .i64 x16.len), (.int .u16 x16.h0), (.int .u16 x16.h1), (.int .u16 x16.h2), (.int .u16 x16.h3)]) (by kernel_rfl) (qt_pure (by kernel_rfl) fun _ => by kernel_rfl) ?_)
                  refine A.cons (A.q (some 20) (.int .i64 0) (by kernel_rfl) (qt_pure (by kernel_rfl) fun _ => by kernel_rfl) ?_)
                  refine A.cons (A.alloc 5 [(.int .u64 0), (.int .i64 0), (.int .u16 0), (.int .u16 0), (.int .u16 0), (.int .u16 0)] (by kernel_rfl) rfl (by kernel_rfl) (fun b17 => [blk b1 [(.int .i64 (n : Int)), (.int .i64 m), (.slice A1 q.length c1), (.int .u64 ci), (.int .u64 co), (.int .u64 cd), (.int .u64 bi), (.int .u64 bo), (.int .u64 bd)] 82, sl Ap (ys.length) cq 74 6 (V.flat encPkt ys), blk b17 [(.int .u64 0), (.int .i64 0), (.int .u16 0), (.int .u16 0), (.int .u16 0), (.int .u16 0)] 74]) (fun _ => rfl) ?_)
                  intro b17
                  refine A.cons (A.store 2 (vs := [(.int .u64 x16.id), (.int .i64 x16.len), (.int .u16 x16.h0), (.int .u16 x16.h1), (.int .u16 x16.h2), (.int .u16 x16.h3)]) [blk b1 [(.int .i64 (n : Int)), (.int .i64 m), (.slice A1 q.length c1), (.int .u64 ci), (.int .u64 co), (.int .u64 cd), (.int .u64 bi), (.int .u64 bo), (.int .u64 bd)] 82, sl Ap (ys.length) cq 74 6 (V.flat encPkt ys), blk b17 [(.int .u64 x16.id), (.int .i64 x16.len), (.int .u16 x16.h0), (.int .u16 x16.h1), (.int .u16 x16.h2), (.int .u16 x16.h3)] 74] (by kernel_rfl) rfl rfl rfl rfl (by kernel_rfl) rfl rfl (by kernel_rfl) rfl ?_)
                  refine A.cons (A.q (some 6) (.int .i64 0) (by kernel_rfl) (qt_assign rfl rfl) ?_)
                  refine A.done ?_
                  refine A.norm [(0, (.pointer (some ⟨qb, 0, none⟩))), (2, (.slice none 0 0)), (8, (.int .i64 (q.length : Int))), (9, (.int .i64 (i : Int))), (3, (.slice Ap ys.length cq)), (10, (.bool (decide ((i : Int) < (q.length : Int))))), (4, (.int .i64 (i : Int))), (5, (.pointer (some ⟨b17, 0, none⟩)))] [blk b1 [(.int .i64 (n : Int)), (.int .i64 m), (.slice A1 q.length c1), (.int .u64 ci), (.int .u64 co), (.int .u64 cd), (.int .u64 bi), (.int .u64 bo), (.int .u64 bd)] 82, sl Ap (ys.length) cq 74 6 (V.flat encPkt ys), blk b17 [(.int .u64 x16.id), (.int .i64 x16.len), (.int .u16 x16.h0), (.int .u16 x16.h1), (.int .u16 x16.h2), (.int .u16 x16.h3)] 74] (by exact ⟨rfl, rfl, rfl, rfl, rfl, rfl, rfl, rfl, trivial⟩) rfl ?_
                  refine A.tn ?_
                  refine A.region ?_
                  refine A.cons (A.q (some 21) (.slice Ap ys.length cq) (by kernel_rfl) (qt_move rfl rfl) ?_)
                  refine A.cons (A.q (some 22) (.agg #[(.int .u64 x16.id), (.int .i64 x16.len), (.int .u16 x16.h0), (.int .u16 x16.h1), (.int .u16 x16.h2), (.int .u16 x16.h3)]) (by kernel_rfl) (qt_loadN (vs := [(.int .u64 x16.id), (.int .i64 x16.len), (.int .u16 x16.h0), (.int .u16 x16.h1), (.int .u16 x16.h2), (.int .u16 x16.h3)]) rfl rfl (by kernel_rfl) (reads_blk (i := 2) rfl rfl)) ?_)
                  refine A.cons (A.buildSlice 23 (e := 74) [(.int .u64 x16.id), (.int .i64 x16.len), (.int .u16 x16.h0), (.int .u16 x16.h1), (.int .u16 x16.h2), (.int .u16 x16.h3)] (by kernel_rfl) rfl (fun _ => by kernel_rfl) (fun b18 => [blk b1 [(.int .i64 (n : Int)), (.int .i64 m), (.slice A1 q.length c1), (.int .u64 ci), (.int .u64 co), (.int .u64 cd), (.int .u64 bi), (.int .u64 bo), (.int .u64 bd)] 82, sl Ap (ys.length) cq 74 6 (V.flat encPkt ys), blk b17 [(.int .u64 x16.id), (.int .i64 x16.len), (.int .u16 x16.h0), (.int .u16 x16.h1), (.int .u16 x16.h2), (.int .u16 x16.h3)] 74, blk b18 [(.int .u64 x16.id), (.int .i64 x16.len), (.int .u16 x16.h0), (.int .u16 x16.h1), (.int .u16 x16.h2), (.int .u16 x16.h3)] 74]) (fun _ => rfl) ?_)
                  intro b18
                  refine A.cons (A.appendC (enc := encPkt) (xs := ys) ([x16]) 1 24 (e := 74) (z := (.agg #[(.int .u64 0), (.int .i64 0), (.int .u16 0), (.int .u16 0), (.int .u16 0), (.int .u16 0)])) (sz := 6) (by_ := 24) (by kernel_rfl) rfl rfl rfl (by kernel_rfl) (by kernel_rfl) (by rfl) (by decide) encPkt_len encPkt_one rfl (rd_blk (i := 3) rfl) (by first | omega | (simp at *; omega)) (fun A19 c19 => [blk b1 [(.int .i64 (n : Int)), (.int .i64 m), (.slice A1 q.length c1), (.int .u64 ci), (.int .u64 co), (.int .u64 cd), (.int .u64 bi), (.int .u64 bo), (.int .u64 bd)] 82, sl A19 ((ys ++ ([x16])).length) c19 74 6 (V.flat encPkt (ys ++ ([x16]))), blk b17 [(.int .u64 x16.id), (.int .i64 x16.len), (.int .u16 x16.h0), (.int .u16 x16.h1), (.int .u16 x16.h2), (.int .u16 x16.h3)] 74, blk b18 [(.int .u64 x16.id), (.int .i64 x16.len), (.int .u16 x16.h0), (.int .u16 x16.h1), (.int .u16 x16.h2), (.int .u16 x16.h3)] 74]) (fun _ _ => rfl) ?_)
                  intro A19 c19
                  refine A.cons (A.q (some 3) (.slice A19 ((ys ++ ([x16])).length) c19) (by kernel_rfl) (qt_assign rfl rfl) ?_)
                  refine A.done ?_
                  refine A.norm [(0, (.pointer (some ⟨qb, 0, none⟩))), (2, (.slice none 0 0)), (8, (.int .i64 (q.length : Int))), (9, (.int .i64 (i : Int))), (3, (.slice A19 ((ys ++ ([x16])).length) c19)), (10, (.bool (decide ((i : Int) < (q.length : Int))))), (4, (.int .i64 (i : Int))), (5, (.pointer (some ⟨b17, 0, none⟩)))] [blk b1 [(.int .i64 (n : Int)), (.int .i64 m), (.slice A1 q.length c1), (.int .u64 ci), (.int .u64 co), (.int .u64 cd), (.int .u64 bi), (.int .u64 bo), (.int .u64 bd)] 82, sl A19 ((ys ++ ([x16])).length) c19 74 6 (V.flat encPkt (ys ++ ([x16]))), blk b17 [(.int .u64 x16.id), (.int .i64 x16.len), (.int .u16 x16.h0), (.int .u16 x16.h1), (.int .u16 x16.h2), (.int .u16 x16.h3)] 74, blk b18 [(.int .u64 x16.id), (.int .i64 x16.len), (.int .u16 x16.h0), (.int .u16 x16.h1), (.int .u16 x16.h2), (.int .u16 x16.h3)] 74] (by exact ⟨rfl, rfl, rfl, rfl, rfl, rfl, rfl, rfl, trivial⟩) rfl ?_
                  refine A.bn ?_
                  refine A.tn ?_
                  refine A.region ?_
                  refine A.cons (A.q (some 25) (.int .i64 ((i : Int) + 1)) (by kernel_rfl) (qt_as (congrArg (Value.int .i64) (wrap_i64 (e := (i : Int) + 1) (by constructor <;> omega))) (qt_pure (v := .int .i64 (IntKind.i64.wrap ((i : Int) + 1))) (by kernel_rfl) fun _ => by kernel_rfl)) ?_)
                  refine A.cons (A.q (some 9) (.int .i64 ((i : Int) + 1)) (by kernel_rfl) (qt_move rfl rfl) ?_)
                  refine A.done ?_
                  refine A.norm [(0, (.pointer (some ⟨qb, 0, none⟩))), (2, (.slice none 0 0)), (8, (.int .i64 (q.length : Int))), (9, (.int .i64 ((i : Int) + 1))), (3, (.slice A19 ((ys ++ ([x16])).length) c19)), (10, (.bool (decide ((i : Int) < (q.length : Int))))), (4, (.int .i64 (i : Int))), (5, (.pointer (some ⟨b17, 0, none⟩)))] [blk b1 [(.int .i64 (n : Int)), (.int .i64 m), (.slice A1 q.length c1), (.int .u64 ci), (.int .u64 co), (.int .u64 cd), (.int .u64 bi), (.int .u64 bo), (.int .u64 bd)] 82, sl A19 ((ys ++ ([x16])).length) c19 74 6 (V.flat encPkt (ys ++ ([x16]))), blk b17 [(.int .u64 x16.id), (.int .i64 x16.len), (.int .u16 x16.h0), (.int .u16 x16.h1), (.int .u16 x16.h2), (.int .u16 x16.h3)] 74, blk b18 [(.int .u64 x16.id), (.int .i64 x16.len), (.int .u16 x16.h0), (.int .u16 x16.h1), (.int .u16 x16.h2), (.int .u16 x16.h3)] 74] (by exact ⟨rfl, rfl, rfl, rfl, rfl, rfl, rfl, rfl, trivial⟩) rfl ?_
                  refine A.tn ?_
                  refine A.next (i + 1, ys ++ ([x16]), A19, c19) (⟨by omega, by rw [hys, List.take_add_one, hx16]; rfl⟩) (by simp only []; omega) ?_
                  exact A.here (by exact ⟨rfl, rfl, rfl, rfl, rfl, trivial⟩) (List.Sublist.cons_cons _ (List.Sublist.cons_cons _ (List.Sublist.cons _ (List.Sublist.cons _ (List.Sublist.slnil)))))
                · skip
                  have p10 := e10; try simp only [decide_eq_true_eq, decide_eq_false_iff_not, beq_iff_eq, beq_eq_false_iff_ne, bne_iff_ne, bne_eq_false_iff_eq, ne_eq, Bool.and_eq_true, Bool.or_eq_true, Bool.or_eq_false_iff, Bool.not_eq_true', Bool.not_eq_false', Int.not_lt, Int.not_le, gt_iff_lt, ge_iff_le, Classical.not_not] at p10
                  refine A.exit ?_
                  refine A.te ?_
                  refine A.te ?_
                  refine A.bh ?_
                  refine A.tn ?_
                  refine A.seq ?_
                  refine A.region ?_
                  refine A.cons (A.q (some 26) (.slice Ap ys.length cq) (by kernel_rfl) (qt_move rfl rfl) ?_)
                  refine A.cons (A.q (some 2) (.slice Ap ys.length cq) (by kernel_rfl) (qt_assign rfl rfl) ?_)
                  refine A.done ?_
                  refine A.norm [(0, (.pointer (some ⟨qb, 0, none⟩))), (2, (.slice Ap ys.length cq)), (8, (.int .i64 (q.length : Int))), (9, (.int .i64 (i : Int))), (3, (.slice Ap ys.length cq)), (10, (.bool (decide ((i : Int) < (q.length : Int)))))] [blk b1 [(.int .i64 (n : Int)), (.int .i64 m), (.slice A1 q.length c1), (.int .u64 ci), (.int .u64 co), (.int .u64 cd), (.int .u64 bi), (.int .u64 bo), (.int .u64 bd)] 82, sl Ap (ys.length) cq 74 6 (V.flat encPkt ys)] (by exact ⟨rfl, rfl, rfl, rfl, rfl, rfl, trivial⟩) rfl ?_
                  refine A.tn ?_
                  refine A.ret ?_
                  refine A.post [(.slice Ap ys.length cq)] (fun a w r s => ⟨rv_tmp r rfl, trivial⟩) (A.back (by kernel_rfl) ?_)
                  refine A.and (List.Sublist.cons_cons _ (List.Sublist.cons _ (List.Sublist.slnil))) ?_
                  refine A.only 33 rfl (by kernel_rfl) (A.q (some 38) (.bool true) (by kernel_rfl) (qt_call [(.slice Ap ys.length cq), (.slice A1 q.length c1)] rfl (by kernel_rfl) rfl (fun w s => same_spec2 Ap A1 cq c1 ys q w (by omega) ((rd_sl (i := 1) rfl) w s) ((rd_old hL (by simp)) w s) (by rw [hys]; exact List.take_of_length_le (by omega)))) ?_)
                  refine A.and (List.Sublist.cons_cons _ (List.Sublist.cons _ (List.Sublist.slnil))) ?_
                  refine A.take 34 (some 39) (.bool true) rfl (by kernel_rfl) (by kernel_rfl) (List.Sublist.cons_cons _ (List.Sublist.cons _ (List.Sublist.slnil))) (qt_pure (by kernel_rfl) fun _ => by kernel_rfl) ?_
                  refine A.take 35 (some 4) (.bool true) rfl (by kernel_rfl) (by kernel_rfl) (List.Sublist.cons_cons _ (List.Sublist.cons _ (List.Sublist.slnil))) (qt_assign rfl rfl) ?_
                  refine A.fin (by kernel_rfl) ?_
                  refine A.norm [(0, (.pointer (some ⟨qb, 0, none⟩))), (1, (.agg #[(.int .i64 (n : Int)), (.int .i64 m), (.slice A1 q.length c1), (.int .u64 ci), (.int .u64 co), (.int .u64 cd), (.int .u64 bi), (.int .u64 bo), (.int .u64 bd)])), (3, (.pointer (some ⟨b1, 0, none⟩))), (4, (.bool true))] [blk b1 [(.int .i64 (n : Int)), (.int .i64 m), (.slice A1 q.length c1), (.int .u64 ci), (.int .u64 co), (.int .u64 cd), (.int .u64 bi), (.int .u64 bo), (.int .u64 bd)] 82, sl Ap (ys.length) cq 74 6 (V.flat encPkt ys)] (by exact ⟨rfl, rfl, rfl, rfl, trivial⟩) rfl ?_
                  refine A.tn ?_
                  refine A.ret ?_
                  refine A.post [(.bool true)] (fun a w r s => ⟨rv_tmp r rfl, trivial⟩) (fun w1 s => ?_)
                  exact ⟨rfl, s.fr⟩
            · exact absurd e9 (by simp [hu] at e9)
          · exact absurd e8 (by simp)
    · exact absurd e2 (by simp [hu] at e2)
  · exact absurd e1 (by simp)
end Go.Proofs.Ytkfmboicmdnjpaa
