/- What the functions of this layer do, proved operation by operation, for all arguments, under the conditions that each theorem states. -/
import Derived.Test.YtkfmboicmdnjpaaProg
import Derived.Test.YtkfmboicmdnjpaaPktq4
import Derived.Test.YtkfmboicmdnjpaaVh
namespace Go.Proofs.Ytkfmboicmdnjpaa
open Go V
set_option linter.unusedVariables false
set_option linter.unusedSimpArgs false

abbrev u6 (x : Int) : Value := .int .u64 x
abbrev i6 (x : Int) : Value := .int .i64 x
abbrev w6 (x : Int) : Value := .int .u16 x
abbrev pk (x : Pkt) : List Value := [u6 x.id, i6 x.len, w6 x.h0, w6 x.h1, w6 x.h2, w6 x.h3]
abbrev pa (x : Pkt) : Value := .agg #[u6 x.id, i6 x.len, w6 x.h0, w6 x.h1, w6 x.h2, w6 x.h3]
abbrev wq (r : Nat) (m : Int) (A : Option Addr) (n c : Nat) (ci co cd bi bo bd : Int) : List Value := [i6 (r : Int), i6 m, .slice A n c, u6 ci, u6 co, u6 cd, u6 bi, u6 bo, u6 bd]
abbrev qq (b : Nat) (m u ci co cd bi bo bd : Int) : List Value := [.pointer (some ⟨b, 0, none⟩), i6 m, i6 u, u6 ci, u6 co, u6 cd, u6 bi, u6 bo, u6 bd]
theorem sk {a : V.Item} {l m : List V.Item} (h : List.Sublist l m) : List.Sublist (a :: l) (a :: m) := h.cons_cons _
theorem sc {a : V.Item} {l m : List V.Item} (h : List.Sublist l m) : List.Sublist l (a :: m) := h.cons _
theorem sn : List.Sublist ([] : List V.Item) [] := List.Sublist.slnil
set_option maxHeartbeats 8000000 in
set_option maxRecDepth 100000 in
theorem pktqActs_ok (r : Nat) (m : Int) (A0 : Option Addr) (c0 : Nat) (l : List Pkt) (w : World) (hl0 : l.length ≤ 100) (h1 : 1 ≤ r) (h2 : r ≤ 64) (h3 : 1 ≤ m) (h4 : m ≤ 1048576) (hl : arrAt w A0 (V.flat encPkt l)) :
    Calls Try.prog 12 #[(i6 (r : Int)), (i6 m), (.slice A0 l.length c0)] w fun e w' => e = .returned (.bool true) ∧ Fr [] w w' := by
  refine calls_of (args := [(i6 (r : Int)), (i6 m), (.slice A0 l.length c0)]) (penv [(i6 (r : Int)), (i6 m), (.slice A0 l.length c0)]) [] [] Try.func12 rfl rfl (look_penv _) (HS.nil w) ?_
  refine A.norm [(0, (i6 (r : Int))), (1, (i6 m)), (2, (.slice A0 l.length c0))] [] (by exact ⟨rfl, rfl, rfl, trivial⟩) rfl ?_
  refine A.seq ?_
  refine A.region ?_
  refine A.cons (A.q (some 6) (.bool false) (by kernel_rfl) (qt_assign rfl rfl) ?_)
  refine A.done ?_
  refine A.norm [(0, (i6 (r : Int))), (1, (i6 m)), (2, (.slice A0 l.length c0)), (6, (.bool false))] [] (by exact ⟨rfl, rfl, rfl, rfl, trivial⟩) rfl ?_
  refine A.tn ?_
  refine A.seq ?_
  refine A.seq ?_
  refine A.region ?_
  refine A.cons (A.q (some 17) (.slice A0 l.length c0) (by kernel_rfl) (qt_move rfl rfl) ?_)
  refine A.cons (A.q (some 18) (i6 (l.length : Int)) (by kernel_rfl) (qt_pure (by kernel_rfl) fun _ => by kernel_rfl) ?_)
  refine A.cons (A.q (some 19) (.bool (decide ((l.length : Int) > 100))) (by kernel_rfl) (qt_pure (by kernel_rfl) fun _ => by kernel_rfl) ?_)
  refine A.done ?_
  refine A.norm [(0, (i6 (r : Int))), (1, (i6 m)), (2, (.slice A0 l.length c0)), (6, (.bool false)), (19, (.bool (decide ((l.length : Int) > 100))))] [] (by exact ⟨rfl, rfl, rfl, rfl, rfl, trivial⟩) rfl ?_
  refine A.tn ?_
  refine A.cond (E := decide ((l.length : Int) > 100)) rfl (fun e1 => ?_) (fun e1 => ?_)
  · exact absurd e1 (by first | omega | (simp; done) | (simp at *; omega) | simp_all)
  · skip
    have p1 := e1; try simp only [decide_eq_true_eq, decide_eq_false_iff_not, beq_iff_eq, beq_eq_false_iff_ne, bne_iff_ne, bne_eq_false_iff_eq, ne_eq, Bool.and_eq_true, Bool.or_eq_true, Bool.or_eq_false_iff, Bool.not_eq_true', Bool.not_eq_false', Int.not_lt, Int.not_le, gt_iff_lt, ge_iff_le, Classical.not_not] at p1
    refine A.skip ?_
    refine A.tn ?_
    refine A.seq ?_
    refine A.region ?_
    refine A.cons (A.q (some 22) (i6 (r : Int)) (by kernel_rfl) (qt_move rfl rfl) ?_)
    refine A.cons (A.q (some 23) (i6 m) (by kernel_rfl) (qt_move rfl rfl) ?_)
    refine A.cons (A.inl (some 24) [(i6 (r : Int)), (i6 m)] [(0, (i6 (r : Int))), (1, (i6 m))] (by kernel_rfl) rfl (by kernel_rfl) rfl Try.func42 rfl rfl rfl ?_)
    refine A.seq ?_
    refine A.region ?_
    refine A.cons (A.q (some 4) (.pointer none) (by kernel_rfl) (qt_assign rfl rfl) ?_)
    refine A.cons (A.q (some 5) (i6 0) (by kernel_rfl) (qt_assign rfl rfl) ?_)
    refine A.done ?_
    refine A.norm [(0, (i6 (r : Int))), (1, (i6 m)), (4, (.pointer none)), (5, (i6 0))] [] (by exact ⟨rfl, rfl, rfl, rfl, trivial⟩) rfl ?_
    refine A.tn ?_
    refine A.seq ?_
    refine A.region ?_
    refine A.cons (A.q (some 9) (i6 (r : Int)) (by kernel_rfl) (qt_move rfl rfl) ?_)
    refine A.cons (A.call (some 10) [(i6 (r : Int))] (fun x : Nat × Nat => (.tuple #[(.pointer (some ⟨x.1, 0, none⟩)), (i6 0)])) (fun _ => True) (fun x => [ringI encPkt 118 74 x.1 x.2 r ([] : List Pkt)]) (by kernel_rfl) rfl (by kernel_rfl) rfl (fun w s => (ringP_new_ok r w (by omega) (by omega)).mono fun e w1 ⟨b, s1, he, hr, hf, n1, n2⟩ => ⟨(b, s1), he, trivial, s.add hf hr (by have := hr.bounds.2.2.2; simpa [ringI] using this) (by intro x hx; simp [ringI] at hx; rcases hx with rfl | rfl <;> assumption)⟩) ?_)
    rintro ⟨rb1, rs1⟩ -
    refine A.cons (A.q (some 8) (.tuple #[(.pointer (some ⟨rb1, 0, none⟩)), (i6 0)]) (by kernel_rfl) (qt_move rfl rfl) ?_)
    refine A.cons (A.q (some 11) (.pointer (some ⟨rb1, 0, none⟩)) (by kernel_rfl) (qt_pure (by kernel_rfl) fun _ => by kernel_rfl) ?_)
    refine A.cons (A.q (some 12) (i6 0) (by kernel_rfl) (qt_pure (by kernel_rfl) fun _ => by kernel_rfl) ?_)
    refine A.cons (A.q (some 6) (.pointer (some ⟨rb1, 0, none⟩)) (by kernel_rfl) (qt_assign rfl rfl) ?_)
    refine A.cons (A.q (some 7) (i6 0) (by kernel_rfl) (qt_assign rfl rfl) ?_)
    refine A.done ?_
    refine A.norm [(0, (i6 (r : Int))), (1, (i6 m)), (4, (.pointer none)), (5, (i6 0)), (6, (.pointer (some ⟨rb1, 0, none⟩))), (7, (i6 0))] [ringI encPkt 118 74 rb1 rs1 r ([] : List Pkt)] (by exact ⟨rfl, rfl, rfl, rfl, rfl, rfl, trivial⟩) rfl ?_
    refine A.tn ?_
    refine A.seq ?_
    refine A.seq ?_
    refine A.cutR (fun _ : Unit => [(0, (i6 (r : Int))), (1, (i6 m)), (4, (.pointer none)), (5, (i6 0)), (6, (.pointer (some ⟨rb1, 0, none⟩))), (7, (i6 0)), (22, (.bool ((decide (m < 1)) || (decide (m > 1048576)))))]) (fun _ => [ringI encPkt 118 74 rb1 rs1 r ([] : List Pkt)]) (fun _ => True) ?_ (fun _ _ => ?_)
    · skip
      refine A.region ?_
      refine A.cons (A.q (some 13) (i6 0) (by kernel_rfl) (qt_move rfl rfl) ?_)
      refine A.cons (A.q (some 14) (.bool false) (by kernel_rfl) (qt_pure (by kernel_rfl) fun _ => by kernel_rfl) ?_)
      refine A.cons (A.q (some 15) (.bool false) (by kernel_rfl) (qt_move rfl rfl) ?_)
      refine A.cons (A.q (some 16) (i6 m) (by kernel_rfl) (qt_move rfl rfl) ?_)
      refine A.cons (A.q (some 17) (.bool (decide (m < 1))) (by kernel_rfl) (qt_pure (by kernel_rfl) fun _ => by kernel_rfl) ?_)
      refine A.cons (A.q (some 18) (.bool (decide (m < 1))) (by kernel_rfl) (qt_pure (by kernel_rfl) fun _ => by kernel_rfl) ?_)
      refine A.cons (A.q (some 19) (.bool (decide (m < 1))) (by kernel_rfl) (qt_move rfl rfl) ?_)
      refine A.bool (decide (m < 1)) (fun e2 => ?_) (fun e2 => ?_)
      · skip
        refine A.sub [(0, (i6 (r : Int))), (1, (i6 m)), (4, (.pointer none)), (5, (i6 0)), (6, (.pointer (some ⟨rb1, 0, none⟩))), (7, (i6 0)), (13, (i6 0)), (14, (.bool false)), (15, (.bool false)), (16, (i6 m)), (17, (.bool true)), (18, (.bool true)), (19, (.bool true))] (by exact ⟨rfl, rfl, rfl, rfl, rfl, rfl, rfl, rfl, rfl, rfl, (congrArg (fun z => some (Value.bool z)) e2), (congrArg (fun z => some (Value.bool z)) e2), (congrArg (fun z => some (Value.bool z)) e2), trivial⟩) ?_
        refine A.cons (A.jump (some 20) rfl rfl (by intro x hx; cases hx; rfl) ?_)
        refine A.cons (A.jump (some 21) rfl rfl (by intro x hx; cases hx; rfl) ?_)
        refine A.cons (A.q (some 22) (.bool true) (by kernel_rfl) (qt_pure (by kernel_rfl) fun _ => by kernel_rfl) ?_)
        refine A.done ?_
        exact A.meet () trivial (A.here (by exact ⟨rfl, rfl, rfl, rfl, rfl, rfl, (by rw [e2]; rfl), trivial⟩) (List.Sublist.refl _))
      · skip
        refine A.sub [(0, (i6 (r : Int))), (1, (i6 m)), (4, (.pointer none)), (5, (i6 0)), (6, (.pointer (some ⟨rb1, 0, none⟩))), (7, (i6 0)), (13, (i6 0)), (14, (.bool false)), (15, (.bool false)), (16, (i6 m)), (17, (.bool false)), (18, (.bool false)), (19, (.bool false))] (by exact ⟨rfl, rfl, rfl, rfl, rfl, rfl, rfl, rfl, rfl, rfl, (congrArg (fun z => some (Value.bool z)) e2), (congrArg (fun z => some (Value.bool z)) e2), (congrArg (fun z => some (Value.bool z)) e2), trivial⟩) ?_
        refine A.cons (A.q (some 20) (i6 m) (by kernel_rfl) (qt_move rfl rfl) ?_)
        refine A.cons (A.q (some 21) (.bool (decide (m > 1048576))) (by kernel_rfl) (qt_pure (by kernel_rfl) fun _ => by kernel_rfl) ?_)
        refine A.cons (A.q (some 22) (.bool (decide (m > 1048576))) (by kernel_rfl) (qt_pure (by kernel_rfl) fun _ => by kernel_rfl) ?_)
        refine A.done ?_
        exact A.meet () trivial (A.here (by exact ⟨rfl, rfl, rfl, rfl, rfl, rfl, (by rw [e2]; rfl), trivial⟩) (List.Sublist.refl _))
    · skip
      refine A.tn ?_
      refine A.cond (E := (decide (m < 1)) || (decide (m > 1048576))) rfl (fun e3 => ?_) (fun e3 => ?_)
      · exact absurd e3 (by first | (simp; done) | (simp; omega) | omega | grind)
      · skip
        have p3 := e3; try simp only [decide_eq_true_eq, decide_eq_false_iff_not, beq_iff_eq, beq_eq_false_iff_ne, bne_iff_ne, bne_eq_false_iff_eq, ne_eq, Bool.and_eq_true, Bool.or_eq_true, Bool.or_eq_false_iff, Bool.not_eq_true', Bool.not_eq_false', Int.not_lt, Int.not_le, gt_iff_lt, ge_iff_le, Classical.not_not] at p3
        refine A.skip ?_
        refine A.tn ?_
        refine A.seq ?_
        refine A.region ?_
        refine A.cons (A.q (some 23) (.pointer (some ⟨rb1, 0, none⟩)) (by kernel_rfl) (qt_move rfl rfl) ?_)
        refine A.cons (A.q (some 24) (i6 m) (by kernel_rfl) (qt_move rfl rfl) ?_)
        refine A.cons (A.q (some 25) (.agg (qq rb1 m 0 0 0 0 0 0 0).toArray) (by kernel_rfl) (qt_pure (by kernel_rfl) fun _ => by kernel_rfl) ?_)
        refine A.cons (A.box 26 (qq rb1 m 0 0 0 0 0 0 0) (by kernel_rfl) rfl rfl rfl (fun b2 => [ringI encPkt 118 74 rb1 rs1 r ([] : List Pkt), blk b2 (qq rb1 m 0 0 0 0 0 0 0) 112]) (fun _ => rfl) ?_)
        intro b2
        refine A.cons (A.q (some 4) (.pointer (some ⟨b2, 0, none⟩)) (by kernel_rfl) (qt_assign rfl rfl) ?_)
        refine A.cons (A.q (some 5) (i6 0) (by kernel_rfl) (qt_assign rfl rfl) ?_)
        refine A.done ?_
        refine A.norm [(0, (i6 (r : Int))), (1, (i6 m)), (4, (.pointer (some ⟨b2, 0, none⟩))), (5, (i6 0)), (6, (.pointer (some ⟨rb1, 0, none⟩))), (7, (i6 0)), (22, (.bool ((decide (m < 1)) || (decide (m > 1048576)))))] [ringI encPkt 118 74 rb1 rs1 r ([] : List Pkt), blk b2 (qq rb1 m 0 0 0 0 0 0 0) 112] (by exact ⟨rfl, rfl, rfl, rfl, rfl, rfl, rfl, trivial⟩) rfl ?_
        refine A.tn ?_
        refine A.ret ?_
        refine A.post [(.pointer (some ⟨b2, 0, none⟩)), (i6 0)] (fun a w rr s => ⟨rv_tmp rr rfl, rv_tmp rr rfl, trivial⟩) (A.back (by kernel_rfl) ?_)
        refine A.cons (A.q (some 21) (.tuple #[(.pointer (some ⟨b2, 0, none⟩)), (i6 0)]) (by kernel_rfl) (qt_move rfl rfl) ?_)
        refine A.cons (A.q (some 25) (.pointer (some ⟨b2, 0, none⟩)) (by kernel_rfl) (qt_pure (by kernel_rfl) fun _ => by kernel_rfl) ?_)
        refine A.cons (A.q (some 26) (i6 0) (by kernel_rfl) (qt_pure (by kernel_rfl) fun _ => by kernel_rfl) ?_)
        refine A.cons (A.q (some 7) (.pointer (some ⟨b2, 0, none⟩)) (by kernel_rfl) (qt_assign rfl rfl) ?_)
        refine A.cons (A.q (some 8) (i6 0) (by kernel_rfl) (qt_assign rfl rfl) ?_)
        refine A.done ?_
        refine A.norm [(0, (i6 (r : Int))), (1, (i6 m)), (2, (.slice A0 l.length c0)), (6, (.bool false)), (19, (.bool (decide ((l.length : Int) > 100)))), (7, (.pointer (some ⟨b2, 0, none⟩))), (8, (i6 0))] [ringI encPkt 118 74 rb1 rs1 r ([] : List Pkt), blk b2 (qq rb1 m 0 0 0 0 0 0 0) 112] (by exact ⟨rfl, rfl, rfl, rfl, rfl, rfl, rfl, trivial⟩) rfl ?_
        refine A.tn ?_
        refine A.seq ?_
        refine A.seq ?_
        refine A.cutR (fun _ : Unit => [(0, (i6 (r : Int))), (1, (i6 m)), (2, (.slice A0 l.length c0)), (6, (.bool false)), (19, (.bool (decide ((l.length : Int) > 100)))), (7, (.pointer (some ⟨b2, 0, none⟩))), (8, (i6 0)), (40, (.bool ((decide ((r : Int) < 1)) || ((decide ((r : Int) > 64)) || ((decide (m < 1)) || (decide (m > 1048576)))))))]) (fun _ => [ringI encPkt 118 74 rb1 rs1 r ([] : List Pkt), blk b2 (qq rb1 m 0 0 0 0 0 0 0) 112]) (fun _ => True) ?_ (fun _ _ => ?_)
        · skip
          refine A.region ?_
          refine A.cons (A.q (some 27) (i6 (r : Int)) (by kernel_rfl) (qt_move rfl rfl) ?_)
          refine A.cons (A.q (some 28) (.bool (decide ((r : Int) < 1))) (by kernel_rfl) (qt_pure (by kernel_rfl) fun _ => by kernel_rfl) ?_)
          refine A.cons (A.q (some 29) (.bool (decide ((r : Int) < 1))) (by kernel_rfl) (qt_move rfl rfl) ?_)
          refine A.bool (decide ((r : Int) < 1)) (fun e4 => ?_) (fun e4 => ?_)
          · skip
            refine A.sub [(0, (i6 (r : Int))), (1, (i6 m)), (2, (.slice A0 l.length c0)), (6, (.bool false)), (19, (.bool (decide ((l.length : Int) > 100)))), (7, (.pointer (some ⟨b2, 0, none⟩))), (8, (i6 0)), (27, (i6 (r : Int))), (28, (.bool true)), (29, (.bool true))] (by exact ⟨rfl, rfl, rfl, rfl, rfl, rfl, rfl, rfl, (congrArg (fun z => some (Value.bool z)) e4), (congrArg (fun z => some (Value.bool z)) e4), trivial⟩) ?_
            refine A.cons (A.jump (some 30) rfl rfl (by intro x hx; cases hx; rfl) ?_)
            refine A.cons (A.jump (some 31) rfl rfl (by intro x hx; cases hx; rfl) ?_)
            refine A.cons (A.q (some 32) (.bool true) (by kernel_rfl) (qt_pure (by kernel_rfl) fun _ => by kernel_rfl) ?_)
            refine A.cons (A.q (some 33) (.bool true) (by kernel_rfl) (qt_move rfl rfl) ?_)
            refine A.cons (A.jump (some 34) rfl rfl (by intro x hx; cases hx; rfl) ?_)
            refine A.cons (A.jump (some 35) rfl rfl (by intro x hx; cases hx; rfl) ?_)
            refine A.cons (A.q (some 36) (.bool true) (by kernel_rfl) (qt_pure (by kernel_rfl) fun _ => by kernel_rfl) ?_)
            refine A.cons (A.q (some 37) (.bool true) (by kernel_rfl) (qt_move rfl rfl) ?_)
            refine A.cons (A.jump (some 38) rfl rfl (by intro x hx; cases hx; rfl) ?_)
            refine A.cons (A.jump (some 39) rfl rfl (by intro x hx; cases hx; rfl) ?_)
            refine A.cons (A.q (some 40) (.bool true) (by kernel_rfl) (qt_pure (by kernel_rfl) fun _ => by kernel_rfl) ?_)
            refine A.done ?_
            exact A.meet () trivial (A.here (by exact ⟨rfl, rfl, rfl, rfl, rfl, rfl, rfl, (by rw [e4]; rfl), trivial⟩) (List.Sublist.refl _))
          · skip
            refine A.sub [(0, (i6 (r : Int))), (1, (i6 m)), (2, (.slice A0 l.length c0)), (6, (.bool false)), (19, (.bool (decide ((l.length : Int) > 100)))), (7, (.pointer (some ⟨b2, 0, none⟩))), (8, (i6 0)), (27, (i6 (r : Int))), (28, (.bool false)), (29, (.bool false))] (by exact ⟨rfl, rfl, rfl, rfl, rfl, rfl, rfl, rfl, (congrArg (fun z => some (Value.bool z)) e4), (congrArg (fun z => some (Value.bool z)) e4), trivial⟩) ?_
            refine A.cons (A.q (some 30) (i6 (r : Int)) (by kernel_rfl) (qt_move rfl rfl) ?_)
            refine A.cons (A.q (some 31) (.bool (decide ((r : Int) > 64))) (by kernel_rfl) (qt_pure (by kernel_rfl) fun _ => by kernel_rfl) ?_)
            refine A.cons (A.q (some 32) (.bool (decide ((r : Int) > 64))) (by kernel_rfl) (qt_pure (by kernel_rfl) fun _ => by kernel_rfl) ?_)
            refine A.cons (A.q (some 33) (.bool (decide ((r : Int) > 64))) (by kernel_rfl) (qt_move rfl rfl) ?_)
            refine A.bool (decide ((r : Int) > 64)) (fun e5 => ?_) (fun e5 => ?_)
            · skip
              refine A.sub [(0, (i6 (r : Int))), (1, (i6 m)), (2, (.slice A0 l.length c0)), (6, (.bool false)), (19, (.bool (decide ((l.length : Int) > 100)))), (7, (.pointer (some ⟨b2, 0, none⟩))), (8, (i6 0)), (27, (i6 (r : Int))), (28, (.bool false)), (29, (.bool false)), (30, (i6 (r : Int))), (31, (.bool true)), (32, (.bool true)), (33, (.bool true))] (by exact ⟨rfl, rfl, rfl, rfl, rfl, rfl, rfl, rfl, rfl, rfl, rfl, (congrArg (fun z => some (Value.bool z)) e5), (congrArg (fun z => some (Value.bool z)) e5), (congrArg (fun z => some (Value.bool z)) e5), trivial⟩) ?_
              refine A.cons (A.jump (some 34) rfl rfl (by intro x hx; cases hx; rfl) ?_)
              refine A.cons (A.jump (some 35) rfl rfl (by intro x hx; cases hx; rfl) ?_)
              refine A.cons (A.q (some 36) (.bool true) (by kernel_rfl) (qt_pure (by kernel_rfl) fun _ => by kernel_rfl) ?_)
              refine A.cons (A.q (some 37) (.bool true) (by kernel_rfl) (qt_move rfl rfl) ?_)
              refine A.cons (A.jump (some 38) rfl rfl (by intro x hx; cases hx; rfl) ?_)
              refine A.cons (A.jump (some 39) rfl rfl (by intro x hx; cases hx; rfl) ?_)
              refine A.cons (A.q (some 40) (.bool true) (by kernel_rfl) (qt_pure (by kernel_rfl) fun _ => by kernel_rfl) ?_)
              refine A.done ?_
              exact A.meet () trivial (A.here (by exact ⟨rfl, rfl, rfl, rfl, rfl, rfl, rfl, (by rw [e4, e5]; rfl), trivial⟩) (List.Sublist.refl _))
            · skip
              refine A.sub [(0, (i6 (r : Int))), (1, (i6 m)), (2, (.slice A0 l.length c0)), (6, (.bool false)), (19, (.bool (decide ((l.length : Int) > 100)))), (7, (.pointer (some ⟨b2, 0, none⟩))), (8, (i6 0)), (27, (i6 (r : Int))), (28, (.bool false)), (29, (.bool false)), (30, (i6 (r : Int))), (31, (.bool false)), (32, (.bool false)), (33, (.bool false))] (by exact ⟨rfl, rfl, rfl, rfl, rfl, rfl, rfl, rfl, rfl, rfl, rfl, (congrArg (fun z => some (Value.bool z)) e5), (congrArg (fun z => some (Value.bool z)) e5), (congrArg (fun z => some (Value.bool z)) e5), trivial⟩) ?_
              refine A.cons (A.q (some 34) (i6 m) (by kernel_rfl) (qt_move rfl rfl) ?_)
              refine A.cons (A.q (some 35) (.bool (decide (m < 1))) (by kernel_rfl) (qt_pure (by kernel_rfl) fun _ => by kernel_rfl) ?_)
              refine A.cons (A.q (some 36) (.bool (decide (m < 1))) (by kernel_rfl) (qt_pure (by kernel_rfl) fun _ => by kernel_rfl) ?_)
              refine A.cons (A.q (some 37) (.bool (decide (m < 1))) (by kernel_rfl) (qt_move rfl rfl) ?_)
              refine A.bool (decide (m < 1)) (fun e6 => ?_) (fun e6 => ?_)
              · skip
                refine A.sub [(0, (i6 (r : Int))), (1, (i6 m)), (2, (.slice A0 l.length c0)), (6, (.bool false)), (19, (.bool (decide ((l.length : Int) > 100)))), (7, (.pointer (some ⟨b2, 0, none⟩))), (8, (i6 0)), (27, (i6 (r : Int))), (28, (.bool false)), (29, (.bool false)), (30, (i6 (r : Int))), (31, (.bool false)), (32, (.bool false)), (33, (.bool false)), (34, (i6 m)), (35, (.bool true)), (36, (.bool true)), (37, (.bool true))] (by exact ⟨rfl, rfl, rfl, rfl, rfl, rfl, rfl, rfl, rfl, rfl, rfl, rfl, rfl, rfl, rfl, (congrArg (fun z => some (Value.bool z)) e6), (congrArg (fun z => some (Value.bool z)) e6), (congrArg (fun z => some (Value.bool z)) e6), trivial⟩) ?_
                refine A.cons (A.jump (some 38) rfl rfl (by intro x hx; cases hx; rfl) ?_)
                refine A.cons (A.jump (some 39) rfl rfl (by intro x hx; cases hx; rfl) ?_)
                refine A.cons (A.q (some 40) (.bool true) (by kernel_rfl) (qt_pure (by kernel_rfl) fun _ => by kernel_rfl) ?_)
                refine A.done ?_
                exact A.meet () trivial (A.here (by exact ⟨rfl, rfl, rfl, rfl, rfl, rfl, rfl, (by rw [e4, e5, e6]; rfl), trivial⟩) (List.Sublist.refl _))
              · skip
                refine A.sub [(0, (i6 (r : Int))), (1, (i6 m)), (2, (.slice A0 l.length c0)), (6, (.bool false)), (19, (.bool (decide ((l.length : Int) > 100)))), (7, (.pointer (some ⟨b2, 0, none⟩))), (8, (i6 0)), (27, (i6 (r : Int))), (28, (.bool false)), (29, (.bool false)), (30, (i6 (r : Int))), (31, (.bool false)), (32, (.bool false)), (33, (.bool false)), (34, (i6 m)), (35, (.bool false)), (36, (.bool false)), (37, (.bool false))] (by exact ⟨rfl, rfl, rfl, rfl, rfl, rfl, rfl, rfl, rfl, rfl, rfl, rfl, rfl, rfl, rfl, (congrArg (fun z => some (Value.bool z)) e6), (congrArg (fun z => some (Value.bool z)) e6), (congrArg (fun z => some (Value.bool z)) e6), trivial⟩) ?_
                refine A.cons (A.q (some 38) (i6 m) (by kernel_rfl) (qt_move rfl rfl) ?_)
                refine A.cons (A.q (some 39) (.bool (decide (m > 1048576))) (by kernel_rfl) (qt_pure (by kernel_rfl) fun _ => by kernel_rfl) ?_)
                refine A.cons (A.q (some 40) (.bool (decide (m > 1048576))) (by kernel_rfl) (qt_pure (by kernel_rfl) fun _ => by kernel_rfl) ?_)
                refine A.done ?_
                exact A.meet () trivial (A.here (by exact ⟨rfl, rfl, rfl, rfl, rfl, rfl, rfl, (by rw [e4, e5, e6]; rfl), trivial⟩) (List.Sublist.refl _))
        · skip
          refine A.tn ?_
          refine A.cond (E := (decide ((r : Int) < 1)) || ((decide ((r : Int) > 64)) || ((decide (m < 1)) || (decide (m > 1048576))))) rfl (fun e7 => ?_) (fun e7 => ?_)
          · exact absurd e7 (by first | (simp; done) | (simp; omega) | omega | grind)
          · skip
            have p7 := e7; try simp only [decide_eq_true_eq, decide_eq_false_iff_not, beq_iff_eq, beq_eq_false_iff_ne, bne_iff_ne, bne_eq_false_iff_eq, ne_eq, Bool.and_eq_true, Bool.or_eq_true, Bool.or_eq_false_iff, Bool.not_eq_true', Bool.not_eq_false', Int.not_lt, Int.not_le, gt_iff_lt, ge_iff_le, Classical.not_not] at p7
            refine A.skip ?_
            refine A.tn ?_
            refine A.seq ?_
            refine A.region ?_
            refine A.cons (A.q (some 50) (i6 (r : Int)) (by kernel_rfl) (qt_move rfl rfl) ?_)
            refine A.cons (A.q (some 51) (i6 m) (by kernel_rfl) (qt_move rfl rfl) ?_)
            refine A.cons (A.q (some 52) (.agg (wq r m none 0 0 0 0 0 0 0 0).toArray) (by kernel_rfl) (qt_pure (by kernel_rfl) fun _ => by kernel_rfl) ?_)
            refine A.cons (A.alloc 9 [(i6 0), (i6 0), (.slice none 0 0), (u6 0), (u6 0), (u6 0), (u6 0), (u6 0), (u6 0)] (by kernel_rfl) rfl (by kernel_rfl) (fun b3 => [ringI encPkt 118 74 rb1 rs1 r ([] : List Pkt), blk b2 (qq rb1 m 0 0 0 0 0 0 0) 112, blk b3 [(i6 0), (i6 0), (.slice none 0 0), (u6 0), (u6 0), (u6 0), (u6 0), (u6 0), (u6 0)] 82]) (fun _ => rfl) ?_)
            intro b3
            refine A.cons (A.store 2 (vs := (wq r m none 0 0 0 0 0 0 0 0)) [ringI encPkt 118 74 rb1 rs1 r ([] : List Pkt), blk b2 (qq rb1 m 0 0 0 0 0 0 0) 112, blk b3 (wq r m none 0 0 0 0 0 0 0 0) 82] (by kernel_rfl) rfl rfl rfl rfl (by kernel_rfl) rfl rfl (by kernel_rfl) rfl ?_)
            refine A.done ?_
            refine A.norm [(0, (i6 (r : Int))), (1, (i6 m)), (2, (.slice A0 l.length c0)), (6, (.bool false)), (19, (.bool (decide ((l.length : Int) > 100)))), (7, (.pointer (some ⟨b2, 0, none⟩))), (8, (i6 0)), (40, (.bool ((decide ((r : Int) < 1)) || ((decide ((r : Int) > 64)) || ((decide (m < 1)) || (decide (m > 1048576))))))), (9, (.pointer (some ⟨b3, 0, none⟩)))] [ringI encPkt 118 74 rb1 rs1 r ([] : List Pkt), blk b2 (qq rb1 m 0 0 0 0 0 0 0) 112, blk b3 (wq r m none 0 0 0 0 0 0 0 0) 82] (by exact ⟨rfl, rfl, rfl, rfl, rfl, rfl, rfl, rfl, rfl, trivial⟩) rfl ?_
            refine A.tn ?_
            refine A.seq ?_
            refine A.seq ?_
            refine A.region ?_
            refine A.cons (A.q (some 53) (.slice A0 l.length c0) (by kernel_rfl) (qt_move rfl rfl) ?_)
            refine A.cons (A.q (some 54) (i6 (l.length : Int)) (by kernel_rfl) (qt_pure (by kernel_rfl) fun _ => by kernel_rfl) ?_)
            refine A.cons (A.q (some 55) (i6 0) (by kernel_rfl) (qt_move rfl rfl) ?_)
            refine A.done ?_
            refine A.norm [(0, (i6 (r : Int))), (1, (i6 m)), (2, (.slice A0 l.length c0)), (6, (.bool false)), (19, (.bool (decide ((l.length : Int) > 100)))), (7, (.pointer (some ⟨b2, 0, none⟩))), (8, (i6 0)), (40, (.bool ((decide ((r : Int) < 1)) || ((decide ((r : Int) > 64)) || ((decide (m < 1)) || (decide (m > 1048576))))))), (9, (.pointer (some ⟨b3, 0, none⟩))), (53, (.slice A0 l.length c0)), (54, (i6 (l.length : Int))), (55, (i6 0))] [ringI encPkt 118 74 rb1 rs1 r ([] : List Pkt), blk b2 (qq rb1 m 0 0 0 0 0 0 0) 112, blk b3 (wq r m none 0 0 0 0 0 0 0 0) 82] (by exact ⟨rfl, rfl, rfl, rfl, rfl, rfl, rfl, rfl, rfl, rfl, rfl, rfl, trivial⟩) rfl ?_
            refine A.tn ?_
            refine A.block ?_
            refine A.ownNil 74 6 [ringI encPkt 118 74 rb1 rs1 r ([] : List Pkt), blk b2 (qq rb1 m 0 0 0 0 0 0 0) 112, blk b3 (wq r m none 0 0 0 0 0 0 0 0) 82, sl none (([] : List Pkt).length) 0 74 6 (V.flat encPkt ([] : List Pkt))] rfl ?_
            refine A.loop (fun (x : Nat × (List Pkt) × (Option Addr) × Nat × Int × Int × Int × Int × Int × Int × Int) => match x with | (k, q, Aw, cw, u, ci, co, cd, bi, bo, bd) => [(7, (.pointer (some ⟨b2, 0, none⟩))), (8, (i6 0)), (9, (.pointer (some ⟨b3, 0, none⟩))), (53, (.slice A0 l.length c0)), (54, (i6 (l.length : Int))), (55, (i6 (k : Int)))]) (fun (x : Nat × (List Pkt) × (Option Addr) × Nat × Int × Int × Int × Int × Int × Int × Int) => match x with | (k, q, Aw, cw, u, ci, co, cd, bi, bo, bd) => [ringI encPkt 118 74 rb1 rs1 r q, blk b2 (qq rb1 m u ci co cd bi bo bd) 112, blk b3 (wq r m Aw q.length cw ci co cd bi bo bd) 82, sl Aw (q.length) cw 74 6 (V.flat encPkt q)]) (fun (x : Nat × (List Pkt) × (Option Addr) × Nat × Int × Int × Int × Int × Int × Int × Int) => match x with | (k, q, Aw, cw, u, ci, co, cd, bi, bo, bd) => k ≤ l.length ∧ q.length ≤ r ∧ u = lens q ∧ u ≤ m ∧ (∀ x ∈ q, LenOk x) ∧ ci = co + q.length ∧ 0 ≤ co ∧ ci ≤ k ∧ bi = bo + u ∧ 0 ≤ bo ∧ bi ≤ 16384 * (k : Int)) (fun (x : Nat × (List Pkt) × (Option Addr) × Nat × Int × Int × Int × Int × Int × Int × Int) => match x with | (k, q, Aw, cw, u, ci, co, cd, bi, bo, bd) => l.length - k) (0, [], none, 0, 0, 0, 0, 0, 0, 0, 0) (⟨Nat.zero_le _, by simp, rfl, by omega, by simp, by simp, by omega, by omega, by omega, by omega, by omega⟩) ?_ ?_
            · exact A.here (by exact ⟨rfl, rfl, rfl, rfl, rfl, rfl, trivial⟩) (List.Sublist.refl _)
            · rintro ⟨k, q, Aw, cw, u, ci, co, cd, bi, bo, bd⟩ ⟨hk, hq, hu, hm, hv, hc, hco, hci, hbi, hbo, hbk⟩
              have hp := lens_pos q hv; rw [← hu] at hp
              refine A.norm [(7, (.pointer (some ⟨b2, 0, none⟩))), (8, (i6 0)), (9, (.pointer (some ⟨b3, 0, none⟩))), (53, (.slice A0 l.length c0)), (54, (i6 (l.length : Int))), (55, (i6 (k : Int)))] [ringI encPkt 118 74 rb1 rs1 r q, blk b2 (qq rb1 m u ci co cd bi bo bd) 112, blk b3 (wq r m Aw q.length cw ci co cd bi bo bd) 82, sl Aw (q.length) cw 74 6 (V.flat encPkt q)] (by exact ⟨rfl, rfl, rfl, rfl, rfl, rfl, trivial⟩) rfl ?_
              refine A.seq ?_
              refine A.region ?_
              refine A.cons (A.q (some 56) (.bool (decide ((k : Int) < (l.length : Int)))) (by kernel_rfl) (qt_pure (by kernel_rfl) fun _ => by kernel_rfl) ?_)
              refine A.done ?_
              refine A.norm [(7, (.pointer (some ⟨b2, 0, none⟩))), (8, (i6 0)), (9, (.pointer (some ⟨b3, 0, none⟩))), (53, (.slice A0 l.length c0)), (54, (i6 (l.length : Int))), (55, (i6 (k : Int))), (56, (.bool (decide ((k : Int) < (l.length : Int)))))] [ringI encPkt 118 74 rb1 rs1 r q, blk b2 (qq rb1 m u ci co cd bi bo bd) 112, blk b3 (wq r m Aw q.length cw ci co cd bi bo bd) 82, sl Aw (q.length) cw 74 6 (V.flat encPkt q)] (by exact ⟨rfl, rfl, rfl, rfl, rfl, rfl, rfl, trivial⟩) rfl ?_
              refine A.tn ?_
              refine A.seq ?_
              refine A.cond (E := decide ((k : Int) < (l.length : Int))) rfl (fun e8 => ?_) (fun e8 => ?_)
              · skip
                have p8 := e8; try simp only [decide_eq_true_eq, decide_eq_false_iff_not, beq_iff_eq, beq_eq_false_iff_ne, bne_iff_ne, bne_eq_false_iff_eq, ne_eq, Bool.and_eq_true, Bool.or_eq_true, Bool.or_eq_false_iff, Bool.not_eq_true', Bool.not_eq_false', Int.not_lt, Int.not_le, gt_iff_lt, ge_iff_le, Classical.not_not] at p8
                refine A.skip ?_
                refine A.tn ?_
                refine A.seq ?_
                refine A.block ?_
                refine A.seq ?_
                refine A.region ?_
                refine A.cons (A.q (some 57) (.pointer (some ((at0 A0).add (k * 6)))) (by kernel_rfl) (qt_indexN (el := 74) (enc := encPkt) (xs := l) (m := k) rfl rfl rfl (by kernel_rfl) (by kernel_rfl) encPkt_len (rd_old hl (by simp)) (by decide) (by first | omega | (simp at *; omega))) ?_)
                obtain ⟨x4, hx4⟩ : ∃ x, (l)[k]? = some x := ⟨_, List.getElem?_eq_getElem (by omega)⟩
                refine A.cons (A.q (some 58) (pa x4) (by kernel_rfl) (qt_loadN (vs := (pk x4)) rfl rfl (by kernel_rfl) (reads_at0 (vs := (pk x4)) encPkt_len (rd_old hl (by simp)) hx4 (by simp) rfl)) ?_)
                refine A.cons (A.alloc 11 [(u6 0), (i6 0), (w6 0), (w6 0), (w6 0), (w6 0)] (by kernel_rfl) rfl (by kernel_rfl) (fun b5 => [ringI encPkt 118 74 rb1 rs1 r q, blk b2 (qq rb1 m u ci co cd bi bo bd) 112, blk b3 (wq r m Aw q.length cw ci co cd bi bo bd) 82, sl Aw (q.length) cw 74 6 (V.flat encPkt q), blk b5 [(u6 0), (i6 0), (w6 0), (w6 0), (w6 0), (w6 0)] 74]) (fun _ => rfl) ?_)
                intro b5
                refine A.cons (A.store 4 (vs := (pk x4)) [ringI encPkt 118 74 rb1 rs1 r q, blk b2 (qq rb1 m u ci co cd bi bo bd) 112, blk b3 (wq r m Aw q.length cw ci co cd bi bo bd) 82, sl Aw (q.length) cw 74 6 (V.flat encPkt q), blk b5 (pk x4) 74] (by kernel_rfl) rfl rfl rfl rfl (by kernel_rfl) rfl rfl (by kernel_rfl) rfl ?_)
                refine A.done ?_
                refine A.norm [(7, (.pointer (some ⟨b2, 0, none⟩))), (8, (i6 0)), (9, (.pointer (some ⟨b3, 0, none⟩))), (53, (.slice A0 l.length c0)), (54, (i6 (l.length : Int))), (55, (i6 (k : Int))), (56, (.bool (decide ((k : Int) < (l.length : Int))))), (11, (.pointer (some ⟨b5, 0, none⟩)))] [ringI encPkt 118 74 rb1 rs1 r q, blk b2 (qq rb1 m u ci co cd bi bo bd) 112, blk b3 (wq r m Aw q.length cw ci co cd bi bo bd) 82, sl Aw (q.length) cw 74 6 (V.flat encPkt q), blk b5 (pk x4) 74] (by exact ⟨rfl, rfl, rfl, rfl, rfl, rfl, rfl, rfl, trivial⟩) rfl ?_
                refine A.tn ?_
                refine A.cutx (fun (x : (List Pkt) × (Option Addr) × Nat × Int × Int × Int × Int × Int × Int × Int) => match x with | (q2, Aw2, cw2, u2, ci2, co2, cd2, bi2, bo2, bd2) => [(7, (.pointer (some ⟨b2, 0, none⟩))), (8, (i6 0)), (9, (.pointer (some ⟨b3, 0, none⟩))), (53, (.slice A0 l.length c0)), (54, (i6 (l.length : Int))), (55, (i6 (k : Int)))]) (fun (x : (List Pkt) × (Option Addr) × Nat × Int × Int × Int × Int × Int × Int × Int) => match x with | (q2, Aw2, cw2, u2, ci2, co2, cd2, bi2, bo2, bd2) => [ringI encPkt 118 74 rb1 rs1 r q2, blk b2 (qq rb1 m u2 ci2 co2 cd2 bi2 bo2 bd2) 112, blk b3 (wq r m Aw2 q2.length cw2 ci2 co2 cd2 bi2 bo2 bd2) 82, sl Aw2 (q2.length) cw2 74 6 (V.flat encPkt q2)]) (fun (x : (List Pkt) × (Option Addr) × Nat × Int × Int × Int × Int × Int × Int × Int) => match x with | (q2, Aw2, cw2, u2, ci2, co2, cd2, bi2, bo2, bd2) => k ≤ l.length ∧ q2.length ≤ r ∧ u2 = lens q2 ∧ u2 ≤ m ∧ (∀ x ∈ q2, LenOk x) ∧ ci2 = co2 + q2.length ∧ 0 ≤ co2 ∧ ci2 ≤ (k : Int) + 1 ∧ bi2 = bo2 + u2 ∧ 0 ≤ bo2 ∧ bi2 ≤ 16384 * ((k : Int) + 1)) ?_ ?_
                · skip
                  refine A.seq ?_
                  refine A.region ?_
                  refine A.cons (A.q (some 59) (.pointer (some ⟨b5, 0, none⟩)) (by kernel_rfl) (qt_pure (by kernel_rfl) fun _ => by kernel_rfl) ?_)
                  refine A.cons (A.q (some 60) (u6 x4.id) (by kernel_rfl) (qt_load1 rfl rfl (by kernel_rfl) (reads_blk (i := 4) rfl rfl)) ?_)
                  refine A.cons (A.q (some 61) (.bool (x4.id != 0)) (by kernel_rfl) (qt_pure (by kernel_rfl) fun _ => by kernel_rfl) ?_)
                  refine A.done ?_
                  refine A.norm [(7, (.pointer (some ⟨b2, 0, none⟩))), (8, (i6 0)), (9, (.pointer (some ⟨b3, 0, none⟩))), (53, (.slice A0 l.length c0)), (54, (i6 (l.length : Int))), (55, (i6 (k : Int))), (56, (.bool (decide ((k : Int) < (l.length : Int))))), (11, (.pointer (some ⟨b5, 0, none⟩))), (61, (.bool (x4.id != 0)))] [ringI encPkt 118 74 rb1 rs1 r q, blk b2 (qq rb1 m u ci co cd bi bo bd) 112, blk b3 (wq r m Aw q.length cw ci co cd bi bo bd) 82, sl Aw (q.length) cw 74 6 (V.flat encPkt q), blk b5 (pk x4) 74] (by exact ⟨rfl, rfl, rfl, rfl, rfl, rfl, rfl, rfl, rfl, trivial⟩) rfl ?_
                  refine A.tn ?_
                  refine A.cond (E := x4.id != 0) rfl (fun e9 => ?_) (fun e9 => ?_)
                  · skip
                    have p9 := e9; try simp only [decide_eq_true_eq, decide_eq_false_iff_not, beq_iff_eq, beq_eq_false_iff_ne, bne_iff_ne, bne_eq_false_iff_eq, ne_eq, Bool.and_eq_true, Bool.or_eq_true, Bool.or_eq_false_iff, Bool.not_eq_true', Bool.not_eq_false', Int.not_lt, Int.not_le, gt_iff_lt, ge_iff_le, Classical.not_not] at p9
                    refine A.seq ?_
                    refine A.region ?_
                    refine A.cons (A.q (some 63) (.agg (wq r m Aw q.length cw ci co cd bi bo bd).toArray) (by kernel_rfl) (qt_loadN (vs := (wq r m Aw q.length cw ci co cd bi bo bd)) rfl rfl (by kernel_rfl) (reads_blk (i := 2) rfl rfl)) ?_)
                    refine A.cons (A.q (some 64) (pa x4) (by kernel_rfl) (qt_loadN (vs := (pk x4)) rfl rfl (by kernel_rfl) (reads_blk (i := 4) rfl rfl)) ?_)
                    refine A.cons (A.inl (some 65) [(.agg (wq r m Aw q.length cw ci co cd bi bo bd).toArray), (pa x4)] [(0, (.agg (wq r m Aw q.length cw ci co cd bi bo bd).toArray)), (1, (pa x4))] (by kernel_rfl) rfl (by kernel_rfl) rfl Try.func47 rfl rfl rfl ?_)
                    refine A.seq ?_
                    refine A.region ?_
                    refine A.cons (A.box 2 (wq r m Aw q.length cw ci co cd bi bo bd) (by kernel_rfl) rfl rfl rfl (fun b6 => [ringI encPkt 118 74 rb1 rs1 r q, blk b2 (qq rb1 m u ci co cd bi bo bd) 112, blk b3 (wq r m Aw q.length cw ci co cd bi bo bd) 82, sl Aw (q.length) cw 74 6 (V.flat encPkt q), blk b5 (pk x4) 74, blk b6 (wq r m Aw q.length cw ci co cd bi bo bd) 82]) (fun _ => rfl) ?_)
                    intro b6
                    refine A.cons (A.box 3 (pk x4) (by kernel_rfl) rfl rfl rfl (fun b7 => [ringI encPkt 118 74 rb1 rs1 r q, blk b2 (qq rb1 m u ci co cd bi bo bd) 112, blk b3 (wq r m Aw q.length cw ci co cd bi bo bd) 82, sl Aw (q.length) cw 74 6 (V.flat encPkt q), blk b5 (pk x4) 74, blk b6 (wq r m Aw q.length cw ci co cd bi bo bd) 82, blk b7 (pk x4) 74]) (fun _ => rfl) ?_)
                    intro b7
                    refine A.cons (A.alloc 4 [(i6 0), (i6 0), (.slice none 0 0), (u6 0), (u6 0), (u6 0), (u6 0), (u6 0), (u6 0)] (by kernel_rfl) rfl (by kernel_rfl) (fun b8 => [ringI encPkt 118 74 rb1 rs1 r q, blk b2 (qq rb1 m u ci co cd bi bo bd) 112, blk b3 (wq r m Aw q.length cw ci co cd bi bo bd) 82, sl Aw (q.length) cw 74 6 (V.flat encPkt q), blk b5 (pk x4) 74, blk b6 (wq r m Aw q.length cw ci co cd bi bo bd) 82, blk b7 (pk x4) 74, blk b8 [(i6 0), (i6 0), (.slice none 0 0), (u6 0), (u6 0), (u6 0), (u6 0), (u6 0), (u6 0)] 82]) (fun _ => rfl) ?_)
                    intro b8
                    refine A.cons (A.q (some 5) (i6 0) (by kernel_rfl) (qt_assign rfl rfl) ?_)
                    refine A.done ?_
                    refine A.norm [(0, (.agg (wq r m Aw q.length cw ci co cd bi bo bd).toArray)), (1, (pa x4)), (2, (.pointer (some ⟨b6, 0, none⟩))), (3, (.pointer (some ⟨b7, 0, none⟩))), (4, (.pointer (some ⟨b8, 0, none⟩))), (5, (i6 0))] [ringI encPkt 118 74 rb1 rs1 r q, blk b2 (qq rb1 m u ci co cd bi bo bd) 112, blk b3 (wq r m Aw q.length cw ci co cd bi bo bd) 82, sl Aw (q.length) cw 74 6 (V.flat encPkt q), blk b5 (pk x4) 74, blk b6 (wq r m Aw q.length cw ci co cd bi bo bd) 82, blk b7 (pk x4) 74, blk b8 [(i6 0), (i6 0), (.slice none 0 0), (u6 0), (u6 0), (u6 0), (u6 0), (u6 0), (u6 0)] 82] (by exact ⟨rfl, rfl, rfl, rfl, rfl, rfl, trivial⟩) rfl ?_
                    refine A.tn ?_
                    refine A.seq ?_
                    refine A.seq ?_
                    refine A.cutR (fun _ : Unit => [(0, (.agg (wq r m Aw q.length cw ci co cd bi bo bd).toArray)), (1, (pa x4)), (2, (.pointer (some ⟨b6, 0, none⟩))), (3, (.pointer (some ⟨b7, 0, none⟩))), (4, (.pointer (some ⟨b8, 0, none⟩))), (5, (i6 0)), (15, (.bool ((decide (x4.len < 1)) || (decide (x4.len > 16384)))))]) (fun _ => [ringI encPkt 118 74 rb1 rs1 r q, blk b2 (qq rb1 m u ci co cd bi bo bd) 112, blk b3 (wq r m Aw q.length cw ci co cd bi bo bd) 82, sl Aw (q.length) cw 74 6 (V.flat encPkt q), blk b5 (pk x4) 74, blk b6 (wq r m Aw q.length cw ci co cd bi bo bd) 82, blk b7 (pk x4) 74, blk b8 [(i6 0), (i6 0), (.slice none 0 0), (u6 0), (u6 0), (u6 0), (u6 0), (u6 0), (u6 0)] 82]) (fun _ => True) ?_ (fun _ _ => ?_)
                    · skip
                      refine A.region ?_
                      refine A.cons (A.q (some 8) (.pointer (some ⟨b7, 1, none⟩)) (by kernel_rfl) (qt_pure (by kernel_rfl) fun _ => by kernel_rfl) ?_)
                      refine A.cons (A.q (some 9) (i6 x4.len) (by kernel_rfl) (qt_load1 rfl rfl (by kernel_rfl) (reads_blk (i := 6) rfl rfl)) ?_)
                      refine A.cons (A.q (some 10) (.bool (decide (x4.len < 1))) (by kernel_rfl) (qt_pure (by kernel_rfl) fun _ => by kernel_rfl) ?_)
                      refine A.cons (A.q (some 11) (.bool (decide (x4.len < 1))) (by kernel_rfl) (qt_move rfl rfl) ?_)
                      refine A.bool (decide (x4.len < 1)) (fun e10 => ?_) (fun e10 => ?_)
                      · skip
                        refine A.sub [(0, (.agg (wq r m Aw q.length cw ci co cd bi bo bd).toArray)), (1, (pa x4)), (2, (.pointer (some ⟨b6, 0, none⟩))), (3, (.pointer (some ⟨b7, 0, none⟩))), (4, (.pointer (some ⟨b8, 0, none⟩))), (5, (i6 0)), (8, (.pointer (some ⟨b7, 1, none⟩))), (9, (i6 x4.len)), (10, (.bool true)), (11, (.bool true))] (by exact ⟨rfl, rfl, rfl, rfl, rfl, rfl, rfl, rfl, (congrArg (fun z => some (Value.bool z)) e10), (congrArg (fun z => some (Value.bool z)) e10), trivial⟩) ?_
                        refine A.cons (A.jump (some 12) rfl rfl (by intro x hx; cases hx; rfl) ?_)
                        refine A.cons (A.jump (some 13) rfl rfl (by intro x hx; cases hx; rfl) ?_)
                        refine A.cons (A.jump (some 14) rfl rfl (by intro x hx; cases hx; rfl) ?_)
                        refine A.cons (A.q (some 15) (.bool true) (by kernel_rfl) (qt_pure (by kernel_rfl) fun _ => by kernel_rfl) ?_)
                        refine A.done ?_
                        exact A.meet () trivial (A.here (by exact ⟨rfl, rfl, rfl, rfl, rfl, rfl, (by rw [e10]; rfl), trivial⟩) (List.Sublist.refl _))
                      · skip
                        refine A.sub [(0, (.agg (wq r m Aw q.length cw ci co cd bi bo bd).toArray)), (1, (pa x4)), (2, (.pointer (some ⟨b6, 0, none⟩))), (3, (.pointer (some ⟨b7, 0, none⟩))), (4, (.pointer (some ⟨b8, 0, none⟩))), (5, (i6 0)), (8, (.pointer (some ⟨b7, 1, none⟩))), (9, (i6 x4.len)), (10, (.bool false)), (11, (.bool false))] (by exact ⟨rfl, rfl, rfl, rfl, rfl, rfl, rfl, rfl, (congrArg (fun z => some (Value.bool z)) e10), (congrArg (fun z => some (Value.bool z)) e10), trivial⟩) ?_
                        refine A.cons (A.q (some 12) (.pointer (some ⟨b7, 1, none⟩)) (by kernel_rfl) (qt_pure (by kernel_rfl) fun _ => by kernel_rfl) ?_)
                        refine A.cons (A.q (some 13) (i6 x4.len) (by kernel_rfl) (qt_load1 rfl rfl (by kernel_rfl) (reads_blk (i := 6) rfl rfl)) ?_)
                        refine A.cons (A.q (some 14) (.bool (decide (x4.len > 16384))) (by kernel_rfl) (qt_pure (by kernel_rfl) fun _ => by kernel_rfl) ?_)
                        refine A.cons (A.q (some 15) (.bool (decide (x4.len > 16384))) (by kernel_rfl) (qt_pure (by kernel_rfl) fun _ => by kernel_rfl) ?_)
                        refine A.done ?_
                        exact A.meet () trivial (A.here (by exact ⟨rfl, rfl, rfl, rfl, rfl, rfl, (by rw [e10]; rfl), trivial⟩) (List.Sublist.refl _))
                    · skip
                      refine A.tn ?_
                      refine A.cond (E := (decide (x4.len < 1)) || (decide (x4.len > 16384))) rfl (fun e11 => ?_) (fun e11 => ?_)
                      · skip
                        have p11 := e11; try simp only [decide_eq_true_eq, decide_eq_false_iff_not, beq_iff_eq, beq_eq_false_iff_ne, bne_iff_ne, bne_eq_false_iff_eq, ne_eq, Bool.and_eq_true, Bool.or_eq_true, Bool.or_eq_false_iff, Bool.not_eq_true', Bool.not_eq_false', Int.not_lt, Int.not_le, gt_iff_lt, ge_iff_le, Classical.not_not] at p11
                        refine A.seq ?_
                        refine A.region ?_
                        refine A.cons (A.q (some 16) (.agg (wq r m Aw q.length cw ci co cd bi bo bd).toArray) (by kernel_rfl) (qt_loadN (vs := (wq r m Aw q.length cw ci co cd bi bo bd)) rfl rfl (by kernel_rfl) (reads_blk (i := 5) rfl rfl)) ?_)
                        refine A.cons (A.store 7 (vs := (wq r m Aw q.length cw ci co cd bi bo bd)) [ringI encPkt 118 74 rb1 rs1 r q, blk b2 (qq rb1 m u ci co cd bi bo bd) 112, blk b3 (wq r m Aw q.length cw ci co cd bi bo bd) 82, sl Aw (q.length) cw 74 6 (V.flat encPkt q), blk b5 (pk x4) 74, blk b6 (wq r m Aw q.length cw ci co cd bi bo bd) 82, blk b7 (pk x4) 74, blk b8 (wq r m Aw q.length cw ci co cd bi bo bd) 82] (by kernel_rfl) rfl rfl rfl rfl (by kernel_rfl) rfl rfl (by kernel_rfl) rfl ?_)
                        refine A.cons (A.q (some 5) (i6 26) (by kernel_rfl) (qt_assign rfl rfl) ?_)
                        refine A.done ?_
                        refine A.norm [(0, (.agg (wq r m Aw q.length cw ci co cd bi bo bd).toArray)), (1, (pa x4)), (2, (.pointer (some ⟨b6, 0, none⟩))), (3, (.pointer (some ⟨b7, 0, none⟩))), (4, (.pointer (some ⟨b8, 0, none⟩))), (5, (i6 26)), (15, (.bool ((decide (x4.len < 1)) || (decide (x4.len > 16384)))))] [ringI encPkt 118 74 rb1 rs1 r q, blk b2 (qq rb1 m u ci co cd bi bo bd) 112, blk b3 (wq r m Aw q.length cw ci co cd bi bo bd) 82, sl Aw (q.length) cw 74 6 (V.flat encPkt q), blk b5 (pk x4) 74, blk b6 (wq r m Aw q.length cw ci co cd bi bo bd) 82, blk b7 (pk x4) 74, blk b8 (wq r m Aw q.length cw ci co cd bi bo bd) 82] (by exact ⟨rfl, rfl, rfl, rfl, rfl, rfl, rfl, trivial⟩) rfl ?_
                        refine A.tn ?_
                        refine A.ret ?_
                        refine A.tr ?_
                        refine A.post [(.agg (wq r m Aw q.length cw ci co cd bi bo bd).toArray), (i6 26)] (fun a w rr s => ⟨rv_cellN (vs := (wq r m Aw q.length cw ci co cd bi bo bd)) rr s rfl (by kernel_rfl) (reads_blk (i := 7) (off := 0) rfl rfl), rv_tmp rr rfl, trivial⟩) (A.back (by kernel_rfl) ?_)
                        refine A.items [ringI encPkt 118 74 rb1 rs1 r q, blk b2 (qq rb1 m u ci co cd bi bo bd) 112, blk b3 (wq r m Aw q.length cw ci co cd bi bo bd) 82, sl Aw (q.length) cw 74 6 (V.flat encPkt q), blk b5 (pk x4) 74] (sk (sk (sk (sk (sk (sc (sc (sc (sn))))))))) ?_
                        refine A.cons (A.q (some 62) (.tuple #[(.agg (wq r m Aw q.length cw ci co cd bi bo bd).toArray), (i6 26)]) (by kernel_rfl) (qt_move rfl rfl) ?_)
                        refine A.cons (A.q (some 66) (.agg (wq r m Aw q.length cw ci co cd bi bo bd).toArray) (by kernel_rfl) (qt_pure (by kernel_rfl) fun _ => by kernel_rfl) ?_)
                        refine A.cons (A.q (some 67) (i6 26) (by kernel_rfl) (qt_pure (by kernel_rfl) fun _ => by kernel_rfl) ?_)
                        refine A.cons (A.alloc 12 [(i6 0), (i6 0), (.slice none 0 0), (u6 0), (u6 0), (u6 0), (u6 0), (u6 0), (u6 0)] (by kernel_rfl) rfl (by kernel_rfl) (fun b9 => [ringI encPkt 118 74 rb1 rs1 r q, blk b2 (qq rb1 m u ci co cd bi bo bd) 112, blk b3 (wq r m Aw q.length cw ci co cd bi bo bd) 82, sl Aw (q.length) cw 74 6 (V.flat encPkt q), blk b5 (pk x4) 74, blk b9 [(i6 0), (i6 0), (.slice none 0 0), (u6 0), (u6 0), (u6 0), (u6 0), (u6 0), (u6 0)] 82]) (fun _ => rfl) ?_)
                        intro b9
                        refine A.cons (A.store 5 (vs := (wq r m Aw q.length cw ci co cd bi bo bd)) [ringI encPkt 118 74 rb1 rs1 r q, blk b2 (qq rb1 m u ci co cd bi bo bd) 112, blk b3 (wq r m Aw q.length cw ci co cd bi bo bd) 82, sl Aw (q.length) cw 74 6 (V.flat encPkt q), blk b5 (pk x4) 74, blk b9 (wq r m Aw q.length cw ci co cd bi bo bd) 82] (by kernel_rfl) rfl rfl rfl rfl (by kernel_rfl) rfl rfl (by kernel_rfl) rfl ?_)
                        refine A.cons (A.q (some 13) (i6 26) (by kernel_rfl) (qt_assign rfl rfl) ?_)
                        refine A.done ?_
                        refine A.norm [(7, (.pointer (some ⟨b2, 0, none⟩))), (8, (i6 0)), (9, (.pointer (some ⟨b3, 0, none⟩))), (53, (.slice A0 l.length c0)), (54, (i6 (l.length : Int))), (55, (i6 (k : Int))), (56, (.bool (decide ((k : Int) < (l.length : Int))))), (11, (.pointer (some ⟨b5, 0, none⟩))), (61, (.bool (x4.id != 0))), (12, (.pointer (some ⟨b9, 0, none⟩))), (13, (i6 26))] [ringI encPkt 118 74 rb1 rs1 r q, blk b2 (qq rb1 m u ci co cd bi bo bd) 112, blk b3 (wq r m Aw q.length cw ci co cd bi bo bd) 82, sl Aw (q.length) cw 74 6 (V.flat encPkt q), blk b5 (pk x4) 74, blk b9 (wq r m Aw q.length cw ci co cd bi bo bd) 82] (by exact ⟨rfl, rfl, rfl, rfl, rfl, rfl, rfl, rfl, rfl, rfl, rfl, trivial⟩) rfl ?_
                        refine A.tn ?_
                        refine A.seq ?_
                        refine A.seq ?_
                        refine A.region ?_
                        refine A.cons (A.q (some 68) (.pointer (some ⟨b2, 0, none⟩)) (by kernel_rfl) (qt_move rfl rfl) ?_)
                        refine A.cons (A.q (some 69) (pa x4) (by kernel_rfl) (qt_loadN (vs := (pk x4)) rfl rfl (by kernel_rfl) (reads_blk (i := 4) rfl rfl)) ?_)
                        refine A.cons (A.inl (some 70) [(.pointer (some ⟨b2, 0, none⟩)), (pa x4)] [(0, (.pointer (some ⟨b2, 0, none⟩))), (1, (pa x4))] (by kernel_rfl) rfl (by kernel_rfl) rfl Try.func43 rfl rfl rfl ?_)
                        refine A.seq ?_
                        refine A.region ?_
                        refine A.cons (A.box 3 (pk x4) (by kernel_rfl) rfl rfl rfl (fun b10 => [ringI encPkt 118 74 rb1 rs1 r q, blk b2 (qq rb1 m u ci co cd bi bo bd) 112, blk b3 (wq r m Aw q.length cw ci co cd bi bo bd) 82, sl Aw (q.length) cw 74 6 (V.flat encPkt q), blk b5 (pk x4) 74, blk b9 (wq r m Aw q.length cw ci co cd bi bo bd) 82, blk b10 (pk x4) 74]) (fun _ => rfl) ?_)
                        intro b10
                        refine A.cons (A.q (some 4) (i6 0) (by kernel_rfl) (qt_assign rfl rfl) ?_)
                        refine A.done ?_
                        refine A.norm [(0, (.pointer (some ⟨b2, 0, none⟩))), (1, (pa x4)), (3, (.pointer (some ⟨b10, 0, none⟩))), (4, (i6 0))] [ringI encPkt 118 74 rb1 rs1 r q, blk b2 (qq rb1 m u ci co cd bi bo bd) 112, blk b3 (wq r m Aw q.length cw ci co cd bi bo bd) 82, sl Aw (q.length) cw 74 6 (V.flat encPkt q), blk b5 (pk x4) 74, blk b9 (wq r m Aw q.length cw ci co cd bi bo bd) 82, blk b10 (pk x4) 74] (by exact ⟨rfl, rfl, rfl, rfl, trivial⟩) rfl ?_
                        refine A.tn ?_
                        refine A.seq ?_
                        refine A.block ?_
                        refine A.seq ?_
                        refine A.region ?_
                        refine A.cons (A.q (some 6) (.pointer (some ⟨b2, 0, none⟩)) (by kernel_rfl) (qt_move rfl rfl) ?_)
                        refine A.cons (A.q (some 7) (.bool false) (by kernel_rfl) (qt_pure (by kernel_rfl) fun _ => by kernel_rfl) ?_)
                        refine A.cons (A.q (some 5) (.bool false) (by kernel_rfl) (qt_assign rfl rfl) ?_)
                        refine A.done ?_
                        refine A.norm [(0, (.pointer (some ⟨b2, 0, none⟩))), (1, (pa x4)), (3, (.pointer (some ⟨b10, 0, none⟩))), (4, (i6 0)), (5, (.bool false))] [ringI encPkt 118 74 rb1 rs1 r q, blk b2 (qq rb1 m u ci co cd bi bo bd) 112, blk b3 (wq r m Aw q.length cw ci co cd bi bo bd) 82, sl Aw (q.length) cw 74 6 (V.flat encPkt q), blk b5 (pk x4) 74, blk b9 (wq r m Aw q.length cw ci co cd bi bo bd) 82, blk b10 (pk x4) 74] (by exact ⟨rfl, rfl, rfl, rfl, rfl, trivial⟩) rfl ?_
                        refine A.tn ?_
                        refine A.cond_f rfl ?_
                        refine A.seq ?_
                        refine A.cutR (fun _ : Unit => [(0, (.pointer (some ⟨b2, 0, none⟩))), (1, (pa x4)), (3, (.pointer (some ⟨b10, 0, none⟩))), (4, (i6 0)), (5, (.bool false)), (8, (.bool ((decide (x4.len < 1)) || (decide (x4.len > 16384)))))]) (fun _ => [ringI encPkt 118 74 rb1 rs1 r q, blk b2 (qq rb1 m u ci co cd bi bo bd) 112, blk b3 (wq r m Aw q.length cw ci co cd bi bo bd) 82, sl Aw (q.length) cw 74 6 (V.flat encPkt q), blk b5 (pk x4) 74, blk b9 (wq r m Aw q.length cw ci co cd bi bo bd) 82, blk b10 (pk x4) 74]) (fun _ => True) ?_ (fun _ _ => ?_)
                        · skip
                          refine A.region ?_
                          refine A.cons (A.q (some 9) (.pointer (some ⟨b10, 1, none⟩)) (by kernel_rfl) (qt_pure (by kernel_rfl) fun _ => by kernel_rfl) ?_)
                          refine A.cons (A.q (some 10) (i6 x4.len) (by kernel_rfl) (qt_load1 rfl rfl (by kernel_rfl) (reads_blk (i := 6) rfl rfl)) ?_)
                          refine A.cons (A.q (some 11) (.bool (decide (x4.len < 1))) (by kernel_rfl) (qt_pure (by kernel_rfl) fun _ => by kernel_rfl) ?_)
                          refine A.cons (A.q (some 12) (.bool (decide (x4.len < 1))) (by kernel_rfl) (qt_move rfl rfl) ?_)
                          refine A.bool (decide (x4.len < 1)) (fun e12 => ?_) (fun e12 => ?_)
                          · skip
                            refine A.sub [(0, (.pointer (some ⟨b2, 0, none⟩))), (1, (pa x4)), (3, (.pointer (some ⟨b10, 0, none⟩))), (4, (i6 0)), (5, (.bool false)), (9, (.pointer (some ⟨b10, 1, none⟩))), (10, (i6 x4.len)), (11, (.bool true)), (12, (.bool true))] (by exact ⟨rfl, rfl, rfl, rfl, rfl, rfl, rfl, (congrArg (fun z => some (Value.bool z)) e12), (congrArg (fun z => some (Value.bool z)) e12), trivial⟩) ?_
                            refine A.cons (A.jump (some 13) rfl rfl (by intro x hx; cases hx; rfl) ?_)
                            refine A.cons (A.jump (some 14) rfl rfl (by intro x hx; cases hx; rfl) ?_)
                            refine A.cons (A.jump (some 15) rfl rfl (by intro x hx; cases hx; rfl) ?_)
                            refine A.cons (A.q (some 16) (.bool true) (by kernel_rfl) (qt_pure (by kernel_rfl) fun _ => by kernel_rfl) ?_)
                            refine A.cons (A.q (some 8) (.bool true) (by kernel_rfl) (qt_assign rfl rfl) ?_)
                            refine A.done ?_
                            exact A.meet () trivial (A.here (by exact ⟨rfl, rfl, rfl, rfl, rfl, (by rw [e12]; rfl), trivial⟩) (List.Sublist.refl _))
                          · skip
                            refine A.sub [(0, (.pointer (some ⟨b2, 0, none⟩))), (1, (pa x4)), (3, (.pointer (some ⟨b10, 0, none⟩))), (4, (i6 0)), (5, (.bool false)), (9, (.pointer (some ⟨b10, 1, none⟩))), (10, (i6 x4.len)), (11, (.bool false)), (12, (.bool false))] (by exact ⟨rfl, rfl, rfl, rfl, rfl, rfl, rfl, (congrArg (fun z => some (Value.bool z)) e12), (congrArg (fun z => some (Value.bool z)) e12), trivial⟩) ?_
                            refine A.cons (A.q (some 13) (.pointer (some ⟨b10, 1, none⟩)) (by kernel_rfl) (qt_pure (by kernel_rfl) fun _ => by kernel_rfl) ?_)
                            refine A.cons (A.q (some 14) (i6 x4.len) (by kernel_rfl) (qt_load1 rfl rfl (by kernel_rfl) (reads_blk (i := 6) rfl rfl)) ?_)
                            refine A.cons (A.q (some 15) (.bool (decide (x4.len > 16384))) (by kernel_rfl) (qt_pure (by kernel_rfl) fun _ => by kernel_rfl) ?_)
                            refine A.cons (A.q (some 16) (.bool (decide (x4.len > 16384))) (by kernel_rfl) (qt_pure (by kernel_rfl) fun _ => by kernel_rfl) ?_)
                            refine A.cons (A.q (some 8) (.bool (decide (x4.len > 16384))) (by kernel_rfl) (qt_assign rfl rfl) ?_)
                            refine A.done ?_
                            exact A.meet () trivial (A.here (by exact ⟨rfl, rfl, rfl, rfl, rfl, (by rw [e12]; rfl), trivial⟩) (List.Sublist.refl _))
                        · skip
                          refine A.tn ?_
                          refine A.cond (E := (decide (x4.len < 1)) || (decide (x4.len > 16384))) rfl (fun e13 => ?_) (fun e13 => ?_)
                          · skip
                            have p13 := e13; try simp only [decide_eq_true_eq, decide_eq_false_iff_not, beq_iff_eq, beq_eq_false_iff_ne, bne_iff_ne, bne_eq_false_iff_eq, ne_eq, Bool.and_eq_true, Bool.or_eq_true, Bool.or_eq_false_iff, Bool.not_eq_true', Bool.not_eq_false', Int.not_lt, Int.not_le, gt_iff_lt, ge_iff_le, Classical.not_not] at p13
                            refine A.seq ?_
                            refine A.region ?_
                            refine A.cons (A.q (some 4) (i6 26) (by kernel_rfl) (qt_assign rfl rfl) ?_)
                            refine A.done ?_
                            refine A.norm [(0, (.pointer (some ⟨b2, 0, none⟩))), (1, (pa x4)), (3, (.pointer (some ⟨b10, 0, none⟩))), (4, (i6 26)), (5, (.bool false)), (8, (.bool ((decide (x4.len < 1)) || (decide (x4.len > 16384)))))] [ringI encPkt 118 74 rb1 rs1 r q, blk b2 (qq rb1 m u ci co cd bi bo bd) 112, blk b3 (wq r m Aw q.length cw ci co cd bi bo bd) 82, sl Aw (q.length) cw 74 6 (V.flat encPkt q), blk b5 (pk x4) 74, blk b9 (wq r m Aw q.length cw ci co cd bi bo bd) 82, blk b10 (pk x4) 74] (by exact ⟨rfl, rfl, rfl, rfl, rfl, rfl, trivial⟩) rfl ?_
                            refine A.tn ?_
                            refine A.ret ?_
                            refine A.br ?_
                            refine A.tr ?_
                            refine A.post [(i6 26)] (fun a w rr s => ⟨rv_tmp rr rfl, trivial⟩) (A.back (by kernel_rfl) ?_)
                            refine A.items [ringI encPkt 118 74 rb1 rs1 r q, blk b2 (qq rb1 m u ci co cd bi bo bd) 112, blk b3 (wq r m Aw q.length cw ci co cd bi bo bd) 82, sl Aw (q.length) cw 74 6 (V.flat encPkt q), blk b5 (pk x4) 74, blk b9 (wq r m Aw q.length cw ci co cd bi bo bd) 82] (sk (sk (sk (sk (sk (sk (sc (sn)))))))) ?_
                            refine A.cons (A.q (some 71) (i6 26) (by kernel_rfl) (qt_move rfl rfl) ?_)
                            refine A.cons (A.q (some 72) (.bool false) (by kernel_rfl) (qt_pure (by kernel_rfl) fun _ => by kernel_rfl) ?_)
                            refine A.done ?_
                            refine A.norm [(7, (.pointer (some ⟨b2, 0, none⟩))), (8, (i6 0)), (9, (.pointer (some ⟨b3, 0, none⟩))), (53, (.slice A0 l.length c0)), (54, (i6 (l.length : Int))), (55, (i6 (k : Int))), (56, (.bool (decide ((k : Int) < (l.length : Int))))), (11, (.pointer (some ⟨b5, 0, none⟩))), (61, (.bool (x4.id != 0))), (12, (.pointer (some ⟨b9, 0, none⟩))), (13, (i6 26)), (72, (.bool false))] [ringI encPkt 118 74 rb1 rs1 r q, blk b2 (qq rb1 m u ci co cd bi bo bd) 112, blk b3 (wq r m Aw q.length cw ci co cd bi bo bd) 82, sl Aw (q.length) cw 74 6 (V.flat encPkt q), blk b5 (pk x4) 74, blk b9 (wq r m Aw q.length cw ci co cd bi bo bd) 82] (by exact ⟨rfl, rfl, rfl, rfl, rfl, rfl, rfl, rfl, rfl, rfl, rfl, rfl, trivial⟩) rfl ?_
                            refine A.tn ?_
                            refine A.cond_f rfl ?_
                            refine A.skip ?_
                            refine A.tn ?_
                            refine A.region ?_
                            refine A.cons (A.q (some 73) (.agg (wq r m Aw q.length cw ci co cd bi bo bd).toArray) (by kernel_rfl) (qt_loadN (vs := (wq r m Aw q.length cw ci co cd bi bo bd)) rfl rfl (by kernel_rfl) (reads_blk (i := 5) rfl rfl)) ?_)
                            refine A.cons (A.store 2 (vs := (wq r m Aw q.length cw ci co cd bi bo bd)) [ringI encPkt 118 74 rb1 rs1 r q, blk b2 (qq rb1 m u ci co cd bi bo bd) 112, blk b3 (wq r m Aw q.length cw ci co cd bi bo bd) 82, sl Aw (q.length) cw 74 6 (V.flat encPkt q), blk b5 (pk x4) 74, blk b9 (wq r m Aw q.length cw ci co cd bi bo bd) 82] (by kernel_rfl) rfl rfl rfl rfl (by kernel_rfl) rfl rfl (by kernel_rfl) rfl ?_)
                            refine A.done ?_
                            refine A.norm [(7, (.pointer (some ⟨b2, 0, none⟩))), (8, (i6 0)), (9, (.pointer (some ⟨b3, 0, none⟩))), (53, (.slice A0 l.length c0)), (54, (i6 (l.length : Int))), (55, (i6 (k : Int))), (56, (.bool (decide ((k : Int) < (l.length : Int))))), (11, (.pointer (some ⟨b5, 0, none⟩))), (61, (.bool (x4.id != 0))), (12, (.pointer (some ⟨b9, 0, none⟩))), (13, (i6 26)), (72, (.bool false))] [ringI encPkt 118 74 rb1 rs1 r q, blk b2 (qq rb1 m u ci co cd bi bo bd) 112, blk b3 (wq r m Aw q.length cw ci co cd bi bo bd) 82, sl Aw (q.length) cw 74 6 (V.flat encPkt q), blk b5 (pk x4) 74, blk b9 (wq r m Aw q.length cw ci co cd bi bo bd) 82] (by exact ⟨rfl, rfl, rfl, rfl, rfl, rfl, rfl, rfl, rfl, rfl, rfl, rfl, trivial⟩) rfl ?_
                            refine A.tn ?_
                            refine A.meet (q, Aw, cw, u, ci, co, cd, bi, bo, bd) (⟨hk, hq, hu, hm, hv, hc, hco, by omega, hbi, hbo, by omega⟩) ?_
                            exact A.here (by exact ⟨rfl, rfl, rfl, rfl, rfl, rfl, trivial⟩) (sk (sk (sk (sk (sc (sc (sn)))))))
                          · exact absurd e13 (by rw [e11]; decide)
                      · skip
                        have p11 := e11; try simp only [decide_eq_true_eq, decide_eq_false_iff_not, beq_iff_eq, beq_eq_false_iff_ne, bne_iff_ne, bne_eq_false_iff_eq, ne_eq, Bool.and_eq_true, Bool.or_eq_true, Bool.or_eq_false_iff, Bool.not_eq_true', Bool.not_eq_false', Int.not_lt, Int.not_le, gt_iff_lt, ge_iff_le, Classical.not_not] at p11
                        refine A.skip ?_
                        refine A.tn ?_
                        refine A.seq ?_
                        refine A.seq ?_
                        refine A.cutR (fun _ : Unit => [(0, (.agg (wq r m Aw q.length cw ci co cd bi bo bd).toArray)), (1, (pa x4)), (2, (.pointer (some ⟨b6, 0, none⟩))), (3, (.pointer (some ⟨b7, 0, none⟩))), (4, (.pointer (some ⟨b8, 0, none⟩))), (5, (i6 0)), (15, (.bool ((decide (x4.len < 1)) || (decide (x4.len > 16384))))), (32, (.bool (((q.length : Int) == (r : Int)) || (decide (((lens q) + x4.len) > m)))))]) (fun _ => [ringI encPkt 118 74 rb1 rs1 r q, blk b2 (qq rb1 m u ci co cd bi bo bd) 112, blk b3 (wq r m Aw q.length cw ci co cd bi bo bd) 82, sl Aw (q.length) cw 74 6 (V.flat encPkt q), blk b5 (pk x4) 74, blk b6 (wq r m Aw q.length cw ci co cd bi bo bd) 82, blk b7 (pk x4) 74, blk b8 [(i6 0), (i6 0), (.slice none 0 0), (u6 0), (u6 0), (u6 0), (u6 0), (u6 0), (u6 0)] 82]) (fun _ => True) ?_ (fun _ _ => ?_)
                        · skip
                          refine A.draw [blk b2 (qq rb1 m u ci co cd bi bo bd) 112, blk b3 (wq r m Aw q.length cw ci co cd bi bo bd) 82, sl Aw (q.length) cw 74 6 (V.flat encPkt q), blk b5 (pk x4) 74, blk b6 (wq r m Aw q.length cw ci co cd bi bo bd) 82, blk b7 (pk x4) 74, blk b8 [(i6 0), (i6 0), (.slice none 0 0), (u6 0), (u6 0), (u6 0), (u6 0), (u6 0), (u6 0)] 82] (by kernel_rfl) ?_
                          refine A.take 0 (some 17) (.pointer (some ⟨b6, 2, none⟩)) rfl (by kernel_rfl) (by kernel_rfl) (sc (sk (sk (sk (sk (sk (sk (sk (sn))))))))) (qt_pure (by kernel_rfl) fun _ => by kernel_rfl) ?_
                          refine A.take 1 (some 18) (.slice Aw q.length cw) rfl (by kernel_rfl) (by kernel_rfl) (sc (sk (sk (sk (sk (sk (sk (sk (sn))))))))) (qt_load1 rfl rfl (by kernel_rfl) (reads_blk (i := 4) rfl rfl)) ?_
                          refine A.take 2 (some 19) (i6 (q.length : Int)) rfl (by kernel_rfl) (by kernel_rfl) (sc (sk (sk (sk (sk (sk (sk (sk (sn))))))))) (qt_pure (by kernel_rfl) fun _ => by kernel_rfl) ?_
                          refine A.take 3 (some 20) (.pointer (some ⟨b6, 0, none⟩)) rfl (by kernel_rfl) (by kernel_rfl) (sc (sk (sk (sk (sk (sk (sk (sk (sn))))))))) (qt_pure (by kernel_rfl) fun _ => by kernel_rfl) ?_
                          refine A.take 4 (some 21) (i6 (r : Int)) rfl (by kernel_rfl) (by kernel_rfl) (sc (sk (sk (sk (sk (sk (sk (sk (sn))))))))) (qt_load1 rfl rfl (by kernel_rfl) (reads_blk (i := 4) rfl rfl)) ?_
                          refine A.take 5 (some 22) (.bool ((q.length : Int) == (r : Int))) rfl (by kernel_rfl) (by kernel_rfl) (sc (sk (sk (sk (sk (sk (sk (sk (sn))))))))) (qt_pure (by kernel_rfl) fun _ => by kernel_rfl) ?_
                          refine A.take 6 (some 23) (.bool ((q.length : Int) == (r : Int))) rfl (by kernel_rfl) (by kernel_rfl) (sc (sk (sk (sk (sk (sk (sk (sk (sn))))))))) (qt_move rfl rfl) ?_
                          refine A.bool ((q.length : Int) == (r : Int)) (fun e14 => ?_) (fun e14 => ?_)
                          · skip
                            refine A.sub [(0, (.agg (wq r m Aw q.length cw ci co cd bi bo bd).toArray)), (1, (pa x4)), (2, (.pointer (some ⟨b6, 0, none⟩))), (3, (.pointer (some ⟨b7, 0, none⟩))), (4, (.pointer (some ⟨b8, 0, none⟩))), (5, (i6 0)), (15, (.bool ((decide (x4.len < 1)) || (decide (x4.len > 16384))))), (17, (.pointer (some ⟨b6, 2, none⟩))), (18, (.slice Aw q.length cw)), (19, (i6 (q.length : Int))), (20, (.pointer (some ⟨b6, 0, none⟩))), (21, (i6 (r : Int))), (22, (.bool true)), (23, (.bool true))] (by exact ⟨rfl, rfl, rfl, rfl, rfl, rfl, rfl, rfl, rfl, rfl, rfl, rfl, (congrArg (fun z => some (Value.bool z)) e14), (congrArg (fun z => some (Value.bool z)) e14), trivial⟩) ?_
                            refine A.takeJ 7 (some 24) rfl (by kernel_rfl) rfl rfl (by intro x hx; cases hx; rfl) (sc (sk (sk (sk (sk (sk (sk (sk (sn))))))))) ?_
                            refine A.takeJ 8 (some 25) rfl (by kernel_rfl) rfl rfl (by intro x hx; cases hx; rfl) (sc (sk (sk (sk (sk (sk (sk (sk (sn))))))))) ?_
                            refine A.takeJ 9 (some 26) rfl (by kernel_rfl) rfl rfl (by intro x hx; cases hx; rfl) (sc (sk (sk (sk (sk (sk (sk (sk (sn))))))))) ?_
                            refine A.takeJ 10 (some 27) rfl (by kernel_rfl) rfl rfl (by intro x hx; cases hx; rfl) (sc (sk (sk (sk (sk (sk (sk (sk (sn))))))))) ?_
                            refine A.takeJ 11 (some 28) rfl (by kernel_rfl) rfl rfl (by intro x hx; cases hx; rfl) (sc (sk (sk (sk (sk (sk (sk (sk (sn))))))))) ?_
                            refine A.takeJ 12 (some 29) rfl (by kernel_rfl) rfl rfl (by intro x hx; cases hx; rfl) (sc (sk (sk (sk (sk (sk (sk (sk (sn))))))))) ?_
                            refine A.takeJ 13 (some 30) rfl (by kernel_rfl) rfl rfl (by intro x hx; cases hx; rfl) (sc (sk (sk (sk (sk (sk (sk (sk (sn))))))))) ?_
                            refine A.takeJ 14 (some 31) rfl (by kernel_rfl) rfl rfl (by intro x hx; cases hx; rfl) (sc (sk (sk (sk (sk (sk (sk (sk (sn))))))))) ?_
                            refine A.take 15 (some 32) (.bool true) rfl (by kernel_rfl) (by kernel_rfl) (sc (sk (sk (sk (sk (sk (sk (sk (sn))))))))) (qt_pure (by kernel_rfl) fun _ => by kernel_rfl) ?_
                            refine A.fin (by kernel_rfl) ?_
                            exact A.meet () trivial (A.here (by exact ⟨rfl, rfl, rfl, rfl, rfl, rfl, rfl, (by rw [e14]; rfl), trivial⟩) (List.Sublist.refl _))
                          · skip
                            refine A.sub [(0, (.agg (wq r m Aw q.length cw ci co cd bi bo bd).toArray)), (1, (pa x4)), (2, (.pointer (some ⟨b6, 0, none⟩))), (3, (.pointer (some ⟨b7, 0, none⟩))), (4, (.pointer (some ⟨b8, 0, none⟩))), (5, (i6 0)), (15, (.bool ((decide (x4.len < 1)) || (decide (x4.len > 16384))))), (17, (.pointer (some ⟨b6, 2, none⟩))), (18, (.slice Aw q.length cw)), (19, (i6 (q.length : Int))), (20, (.pointer (some ⟨b6, 0, none⟩))), (21, (i6 (r : Int))), (22, (.bool false)), (23, (.bool false))] (by exact ⟨rfl, rfl, rfl, rfl, rfl, rfl, rfl, rfl, rfl, rfl, rfl, rfl, (congrArg (fun z => some (Value.bool z)) e14), (congrArg (fun z => some (Value.bool z)) e14), trivial⟩) ?_
                            refine A.take 7 (some 24) (.agg (wq r m Aw q.length cw ci co cd bi bo bd).toArray) rfl (by kernel_rfl) (by kernel_rfl) (sc (sk (sk (sk (sk (sk (sk (sk (sn))))))))) (qt_loadN (vs := (wq r m Aw q.length cw ci co cd bi bo bd)) rfl rfl (by kernel_rfl) (reads_blk (i := 4) rfl rfl)) ?_
                            refine A.take 8 (some 25) (i6 (lens q)) rfl (by kernel_rfl) (by kernel_rfl) (sc (sk (sk (sk (sk (sk (sk (sk (sn))))))))) (qt_call [(.agg (wq r m Aw q.length cw ci co cd bi bo bd).toArray)] rfl (by kernel_rfl) rfl (fun w s => bytes_spec Aw cw q (r : Int) m ci co cd bi bo bd w (by omega) (hv) ((rd_sl (i := 2) rfl) w s))) ?_
                            refine A.take 9 (some 26) (.pointer (some ⟨b7, 1, none⟩)) rfl (by kernel_rfl) (by kernel_rfl) (sc (sk (sk (sk (sk (sk (sk (sk (sn))))))))) (qt_pure (by kernel_rfl) fun _ => by kernel_rfl) ?_
                            refine A.take 10 (some 27) (i6 x4.len) rfl (by kernel_rfl) (by kernel_rfl) (sc (sk (sk (sk (sk (sk (sk (sk (sn))))))))) (qt_load1 rfl rfl (by kernel_rfl) (reads_blk (i := 5) rfl rfl)) ?_
                            refine A.take 11 (some 28) (i6 ((lens q) + x4.len)) rfl (by kernel_rfl) (by kernel_rfl) (sc (sk (sk (sk (sk (sk (sk (sk (sn))))))))) (qt_as (congrArg (Value.int .i64) (wrap_i64 (e := (lens q) + x4.len) (by constructor <;> omega))) (qt_pure (v := i6 (IntKind.i64.wrap ((lens q) + x4.len))) (by kernel_rfl) fun _ => by kernel_rfl)) ?_
                            refine A.take 12 (some 29) (.pointer (some ⟨b6, 1, none⟩)) rfl (by kernel_rfl) (by kernel_rfl) (sc (sk (sk (sk (sk (sk (sk (sk (sn))))))))) (qt_pure (by kernel_rfl) fun _ => by kernel_rfl) ?_
                            refine A.take 13 (some 30) (i6 m) rfl (by kernel_rfl) (by kernel_rfl) (sc (sk (sk (sk (sk (sk (sk (sk (sn))))))))) (qt_load1 rfl rfl (by kernel_rfl) (reads_blk (i := 4) rfl rfl)) ?_
                            refine A.take 14 (some 31) (.bool (decide (((lens q) + x4.len) > m))) rfl (by kernel_rfl) (by kernel_rfl) (sc (sk (sk (sk (sk (sk (sk (sk (sn))))))))) (qt_pure (by kernel_rfl) fun _ => by kernel_rfl) ?_
                            refine A.take 15 (some 32) (.bool (decide (((lens q) + x4.len) > m))) rfl (by kernel_rfl) (by kernel_rfl) (sc (sk (sk (sk (sk (sk (sk (sk (sn))))))))) (qt_pure (by kernel_rfl) fun _ => by kernel_rfl) ?_
                            refine A.fin (by kernel_rfl) ?_
                            exact A.meet () trivial (A.here (by exact ⟨rfl, rfl, rfl, rfl, rfl, rfl, rfl, (by rw [e14]; rfl), trivial⟩) (List.Sublist.refl _))
                        · skip
                          refine A.tn ?_
                          refine A.cond (E := ((q.length : Int) == (r : Int)) || (decide (((lens q) + x4.len) > m))) rfl (fun e15 => ?_) (fun e15 => ?_)
                          · skip
                            have p15 := e15; try simp only [decide_eq_true_eq, decide_eq_false_iff_not, beq_iff_eq, beq_eq_false_iff_ne, bne_iff_ne, bne_eq_false_iff_eq, ne_eq, Bool.and_eq_true, Bool.or_eq_true, Bool.or_eq_false_iff, Bool.not_eq_true', Bool.not_eq_false', Int.not_lt, Int.not_le, gt_iff_lt, ge_iff_le, Classical.not_not] at p15
                            refine A.seq ?_
                            refine A.region ?_
                            refine A.cons (A.q (some 33) (.agg (wq r m Aw q.length cw ci co cd bi bo bd).toArray) (by kernel_rfl) (qt_loadN (vs := (wq r m Aw q.length cw ci co cd bi bo bd)) rfl rfl (by kernel_rfl) (reads_blk (i := 5) rfl rfl)) ?_)
                            refine A.cons (A.q (some 34) (.pointer (some ⟨b7, 1, none⟩)) (by kernel_rfl) (qt_pure (by kernel_rfl) fun _ => by kernel_rfl) ?_)
                            refine A.cons (A.q (some 35) (i6 x4.len) (by kernel_rfl) (qt_load1 rfl rfl (by kernel_rfl) (reads_blk (i := 6) rfl rfl)) ?_)
                            refine A.cons (A.q (some 36) (.agg (wq r m Aw q.length cw ci co (IntKind.u64.wrap (cd + 1)) bi bo (IntKind.u64.wrap (bd + x4.len))).toArray) (by kernel_rfl) (qt_call [(.agg (wq r m Aw q.length cw ci co cd bi bo bd).toArray), (i6 2), (i6 x4.len)] rfl (by kernel_rfl) rfl (fun w s => count2_spec Aw cw q (r : Int) m ci co cd bi bo bd x4.len (IntKind.u64.wrap (cd + 1)) (IntKind.u64.wrap (bd + x4.len))  w rfl (congrArg (fun z => IntKind.u64.wrap (bd + z)) (wrap_u64 (by constructor <;> omega))))) ?_)
                            refine A.cons (A.store 7 (vs := (wq r m Aw q.length cw ci co (IntKind.u64.wrap (cd + 1)) bi bo (IntKind.u64.wrap (bd + x4.len)))) [ringI encPkt 118 74 rb1 rs1 r q, blk b2 (qq rb1 m u ci co cd bi bo bd) 112, blk b3 (wq r m Aw q.length cw ci co cd bi bo bd) 82, sl Aw (q.length) cw 74 6 (V.flat encPkt q), blk b5 (pk x4) 74, blk b6 (wq r m Aw q.length cw ci co cd bi bo bd) 82, blk b7 (pk x4) 74, blk b8 (wq r m Aw q.length cw ci co (IntKind.u64.wrap (cd + 1)) bi bo (IntKind.u64.wrap (bd + x4.len))) 82] (by kernel_rfl) rfl rfl rfl rfl (by kernel_rfl) rfl rfl (by kernel_rfl) rfl ?_)
                            refine A.cons (A.q (some 5) (i6 30) (by kernel_rfl) (qt_assign rfl rfl) ?_)
                            refine A.done ?_
                            refine A.norm [(0, (.agg (wq r m Aw q.length cw ci co cd bi bo bd).toArray)), (1, (pa x4)), (2, (.pointer (some ⟨b6, 0, none⟩))), (3, (.pointer (some ⟨b7, 0, none⟩))), (4, (.pointer (some ⟨b8, 0, none⟩))), (5, (i6 30)), (15, (.bool ((decide (x4.len < 1)) || (decide (x4.len > 16384))))), (32, (.bool (((q.length : Int) == (r : Int)) || (decide (((lens q) + x4.len) > m)))))] [ringI encPkt 118 74 rb1 rs1 r q, blk b2 (qq rb1 m u ci co cd bi bo bd) 112, blk b3 (wq r m Aw q.length cw ci co cd bi bo bd) 82, sl Aw (q.length) cw 74 6 (V.flat encPkt q), blk b5 (pk x4) 74, blk b6 (wq r m Aw q.length cw ci co cd bi bo bd) 82, blk b7 (pk x4) 74, blk b8 (wq r m Aw q.length cw ci co (IntKind.u64.wrap (cd + 1)) bi bo (IntKind.u64.wrap (bd + x4.len))) 82] (by exact ⟨rfl, rfl, rfl, rfl, rfl, rfl, rfl, rfl, trivial⟩) rfl ?_
                            refine A.tn ?_
                            refine A.ret ?_
                            refine A.tr ?_
                            refine A.post [(.agg (wq r m Aw q.length cw ci co (IntKind.u64.wrap (cd + 1)) bi bo (IntKind.u64.wrap (bd + x4.len))).toArray), (i6 30)] (fun a w rr s => ⟨rv_cellN (vs := (wq r m Aw q.length cw ci co (IntKind.u64.wrap (cd + 1)) bi bo (IntKind.u64.wrap (bd + x4.len)))) rr s rfl (by kernel_rfl) (reads_blk (i := 7) (off := 0) rfl rfl), rv_tmp rr rfl, trivial⟩) (A.back (by kernel_rfl) ?_)
                            refine A.items [ringI encPkt 118 74 rb1 rs1 r q, blk b2 (qq rb1 m u ci co cd bi bo bd) 112, blk b3 (wq r m Aw q.length cw ci co cd bi bo bd) 82, sl Aw (q.length) cw 74 6 (V.flat encPkt q), blk b5 (pk x4) 74] (sk (sk (sk (sk (sk (sc (sc (sc (sn))))))))) ?_
                            refine A.cons (A.q (some 62) (.tuple #[(.agg (wq r m Aw q.length cw ci co (IntKind.u64.wrap (cd + 1)) bi bo (IntKind.u64.wrap (bd + x4.len))).toArray), (i6 30)]) (by kernel_rfl) (qt_move rfl rfl) ?_)
                            refine A.cons (A.q (some 66) (.agg (wq r m Aw q.length cw ci co (IntKind.u64.wrap (cd + 1)) bi bo (IntKind.u64.wrap (bd + x4.len))).toArray) (by kernel_rfl) (qt_pure (by kernel_rfl) fun _ => by kernel_rfl) ?_)
                            refine A.cons (A.q (some 67) (i6 30) (by kernel_rfl) (qt_pure (by kernel_rfl) fun _ => by kernel_rfl) ?_)
                            refine A.cons (A.alloc 12 [(i6 0), (i6 0), (.slice none 0 0), (u6 0), (u6 0), (u6 0), (u6 0), (u6 0), (u6 0)] (by kernel_rfl) rfl (by kernel_rfl) (fun b11 => [ringI encPkt 118 74 rb1 rs1 r q, blk b2 (qq rb1 m u ci co cd bi bo bd) 112, blk b3 (wq r m Aw q.length cw ci co cd bi bo bd) 82, sl Aw (q.length) cw 74 6 (V.flat encPkt q), blk b5 (pk x4) 74, blk b11 [(i6 0), (i6 0), (.slice none 0 0), (u6 0), (u6 0), (u6 0), (u6 0), (u6 0), (u6 0)] 82]) (fun _ => rfl) ?_)
                            intro b11
                            refine A.cons (A.store 5 (vs := (wq r m Aw q.length cw ci co (IntKind.u64.wrap (cd + 1)) bi bo (IntKind.u64.wrap (bd + x4.len)))) [ringI encPkt 118 74 rb1 rs1 r q, blk b2 (qq rb1 m u ci co cd bi bo bd) 112, blk b3 (wq r m Aw q.length cw ci co cd bi bo bd) 82, sl Aw (q.length) cw 74 6 (V.flat encPkt q), blk b5 (pk x4) 74, blk b11 (wq r m Aw q.length cw ci co (IntKind.u64.wrap (cd + 1)) bi bo (IntKind.u64.wrap (bd + x4.len))) 82] (by kernel_rfl) rfl rfl rfl rfl (by kernel_rfl) rfl rfl (by kernel_rfl) rfl ?_)
                            refine A.cons (A.q (some 13) (i6 30) (by kernel_rfl) (qt_assign rfl rfl) ?_)
                            refine A.done ?_
                            refine A.norm [(7, (.pointer (some ⟨b2, 0, none⟩))), (8, (i6 0)), (9, (.pointer (some ⟨b3, 0, none⟩))), (53, (.slice A0 l.length c0)), (54, (i6 (l.length : Int))), (55, (i6 (k : Int))), (56, (.bool (decide ((k : Int) < (l.length : Int))))), (11, (.pointer (some ⟨b5, 0, none⟩))), (61, (.bool (x4.id != 0))), (12, (.pointer (some ⟨b11, 0, none⟩))), (13, (i6 30))] [ringI encPkt 118 74 rb1 rs1 r q, blk b2 (qq rb1 m u ci co cd bi bo bd) 112, blk b3 (wq r m Aw q.length cw ci co cd bi bo bd) 82, sl Aw (q.length) cw 74 6 (V.flat encPkt q), blk b5 (pk x4) 74, blk b11 (wq r m Aw q.length cw ci co (IntKind.u64.wrap (cd + 1)) bi bo (IntKind.u64.wrap (bd + x4.len))) 82] (by exact ⟨rfl, rfl, rfl, rfl, rfl, rfl, rfl, rfl, rfl, rfl, rfl, trivial⟩) rfl ?_
                            refine A.tn ?_
                            refine A.seq ?_
                            refine A.seq ?_
                            refine A.region ?_
                            refine A.cons (A.q (some 68) (.pointer (some ⟨b2, 0, none⟩)) (by kernel_rfl) (qt_move rfl rfl) ?_)
                            refine A.cons (A.q (some 69) (pa x4) (by kernel_rfl) (qt_loadN (vs := (pk x4)) rfl rfl (by kernel_rfl) (reads_blk (i := 4) rfl rfl)) ?_)
                            refine A.cons (A.inl (some 70) [(.pointer (some ⟨b2, 0, none⟩)), (pa x4)] [(0, (.pointer (some ⟨b2, 0, none⟩))), (1, (pa x4))] (by kernel_rfl) rfl (by kernel_rfl) rfl Try.func43 rfl rfl rfl ?_)
                            refine A.seq ?_
                            refine A.region ?_
                            refine A.cons (A.box 3 (pk x4) (by kernel_rfl) rfl rfl rfl (fun b12 => [ringI encPkt 118 74 rb1 rs1 r q, blk b2 (qq rb1 m u ci co cd bi bo bd) 112, blk b3 (wq r m Aw q.length cw ci co cd bi bo bd) 82, sl Aw (q.length) cw 74 6 (V.flat encPkt q), blk b5 (pk x4) 74, blk b11 (wq r m Aw q.length cw ci co (IntKind.u64.wrap (cd + 1)) bi bo (IntKind.u64.wrap (bd + x4.len))) 82, blk b12 (pk x4) 74]) (fun _ => rfl) ?_)
                            intro b12
                            refine A.cons (A.q (some 4) (i6 0) (by kernel_rfl) (qt_assign rfl rfl) ?_)
                            refine A.done ?_
                            refine A.norm [(0, (.pointer (some ⟨b2, 0, none⟩))), (1, (pa x4)), (3, (.pointer (some ⟨b12, 0, none⟩))), (4, (i6 0))] [ringI encPkt 118 74 rb1 rs1 r q, blk b2 (qq rb1 m u ci co cd bi bo bd) 112, blk b3 (wq r m Aw q.length cw ci co cd bi bo bd) 82, sl Aw (q.length) cw 74 6 (V.flat encPkt q), blk b5 (pk x4) 74, blk b11 (wq r m Aw q.length cw ci co (IntKind.u64.wrap (cd + 1)) bi bo (IntKind.u64.wrap (bd + x4.len))) 82, blk b12 (pk x4) 74] (by exact ⟨rfl, rfl, rfl, rfl, trivial⟩) rfl ?_
                            refine A.tn ?_
                            refine A.seq ?_
                            refine A.block ?_
                            refine A.seq ?_
                            refine A.region ?_
                            refine A.cons (A.q (some 6) (.pointer (some ⟨b2, 0, none⟩)) (by kernel_rfl) (qt_move rfl rfl) ?_)
                            refine A.cons (A.q (some 7) (.bool false) (by kernel_rfl) (qt_pure (by kernel_rfl) fun _ => by kernel_rfl) ?_)
                            refine A.cons (A.q (some 5) (.bool false) (by kernel_rfl) (qt_assign rfl rfl) ?_)
                            refine A.done ?_
                            refine A.norm [(0, (.pointer (some ⟨b2, 0, none⟩))), (1, (pa x4)), (3, (.pointer (some ⟨b12, 0, none⟩))), (4, (i6 0)), (5, (.bool false))] [ringI encPkt 118 74 rb1 rs1 r q, blk b2 (qq rb1 m u ci co cd bi bo bd) 112, blk b3 (wq r m Aw q.length cw ci co cd bi bo bd) 82, sl Aw (q.length) cw 74 6 (V.flat encPkt q), blk b5 (pk x4) 74, blk b11 (wq r m Aw q.length cw ci co (IntKind.u64.wrap (cd + 1)) bi bo (IntKind.u64.wrap (bd + x4.len))) 82, blk b12 (pk x4) 74] (by exact ⟨rfl, rfl, rfl, rfl, rfl, trivial⟩) rfl ?_
                            refine A.tn ?_
                            refine A.cond_f rfl ?_
                            refine A.seq ?_
                            refine A.cutR (fun _ : Unit => [(0, (.pointer (some ⟨b2, 0, none⟩))), (1, (pa x4)), (3, (.pointer (some ⟨b12, 0, none⟩))), (4, (i6 0)), (5, (.bool false)), (8, (.bool ((decide (x4.len < 1)) || (decide (x4.len > 16384)))))]) (fun _ => [ringI encPkt 118 74 rb1 rs1 r q, blk b2 (qq rb1 m u ci co cd bi bo bd) 112, blk b3 (wq r m Aw q.length cw ci co cd bi bo bd) 82, sl Aw (q.length) cw 74 6 (V.flat encPkt q), blk b5 (pk x4) 74, blk b11 (wq r m Aw q.length cw ci co (IntKind.u64.wrap (cd + 1)) bi bo (IntKind.u64.wrap (bd + x4.len))) 82, blk b12 (pk x4) 74]) (fun _ => True) ?_ (fun _ _ => ?_)
                            · skip
                              refine A.region ?_
                              refine A.cons (A.q (some 9) (.pointer (some ⟨b12, 1, none⟩)) (by kernel_rfl) (qt_pure (by kernel_rfl) fun _ => by kernel_rfl) ?_)
                              refine A.cons (A.q (some 10) (i6 x4.len) (by kernel_rfl) (qt_load1 rfl rfl (by kernel_rfl) (reads_blk (i := 6) rfl rfl)) ?_)
                              refine A.cons (A.q (some 11) (.bool (decide (x4.len < 1))) (by kernel_rfl) (qt_pure (by kernel_rfl) fun _ => by kernel_rfl) ?_)
                              refine A.cons (A.q (some 12) (.bool (decide (x4.len < 1))) (by kernel_rfl) (qt_move rfl rfl) ?_)
                              refine A.bool (decide (x4.len < 1)) (fun e16 => ?_) (fun e16 => ?_)
                              · skip
                                refine A.sub [(0, (.pointer (some ⟨b2, 0, none⟩))), (1, (pa x4)), (3, (.pointer (some ⟨b12, 0, none⟩))), (4, (i6 0)), (5, (.bool false)), (9, (.pointer (some ⟨b12, 1, none⟩))), (10, (i6 x4.len)), (11, (.bool true)), (12, (.bool true))] (by exact ⟨rfl, rfl, rfl, rfl, rfl, rfl, rfl, (congrArg (fun z => some (Value.bool z)) e16), (congrArg (fun z => some (Value.bool z)) e16), trivial⟩) ?_
                                refine A.cons (A.jump (some 13) rfl rfl (by intro x hx; cases hx; rfl) ?_)
                                refine A.cons (A.jump (some 14) rfl rfl (by intro x hx; cases hx; rfl) ?_)
                                refine A.cons (A.jump (some 15) rfl rfl (by intro x hx; cases hx; rfl) ?_)
                                refine A.cons (A.q (some 16) (.bool true) (by kernel_rfl) (qt_pure (by kernel_rfl) fun _ => by kernel_rfl) ?_)
                                refine A.cons (A.q (some 8) (.bool true) (by kernel_rfl) (qt_assign rfl rfl) ?_)
                                refine A.done ?_
                                exact A.meet () trivial (A.here (by exact ⟨rfl, rfl, rfl, rfl, rfl, (by rw [e16]; rfl), trivial⟩) (List.Sublist.refl _))
                              · skip
                                refine A.sub [(0, (.pointer (some ⟨b2, 0, none⟩))), (1, (pa x4)), (3, (.pointer (some ⟨b12, 0, none⟩))), (4, (i6 0)), (5, (.bool false)), (9, (.pointer (some ⟨b12, 1, none⟩))), (10, (i6 x4.len)), (11, (.bool false)), (12, (.bool false))] (by exact ⟨rfl, rfl, rfl, rfl, rfl, rfl, rfl, (congrArg (fun z => some (Value.bool z)) e16), (congrArg (fun z => some (Value.bool z)) e16), trivial⟩) ?_
                                refine A.cons (A.q (some 13) (.pointer (some ⟨b12, 1, none⟩)) (by kernel_rfl) (qt_pure (by kernel_rfl) fun _ => by kernel_rfl) ?_)
                                refine A.cons (A.q (some 14) (i6 x4.len) (by kernel_rfl) (qt_load1 rfl rfl (by kernel_rfl) (reads_blk (i := 6) rfl rfl)) ?_)
                                refine A.cons (A.q (some 15) (.bool (decide (x4.len > 16384))) (by kernel_rfl) (qt_pure (by kernel_rfl) fun _ => by kernel_rfl) ?_)
                                refine A.cons (A.q (some 16) (.bool (decide (x4.len > 16384))) (by kernel_rfl) (qt_pure (by kernel_rfl) fun _ => by kernel_rfl) ?_)
                                refine A.cons (A.q (some 8) (.bool (decide (x4.len > 16384))) (by kernel_rfl) (qt_assign rfl rfl) ?_)
                                refine A.done ?_
                                exact A.meet () trivial (A.here (by exact ⟨rfl, rfl, rfl, rfl, rfl, (by rw [e16]; rfl), trivial⟩) (List.Sublist.refl _))
                            · skip
                              refine A.tn ?_
                              refine A.cond (E := (decide (x4.len < 1)) || (decide (x4.len > 16384))) rfl (fun e17 => ?_) (fun e17 => ?_)
                              · exact absurd e17 (by rw [e11]; decide)
                              · skip
                                have p17 := e17; try simp only [decide_eq_true_eq, decide_eq_false_iff_not, beq_iff_eq, beq_eq_false_iff_ne, bne_iff_ne, bne_eq_false_iff_eq, ne_eq, Bool.and_eq_true, Bool.or_eq_true, Bool.or_eq_false_iff, Bool.not_eq_true', Bool.not_eq_false', Int.not_lt, Int.not_le, gt_iff_lt, ge_iff_le, Classical.not_not] at p17
                                refine A.seq ?_
                                refine A.cutR (fun _ : Unit => [(0, (.pointer (some ⟨b2, 0, none⟩))), (1, (pa x4)), (3, (.pointer (some ⟨b12, 0, none⟩))), (4, (i6 0)), (5, (.bool false)), (8, (.bool ((decide (x4.len < 1)) || (decide (x4.len > 16384))))), (17, (.bool true))]) (fun _ => [ringI encPkt 118 74 rb1 rs1 r q, blk b2 (qq rb1 m u ci co cd bi bo bd) 112, blk b3 (wq r m Aw q.length cw ci co cd bi bo bd) 82, sl Aw (q.length) cw 74 6 (V.flat encPkt q), blk b5 (pk x4) 74, blk b11 (wq r m Aw q.length cw ci co (IntKind.u64.wrap (cd + 1)) bi bo (IntKind.u64.wrap (bd + x4.len))) 82, blk b12 (pk x4) 74]) (fun _ => True) ?_ (fun _ _ => ?_)
                                · skip
                                  refine A.draw [blk b2 (qq rb1 m u ci co cd bi bo bd) 112, blk b3 (wq r m Aw q.length cw ci co cd bi bo bd) 82, sl Aw (q.length) cw 74 6 (V.flat encPkt q), blk b5 (pk x4) 74, blk b11 (wq r m Aw q.length cw ci co (IntKind.u64.wrap (cd + 1)) bi bo (IntKind.u64.wrap (bd + x4.len))) 82, blk b12 (pk x4) 74] (by kernel_rfl) ?_
                                  refine A.take 0 (some 18) (.pointer (some ⟨b12, 1, none⟩)) rfl (by kernel_rfl) (by kernel_rfl) (sc (sk (sk (sk (sk (sk (sk (sn)))))))) (qt_pure (by kernel_rfl) fun _ => by kernel_rfl) ?_
                                  refine A.take 1 (some 19) (i6 x4.len) rfl (by kernel_rfl) (by kernel_rfl) (sc (sk (sk (sk (sk (sk (sk (sn)))))))) (qt_load1 rfl rfl (by kernel_rfl) (reads_blk (i := 5) rfl rfl)) ?_
                                  refine A.take 2 (some 20) (.pointer (some ⟨b2, 0, none⟩)) rfl (by kernel_rfl) (by kernel_rfl) (sc (sk (sk (sk (sk (sk (sk (sn)))))))) (qt_move rfl rfl) ?_
                                  refine A.take 3 (some 21) (.pointer (some ⟨b2, 0, none⟩)) rfl (by kernel_rfl) (by kernel_rfl) (sc (sk (sk (sk (sk (sk (sk (sn)))))))) (qt_pure (by kernel_rfl) fun _ => by kernel_rfl) ?_
                                  refine A.take 4 (some 22) (.pointer (some ⟨b2, 1, none⟩)) rfl (by kernel_rfl) (by kernel_rfl) (sc (sk (sk (sk (sk (sk (sk (sn)))))))) (qt_pure (by kernel_rfl) fun _ => by kernel_rfl) ?_
                                  refine A.take 5 (some 23) (i6 m) rfl (by kernel_rfl) (by kernel_rfl) (sc (sk (sk (sk (sk (sk (sk (sn)))))))) (qt_load1 rfl rfl (by kernel_rfl) (reads_blk (i := 0) rfl rfl)) ?_
                                  refine A.take 6 (some 24) (.pointer (some ⟨b2, 0, none⟩)) rfl (by kernel_rfl) (by kernel_rfl) (sc (sk (sk (sk (sk (sk (sk (sn)))))))) (qt_move rfl rfl) ?_
                                  refine A.take 7 (some 25) (.pointer (some ⟨b2, 0, none⟩)) rfl (by kernel_rfl) (by kernel_rfl) (sc (sk (sk (sk (sk (sk (sk (sn)))))))) (qt_pure (by kernel_rfl) fun _ => by kernel_rfl) ?_
                                  refine A.take 8 (some 26) (.pointer (some ⟨b2, 2, none⟩)) rfl (by kernel_rfl) (by kernel_rfl) (sc (sk (sk (sk (sk (sk (sk (sn)))))))) (qt_pure (by kernel_rfl) fun _ => by kernel_rfl) ?_
                                  refine A.take 9 (some 27) (i6 u) rfl (by kernel_rfl) (by kernel_rfl) (sc (sk (sk (sk (sk (sk (sk (sn)))))))) (qt_load1 rfl rfl (by kernel_rfl) (reads_blk (i := 0) rfl rfl)) ?_
                                  refine A.take 10 (some 28) (i6 (m - u)) rfl (by kernel_rfl) (by kernel_rfl) (sc (sk (sk (sk (sk (sk (sk (sn)))))))) (qt_as (congrArg (Value.int .i64) (wrap_i64 (e := m - u) (by constructor <;> omega))) (qt_pure (v := i6 (IntKind.i64.wrap (m - u))) (by kernel_rfl) fun _ => by kernel_rfl)) ?_
                                  refine A.take 11 (some 29) (.bool (decide (x4.len > (m - u)))) rfl (by kernel_rfl) (by kernel_rfl) (sc (sk (sk (sk (sk (sk (sk (sn)))))))) (qt_pure (by kernel_rfl) fun _ => by kernel_rfl) ?_
                                  refine A.take 12 (some 30) (.bool (decide (x4.len > (m - u)))) rfl (by kernel_rfl) (by kernel_rfl) (sc (sk (sk (sk (sk (sk (sk (sn)))))))) (qt_move rfl rfl) ?_
                                  refine A.bool (decide (x4.len > (m - u))) (fun e18 => ?_) (fun e18 => ?_)
                                  · skip
                                    refine A.sub [(0, (.pointer (some ⟨b2, 0, none⟩))), (1, (pa x4)), (3, (.pointer (some ⟨b12, 0, none⟩))), (4, (i6 0)), (5, (.bool false)), (8, (.bool ((decide (x4.len < 1)) || (decide (x4.len > 16384))))), (18, (.pointer (some ⟨b12, 1, none⟩))), (19, (i6 x4.len)), (20, (.pointer (some ⟨b2, 0, none⟩))), (21, (.pointer (some ⟨b2, 0, none⟩))), (22, (.pointer (some ⟨b2, 1, none⟩))), (23, (i6 m)), (24, (.pointer (some ⟨b2, 0, none⟩))), (25, (.pointer (some ⟨b2, 0, none⟩))), (26, (.pointer (some ⟨b2, 2, none⟩))), (27, (i6 u)), (28, (i6 (m - u))), (29, (.bool true)), (30, (.bool true))] (by exact ⟨rfl, rfl, rfl, rfl, rfl, rfl, rfl, rfl, rfl, rfl, rfl, rfl, rfl, rfl, rfl, rfl, rfl, (congrArg (fun z => some (Value.bool z)) e18), (congrArg (fun z => some (Value.bool z)) e18), trivial⟩) ?_
                                    refine A.takeJ 13 (some 31) rfl (by kernel_rfl) rfl rfl (by intro x hx; cases hx; rfl) (sc (sk (sk (sk (sk (sk (sk (sn)))))))) ?_
                                    refine A.takeJ 14 (some 32) rfl (by kernel_rfl) rfl rfl (by intro x hx; cases hx; rfl) (sc (sk (sk (sk (sk (sk (sk (sn)))))))) ?_
                                    refine A.takeJ 15 (some 33) rfl (by kernel_rfl) rfl rfl (by intro x hx; cases hx; rfl) (sc (sk (sk (sk (sk (sk (sk (sn)))))))) ?_
                                    refine A.takeJ 16 (some 34) rfl (by kernel_rfl) rfl rfl (by intro x hx; cases hx; rfl) (sc (sk (sk (sk (sk (sk (sk (sn)))))))) ?_
                                    refine A.takeJ 17 (some 35) rfl (by kernel_rfl) rfl rfl (by intro x hx; cases hx; rfl) (sc (sk (sk (sk (sk (sk (sk (sn)))))))) ?_
                                    refine A.takeJ 18 (some 36) rfl (by kernel_rfl) rfl rfl (by intro x hx; cases hx; rfl) (sc (sk (sk (sk (sk (sk (sk (sn)))))))) ?_
                                    refine A.takeJ 19 (some 37) rfl (by kernel_rfl) rfl rfl (by intro x hx; cases hx; rfl) (sc (sk (sk (sk (sk (sk (sk (sn)))))))) ?_
                                    refine A.take 20 (some 38) (.bool true) rfl (by kernel_rfl) (by kernel_rfl) (sc (sk (sk (sk (sk (sk (sk (sn)))))))) (qt_pure (by kernel_rfl) fun _ => by kernel_rfl) ?_
                                    refine A.take 21 (some 17) (.bool true) rfl (by kernel_rfl) (by kernel_rfl) (sc (sk (sk (sk (sk (sk (sk (sn)))))))) (qt_assign rfl rfl) ?_
                                    refine A.fin (by kernel_rfl) ?_
                                    exact A.meet () trivial (A.here (by exact ⟨rfl, rfl, rfl, rfl, rfl, rfl, rfl, trivial⟩) (List.Sublist.refl _))
                                  · skip
                                    refine A.sub [(0, (.pointer (some ⟨b2, 0, none⟩))), (1, (pa x4)), (3, (.pointer (some ⟨b12, 0, none⟩))), (4, (i6 0)), (5, (.bool false)), (8, (.bool ((decide (x4.len < 1)) || (decide (x4.len > 16384))))), (18, (.pointer (some ⟨b12, 1, none⟩))), (19, (i6 x4.len)), (20, (.pointer (some ⟨b2, 0, none⟩))), (21, (.pointer (some ⟨b2, 0, none⟩))), (22, (.pointer (some ⟨b2, 1, none⟩))), (23, (i6 m)), (24, (.pointer (some ⟨b2, 0, none⟩))), (25, (.pointer (some ⟨b2, 0, none⟩))), (26, (.pointer (some ⟨b2, 2, none⟩))), (27, (i6 u)), (28, (i6 (m - u))), (29, (.bool false)), (30, (.bool false))] (by exact ⟨rfl, rfl, rfl, rfl, rfl, rfl, rfl, rfl, rfl, rfl, rfl, rfl, rfl, rfl, rfl, rfl, rfl, (congrArg (fun z => some (Value.bool z)) e18), (congrArg (fun z => some (Value.bool z)) e18), trivial⟩) ?_
                                    refine A.take 13 (some 31) (.pointer (some ⟨b2, 0, none⟩)) rfl (by kernel_rfl) (by kernel_rfl) (sc (sk (sk (sk (sk (sk (sk (sn)))))))) (qt_move rfl rfl) ?_
                                    refine A.take 14 (some 32) (.pointer (some ⟨b2, 0, none⟩)) rfl (by kernel_rfl) (by kernel_rfl) (sc (sk (sk (sk (sk (sk (sk (sn)))))))) (qt_pure (by kernel_rfl) fun _ => by kernel_rfl) ?_
                                    refine A.take 15 (some 33) (.pointer (some ⟨b2, 0, none⟩)) rfl (by kernel_rfl) (by kernel_rfl) (sc (sk (sk (sk (sk (sk (sk (sn)))))))) (qt_pure (by kernel_rfl) fun _ => by kernel_rfl) ?_
                                    refine A.take 16 (some 34) (.pointer (some ⟨rb1, 0, none⟩)) rfl (by kernel_rfl) (by kernel_rfl) (sc (sk (sk (sk (sk (sk (sk (sn)))))))) (qt_load1 rfl rfl (by kernel_rfl) (reads_blk (i := 0) rfl rfl)) ?_
                                    refine A.take 17 (some 35) (pa x4) rfl (by kernel_rfl) (by kernel_rfl) (sc (sk (sk (sk (sk (sk (sk (sn)))))))) (qt_loadN (vs := (pk x4)) rfl rfl (by kernel_rfl) (reads_blk (i := 5) rfl rfl)) ?_
                                    refine A.only 18 rfl (by kernel_rfl) (A.q (some 36) (i6 5) (by kernel_rfl) (qt_call [(.pointer (some ⟨rb1, 0, none⟩)), (pa x4)] rfl (by kernel_rfl) rfl (fun w s => ringP_pushFull rb1 rs1 r q x4 w (s.mem (i := 0) rfl) (by simp at *; omega))) ?_)
                                    refine A.and (sc (sk (sk (sk (sk (sk (sk (sn)))))))) ?_
                                    refine A.take 19 (some 37) (.bool true) rfl (by kernel_rfl) (by kernel_rfl) (sc (sk (sk (sk (sk (sk (sk (sn)))))))) (qt_pure (by kernel_rfl) fun _ => by kernel_rfl) ?_
                                    refine A.take 20 (some 38) (.bool true) rfl (by kernel_rfl) (by kernel_rfl) (sc (sk (sk (sk (sk (sk (sk (sn)))))))) (qt_pure (by kernel_rfl) fun _ => by kernel_rfl) ?_
                                    refine A.take 21 (some 17) (.bool true) rfl (by kernel_rfl) (by kernel_rfl) (sc (sk (sk (sk (sk (sk (sk (sn)))))))) (qt_assign rfl rfl) ?_
                                    refine A.fin (by kernel_rfl) ?_
                                    exact A.meet () trivial (A.here (by exact ⟨rfl, rfl, rfl, rfl, rfl, rfl, rfl, trivial⟩) (List.Sublist.refl _))
                                · skip
                                  refine A.tn ?_
                                  refine A.cond_t rfl ?_
                                  refine A.seq ?_
                                  refine A.region ?_
                                  refine A.cons (A.q (some 39) (.pointer (some ⟨b2, 0, none⟩)) (by kernel_rfl) (qt_move rfl rfl) ?_)
                                  refine A.cons (A.q (some 40) (.pointer (some ⟨b2, 0, none⟩)) (by kernel_rfl) (qt_pure (by kernel_rfl) fun _ => by kernel_rfl) ?_)
                                  refine A.cons (A.q (some 41) (.pointer (some ⟨b2, 3, none⟩)) (by kernel_rfl) (qt_pure (by kernel_rfl) fun _ => by kernel_rfl) ?_)
                                  refine A.cons (A.q (some 42) (.pointer (some ⟨b2, 5, none⟩)) (by kernel_rfl) (qt_pure (by kernel_rfl) fun _ => by kernel_rfl) ?_)
                                  refine A.cons (A.q (some 43) (u6 cd) (by kernel_rfl) (qt_load1 rfl rfl (by kernel_rfl) (reads_blk (i := 1) rfl rfl)) ?_)
                                  refine A.cons (A.q (some 44) (u6 (IntKind.u64.wrap (cd + 1))) (by kernel_rfl) (qt_pure (by kernel_rfl) fun _ => by kernel_rfl) ?_)
                                  refine A.cons (A.q (some 45) (.pointer (some ⟨b2, 0, none⟩)) (by kernel_rfl) (qt_pure (by kernel_rfl) fun _ => by kernel_rfl) ?_)
                                  refine A.cons (A.q (some 46) (.pointer (some ⟨b2, 3, none⟩)) (by kernel_rfl) (qt_pure (by kernel_rfl) fun _ => by kernel_rfl) ?_)
                                  refine A.cons (A.q (some 47) (.pointer (some ⟨b2, 5, none⟩)) (by kernel_rfl) (qt_pure (by kernel_rfl) fun _ => by kernel_rfl) ?_)
                                  refine A.cons (A.store 1 (vs := [(u6 (IntKind.u64.wrap (cd + 1)))]) [ringI encPkt 118 74 rb1 rs1 r q, blk b2 (qq rb1 m u ci co (IntKind.u64.wrap (cd + 1)) bi bo bd) 112, blk b3 (wq r m Aw q.length cw ci co cd bi bo bd) 82, sl Aw (q.length) cw 74 6 (V.flat encPkt q), blk b5 (pk x4) 74, blk b11 (wq r m Aw q.length cw ci co (IntKind.u64.wrap (cd + 1)) bi bo (IntKind.u64.wrap (bd + x4.len))) 82, blk b12 (pk x4) 74] (by kernel_rfl) rfl rfl rfl rfl (by kernel_rfl) rfl rfl (by kernel_rfl) rfl ?_)
                                  refine A.done ?_
                                  refine A.norm [(0, (.pointer (some ⟨b2, 0, none⟩))), (1, (pa x4)), (3, (.pointer (some ⟨b12, 0, none⟩))), (4, (i6 0)), (5, (.bool false)), (8, (.bool ((decide (x4.len < 1)) || (decide (x4.len > 16384))))), (17, (.bool true))] [ringI encPkt 118 74 rb1 rs1 r q, blk b2 (qq rb1 m u ci co (IntKind.u64.wrap (cd + 1)) bi bo bd) 112, blk b3 (wq r m Aw q.length cw ci co cd bi bo bd) 82, sl Aw (q.length) cw 74 6 (V.flat encPkt q), blk b5 (pk x4) 74, blk b11 (wq r m Aw q.length cw ci co (IntKind.u64.wrap (cd + 1)) bi bo (IntKind.u64.wrap (bd + x4.len))) 82, blk b12 (pk x4) 74] (by exact ⟨rfl, rfl, rfl, rfl, rfl, rfl, rfl, trivial⟩) rfl ?_
                                  refine A.tn ?_
                                  refine A.seq ?_
                                  refine A.draw [ringI encPkt 118 74 rb1 rs1 r q, blk b3 (wq r m Aw q.length cw ci co cd bi bo bd) 82, sl Aw (q.length) cw 74 6 (V.flat encPkt q), blk b5 (pk x4) 74, blk b11 (wq r m Aw q.length cw ci co (IntKind.u64.wrap (cd + 1)) bi bo (IntKind.u64.wrap (bd + x4.len))) 82, blk b12 (pk x4) 74] (by kernel_rfl) ?_
                                  refine A.take 0 (some 48) (.pointer (some ⟨b2, 0, none⟩)) rfl (by kernel_rfl) (by kernel_rfl) (sk (sc (sk (sk (sk (sk (sk (sn)))))))) (qt_move rfl rfl) ?_
                                  refine A.take 1 (some 49) (.pointer (some ⟨b2, 0, none⟩)) rfl (by kernel_rfl) (by kernel_rfl) (sk (sc (sk (sk (sk (sk (sk (sn)))))))) (qt_pure (by kernel_rfl) fun _ => by kernel_rfl) ?_
                                  refine A.take 2 (some 50) (.pointer (some ⟨b2, 3, none⟩)) rfl (by kernel_rfl) (by kernel_rfl) (sk (sc (sk (sk (sk (sk (sk (sn)))))))) (qt_pure (by kernel_rfl) fun _ => by kernel_rfl) ?_
                                  refine A.take 3 (some 51) (.pointer (some ⟨b2, 8, none⟩)) rfl (by kernel_rfl) (by kernel_rfl) (sk (sc (sk (sk (sk (sk (sk (sn)))))))) (qt_pure (by kernel_rfl) fun _ => by kernel_rfl) ?_
                                  refine A.take 5 (some 53) (.pointer (some ⟨b12, 1, none⟩)) rfl (by kernel_rfl) (by kernel_rfl) (sk (sc (sk (sk (sk (sk (sk (sn)))))))) (qt_pure (by kernel_rfl) fun _ => by kernel_rfl) ?_
                                  refine A.take 6 (some 54) (i6 x4.len) rfl (by kernel_rfl) (by kernel_rfl) (sk (sc (sk (sk (sk (sk (sk (sn)))))))) (qt_load1 rfl rfl (by kernel_rfl) (reads_blk (i := 5) rfl rfl)) ?_
                                  refine A.take 7 (some 55) (u6 x4.len) rfl (by kernel_rfl) (by kernel_rfl) (sk (sc (sk (sk (sk (sk (sk (sn)))))))) (qt_as (congrArg (Value.int .u64) ((wrap_u64 (e := x4.len) (by constructor <;> omega)).trans (by first | rfl | omega : (x4.len : Int) = x4.len))) (qt_pure (v := u6 (IntKind.u64.wrap (x4.len))) (by kernel_rfl) fun _ => by kernel_rfl)) ?_
                                  refine A.only 4 rfl (by kernel_rfl) (A.q (some 52) (u6 bd) (by kernel_rfl) (qt_load1 rfl rfl (by kernel_rfl) (reads_blk (i := 1) rfl rfl)) ?_)
                                  refine A.and (sk (sc (sk (sk (sk (sk (sk (sn)))))))) ?_
                                  refine A.take 8 (some 56) (u6 (IntKind.u64.wrap (bd + x4.len))) rfl (by kernel_rfl) (by kernel_rfl) (sk (sc (sk (sk (sk (sk (sk (sn)))))))) (qt_pure (by kernel_rfl) fun _ => by kernel_rfl) ?_
                                  refine A.take 9 (some 57) (.pointer (some ⟨b2, 0, none⟩)) rfl (by kernel_rfl) (by kernel_rfl) (sk (sc (sk (sk (sk (sk (sk (sn)))))))) (qt_pure (by kernel_rfl) fun _ => by kernel_rfl) ?_
                                  refine A.take 10 (some 58) (.pointer (some ⟨b2, 3, none⟩)) rfl (by kernel_rfl) (by kernel_rfl) (sk (sc (sk (sk (sk (sk (sk (sn)))))))) (qt_pure (by kernel_rfl) fun _ => by kernel_rfl) ?_
                                  refine A.take 11 (some 59) (.pointer (some ⟨b2, 8, none⟩)) rfl (by kernel_rfl) (by kernel_rfl) (sk (sc (sk (sk (sk (sk (sk (sn)))))))) (qt_pure (by kernel_rfl) fun _ => by kernel_rfl) ?_
                                  refine A.only 12 rfl (by kernel_rfl) (A.store 1 (vs := [(u6 (IntKind.u64.wrap (bd + x4.len)))]) [ringI encPkt 118 74 rb1 rs1 r q, blk b2 (qq rb1 m u ci co (IntKind.u64.wrap (cd + 1)) bi bo (IntKind.u64.wrap (bd + x4.len))) 112, blk b3 (wq r m Aw q.length cw ci co cd bi bo bd) 82, sl Aw (q.length) cw 74 6 (V.flat encPkt q), blk b5 (pk x4) 74, blk b11 (wq r m Aw q.length cw ci co (IntKind.u64.wrap (cd + 1)) bi bo (IntKind.u64.wrap (bd + x4.len))) 82, blk b12 (pk x4) 74] (by kernel_rfl) rfl rfl rfl rfl (by kernel_rfl) rfl rfl (by kernel_rfl) rfl ?_)
                                  refine A.and (sk (sc (sk (sk (sk (sk (sk (sn)))))))) ?_
                                  refine A.fin (by kernel_rfl) ?_
                                  refine A.norm [(0, (.pointer (some ⟨b2, 0, none⟩))), (1, (pa x4)), (3, (.pointer (some ⟨b12, 0, none⟩))), (4, (i6 0)), (5, (.bool false)), (8, (.bool ((decide (x4.len < 1)) || (decide (x4.len > 16384))))), (17, (.bool true))] [ringI encPkt 118 74 rb1 rs1 r q, blk b2 (qq rb1 m u ci co (IntKind.u64.wrap (cd + 1)) bi bo (IntKind.u64.wrap (bd + x4.len))) 112, blk b3 (wq r m Aw q.length cw ci co cd bi bo bd) 82, sl Aw (q.length) cw 74 6 (V.flat encPkt q), blk b5 (pk x4) 74, blk b11 (wq r m Aw q.length cw ci co (IntKind.u64.wrap (cd + 1)) bi bo (IntKind.u64.wrap (bd + x4.len))) 82, blk b12 (pk x4) 74] (by exact ⟨rfl, rfl, rfl, rfl, rfl, rfl, rfl, trivial⟩) rfl ?_
                                  refine A.tn ?_
                                  refine A.seq ?_
                                  refine A.region ?_
                                  refine A.cons (A.q (some 4) (i6 30) (by kernel_rfl) (qt_assign rfl rfl) ?_)
                                  refine A.done ?_
                                  refine A.norm [(0, (.pointer (some ⟨b2, 0, none⟩))), (1, (pa x4)), (3, (.pointer (some ⟨b12, 0, none⟩))), (4, (i6 30)), (5, (.bool false)), (8, (.bool ((decide (x4.len < 1)) || (decide (x4.len > 16384))))), (17, (.bool true))] [ringI encPkt 118 74 rb1 rs1 r q, blk b2 (qq rb1 m u ci co (IntKind.u64.wrap (cd + 1)) bi bo (IntKind.u64.wrap (bd + x4.len))) 112, blk b3 (wq r m Aw q.length cw ci co cd bi bo bd) 82, sl Aw (q.length) cw 74 6 (V.flat encPkt q), blk b5 (pk x4) 74, blk b11 (wq r m Aw q.length cw ci co (IntKind.u64.wrap (cd + 1)) bi bo (IntKind.u64.wrap (bd + x4.len))) 82, blk b12 (pk x4) 74] (by exact ⟨rfl, rfl, rfl, rfl, rfl, rfl, rfl, trivial⟩) rfl ?_
                                  refine A.tn ?_
                                  refine A.ret ?_
                                  refine A.br ?_
                                  refine A.tr ?_
                                  refine A.post [(i6 30)] (fun a w rr s => ⟨rv_tmp rr rfl, trivial⟩) (A.back (by kernel_rfl) ?_)
                                  refine A.items [ringI encPkt 118 74 rb1 rs1 r q, blk b2 (qq rb1 m u ci co (IntKind.u64.wrap (cd + 1)) bi bo (IntKind.u64.wrap (bd + x4.len))) 112, blk b3 (wq r m Aw q.length cw ci co cd bi bo bd) 82, sl Aw (q.length) cw 74 6 (V.flat encPkt q), blk b5 (pk x4) 74, blk b11 (wq r m Aw q.length cw ci co (IntKind.u64.wrap (cd + 1)) bi bo (IntKind.u64.wrap (bd + x4.len))) 82] (sk (sk (sk (sk (sk (sk (sc (sn)))))))) ?_
                                  refine A.cons (A.q (some 71) (i6 30) (by kernel_rfl) (qt_move rfl rfl) ?_)
                                  refine A.cons (A.q (some 72) (.bool false) (by kernel_rfl) (qt_pure (by kernel_rfl) fun _ => by kernel_rfl) ?_)
                                  refine A.done ?_
                                  refine A.norm [(7, (.pointer (some ⟨b2, 0, none⟩))), (8, (i6 0)), (9, (.pointer (some ⟨b3, 0, none⟩))), (53, (.slice A0 l.length c0)), (54, (i6 (l.length : Int))), (55, (i6 (k : Int))), (56, (.bool (decide ((k : Int) < (l.length : Int))))), (11, (.pointer (some ⟨b5, 0, none⟩))), (61, (.bool (x4.id != 0))), (12, (.pointer (some ⟨b11, 0, none⟩))), (13, (i6 30)), (72, (.bool false))] [ringI encPkt 118 74 rb1 rs1 r q, blk b2 (qq rb1 m u ci co (IntKind.u64.wrap (cd + 1)) bi bo (IntKind.u64.wrap (bd + x4.len))) 112, blk b3 (wq r m Aw q.length cw ci co cd bi bo bd) 82, sl Aw (q.length) cw 74 6 (V.flat encPkt q), blk b5 (pk x4) 74, blk b11 (wq r m Aw q.length cw ci co (IntKind.u64.wrap (cd + 1)) bi bo (IntKind.u64.wrap (bd + x4.len))) 82] (by exact ⟨rfl, rfl, rfl, rfl, rfl, rfl, rfl, rfl, rfl, rfl, rfl, rfl, trivial⟩) rfl ?_
                                  refine A.tn ?_
                                  refine A.cond_f rfl ?_
                                  refine A.skip ?_
                                  refine A.tn ?_
                                  refine A.region ?_
                                  refine A.cons (A.q (some 73) (.agg (wq r m Aw q.length cw ci co (IntKind.u64.wrap (cd + 1)) bi bo (IntKind.u64.wrap (bd + x4.len))).toArray) (by kernel_rfl) (qt_loadN (vs := (wq r m Aw q.length cw ci co (IntKind.u64.wrap (cd + 1)) bi bo (IntKind.u64.wrap (bd + x4.len)))) rfl rfl (by kernel_rfl) (reads_blk (i := 5) rfl rfl)) ?_)
                                  refine A.cons (A.store 2 (vs := (wq r m Aw q.length cw ci co (IntKind.u64.wrap (cd + 1)) bi bo (IntKind.u64.wrap (bd + x4.len)))) [ringI encPkt 118 74 rb1 rs1 r q, blk b2 (qq rb1 m u ci co (IntKind.u64.wrap (cd + 1)) bi bo (IntKind.u64.wrap (bd + x4.len))) 112, blk b3 (wq r m Aw q.length cw ci co (IntKind.u64.wrap (cd + 1)) bi bo (IntKind.u64.wrap (bd + x4.len))) 82, sl Aw (q.length) cw 74 6 (V.flat encPkt q), blk b5 (pk x4) 74, blk b11 (wq r m Aw q.length cw ci co (IntKind.u64.wrap (cd + 1)) bi bo (IntKind.u64.wrap (bd + x4.len))) 82] (by kernel_rfl) rfl rfl rfl rfl (by kernel_rfl) rfl rfl (by kernel_rfl) rfl ?_)
                                  refine A.done ?_
                                  refine A.norm [(7, (.pointer (some ⟨b2, 0, none⟩))), (8, (i6 0)), (9, (.pointer (some ⟨b3, 0, none⟩))), (53, (.slice A0 l.length c0)), (54, (i6 (l.length : Int))), (55, (i6 (k : Int))), (56, (.bool (decide ((k : Int) < (l.length : Int))))), (11, (.pointer (some ⟨b5, 0, none⟩))), (61, (.bool (x4.id != 0))), (12, (.pointer (some ⟨b11, 0, none⟩))), (13, (i6 30)), (72, (.bool false))] [ringI encPkt 118 74 rb1 rs1 r q, blk b2 (qq rb1 m u ci co (IntKind.u64.wrap (cd + 1)) bi bo (IntKind.u64.wrap (bd + x4.len))) 112, blk b3 (wq r m Aw q.length cw ci co (IntKind.u64.wrap (cd + 1)) bi bo (IntKind.u64.wrap (bd + x4.len))) 82, sl Aw (q.length) cw 74 6 (V.flat encPkt q), blk b5 (pk x4) 74, blk b11 (wq r m Aw q.length cw ci co (IntKind.u64.wrap (cd + 1)) bi bo (IntKind.u64.wrap (bd + x4.len))) 82] (by exact ⟨rfl, rfl, rfl, rfl, rfl, rfl, rfl, rfl, rfl, rfl, rfl, rfl, trivial⟩) rfl ?_
                                  refine A.tn ?_
                                  refine A.meet (q, Aw, cw, u, ci, co, IntKind.u64.wrap (cd + 1), bi, bo, IntKind.u64.wrap (bd + x4.len)) (⟨hk, hq, hu, hm, hv, hc, hco, by omega, hbi, hbo, by omega⟩) ?_
                                  exact A.here (by exact ⟨rfl, rfl, rfl, rfl, rfl, rfl, trivial⟩) (sk (sk (sk (sk (sc (sc (sn)))))))
                          · skip
                            have p15 := e15; try simp only [decide_eq_true_eq, decide_eq_false_iff_not, beq_iff_eq, beq_eq_false_iff_ne, bne_iff_ne, bne_eq_false_iff_eq, ne_eq, Bool.and_eq_true, Bool.or_eq_true, Bool.or_eq_false_iff, Bool.not_eq_true', Bool.not_eq_false', Int.not_lt, Int.not_le, gt_iff_lt, ge_iff_le, Classical.not_not] at p15
                            refine A.skip ?_
                            refine A.tn ?_
                            refine A.seq ?_
                            refine A.region ?_
                            refine A.cons (A.q (some 6) (.slice none 0 0) (by kernel_rfl) (qt_assign rfl rfl) ?_)
                            refine A.done ?_
                            refine A.norm [(0, (.agg (wq r m Aw q.length cw ci co cd bi bo bd).toArray)), (1, (pa x4)), (2, (.pointer (some ⟨b6, 0, none⟩))), (3, (.pointer (some ⟨b7, 0, none⟩))), (4, (.pointer (some ⟨b8, 0, none⟩))), (5, (i6 0)), (15, (.bool ((decide (x4.len < 1)) || (decide (x4.len > 16384))))), (32, (.bool (((q.length : Int) == (r : Int)) || (decide (((lens q) + x4.len) > m))))), (6, (.slice none 0 0))] [ringI encPkt 118 74 rb1 rs1 r q, blk b2 (qq rb1 m u ci co cd bi bo bd) 112, blk b3 (wq r m Aw q.length cw ci co cd bi bo bd) 82, sl Aw (q.length) cw 74 6 (V.flat encPkt q), blk b5 (pk x4) 74, blk b6 (wq r m Aw q.length cw ci co cd bi bo bd) 82, blk b7 (pk x4) 74, blk b8 [(i6 0), (i6 0), (.slice none 0 0), (u6 0), (u6 0), (u6 0), (u6 0), (u6 0), (u6 0)] 82] (by exact ⟨rfl, rfl, rfl, rfl, rfl, rfl, rfl, rfl, rfl, trivial⟩) rfl ?_
                            refine A.tn ?_
                            refine A.seq ?_
                            refine A.region ?_
                            refine A.cons (A.q (some 37) (.slice none 0 0) (by kernel_rfl) (qt_move rfl rfl) ?_)
                            refine A.cons (A.q (some 38) (.pointer (some ⟨b6, 2, none⟩)) (by kernel_rfl) (qt_pure (by kernel_rfl) fun _ => by kernel_rfl) ?_)
                            refine A.cons (A.q (some 39) (.slice Aw q.length cw) (by kernel_rfl) (qt_load1 rfl rfl (by kernel_rfl) (reads_blk (i := 5) rfl rfl)) ?_)
                            refine A.cons (A.ownNil 74 6 [ringI encPkt 118 74 rb1 rs1 r q, blk b2 (qq rb1 m u ci co cd bi bo bd) 112, blk b3 (wq r m Aw q.length cw ci co cd bi bo bd) 82, sl Aw (q.length) cw 74 6 (V.flat encPkt q), blk b5 (pk x4) 74, blk b6 (wq r m Aw q.length cw ci co cd bi bo bd) 82, blk b7 (pk x4) 74, blk b8 [(i6 0), (i6 0), (.slice none 0 0), (u6 0), (u6 0), (u6 0), (u6 0), (u6 0), (u6 0)] 82, sl none (([] : List Pkt).length) 0 74 6 (V.flat encPkt ([] : List Pkt))] rfl (A.appendC (enc := encPkt) (xs := ([] : List Pkt)) q 8 40 (e := 74) (z := (.agg #[(u6 0), (i6 0), (w6 0), (w6 0), (w6 0), (w6 0)])) (sz := 6) (by_ := 24) (by kernel_rfl) rfl rfl rfl (by kernel_rfl) (by kernel_rfl) (by rfl) (by decide) encPkt_len encPkt_one rfl (rd_sl (i := 3) rfl) (by first | omega | (simp at *; omega)) (fun A14 c14 => [ringI encPkt 118 74 rb1 rs1 r q, blk b2 (qq rb1 m u ci co cd bi bo bd) 112, blk b3 (wq r m Aw q.length cw ci co cd bi bo bd) 82, sl Aw (q.length) cw 74 6 (V.flat encPkt q), blk b5 (pk x4) 74, blk b6 (wq r m Aw q.length cw ci co cd bi bo bd) 82, blk b7 (pk x4) 74, blk b8 [(i6 0), (i6 0), (.slice none 0 0), (u6 0), (u6 0), (u6 0), (u6 0), (u6 0), (u6 0)] 82, sl A14 (q.length) c14 74 6 (V.flat encPkt q)]) (fun _ _ => rfl) ?_))
                            intro A14 c14
                            refine A.cons (A.q (some 6) (.slice A14 q.length c14) (by kernel_rfl) (qt_assign rfl rfl) ?_)
                            refine A.done ?_
                            refine A.norm [(0, (.agg (wq r m Aw q.length cw ci co cd bi bo bd).toArray)), (1, (pa x4)), (2, (.pointer (some ⟨b6, 0, none⟩))), (3, (.pointer (some ⟨b7, 0, none⟩))), (4, (.pointer (some ⟨b8, 0, none⟩))), (5, (i6 0)), (15, (.bool ((decide (x4.len < 1)) || (decide (x4.len > 16384))))), (32, (.bool (((q.length : Int) == (r : Int)) || (decide (((lens q) + x4.len) > m))))), (6, (.slice A14 q.length c14))] [ringI encPkt 118 74 rb1 rs1 r q, blk b2 (qq rb1 m u ci co cd bi bo bd) 112, blk b3 (wq r m Aw q.length cw ci co cd bi bo bd) 82, sl Aw (q.length) cw 74 6 (V.flat encPkt q), blk b5 (pk x4) 74, blk b6 (wq r m Aw q.length cw ci co cd bi bo bd) 82, blk b7 (pk x4) 74, blk b8 [(i6 0), (i6 0), (.slice none 0 0), (u6 0), (u6 0), (u6 0), (u6 0), (u6 0), (u6 0)] 82, sl A14 (q.length) c14 74 6 (V.flat encPkt q)] (by exact ⟨rfl, rfl, rfl, rfl, rfl, rfl, rfl, rfl, rfl, trivial⟩) rfl ?_
                            refine A.tn ?_
                            refine A.seq ?_
                            refine A.region ?_
                            refine A.cons (A.q (some 41) (.slice A14 q.length c14) (by kernel_rfl) (qt_move rfl rfl) ?_)
                            refine A.cons (A.q (some 42) (pa x4) (by kernel_rfl) (qt_loadN (vs := (pk x4)) rfl rfl (by kernel_rfl) (reads_blk (i := 6) rfl rfl)) ?_)
                            refine A.cons (A.buildSlice 43 (e := 74) (pk x4) (by kernel_rfl) rfl (fun _ => by kernel_rfl) (fun b15 => [ringI encPkt 118 74 rb1 rs1 r q, blk b2 (qq rb1 m u ci co cd bi bo bd) 112, blk b3 (wq r m Aw q.length cw ci co cd bi bo bd) 82, sl Aw (q.length) cw 74 6 (V.flat encPkt q), blk b5 (pk x4) 74, blk b6 (wq r m Aw q.length cw ci co cd bi bo bd) 82, blk b7 (pk x4) 74, blk b8 [(i6 0), (i6 0), (.slice none 0 0), (u6 0), (u6 0), (u6 0), (u6 0), (u6 0), (u6 0)] 82, sl A14 (q.length) c14 74 6 (V.flat encPkt q), blk b15 (pk x4) 74]) (fun _ => rfl) ?_)
                            intro b15
                            refine A.cons (A.appendC (enc := encPkt) (xs := q) ([x4]) 8 44 (e := 74) (z := (.agg #[(u6 0), (i6 0), (w6 0), (w6 0), (w6 0), (w6 0)])) (sz := 6) (by_ := 24) (by kernel_rfl) rfl rfl rfl (by kernel_rfl) (by kernel_rfl) (by rfl) (by decide) encPkt_len encPkt_one rfl (rd_blk (i := 9) rfl) (by first | omega | (simp at *; omega)) (fun A16 c16 => [ringI encPkt 118 74 rb1 rs1 r q, blk b2 (qq rb1 m u ci co cd bi bo bd) 112, blk b3 (wq r m Aw q.length cw ci co cd bi bo bd) 82, sl Aw (q.length) cw 74 6 (V.flat encPkt q), blk b5 (pk x4) 74, blk b6 (wq r m Aw q.length cw ci co cd bi bo bd) 82, blk b7 (pk x4) 74, blk b8 [(i6 0), (i6 0), (.slice none 0 0), (u6 0), (u6 0), (u6 0), (u6 0), (u6 0), (u6 0)] 82, sl A16 ((q ++ ([x4])).length) c16 74 6 (V.flat encPkt (q ++ ([x4]))), blk b15 (pk x4) 74]) (fun _ _ => rfl) ?_)
                            intro A16 c16
                            refine A.cons (A.q (some 6) (.slice A16 ((q ++ ([x4])).length) c16) (by kernel_rfl) (qt_assign rfl rfl) ?_)
                            refine A.done ?_
                            refine A.norm [(0, (.agg (wq r m Aw q.length cw ci co cd bi bo bd).toArray)), (1, (pa x4)), (2, (.pointer (some ⟨b6, 0, none⟩))), (3, (.pointer (some ⟨b7, 0, none⟩))), (4, (.pointer (some ⟨b8, 0, none⟩))), (5, (i6 0)), (15, (.bool ((decide (x4.len < 1)) || (decide (x4.len > 16384))))), (32, (.bool (((q.length : Int) == (r : Int)) || (decide (((lens q) + x4.len) > m))))), (6, (.slice A16 ((q ++ ([x4])).length) c16))] [ringI encPkt 118 74 rb1 rs1 r q, blk b2 (qq rb1 m u ci co cd bi bo bd) 112, blk b3 (wq r m Aw q.length cw ci co cd bi bo bd) 82, sl Aw (q.length) cw 74 6 (V.flat encPkt q), blk b5 (pk x4) 74, blk b6 (wq r m Aw q.length cw ci co cd bi bo bd) 82, blk b7 (pk x4) 74, blk b8 [(i6 0), (i6 0), (.slice none 0 0), (u6 0), (u6 0), (u6 0), (u6 0), (u6 0), (u6 0)] 82, sl A16 ((q ++ ([x4])).length) c16 74 6 (V.flat encPkt (q ++ ([x4]))), blk b15 (pk x4) 74] (by exact ⟨rfl, rfl, rfl, rfl, rfl, rfl, rfl, rfl, rfl, trivial⟩) rfl ?_
                            refine A.tn ?_
                            refine A.seq ?_
                            refine A.region ?_
                            refine A.cons (A.q (some 45) (.agg (wq r m Aw q.length cw ci co cd bi bo bd).toArray) (by kernel_rfl) (qt_loadN (vs := (wq r m Aw q.length cw ci co cd bi bo bd)) rfl rfl (by kernel_rfl) (reads_blk (i := 5) rfl rfl)) ?_)
                            refine A.cons (A.q (some 46) (.pointer (some ⟨b7, 1, none⟩)) (by kernel_rfl) (qt_pure (by kernel_rfl) fun _ => by kernel_rfl) ?_)
                            refine A.cons (A.q (some 47) (i6 x4.len) (by kernel_rfl) (qt_load1 rfl rfl (by kernel_rfl) (reads_blk (i := 6) rfl rfl)) ?_)
                            refine A.cons (A.q (some 48) (.agg (wq r m Aw q.length cw (ci + 1) co cd (bi + x4.len) bo bd).toArray) (by kernel_rfl) (qt_call [(.agg (wq r m Aw q.length cw ci co cd bi bo bd).toArray), (i6 0), (i6 x4.len)] rfl (by kernel_rfl) rfl (fun w s => count0_spec Aw cw q (r : Int) m ci co cd bi bo bd x4.len (ci + 1) (bi + x4.len)  w (wrap_u64 (by constructor <;> omega)) ((congrArg (fun z => IntKind.u64.wrap (bi + z)) (wrap_u64 (by constructor <;> omega))).trans (wrap_u64 (by constructor <;> omega))))) ?_)
                            refine A.cons (A.alloc 7 [(i6 0), (i6 0), (.slice none 0 0), (u6 0), (u6 0), (u6 0), (u6 0), (u6 0), (u6 0)] (by kernel_rfl) rfl (by kernel_rfl) (fun b17 => [ringI encPkt 118 74 rb1 rs1 r q, blk b2 (qq rb1 m u ci co cd bi bo bd) 112, blk b3 (wq r m Aw q.length cw ci co cd bi bo bd) 82, sl Aw (q.length) cw 74 6 (V.flat encPkt q), blk b5 (pk x4) 74, blk b6 (wq r m Aw q.length cw ci co cd bi bo bd) 82, blk b7 (pk x4) 74, blk b8 [(i6 0), (i6 0), (.slice none 0 0), (u6 0), (u6 0), (u6 0), (u6 0), (u6 0), (u6 0)] 82, sl A16 ((q ++ ([x4])).length) c16 74 6 (V.flat encPkt (q ++ ([x4]))), blk b15 (pk x4) 74, blk b17 [(i6 0), (i6 0), (.slice none 0 0), (u6 0), (u6 0), (u6 0), (u6 0), (u6 0), (u6 0)] 82]) (fun _ => rfl) ?_)
                            intro b17
                            refine A.cons (A.store 10 (vs := (wq r m Aw q.length cw (ci + 1) co cd (bi + x4.len) bo bd)) [ringI encPkt 118 74 rb1 rs1 r q, blk b2 (qq rb1 m u ci co cd bi bo bd) 112, blk b3 (wq r m Aw q.length cw ci co cd bi bo bd) 82, sl Aw (q.length) cw 74 6 (V.flat encPkt q), blk b5 (pk x4) 74, blk b6 (wq r m Aw q.length cw ci co cd bi bo bd) 82, blk b7 (pk x4) 74, blk b8 [(i6 0), (i6 0), (.slice none 0 0), (u6 0), (u6 0), (u6 0), (u6 0), (u6 0), (u6 0)] 82, sl A16 ((q ++ ([x4])).length) c16 74 6 (V.flat encPkt (q ++ ([x4]))), blk b15 (pk x4) 74, blk b17 (wq r m Aw q.length cw (ci + 1) co cd (bi + x4.len) bo bd) 82] (by kernel_rfl) rfl rfl rfl rfl (by kernel_rfl) rfl rfl (by kernel_rfl) rfl ?_)
                            refine A.done ?_
                            refine A.norm [(0, (.agg (wq r m Aw q.length cw ci co cd bi bo bd).toArray)), (1, (pa x4)), (2, (.pointer (some ⟨b6, 0, none⟩))), (3, (.pointer (some ⟨b7, 0, none⟩))), (4, (.pointer (some ⟨b8, 0, none⟩))), (5, (i6 0)), (15, (.bool ((decide (x4.len < 1)) || (decide (x4.len > 16384))))), (32, (.bool (((q.length : Int) == (r : Int)) || (decide (((lens q) + x4.len) > m))))), (6, (.slice A16 ((q ++ ([x4])).length) c16)), (7, (.pointer (some ⟨b17, 0, none⟩)))] [ringI encPkt 118 74 rb1 rs1 r q, blk b2 (qq rb1 m u ci co cd bi bo bd) 112, blk b3 (wq r m Aw q.length cw ci co cd bi bo bd) 82, sl Aw (q.length) cw 74 6 (V.flat encPkt q), blk b5 (pk x4) 74, blk b6 (wq r m Aw q.length cw ci co cd bi bo bd) 82, blk b7 (pk x4) 74, blk b8 [(i6 0), (i6 0), (.slice none 0 0), (u6 0), (u6 0), (u6 0), (u6 0), (u6 0), (u6 0)] 82, sl A16 ((q ++ ([x4])).length) c16 74 6 (V.flat encPkt (q ++ ([x4]))), blk b15 (pk x4) 74, blk b17 (wq r m Aw q.length cw (ci + 1) co cd (bi + x4.len) bo bd) 82] (by exact ⟨rfl, rfl, rfl, rfl, rfl, rfl, rfl, rfl, rfl, rfl, trivial⟩) rfl ?_
                            refine A.tn ?_
                            refine A.seq ?_
                            refine A.region ?_
                            refine A.cons (A.q (some 49) (.pointer (some ⟨b17, 0, none⟩)) (by kernel_rfl) (qt_pure (by kernel_rfl) fun _ => by kernel_rfl) ?_)
                            refine A.cons (A.q (some 50) (i6 (r : Int)) (by kernel_rfl) (qt_load1 rfl rfl (by kernel_rfl) (reads_blk (i := 10) rfl rfl)) ?_)
                            refine A.cons (A.q (some 51) (.pointer (some ⟨b17, 1, none⟩)) (by kernel_rfl) (qt_pure (by kernel_rfl) fun _ => by kernel_rfl) ?_)
                            refine A.cons (A.q (some 52) (i6 m) (by kernel_rfl) (qt_load1 rfl rfl (by kernel_rfl) (reads_blk (i := 10) rfl rfl)) ?_)
                            refine A.cons (A.q (some 53) (.slice A16 ((q ++ ([x4])).length) c16) (by kernel_rfl) (qt_move rfl rfl) ?_)
                            refine A.cons (A.q (some 54) (.pointer (some ⟨b17, 3, none⟩)) (by kernel_rfl) (qt_pure (by kernel_rfl) fun _ => by kernel_rfl) ?_)
                            refine A.cons (A.q (some 55) (.agg #[(u6 (ci + 1)), (u6 co), (u6 cd), (u6 (bi + x4.len)), (u6 bo), (u6 bd)]) (by kernel_rfl) (qt_loadN (vs := [(u6 (ci + 1)), (u6 co), (u6 cd), (u6 (bi + x4.len)), (u6 bo), (u6 bd)]) rfl rfl (by kernel_rfl) (reads_blk (i := 10) rfl rfl)) ?_)
                            refine A.cons (A.q (some 56) (.agg (wq r m A16 ((q ++ ([x4])).length) c16 (ci + 1) co cd (bi + x4.len) bo bd).toArray) (by kernel_rfl) (qt_pure (by kernel_rfl) fun _ => by kernel_rfl) ?_)
                            refine A.cons (A.store 7 (vs := (wq r m A16 ((q ++ ([x4])).length) c16 (ci + 1) co cd (bi + x4.len) bo bd)) [ringI encPkt 118 74 rb1 rs1 r q, blk b2 (qq rb1 m u ci co cd bi bo bd) 112, blk b3 (wq r m Aw q.length cw ci co cd bi bo bd) 82, sl Aw (q.length) cw 74 6 (V.flat encPkt q), blk b5 (pk x4) 74, blk b6 (wq r m Aw q.length cw ci co cd bi bo bd) 82, blk b7 (pk x4) 74, blk b8 (wq r m A16 ((q ++ ([x4])).length) c16 (ci + 1) co cd (bi + x4.len) bo bd) 82, sl A16 ((q ++ ([x4])).length) c16 74 6 (V.flat encPkt (q ++ ([x4]))), blk b15 (pk x4) 74, blk b17 (wq r m Aw q.length cw (ci + 1) co cd (bi + x4.len) bo bd) 82] (by kernel_rfl) rfl rfl rfl rfl (by kernel_rfl) rfl rfl (by kernel_rfl) rfl ?_)
                            refine A.cons (A.q (some 5) (i6 0) (by kernel_rfl) (qt_assign rfl rfl) ?_)
                            refine A.done ?_
                            refine A.norm [(0, (.agg (wq r m Aw q.length cw ci co cd bi bo bd).toArray)), (1, (pa x4)), (2, (.pointer (some ⟨b6, 0, none⟩))), (3, (.pointer (some ⟨b7, 0, none⟩))), (4, (.pointer (some ⟨b8, 0, none⟩))), (5, (i6 0)), (15, (.bool ((decide (x4.len < 1)) || (decide (x4.len > 16384))))), (32, (.bool (((q.length : Int) == (r : Int)) || (decide (((lens q) + x4.len) > m))))), (6, (.slice A16 ((q ++ ([x4])).length) c16)), (7, (.pointer (some ⟨b17, 0, none⟩)))] [ringI encPkt 118 74 rb1 rs1 r q, blk b2 (qq rb1 m u ci co cd bi bo bd) 112, blk b3 (wq r m Aw q.length cw ci co cd bi bo bd) 82, sl Aw (q.length) cw 74 6 (V.flat encPkt q), blk b5 (pk x4) 74, blk b6 (wq r m Aw q.length cw ci co cd bi bo bd) 82, blk b7 (pk x4) 74, blk b8 (wq r m A16 ((q ++ ([x4])).length) c16 (ci + 1) co cd (bi + x4.len) bo bd) 82, sl A16 ((q ++ ([x4])).length) c16 74 6 (V.flat encPkt (q ++ ([x4]))), blk b15 (pk x4) 74, blk b17 (wq r m Aw q.length cw (ci + 1) co cd (bi + x4.len) bo bd) 82] (by exact ⟨rfl, rfl, rfl, rfl, rfl, rfl, rfl, rfl, rfl, rfl, trivial⟩) rfl ?_
                            refine A.tn ?_
                            refine A.ret ?_
                            refine A.post [(.agg (wq r m A16 ((q ++ ([x4])).length) c16 (ci + 1) co cd (bi + x4.len) bo bd).toArray), (i6 0)] (fun a w rr s => ⟨rv_cellN (vs := (wq r m A16 ((q ++ ([x4])).length) c16 (ci + 1) co cd (bi + x4.len) bo bd)) rr s rfl (by kernel_rfl) (reads_blk (i := 7) (off := 0) rfl rfl), rv_tmp rr rfl, trivial⟩) (A.back (by kernel_rfl) ?_)
                            refine A.items [ringI encPkt 118 74 rb1 rs1 r q, blk b2 (qq rb1 m u ci co cd bi bo bd) 112, blk b3 (wq r m Aw q.length cw ci co cd bi bo bd) 82, sl Aw (q.length) cw 74 6 (V.flat encPkt q), blk b5 (pk x4) 74, sl A16 ((q ++ ([x4])).length) c16 74 6 (V.flat encPkt (q ++ ([x4])))] (sk (sk (sk (sk (sk (sc (sc (sc (sk (sc (sc (sn)))))))))))) ?_
                            refine A.cons (A.q (some 62) (.tuple #[(.agg (wq r m A16 ((q ++ ([x4])).length) c16 (ci + 1) co cd (bi + x4.len) bo bd).toArray), (i6 0)]) (by kernel_rfl) (qt_move rfl rfl) ?_)
                            refine A.cons (A.q (some 66) (.agg (wq r m A16 ((q ++ ([x4])).length) c16 (ci + 1) co cd (bi + x4.len) bo bd).toArray) (by kernel_rfl) (qt_pure (by kernel_rfl) fun _ => by kernel_rfl) ?_)
                            refine A.cons (A.q (some 67) (i6 0) (by kernel_rfl) (qt_pure (by kernel_rfl) fun _ => by kernel_rfl) ?_)
                            refine A.cons (A.alloc 12 [(i6 0), (i6 0), (.slice none 0 0), (u6 0), (u6 0), (u6 0), (u6 0), (u6 0), (u6 0)] (by kernel_rfl) rfl (by kernel_rfl) (fun b18 => [ringI encPkt 118 74 rb1 rs1 r q, blk b2 (qq rb1 m u ci co cd bi bo bd) 112, blk b3 (wq r m Aw q.length cw ci co cd bi bo bd) 82, sl Aw (q.length) cw 74 6 (V.flat encPkt q), blk b5 (pk x4) 74, sl A16 ((q ++ ([x4])).length) c16 74 6 (V.flat encPkt (q ++ ([x4]))), blk b18 [(i6 0), (i6 0), (.slice none 0 0), (u6 0), (u6 0), (u6 0), (u6 0), (u6 0), (u6 0)] 82]) (fun _ => rfl) ?_)
                            intro b18
                            refine A.cons (A.store 6 (vs := (wq r m A16 ((q ++ ([x4])).length) c16 (ci + 1) co cd (bi + x4.len) bo bd)) [ringI encPkt 118 74 rb1 rs1 r q, blk b2 (qq rb1 m u ci co cd bi bo bd) 112, blk b3 (wq r m Aw q.length cw ci co cd bi bo bd) 82, sl Aw (q.length) cw 74 6 (V.flat encPkt q), blk b5 (pk x4) 74, sl A16 ((q ++ ([x4])).length) c16 74 6 (V.flat encPkt (q ++ ([x4]))), blk b18 (wq r m A16 ((q ++ ([x4])).length) c16 (ci + 1) co cd (bi + x4.len) bo bd) 82] (by kernel_rfl) rfl rfl rfl rfl (by kernel_rfl) rfl rfl (by kernel_rfl) rfl ?_)
                            refine A.cons (A.q (some 13) (i6 0) (by kernel_rfl) (qt_assign rfl rfl) ?_)
                            refine A.done ?_
                            refine A.norm [(7, (.pointer (some ⟨b2, 0, none⟩))), (8, (i6 0)), (9, (.pointer (some ⟨b3, 0, none⟩))), (53, (.slice A0 l.length c0)), (54, (i6 (l.length : Int))), (55, (i6 (k : Int))), (56, (.bool (decide ((k : Int) < (l.length : Int))))), (11, (.pointer (some ⟨b5, 0, none⟩))), (61, (.bool (x4.id != 0))), (12, (.pointer (some ⟨b18, 0, none⟩))), (13, (i6 0))] [ringI encPkt 118 74 rb1 rs1 r q, blk b2 (qq rb1 m u ci co cd bi bo bd) 112, blk b3 (wq r m Aw q.length cw ci co cd bi bo bd) 82, sl Aw (q.length) cw 74 6 (V.flat encPkt q), blk b5 (pk x4) 74, sl A16 ((q ++ ([x4])).length) c16 74 6 (V.flat encPkt (q ++ ([x4]))), blk b18 (wq r m A16 ((q ++ ([x4])).length) c16 (ci + 1) co cd (bi + x4.len) bo bd) 82] (by exact ⟨rfl, rfl, rfl, rfl, rfl, rfl, rfl, rfl, rfl, rfl, rfl, trivial⟩) rfl ?_
                            refine A.tn ?_
                            refine A.seq ?_
                            refine A.seq ?_
                            refine A.region ?_
                            refine A.cons (A.q (some 68) (.pointer (some ⟨b2, 0, none⟩)) (by kernel_rfl) (qt_move rfl rfl) ?_)
                            refine A.cons (A.q (some 69) (pa x4) (by kernel_rfl) (qt_loadN (vs := (pk x4)) rfl rfl (by kernel_rfl) (reads_blk (i := 4) rfl rfl)) ?_)
                            refine A.cons (A.inl (some 70) [(.pointer (some ⟨b2, 0, none⟩)), (pa x4)] [(0, (.pointer (some ⟨b2, 0, none⟩))), (1, (pa x4))] (by kernel_rfl) rfl (by kernel_rfl) rfl Try.func43 rfl rfl rfl ?_)
                            refine A.seq ?_
                            refine A.region ?_
                            refine A.cons (A.box 3 (pk x4) (by kernel_rfl) rfl rfl rfl (fun b19 => [ringI encPkt 118 74 rb1 rs1 r q, blk b2 (qq rb1 m u ci co cd bi bo bd) 112, blk b3 (wq r m Aw q.length cw ci co cd bi bo bd) 82, sl Aw (q.length) cw 74 6 (V.flat encPkt q), blk b5 (pk x4) 74, sl A16 ((q ++ ([x4])).length) c16 74 6 (V.flat encPkt (q ++ ([x4]))), blk b18 (wq r m A16 ((q ++ ([x4])).length) c16 (ci + 1) co cd (bi + x4.len) bo bd) 82, blk b19 (pk x4) 74]) (fun _ => rfl) ?_)
                            intro b19
                            refine A.cons (A.q (some 4) (i6 0) (by kernel_rfl) (qt_assign rfl rfl) ?_)
                            refine A.done ?_
                            refine A.norm [(0, (.pointer (some ⟨b2, 0, none⟩))), (1, (pa x4)), (3, (.pointer (some ⟨b19, 0, none⟩))), (4, (i6 0))] [ringI encPkt 118 74 rb1 rs1 r q, blk b2 (qq rb1 m u ci co cd bi bo bd) 112, blk b3 (wq r m Aw q.length cw ci co cd bi bo bd) 82, sl Aw (q.length) cw 74 6 (V.flat encPkt q), blk b5 (pk x4) 74, sl A16 ((q ++ ([x4])).length) c16 74 6 (V.flat encPkt (q ++ ([x4]))), blk b18 (wq r m A16 ((q ++ ([x4])).length) c16 (ci + 1) co cd (bi + x4.len) bo bd) 82, blk b19 (pk x4) 74] (by exact ⟨rfl, rfl, rfl, rfl, trivial⟩) rfl ?_
                            refine A.tn ?_
                            refine A.seq ?_
                            refine A.block ?_
                            refine A.seq ?_
                            refine A.region ?_
                            refine A.cons (A.q (some 6) (.pointer (some ⟨b2, 0, none⟩)) (by kernel_rfl) (qt_move rfl rfl) ?_)
                            refine A.cons (A.q (some 7) (.bool false) (by kernel_rfl) (qt_pure (by kernel_rfl) fun _ => by kernel_rfl) ?_)
                            refine A.cons (A.q (some 5) (.bool false) (by kernel_rfl) (qt_assign rfl rfl) ?_)
                            refine A.done ?_
                            refine A.norm [(0, (.pointer (some ⟨b2, 0, none⟩))), (1, (pa x4)), (3, (.pointer (some ⟨b19, 0, none⟩))), (4, (i6 0)), (5, (.bool false))] [ringI encPkt 118 74 rb1 rs1 r q, blk b2 (qq rb1 m u ci co cd bi bo bd) 112, blk b3 (wq r m Aw q.length cw ci co cd bi bo bd) 82, sl Aw (q.length) cw 74 6 (V.flat encPkt q), blk b5 (pk x4) 74, sl A16 ((q ++ ([x4])).length) c16 74 6 (V.flat encPkt (q ++ ([x4]))), blk b18 (wq r m A16 ((q ++ ([x4])).length) c16 (ci + 1) co cd (bi + x4.len) bo bd) 82, blk b19 (pk x4) 74] (by exact ⟨rfl, rfl, rfl, rfl, rfl, trivial⟩) rfl ?_
                            refine A.tn ?_
                            refine A.cond_f rfl ?_
                            refine A.seq ?_
                            refine A.cutR (fun _ : Unit => [(0, (.pointer (some ⟨b2, 0, none⟩))), (1, (pa x4)), (3, (.pointer (some ⟨b19, 0, none⟩))), (4, (i6 0)), (5, (.bool false)), (8, (.bool ((decide (x4.len < 1)) || (decide (x4.len > 16384)))))]) (fun _ => [ringI encPkt 118 74 rb1 rs1 r q, blk b2 (qq rb1 m u ci co cd bi bo bd) 112, blk b3 (wq r m Aw q.length cw ci co cd bi bo bd) 82, sl Aw (q.length) cw 74 6 (V.flat encPkt q), blk b5 (pk x4) 74, sl A16 ((q ++ ([x4])).length) c16 74 6 (V.flat encPkt (q ++ ([x4]))), blk b18 (wq r m A16 ((q ++ ([x4])).length) c16 (ci + 1) co cd (bi + x4.len) bo bd) 82, blk b19 (pk x4) 74]) (fun _ => True) ?_ (fun _ _ => ?_)
                            · skip
                              refine A.region ?_
                              refine A.cons (A.q (some 9) (.pointer (some ⟨b19, 1, none⟩)) (by kernel_rfl) (qt_pure (by kernel_rfl) fun _ => by kernel_rfl) ?_)
                              refine A.cons (A.q (some 10) (i6 x4.len) (by kernel_rfl) (qt_load1 rfl rfl (by kernel_rfl) (reads_blk (i := 7) rfl rfl)) ?_)
                              refine A.cons (A.q (some 11) (.bool (decide (x4.len < 1))) (by kernel_rfl) (qt_pure (by kernel_rfl) fun _ => by kernel_rfl) ?_)
                              refine A.cons (A.q (some 12) (.bool (decide (x4.len < 1))) (by kernel_rfl) (qt_move rfl rfl) ?_)
                              refine A.bool (decide (x4.len < 1)) (fun e19 => ?_) (fun e19 => ?_)
                              · skip
                                refine A.sub [(0, (.pointer (some ⟨b2, 0, none⟩))), (1, (pa x4)), (3, (.pointer (some ⟨b19, 0, none⟩))), (4, (i6 0)), (5, (.bool false)), (9, (.pointer (some ⟨b19, 1, none⟩))), (10, (i6 x4.len)), (11, (.bool true)), (12, (.bool true))] (by exact ⟨rfl, rfl, rfl, rfl, rfl, rfl, rfl, (congrArg (fun z => some (Value.bool z)) e19), (congrArg (fun z => some (Value.bool z)) e19), trivial⟩) ?_
                                refine A.cons (A.jump (some 13) rfl rfl (by intro x hx; cases hx; rfl) ?_)
                                refine A.cons (A.jump (some 14) rfl rfl (by intro x hx; cases hx; rfl) ?_)
                                refine A.cons (A.jump (some 15) rfl rfl (by intro x hx; cases hx; rfl) ?_)
                                refine A.cons (A.q (some 16) (.bool true) (by kernel_rfl) (qt_pure (by kernel_rfl) fun _ => by kernel_rfl) ?_)
                                refine A.cons (A.q (some 8) (.bool true) (by kernel_rfl) (qt_assign rfl rfl) ?_)
                                refine A.done ?_
                                exact A.meet () trivial (A.here (by exact ⟨rfl, rfl, rfl, rfl, rfl, (by rw [e19]; rfl), trivial⟩) (List.Sublist.refl _))
                              · skip
                                refine A.sub [(0, (.pointer (some ⟨b2, 0, none⟩))), (1, (pa x4)), (3, (.pointer (some ⟨b19, 0, none⟩))), (4, (i6 0)), (5, (.bool false)), (9, (.pointer (some ⟨b19, 1, none⟩))), (10, (i6 x4.len)), (11, (.bool false)), (12, (.bool false))] (by exact ⟨rfl, rfl, rfl, rfl, rfl, rfl, rfl, (congrArg (fun z => some (Value.bool z)) e19), (congrArg (fun z => some (Value.bool z)) e19), trivial⟩) ?_
                                refine A.cons (A.q (some 13) (.pointer (some ⟨b19, 1, none⟩)) (by kernel_rfl) (qt_pure (by kernel_rfl) fun _ => by kernel_rfl) ?_)
                                refine A.cons (A.q (some 14) (i6 x4.len) (by kernel_rfl) (qt_load1 rfl rfl (by kernel_rfl) (reads_blk (i := 7) rfl rfl)) ?_)
                                refine A.cons (A.q (some 15) (.bool (decide (x4.len > 16384))) (by kernel_rfl) (qt_pure (by kernel_rfl) fun _ => by kernel_rfl) ?_)
                                refine A.cons (A.q (some 16) (.bool (decide (x4.len > 16384))) (by kernel_rfl) (qt_pure (by kernel_rfl) fun _ => by kernel_rfl) ?_)
                                refine A.cons (A.q (some 8) (.bool (decide (x4.len > 16384))) (by kernel_rfl) (qt_assign rfl rfl) ?_)
                                refine A.done ?_
                                exact A.meet () trivial (A.here (by exact ⟨rfl, rfl, rfl, rfl, rfl, (by rw [e19]; rfl), trivial⟩) (List.Sublist.refl _))
                            · skip
                              refine A.tn ?_
                              refine A.cond (E := (decide (x4.len < 1)) || (decide (x4.len > 16384))) rfl (fun e20 => ?_) (fun e20 => ?_)
                              · exact absurd e20 (by rw [e11]; decide)
                              · skip
                                have p20 := e20; try simp only [decide_eq_true_eq, decide_eq_false_iff_not, beq_iff_eq, beq_eq_false_iff_ne, bne_iff_ne, bne_eq_false_iff_eq, ne_eq, Bool.and_eq_true, Bool.or_eq_true, Bool.or_eq_false_iff, Bool.not_eq_true', Bool.not_eq_false', Int.not_lt, Int.not_le, gt_iff_lt, ge_iff_le, Classical.not_not] at p20
                                refine A.seq ?_
                                refine A.draw [blk b2 (qq rb1 m u ci co cd bi bo bd) 112, blk b3 (wq r m Aw q.length cw ci co cd bi bo bd) 82, sl Aw (q.length) cw 74 6 (V.flat encPkt q), blk b5 (pk x4) 74, sl A16 ((q ++ ([x4])).length) c16 74 6 (V.flat encPkt (q ++ ([x4]))), blk b18 (wq r m A16 ((q ++ ([x4])).length) c16 (ci + 1) co cd (bi + x4.len) bo bd) 82, blk b19 (pk x4) 74] (by kernel_rfl) ?_
                                refine A.take 0 (some 18) (.pointer (some ⟨b19, 1, none⟩)) rfl (by kernel_rfl) (by kernel_rfl) (sc (sk (sk (sk (sk (sk (sk (sk (sn))))))))) (qt_pure (by kernel_rfl) fun _ => by kernel_rfl) ?_
                                refine A.take 1 (some 19) (i6 x4.len) rfl (by kernel_rfl) (by kernel_rfl) (sc (sk (sk (sk (sk (sk (sk (sk (sn))))))))) (qt_load1 rfl rfl (by kernel_rfl) (reads_blk (i := 6) rfl rfl)) ?_
                                refine A.take 2 (some 20) (.pointer (some ⟨b2, 0, none⟩)) rfl (by kernel_rfl) (by kernel_rfl) (sc (sk (sk (sk (sk (sk (sk (sk (sn))))))))) (qt_move rfl rfl) ?_
                                refine A.take 3 (some 21) (.pointer (some ⟨b2, 0, none⟩)) rfl (by kernel_rfl) (by kernel_rfl) (sc (sk (sk (sk (sk (sk (sk (sk (sn))))))))) (qt_pure (by kernel_rfl) fun _ => by kernel_rfl) ?_
                                refine A.take 4 (some 22) (.pointer (some ⟨b2, 1, none⟩)) rfl (by kernel_rfl) (by kernel_rfl) (sc (sk (sk (sk (sk (sk (sk (sk (sn))))))))) (qt_pure (by kernel_rfl) fun _ => by kernel_rfl) ?_
                                refine A.take 5 (some 23) (i6 m) rfl (by kernel_rfl) (by kernel_rfl) (sc (sk (sk (sk (sk (sk (sk (sk (sn))))))))) (qt_load1 rfl rfl (by kernel_rfl) (reads_blk (i := 0) rfl rfl)) ?_
                                refine A.take 6 (some 24) (.pointer (some ⟨b2, 0, none⟩)) rfl (by kernel_rfl) (by kernel_rfl) (sc (sk (sk (sk (sk (sk (sk (sk (sn))))))))) (qt_move rfl rfl) ?_
                                refine A.take 7 (some 25) (.pointer (some ⟨b2, 0, none⟩)) rfl (by kernel_rfl) (by kernel_rfl) (sc (sk (sk (sk (sk (sk (sk (sk (sn))))))))) (qt_pure (by kernel_rfl) fun _ => by kernel_rfl) ?_
                                refine A.take 8 (some 26) (.pointer (some ⟨b2, 2, none⟩)) rfl (by kernel_rfl) (by kernel_rfl) (sc (sk (sk (sk (sk (sk (sk (sk (sn))))))))) (qt_pure (by kernel_rfl) fun _ => by kernel_rfl) ?_
                                refine A.take 9 (some 27) (i6 u) rfl (by kernel_rfl) (by kernel_rfl) (sc (sk (sk (sk (sk (sk (sk (sk (sn))))))))) (qt_load1 rfl rfl (by kernel_rfl) (reads_blk (i := 0) rfl rfl)) ?_
                                refine A.take 10 (some 28) (i6 (m - u)) rfl (by kernel_rfl) (by kernel_rfl) (sc (sk (sk (sk (sk (sk (sk (sk (sn))))))))) (qt_as (congrArg (Value.int .i64) (wrap_i64 (e := m - u) (by constructor <;> omega))) (qt_pure (v := i6 (IntKind.i64.wrap (m - u))) (by kernel_rfl) fun _ => by kernel_rfl)) ?_
                                refine A.take 11 (some 29) (.bool (decide (x4.len > (m - u)))) rfl (by kernel_rfl) (by kernel_rfl) (sc (sk (sk (sk (sk (sk (sk (sk (sn))))))))) (qt_pure (by kernel_rfl) fun _ => by kernel_rfl) ?_
                                refine A.take 12 (some 30) (.bool (decide (x4.len > (m - u)))) rfl (by kernel_rfl) (by kernel_rfl) (sc (sk (sk (sk (sk (sk (sk (sk (sn))))))))) (qt_move rfl rfl) ?_
                                refine A.bool (decide (x4.len > (m - u))) (fun e21 => ?_) (fun e21 => ?_)
                                · exact absurd e21 (by simp at e21; first | omega | (simp_all; omega))
                                · skip
                                  refine A.sub [(0, (.pointer (some ⟨b2, 0, none⟩))), (1, (pa x4)), (3, (.pointer (some ⟨b19, 0, none⟩))), (4, (i6 0)), (5, (.bool false)), (8, (.bool ((decide (x4.len < 1)) || (decide (x4.len > 16384))))), (18, (.pointer (some ⟨b19, 1, none⟩))), (19, (i6 x4.len)), (20, (.pointer (some ⟨b2, 0, none⟩))), (21, (.pointer (some ⟨b2, 0, none⟩))), (22, (.pointer (some ⟨b2, 1, none⟩))), (23, (i6 m)), (24, (.pointer (some ⟨b2, 0, none⟩))), (25, (.pointer (some ⟨b2, 0, none⟩))), (26, (.pointer (some ⟨b2, 2, none⟩))), (27, (i6 u)), (28, (i6 (m - u))), (29, (.bool false)), (30, (.bool false))] (by exact ⟨rfl, rfl, rfl, rfl, rfl, rfl, rfl, rfl, rfl, rfl, rfl, rfl, rfl, rfl, rfl, rfl, rfl, (congrArg (fun z => some (Value.bool z)) e21), (congrArg (fun z => some (Value.bool z)) e21), trivial⟩) ?_
                                  refine A.take 13 (some 31) (.pointer (some ⟨b2, 0, none⟩)) rfl (by kernel_rfl) (by kernel_rfl) (sc (sk (sk (sk (sk (sk (sk (sk (sn))))))))) (qt_move rfl rfl) ?_
                                  refine A.take 14 (some 32) (.pointer (some ⟨b2, 0, none⟩)) rfl (by kernel_rfl) (by kernel_rfl) (sc (sk (sk (sk (sk (sk (sk (sk (sn))))))))) (qt_pure (by kernel_rfl) fun _ => by kernel_rfl) ?_
                                  refine A.take 15 (some 33) (.pointer (some ⟨b2, 0, none⟩)) rfl (by kernel_rfl) (by kernel_rfl) (sc (sk (sk (sk (sk (sk (sk (sk (sn))))))))) (qt_pure (by kernel_rfl) fun _ => by kernel_rfl) ?_
                                  refine A.take 16 (some 34) (.pointer (some ⟨rb1, 0, none⟩)) rfl (by kernel_rfl) (by kernel_rfl) (sc (sk (sk (sk (sk (sk (sk (sk (sn))))))))) (qt_load1 rfl rfl (by kernel_rfl) (reads_blk (i := 0) rfl rfl)) ?_
                                  refine A.take 17 (some 35) (pa x4) rfl (by kernel_rfl) (by kernel_rfl) (sc (sk (sk (sk (sk (sk (sk (sk (sn))))))))) (qt_loadN (vs := (pk x4)) rfl rfl (by kernel_rfl) (reads_blk (i := 6) rfl rfl)) ?_
                                  refine A.only 18 rfl (by kernel_rfl) (A.call (some 36) [(.pointer (some ⟨rb1, 0, none⟩)), (pa x4)] (fun _ : Unit => (i6 0)) (fun _ => True) (fun _ => [ringI encPkt 118 74 rb1 rs1 r (q ++ [x4]), blk b2 (qq rb1 m u ci co cd bi bo bd) 112, blk b3 (wq r m Aw q.length cw ci co cd bi bo bd) 82, sl Aw (q.length) cw 74 6 (V.flat encPkt q), blk b5 (pk x4) 74, sl A16 ((q ++ ([x4])).length) c16 74 6 (V.flat encPkt (q ++ ([x4]))), blk b18 (wq r m A16 ((q ++ ([x4])).length) c16 (ci + 1) co cd (bi + x4.len) bo bd) 82, blk b19 (pk x4) 74]) (by kernel_rfl) rfl (by kernel_rfl) rfl (fun w s => (ringP_push rb1 rs1 r q x4 w (s.mem (i := 0) rfl) (by omega)).mono fun e w1 ⟨he, hr, hf⟩ => ⟨(), he, trivial, s.turn (i := 0) rfl hf hr (by have := (s.mem (i := 0) rfl : RingH _ _ _ _ _ _ _ _).bounds.2.2.2; simpa [ringI] using this) (fun _ h => .inl h)⟩) (fun _ _ => ?_))
                                  refine A.and (sc (sk (sk (sk (sk (sk (sk (sk (sn))))))))) ?_
                                  refine A.take 19 (some 37) (.bool false) rfl (by kernel_rfl) (by kernel_rfl) (sc (sk (sk (sk (sk (sk (sk (sk (sn))))))))) (qt_pure (by kernel_rfl) fun _ => by kernel_rfl) ?_
                                  refine A.take 20 (some 38) (.bool false) rfl (by kernel_rfl) (by kernel_rfl) (sc (sk (sk (sk (sk (sk (sk (sk (sn))))))))) (qt_pure (by kernel_rfl) fun _ => by kernel_rfl) ?_
                                  refine A.take 21 (some 17) (.bool false) rfl (by kernel_rfl) (by kernel_rfl) (sc (sk (sk (sk (sk (sk (sk (sk (sn))))))))) (qt_assign rfl rfl) ?_
                                  refine A.fin (by kernel_rfl) ?_
                                  refine A.norm [(0, (.pointer (some ⟨b2, 0, none⟩))), (1, (pa x4)), (3, (.pointer (some ⟨b19, 0, none⟩))), (4, (i6 0)), (5, (.bool false)), (8, (.bool ((decide (x4.len < 1)) || (decide (x4.len > 16384))))), (17, (.bool false))] [ringI encPkt 118 74 rb1 rs1 r (q ++ [x4]), blk b2 (qq rb1 m u ci co cd bi bo bd) 112, blk b3 (wq r m Aw q.length cw ci co cd bi bo bd) 82, sl Aw (q.length) cw 74 6 (V.flat encPkt q), blk b5 (pk x4) 74, sl A16 ((q ++ ([x4])).length) c16 74 6 (V.flat encPkt (q ++ ([x4]))), blk b18 (wq r m A16 ((q ++ ([x4])).length) c16 (ci + 1) co cd (bi + x4.len) bo bd) 82, blk b19 (pk x4) 74] (by exact ⟨rfl, rfl, rfl, rfl, rfl, rfl, rfl, trivial⟩) rfl ?_
                                  refine A.tn ?_
                                  refine A.cond_f rfl ?_
                                  refine A.skip ?_
                                  refine A.bn ?_
                                  refine A.tn ?_
                                  refine A.seq ?_
                                  refine A.draw [ringI encPkt 118 74 rb1 rs1 r (q ++ [x4]), blk b3 (wq r m Aw q.length cw ci co cd bi bo bd) 82, sl Aw (q.length) cw 74 6 (V.flat encPkt q), blk b5 (pk x4) 74, sl A16 ((q ++ ([x4])).length) c16 74 6 (V.flat encPkt (q ++ ([x4]))), blk b18 (wq r m A16 ((q ++ ([x4])).length) c16 (ci + 1) co cd (bi + x4.len) bo bd) 82, blk b19 (pk x4) 74] (by kernel_rfl) ?_
                                  refine A.take 0 (some 60) (.pointer (some ⟨b2, 0, none⟩)) rfl (by kernel_rfl) (by kernel_rfl) (sk (sc (sk (sk (sk (sk (sk (sk (sn))))))))) (qt_move rfl rfl) ?_
                                  refine A.take 1 (some 61) (.pointer (some ⟨b2, 0, none⟩)) rfl (by kernel_rfl) (by kernel_rfl) (sk (sc (sk (sk (sk (sk (sk (sk (sn))))))))) (qt_pure (by kernel_rfl) fun _ => by kernel_rfl) ?_
                                  refine A.take 2 (some 62) (.pointer (some ⟨b2, 2, none⟩)) rfl (by kernel_rfl) (by kernel_rfl) (sk (sc (sk (sk (sk (sk (sk (sk (sn))))))))) (qt_pure (by kernel_rfl) fun _ => by kernel_rfl) ?_
                                  refine A.take 4 (some 64) (.pointer (some ⟨b19, 1, none⟩)) rfl (by kernel_rfl) (by kernel_rfl) (sk (sc (sk (sk (sk (sk (sk (sk (sn))))))))) (qt_pure (by kernel_rfl) fun _ => by kernel_rfl) ?_
                                  refine A.take 5 (some 65) (i6 x4.len) rfl (by kernel_rfl) (by kernel_rfl) (sk (sc (sk (sk (sk (sk (sk (sk (sn))))))))) (qt_load1 rfl rfl (by kernel_rfl) (reads_blk (i := 6) rfl rfl)) ?_
                                  refine A.only 3 rfl (by kernel_rfl) (A.q (some 63) (i6 u) (by kernel_rfl) (qt_load1 rfl rfl (by kernel_rfl) (reads_blk (i := 1) rfl rfl)) ?_)
                                  refine A.and (sk (sc (sk (sk (sk (sk (sk (sk (sn))))))))) ?_
                                  refine A.take 6 (some 66) (i6 (u + x4.len)) rfl (by kernel_rfl) (by kernel_rfl) (sk (sc (sk (sk (sk (sk (sk (sk (sn))))))))) (qt_as (congrArg (Value.int .i64) (wrap_i64 (e := u + x4.len) (by constructor <;> omega))) (qt_pure (v := i6 (IntKind.i64.wrap (u + x4.len))) (by kernel_rfl) fun _ => by kernel_rfl)) ?_
                                  refine A.take 7 (some 67) (.pointer (some ⟨b2, 0, none⟩)) rfl (by kernel_rfl) (by kernel_rfl) (sk (sc (sk (sk (sk (sk (sk (sk (sn))))))))) (qt_pure (by kernel_rfl) fun _ => by kernel_rfl) ?_
                                  refine A.take 8 (some 68) (.pointer (some ⟨b2, 2, none⟩)) rfl (by kernel_rfl) (by kernel_rfl) (sk (sc (sk (sk (sk (sk (sk (sk (sn))))))))) (qt_pure (by kernel_rfl) fun _ => by kernel_rfl) ?_
                                  refine A.only 9 rfl (by kernel_rfl) (A.store 1 (vs := [(i6 (u + x4.len))]) [ringI encPkt 118 74 rb1 rs1 r (q ++ [x4]), blk b2 (qq rb1 m (u + x4.len) ci co cd bi bo bd) 112, blk b3 (wq r m Aw q.length cw ci co cd bi bo bd) 82, sl Aw (q.length) cw 74 6 (V.flat encPkt q), blk b5 (pk x4) 74, sl A16 ((q ++ ([x4])).length) c16 74 6 (V.flat encPkt (q ++ ([x4]))), blk b18 (wq r m A16 ((q ++ ([x4])).length) c16 (ci + 1) co cd (bi + x4.len) bo bd) 82, blk b19 (pk x4) 74] (by kernel_rfl) rfl rfl rfl rfl (by kernel_rfl) rfl rfl (by kernel_rfl) rfl ?_)
                                  refine A.and (sk (sc (sk (sk (sk (sk (sk (sk (sn))))))))) ?_
                                  refine A.fin (by kernel_rfl) ?_
                                  refine A.norm [(0, (.pointer (some ⟨b2, 0, none⟩))), (1, (pa x4)), (3, (.pointer (some ⟨b19, 0, none⟩))), (4, (i6 0)), (5, (.bool false)), (8, (.bool ((decide (x4.len < 1)) || (decide (x4.len > 16384))))), (17, (.bool false))] [ringI encPkt 118 74 rb1 rs1 r (q ++ [x4]), blk b2 (qq rb1 m (u + x4.len) ci co cd bi bo bd) 112, blk b3 (wq r m Aw q.length cw ci co cd bi bo bd) 82, sl Aw (q.length) cw 74 6 (V.flat encPkt q), blk b5 (pk x4) 74, sl A16 ((q ++ ([x4])).length) c16 74 6 (V.flat encPkt (q ++ ([x4]))), blk b18 (wq r m A16 ((q ++ ([x4])).length) c16 (ci + 1) co cd (bi + x4.len) bo bd) 82, blk b19 (pk x4) 74] (by exact ⟨rfl, rfl, rfl, rfl, rfl, rfl, rfl, trivial⟩) rfl ?_
                                  refine A.tn ?_
                                  refine A.seq ?_
                                  refine A.region ?_
                                  refine A.cons (A.q (some 69) (.pointer (some ⟨b2, 0, none⟩)) (by kernel_rfl) (qt_move rfl rfl) ?_)
                                  refine A.cons (A.q (some 70) (.pointer (some ⟨b2, 0, none⟩)) (by kernel_rfl) (qt_pure (by kernel_rfl) fun _ => by kernel_rfl) ?_)
                                  refine A.cons (A.q (some 71) (.pointer (some ⟨b2, 3, none⟩)) (by kernel_rfl) (qt_pure (by kernel_rfl) fun _ => by kernel_rfl) ?_)
                                  refine A.cons (A.q (some 72) (.pointer (some ⟨b2, 3, none⟩)) (by kernel_rfl) (qt_pure (by kernel_rfl) fun _ => by kernel_rfl) ?_)
                                  refine A.cons (A.q (some 73) (u6 ci) (by kernel_rfl) (qt_load1 rfl rfl (by kernel_rfl) (reads_blk (i := 1) rfl rfl)) ?_)
                                  refine A.cons (A.q (some 74) (u6 (ci + 1)) (by kernel_rfl) (qt_as (congrArg (Value.int .u64) ((wrap_u64 (e := ci + 1) (by constructor <;> omega)).trans (by first | rfl | omega : (ci + 1 : Int) = ci + 1))) (qt_pure (v := u6 (IntKind.u64.wrap (ci + 1))) (by kernel_rfl) fun _ => by kernel_rfl)) ?_)
                                  refine A.cons (A.q (some 75) (.pointer (some ⟨b2, 0, none⟩)) (by kernel_rfl) (qt_pure (by kernel_rfl) fun _ => by kernel_rfl) ?_)
                                  refine A.cons (A.q (some 76) (.pointer (some ⟨b2, 3, none⟩)) (by kernel_rfl) (qt_pure (by kernel_rfl) fun _ => by kernel_rfl) ?_)
                                  refine A.cons (A.q (some 77) (.pointer (some ⟨b2, 3, none⟩)) (by kernel_rfl) (qt_pure (by kernel_rfl) fun _ => by kernel_rfl) ?_)
                                  refine A.cons (A.store 1 (vs := [(u6 (ci + 1))]) [ringI encPkt 118 74 rb1 rs1 r (q ++ [x4]), blk b2 (qq rb1 m (u + x4.len) (ci + 1) co cd bi bo bd) 112, blk b3 (wq r m Aw q.length cw ci co cd bi bo bd) 82, sl Aw (q.length) cw 74 6 (V.flat encPkt q), blk b5 (pk x4) 74, sl A16 ((q ++ ([x4])).length) c16 74 6 (V.flat encPkt (q ++ ([x4]))), blk b18 (wq r m A16 ((q ++ ([x4])).length) c16 (ci + 1) co cd (bi + x4.len) bo bd) 82, blk b19 (pk x4) 74] (by kernel_rfl) rfl rfl rfl rfl (by kernel_rfl) rfl rfl (by kernel_rfl) rfl ?_)
                                  refine A.done ?_
                                  refine A.norm [(0, (.pointer (some ⟨b2, 0, none⟩))), (1, (pa x4)), (3, (.pointer (some ⟨b19, 0, none⟩))), (4, (i6 0)), (5, (.bool false)), (8, (.bool ((decide (x4.len < 1)) || (decide (x4.len > 16384))))), (17, (.bool false))] [ringI encPkt 118 74 rb1 rs1 r (q ++ [x4]), blk b2 (qq rb1 m (u + x4.len) (ci + 1) co cd bi bo bd) 112, blk b3 (wq r m Aw q.length cw ci co cd bi bo bd) 82, sl Aw (q.length) cw 74 6 (V.flat encPkt q), blk b5 (pk x4) 74, sl A16 ((q ++ ([x4])).length) c16 74 6 (V.flat encPkt (q ++ ([x4]))), blk b18 (wq r m A16 ((q ++ ([x4])).length) c16 (ci + 1) co cd (bi + x4.len) bo bd) 82, blk b19 (pk x4) 74] (by exact ⟨rfl, rfl, rfl, rfl, rfl, rfl, rfl, trivial⟩) rfl ?_
                                  refine A.tn ?_
                                  refine A.seq ?_
                                  refine A.draw [ringI encPkt 118 74 rb1 rs1 r (q ++ [x4]), blk b3 (wq r m Aw q.length cw ci co cd bi bo bd) 82, sl Aw (q.length) cw 74 6 (V.flat encPkt q), blk b5 (pk x4) 74, sl A16 ((q ++ ([x4])).length) c16 74 6 (V.flat encPkt (q ++ ([x4]))), blk b18 (wq r m A16 ((q ++ ([x4])).length) c16 (ci + 1) co cd (bi + x4.len) bo bd) 82, blk b19 (pk x4) 74] (by kernel_rfl) ?_
                                  refine A.take 0 (some 78) (.pointer (some ⟨b2, 0, none⟩)) rfl (by kernel_rfl) (by kernel_rfl) (sk (sc (sk (sk (sk (sk (sk (sk (sn))))))))) (qt_move rfl rfl) ?_
                                  refine A.take 1 (some 79) (.pointer (some ⟨b2, 0, none⟩)) rfl (by kernel_rfl) (by kernel_rfl) (sk (sc (sk (sk (sk (sk (sk (sk (sn))))))))) (qt_pure (by kernel_rfl) fun _ => by kernel_rfl) ?_
                                  refine A.take 2 (some 80) (.pointer (some ⟨b2, 3, none⟩)) rfl (by kernel_rfl) (by kernel_rfl) (sk (sc (sk (sk (sk (sk (sk (sk (sn))))))))) (qt_pure (by kernel_rfl) fun _ => by kernel_rfl) ?_
                                  refine A.take 3 (some 81) (.pointer (some ⟨b2, 6, none⟩)) rfl (by kernel_rfl) (by kernel_rfl) (sk (sc (sk (sk (sk (sk (sk (sk (sn))))))))) (qt_pure (by kernel_rfl) fun _ => by kernel_rfl) ?_
                                  refine A.take 5 (some 83) (.pointer (some ⟨b19, 1, none⟩)) rfl (by kernel_rfl) (by kernel_rfl) (sk (sc (sk (sk (sk (sk (sk (sk (sn))))))))) (qt_pure (by kernel_rfl) fun _ => by kernel_rfl) ?_
                                  refine A.take 6 (some 84) (i6 x4.len) rfl (by kernel_rfl) (by kernel_rfl) (sk (sc (sk (sk (sk (sk (sk (sk (sn))))))))) (qt_load1 rfl rfl (by kernel_rfl) (reads_blk (i := 6) rfl rfl)) ?_
                                  refine A.take 7 (some 85) (u6 x4.len) rfl (by kernel_rfl) (by kernel_rfl) (sk (sc (sk (sk (sk (sk (sk (sk (sn))))))))) (qt_as (congrArg (Value.int .u64) ((wrap_u64 (e := x4.len) (by constructor <;> omega)).trans (by first | rfl | omega : (x4.len : Int) = x4.len))) (qt_pure (v := u6 (IntKind.u64.wrap (x4.len))) (by kernel_rfl) fun _ => by kernel_rfl)) ?_
                                  refine A.only 4 rfl (by kernel_rfl) (A.q (some 82) (u6 bi) (by kernel_rfl) (qt_load1 rfl rfl (by kernel_rfl) (reads_blk (i := 1) rfl rfl)) ?_)
                                  refine A.and (sk (sc (sk (sk (sk (sk (sk (sk (sn))))))))) ?_
                                  refine A.take 8 (some 86) (u6 (bi + x4.len)) rfl (by kernel_rfl) (by kernel_rfl) (sk (sc (sk (sk (sk (sk (sk (sk (sn))))))))) (qt_as (congrArg (Value.int .u64) ((wrap_u64 (e := bi + x4.len) (by constructor <;> omega)).trans (by first | rfl | omega : (bi + x4.len : Int) = bi + x4.len))) (qt_pure (v := u6 (IntKind.u64.wrap (bi + x4.len))) (by kernel_rfl) fun _ => by kernel_rfl)) ?_
                                  refine A.take 9 (some 87) (.pointer (some ⟨b2, 0, none⟩)) rfl (by kernel_rfl) (by kernel_rfl) (sk (sc (sk (sk (sk (sk (sk (sk (sn))))))))) (qt_pure (by kernel_rfl) fun _ => by kernel_rfl) ?_
                                  refine A.take 10 (some 88) (.pointer (some ⟨b2, 3, none⟩)) rfl (by kernel_rfl) (by kernel_rfl) (sk (sc (sk (sk (sk (sk (sk (sk (sn))))))))) (qt_pure (by kernel_rfl) fun _ => by kernel_rfl) ?_
                                  refine A.take 11 (some 89) (.pointer (some ⟨b2, 6, none⟩)) rfl (by kernel_rfl) (by kernel_rfl) (sk (sc (sk (sk (sk (sk (sk (sk (sn))))))))) (qt_pure (by kernel_rfl) fun _ => by kernel_rfl) ?_
                                  refine A.only 12 rfl (by kernel_rfl) (A.store 1 (vs := [(u6 (bi + x4.len))]) [ringI encPkt 118 74 rb1 rs1 r (q ++ [x4]), blk b2 (qq rb1 m (u + x4.len) (ci + 1) co cd (bi + x4.len) bo bd) 112, blk b3 (wq r m Aw q.length cw ci co cd bi bo bd) 82, sl Aw (q.length) cw 74 6 (V.flat encPkt q), blk b5 (pk x4) 74, sl A16 ((q ++ ([x4])).length) c16 74 6 (V.flat encPkt (q ++ ([x4]))), blk b18 (wq r m A16 ((q ++ ([x4])).length) c16 (ci + 1) co cd (bi + x4.len) bo bd) 82, blk b19 (pk x4) 74] (by kernel_rfl) rfl rfl rfl rfl (by kernel_rfl) rfl rfl (by kernel_rfl) rfl ?_)
                                  refine A.and (sk (sc (sk (sk (sk (sk (sk (sk (sn))))))))) ?_
                                  refine A.fin (by kernel_rfl) ?_
                                  refine A.norm [(0, (.pointer (some ⟨b2, 0, none⟩))), (1, (pa x4)), (3, (.pointer (some ⟨b19, 0, none⟩))), (4, (i6 0)), (5, (.bool false)), (8, (.bool ((decide (x4.len < 1)) || (decide (x4.len > 16384))))), (17, (.bool false))] [ringI encPkt 118 74 rb1 rs1 r (q ++ [x4]), blk b2 (qq rb1 m (u + x4.len) (ci + 1) co cd (bi + x4.len) bo bd) 112, blk b3 (wq r m Aw q.length cw ci co cd bi bo bd) 82, sl Aw (q.length) cw 74 6 (V.flat encPkt q), blk b5 (pk x4) 74, sl A16 ((q ++ ([x4])).length) c16 74 6 (V.flat encPkt (q ++ ([x4]))), blk b18 (wq r m A16 ((q ++ ([x4])).length) c16 (ci + 1) co cd (bi + x4.len) bo bd) 82, blk b19 (pk x4) 74] (by exact ⟨rfl, rfl, rfl, rfl, rfl, rfl, rfl, trivial⟩) rfl ?_
                                  refine A.tn ?_
                                  refine A.seq ?_
                                  refine A.region ?_
                                  refine A.cons (A.q (some 4) (i6 0) (by kernel_rfl) (qt_assign rfl rfl) ?_)
                                  refine A.done ?_
                                  refine A.norm [(0, (.pointer (some ⟨b2, 0, none⟩))), (1, (pa x4)), (3, (.pointer (some ⟨b19, 0, none⟩))), (4, (i6 0)), (5, (.bool false)), (8, (.bool ((decide (x4.len < 1)) || (decide (x4.len > 16384))))), (17, (.bool false))] [ringI encPkt 118 74 rb1 rs1 r (q ++ [x4]), blk b2 (qq rb1 m (u + x4.len) (ci + 1) co cd (bi + x4.len) bo bd) 112, blk b3 (wq r m Aw q.length cw ci co cd bi bo bd) 82, sl Aw (q.length) cw 74 6 (V.flat encPkt q), blk b5 (pk x4) 74, sl A16 ((q ++ ([x4])).length) c16 74 6 (V.flat encPkt (q ++ ([x4]))), blk b18 (wq r m A16 ((q ++ ([x4])).length) c16 (ci + 1) co cd (bi + x4.len) bo bd) 82, blk b19 (pk x4) 74] (by exact ⟨rfl, rfl, rfl, rfl, rfl, rfl, rfl, trivial⟩) rfl ?_
                                  refine A.tn ?_
                                  refine A.ret ?_
                                  refine A.post [(i6 0)] (fun a w rr s => ⟨rv_tmp rr rfl, trivial⟩) (A.back (by kernel_rfl) ?_)
                                  refine A.items [ringI encPkt 118 74 rb1 rs1 r (q ++ [x4]), blk b2 (qq rb1 m (u + x4.len) (ci + 1) co cd (bi + x4.len) bo bd) 112, blk b3 (wq r m Aw q.length cw ci co cd bi bo bd) 82, sl Aw (q.length) cw 74 6 (V.flat encPkt q), blk b5 (pk x4) 74, sl A16 ((q ++ ([x4])).length) c16 74 6 (V.flat encPkt (q ++ ([x4]))), blk b18 (wq r m A16 ((q ++ ([x4])).length) c16 (ci + 1) co cd (bi + x4.len) bo bd) 82] (sk (sk (sk (sk (sk (sk (sk (sc (sn))))))))) ?_
                                  refine A.cons (A.q (some 71) (i6 0) (by kernel_rfl) (qt_move rfl rfl) ?_)
                                  refine A.cons (A.q (some 72) (.bool false) (by kernel_rfl) (qt_pure (by kernel_rfl) fun _ => by kernel_rfl) ?_)
                                  refine A.done ?_
                                  refine A.norm [(7, (.pointer (some ⟨b2, 0, none⟩))), (8, (i6 0)), (9, (.pointer (some ⟨b3, 0, none⟩))), (53, (.slice A0 l.length c0)), (54, (i6 (l.length : Int))), (55, (i6 (k : Int))), (56, (.bool (decide ((k : Int) < (l.length : Int))))), (11, (.pointer (some ⟨b5, 0, none⟩))), (61, (.bool (x4.id != 0))), (12, (.pointer (some ⟨b18, 0, none⟩))), (13, (i6 0)), (72, (.bool false))] [ringI encPkt 118 74 rb1 rs1 r (q ++ [x4]), blk b2 (qq rb1 m (u + x4.len) (ci + 1) co cd (bi + x4.len) bo bd) 112, blk b3 (wq r m Aw q.length cw ci co cd bi bo bd) 82, sl Aw (q.length) cw 74 6 (V.flat encPkt q), blk b5 (pk x4) 74, sl A16 ((q ++ ([x4])).length) c16 74 6 (V.flat encPkt (q ++ ([x4]))), blk b18 (wq r m A16 ((q ++ ([x4])).length) c16 (ci + 1) co cd (bi + x4.len) bo bd) 82] (by exact ⟨rfl, rfl, rfl, rfl, rfl, rfl, rfl, rfl, rfl, rfl, rfl, rfl, trivial⟩) rfl ?_
                                  refine A.tn ?_
                                  refine A.cond_f rfl ?_
                                  refine A.skip ?_
                                  refine A.tn ?_
                                  refine A.region ?_
                                  refine A.cons (A.q (some 73) (.agg (wq r m A16 ((q ++ ([x4])).length) c16 (ci + 1) co cd (bi + x4.len) bo bd).toArray) (by kernel_rfl) (qt_loadN (vs := (wq r m A16 ((q ++ ([x4])).length) c16 (ci + 1) co cd (bi + x4.len) bo bd)) rfl rfl (by kernel_rfl) (reads_blk (i := 6) rfl rfl)) ?_)
                                  refine A.cons (A.store 2 (vs := (wq r m A16 ((q ++ ([x4])).length) c16 (ci + 1) co cd (bi + x4.len) bo bd)) [ringI encPkt 118 74 rb1 rs1 r (q ++ [x4]), blk b2 (qq rb1 m (u + x4.len) (ci + 1) co cd (bi + x4.len) bo bd) 112, blk b3 (wq r m A16 ((q ++ ([x4])).length) c16 (ci + 1) co cd (bi + x4.len) bo bd) 82, sl Aw (q.length) cw 74 6 (V.flat encPkt q), blk b5 (pk x4) 74, sl A16 ((q ++ ([x4])).length) c16 74 6 (V.flat encPkt (q ++ ([x4]))), blk b18 (wq r m A16 ((q ++ ([x4])).length) c16 (ci + 1) co cd (bi + x4.len) bo bd) 82] (by kernel_rfl) rfl rfl rfl rfl (by kernel_rfl) rfl rfl (by kernel_rfl) rfl ?_)
                                  refine A.done ?_
                                  refine A.norm [(7, (.pointer (some ⟨b2, 0, none⟩))), (8, (i6 0)), (9, (.pointer (some ⟨b3, 0, none⟩))), (53, (.slice A0 l.length c0)), (54, (i6 (l.length : Int))), (55, (i6 (k : Int))), (56, (.bool (decide ((k : Int) < (l.length : Int))))), (11, (.pointer (some ⟨b5, 0, none⟩))), (61, (.bool (x4.id != 0))), (12, (.pointer (some ⟨b18, 0, none⟩))), (13, (i6 0)), (72, (.bool false))] [ringI encPkt 118 74 rb1 rs1 r (q ++ [x4]), blk b2 (qq rb1 m (u + x4.len) (ci + 1) co cd (bi + x4.len) bo bd) 112, blk b3 (wq r m A16 ((q ++ ([x4])).length) c16 (ci + 1) co cd (bi + x4.len) bo bd) 82, sl Aw (q.length) cw 74 6 (V.flat encPkt q), blk b5 (pk x4) 74, sl A16 ((q ++ ([x4])).length) c16 74 6 (V.flat encPkt (q ++ ([x4]))), blk b18 (wq r m A16 ((q ++ ([x4])).length) c16 (ci + 1) co cd (bi + x4.len) bo bd) 82] (by exact ⟨rfl, rfl, rfl, rfl, rfl, rfl, rfl, rfl, rfl, rfl, rfl, rfl, trivial⟩) rfl ?_
                                  refine A.tn ?_
                                  refine A.meet (q ++ [x4], A16, c16, u + x4.len, ci + 1, co, cd, bi + x4.len, bo, bd) (⟨hk, by simp only [List.length_append, List.length_cons, List.length_nil]; omega, by rw [lens_snoc, hu], by omega, fun z hz => by rcases List.mem_append.1 hz with hz | hz; exact hv z hz; (simp at hz; subst hz; exact ⟨by omega, by omega⟩), by simp only [List.length_append, List.length_cons, List.length_nil]; omega, by omega, by omega, by omega, by omega, by omega⟩) ?_
                                  exact A.here (by exact ⟨rfl, rfl, rfl, rfl, rfl, rfl, trivial⟩) (sk (sk (sk (sc (sc (sk (sc (sn))))))))
                  · skip
                    have p9 := e9; try simp only [decide_eq_true_eq, decide_eq_false_iff_not, beq_iff_eq, beq_eq_false_iff_ne, bne_iff_ne, bne_eq_false_iff_eq, ne_eq, Bool.and_eq_true, Bool.or_eq_true, Bool.or_eq_false_iff, Bool.not_eq_true', Bool.not_eq_false', Int.not_lt, Int.not_le, gt_iff_lt, ge_iff_le, Classical.not_not] at p9
                    refine A.seq ?_
                    refine A.region ?_
                    refine A.cons (A.q (some 75) (.pointer (some ⟨b2, 0, none⟩)) (by kernel_rfl) (qt_move rfl rfl) ?_)
                    refine A.cons (A.inl (some 76) [(.pointer (some ⟨b2, 0, none⟩))] [(0, (.pointer (some ⟨b2, 0, none⟩)))] (by kernel_rfl) rfl (by kernel_rfl) rfl Try.func44 rfl rfl rfl ?_)
                    refine A.seq ?_
                    refine A.region ?_
                    refine A.cons (A.alloc 2 [(u6 0), (i6 0), (w6 0), (w6 0), (w6 0), (w6 0)] (by kernel_rfl) rfl (by kernel_rfl) (fun b20 => [ringI encPkt 118 74 rb1 rs1 r q, blk b2 (qq rb1 m u ci co cd bi bo bd) 112, blk b3 (wq r m Aw q.length cw ci co cd bi bo bd) 82, sl Aw (q.length) cw 74 6 (V.flat encPkt q), blk b5 (pk x4) 74, blk b20 [(u6 0), (i6 0), (w6 0), (w6 0), (w6 0), (w6 0)] 74]) (fun _ => rfl) ?_)
                    intro b20
                    refine A.cons (A.q (some 3) (i6 0) (by kernel_rfl) (qt_assign rfl rfl) ?_)
                    refine A.done ?_
                    refine A.norm [(0, (.pointer (some ⟨b2, 0, none⟩))), (2, (.pointer (some ⟨b20, 0, none⟩))), (3, (i6 0))] [ringI encPkt 118 74 rb1 rs1 r q, blk b2 (qq rb1 m u ci co cd bi bo bd) 112, blk b3 (wq r m Aw q.length cw ci co cd bi bo bd) 82, sl Aw (q.length) cw 74 6 (V.flat encPkt q), blk b5 (pk x4) 74, blk b20 [(u6 0), (i6 0), (w6 0), (w6 0), (w6 0), (w6 0)] 74] (by exact ⟨rfl, rfl, rfl, trivial⟩) rfl ?_
                    refine A.tn ?_
                    refine A.seq ?_
                    refine A.seq ?_
                    refine A.region ?_
                    refine A.cons (A.q (some 6) (.pointer (some ⟨b2, 0, none⟩)) (by kernel_rfl) (qt_move rfl rfl) ?_)
                    refine A.cons (A.q (some 7) (.bool false) (by kernel_rfl) (qt_pure (by kernel_rfl) fun _ => by kernel_rfl) ?_)
                    refine A.done ?_
                    refine A.norm [(0, (.pointer (some ⟨b2, 0, none⟩))), (2, (.pointer (some ⟨b20, 0, none⟩))), (3, (i6 0)), (7, (.bool false))] [ringI encPkt 118 74 rb1 rs1 r q, blk b2 (qq rb1 m u ci co cd bi bo bd) 112, blk b3 (wq r m Aw q.length cw ci co cd bi bo bd) 82, sl Aw (q.length) cw 74 6 (V.flat encPkt q), blk b5 (pk x4) 74, blk b20 [(u6 0), (i6 0), (w6 0), (w6 0), (w6 0), (w6 0)] 74] (by exact ⟨rfl, rfl, rfl, rfl, trivial⟩) rfl ?_
                    refine A.tn ?_
                    refine A.cond_f rfl ?_
                    refine A.skip ?_
                    refine A.tn ?_
                    refine A.seq ?_
                    refine A.region ?_
                    refine A.cons (A.q (some 10) (.pointer (some ⟨b2, 0, none⟩)) (by kernel_rfl) (qt_move rfl rfl) ?_)
                    refine A.cons (A.q (some 11) (.pointer (some ⟨b2, 0, none⟩)) (by kernel_rfl) (qt_pure (by kernel_rfl) fun _ => by kernel_rfl) ?_)
                    refine A.cons (A.q (some 12) (.pointer (some ⟨b2, 0, none⟩)) (by kernel_rfl) (qt_pure (by kernel_rfl) fun _ => by kernel_rfl) ?_)
                    refine A.cons (A.q (some 13) (.pointer (some ⟨rb1, 0, none⟩)) (by kernel_rfl) (qt_load1 rfl rfl (by kernel_rfl) (reads_blk (i := 1) rfl rfl)) ?_)
                    rcases q with _ | ⟨y21, q21⟩
                    · skip
                      refine A.cons (A.q (some 14) (.tuple #[(.agg #[(u6 0), (i6 0), (w6 0), (w6 0), (w6 0), (w6 0)]), (i6 6)]) (by kernel_rfl) (qt_call [(.pointer (some ⟨rb1, 0, none⟩))] rfl (by kernel_rfl) rfl (fun w s => ringP_popNone rb1 rs1 r w (s.mem (i := 0) rfl))) ?_)
                      refine A.cons (A.q (some 9) (.tuple #[(.agg #[(u6 0), (i6 0), (w6 0), (w6 0), (w6 0), (w6 0)]), (i6 6)]) (by kernel_rfl) (qt_move rfl rfl) ?_)
                      refine A.cons (A.q (some 15) (.agg #[(u6 0), (i6 0), (w6 0), (w6 0), (w6 0), (w6 0)]) (by kernel_rfl) (qt_pure (by kernel_rfl) fun _ => by kernel_rfl) ?_)
                      refine A.cons (A.q (some 16) (i6 6) (by kernel_rfl) (qt_pure (by kernel_rfl) fun _ => by kernel_rfl) ?_)
                      refine A.cons (A.alloc 4 [(u6 0), (i6 0), (w6 0), (w6 0), (w6 0), (w6 0)] (by kernel_rfl) rfl (by kernel_rfl) (fun b22 => [ringI encPkt 118 74 rb1 rs1 r ([] : List Pkt), blk b2 (qq rb1 m u ci co cd bi bo bd) 112, blk b3 (wq r m Aw (([] : List Pkt).length) cw ci co cd bi bo bd) 82, sl Aw (([] : List Pkt).length) cw 74 6 (V.flat encPkt ([] : List Pkt)), blk b5 (pk x4) 74, blk b20 [(u6 0), (i6 0), (w6 0), (w6 0), (w6 0), (w6 0)] 74, blk b22 [(u6 0), (i6 0), (w6 0), (w6 0), (w6 0), (w6 0)] 74]) (fun _ => rfl) ?_)
                      intro b22
                      refine A.cons (A.store 6 (vs := [(u6 0), (i6 0), (w6 0), (w6 0), (w6 0), (w6 0)]) [ringI encPkt 118 74 rb1 rs1 r ([] : List Pkt), blk b2 (qq rb1 m u ci co cd bi bo bd) 112, blk b3 (wq r m Aw (([] : List Pkt).length) cw ci co cd bi bo bd) 82, sl Aw (([] : List Pkt).length) cw 74 6 (V.flat encPkt ([] : List Pkt)), blk b5 (pk x4) 74, blk b20 [(u6 0), (i6 0), (w6 0), (w6 0), (w6 0), (w6 0)] 74, blk b22 [(u6 0), (i6 0), (w6 0), (w6 0), (w6 0), (w6 0)] 74] (by kernel_rfl) rfl rfl rfl rfl (by kernel_rfl) rfl rfl (by kernel_rfl) rfl ?_)
                      refine A.cons (A.q (some 5) (i6 6) (by kernel_rfl) (qt_assign rfl rfl) ?_)
                      refine A.done ?_
                      refine A.norm [(0, (.pointer (some ⟨b2, 0, none⟩))), (2, (.pointer (some ⟨b20, 0, none⟩))), (3, (i6 0)), (7, (.bool false)), (4, (.pointer (some ⟨b22, 0, none⟩))), (5, (i6 6))] [ringI encPkt 118 74 rb1 rs1 r ([] : List Pkt), blk b2 (qq rb1 m u ci co cd bi bo bd) 112, blk b3 (wq r m Aw (([] : List Pkt).length) cw ci co cd bi bo bd) 82, sl Aw (([] : List Pkt).length) cw 74 6 (V.flat encPkt ([] : List Pkt)), blk b5 (pk x4) 74, blk b20 [(u6 0), (i6 0), (w6 0), (w6 0), (w6 0), (w6 0)] 74, blk b22 [(u6 0), (i6 0), (w6 0), (w6 0), (w6 0), (w6 0)] 74] (by exact ⟨rfl, rfl, rfl, rfl, rfl, rfl, trivial⟩) rfl ?_
                      refine A.tn ?_
                      refine A.seq ?_
                      refine A.seq ?_
                      refine A.region ?_
                      refine A.cons (A.q (some 17) (i6 6) (by kernel_rfl) (qt_move rfl rfl) ?_)
                      refine A.cons (A.q (some 18) (.bool true) (by kernel_rfl) (qt_pure (by kernel_rfl) fun _ => by kernel_rfl) ?_)
                      refine A.done ?_
                      refine A.norm [(0, (.pointer (some ⟨b2, 0, none⟩))), (2, (.pointer (some ⟨b20, 0, none⟩))), (3, (i6 0)), (7, (.bool false)), (4, (.pointer (some ⟨b22, 0, none⟩))), (5, (i6 6)), (18, (.bool true))] [ringI encPkt 118 74 rb1 rs1 r ([] : List Pkt), blk b2 (qq rb1 m u ci co cd bi bo bd) 112, blk b3 (wq r m Aw (([] : List Pkt).length) cw ci co cd bi bo bd) 82, sl Aw (([] : List Pkt).length) cw 74 6 (V.flat encPkt ([] : List Pkt)), blk b5 (pk x4) 74, blk b20 [(u6 0), (i6 0), (w6 0), (w6 0), (w6 0), (w6 0)] 74, blk b22 [(u6 0), (i6 0), (w6 0), (w6 0), (w6 0), (w6 0)] 74] (by exact ⟨rfl, rfl, rfl, rfl, rfl, rfl, rfl, trivial⟩) rfl ?_
                      refine A.tn ?_
                      refine A.cond_t rfl ?_
                      refine A.seq ?_
                      refine A.region ?_
                      refine A.cons (A.q (some 19) (.agg #[(u6 0), (i6 0), (w6 0), (w6 0), (w6 0), (w6 0)]) (by kernel_rfl) (qt_pure (by kernel_rfl) fun _ => by kernel_rfl) ?_)
                      refine A.cons (A.q (some 20) (i6 6) (by kernel_rfl) (qt_move rfl rfl) ?_)
                      refine A.cons (A.store 5 (vs := [(u6 0), (i6 0), (w6 0), (w6 0), (w6 0), (w6 0)]) [ringI encPkt 118 74 rb1 rs1 r ([] : List Pkt), blk b2 (qq rb1 m u ci co cd bi bo bd) 112, blk b3 (wq r m Aw (([] : List Pkt).length) cw ci co cd bi bo bd) 82, sl Aw (([] : List Pkt).length) cw 74 6 (V.flat encPkt ([] : List Pkt)), blk b5 (pk x4) 74, blk b20 [(u6 0), (i6 0), (w6 0), (w6 0), (w6 0), (w6 0)] 74, blk b22 [(u6 0), (i6 0), (w6 0), (w6 0), (w6 0), (w6 0)] 74] (by kernel_rfl) rfl rfl rfl rfl (by kernel_rfl) rfl rfl (by kernel_rfl) rfl ?_)
                      refine A.cons (A.q (some 3) (i6 6) (by kernel_rfl) (qt_assign rfl rfl) ?_)
                      refine A.done ?_
                      refine A.norm [(0, (.pointer (some ⟨b2, 0, none⟩))), (2, (.pointer (some ⟨b20, 0, none⟩))), (3, (i6 6)), (7, (.bool false)), (4, (.pointer (some ⟨b22, 0, none⟩))), (5, (i6 6)), (18, (.bool true))] [ringI encPkt 118 74 rb1 rs1 r ([] : List Pkt), blk b2 (qq rb1 m u ci co cd bi bo bd) 112, blk b3 (wq r m Aw (([] : List Pkt).length) cw ci co cd bi bo bd) 82, sl Aw (([] : List Pkt).length) cw 74 6 (V.flat encPkt ([] : List Pkt)), blk b5 (pk x4) 74, blk b20 [(u6 0), (i6 0), (w6 0), (w6 0), (w6 0), (w6 0)] 74, blk b22 [(u6 0), (i6 0), (w6 0), (w6 0), (w6 0), (w6 0)] 74] (by exact ⟨rfl, rfl, rfl, rfl, rfl, rfl, rfl, trivial⟩) rfl ?_
                      refine A.tn ?_
                      refine A.ret ?_
                      refine A.tr ?_
                      refine A.post [(.agg #[(u6 0), (i6 0), (w6 0), (w6 0), (w6 0), (w6 0)]), (i6 6)] (fun a w rr s => ⟨rv_cellN (vs := [(u6 0), (i6 0), (w6 0), (w6 0), (w6 0), (w6 0)]) rr s rfl (by kernel_rfl) (reads_blk (i := 5) (off := 0) rfl rfl), rv_tmp rr rfl, trivial⟩) (A.back (by kernel_rfl) ?_)
                      refine A.items [ringI encPkt 118 74 rb1 rs1 r ([] : List Pkt), blk b2 (qq rb1 m u ci co cd bi bo bd) 112, blk b3 (wq r m Aw (([] : List Pkt).length) cw ci co cd bi bo bd) 82, sl Aw (([] : List Pkt).length) cw 74 6 (V.flat encPkt ([] : List Pkt)), blk b5 (pk x4) 74] (sk (sk (sk (sk (sk (sc (sc (sn)))))))) ?_
                      refine A.cons (A.q (some 74) (.tuple #[(.agg #[(u6 0), (i6 0), (w6 0), (w6 0), (w6 0), (w6 0)]), (i6 6)]) (by kernel_rfl) (qt_move rfl rfl) ?_)
                      refine A.cons (A.q (some 77) (.agg #[(u6 0), (i6 0), (w6 0), (w6 0), (w6 0), (w6 0)]) (by kernel_rfl) (qt_pure (by kernel_rfl) fun _ => by kernel_rfl) ?_)
                      refine A.cons (A.q (some 78) (i6 6) (by kernel_rfl) (qt_pure (by kernel_rfl) fun _ => by kernel_rfl) ?_)
                      refine A.cons (A.alloc 14 [(u6 0), (i6 0), (w6 0), (w6 0), (w6 0), (w6 0)] (by kernel_rfl) rfl (by kernel_rfl) (fun b23 => [ringI encPkt 118 74 rb1 rs1 r ([] : List Pkt), blk b2 (qq rb1 m u ci co cd bi bo bd) 112, blk b3 (wq r m Aw (([] : List Pkt).length) cw ci co cd bi bo bd) 82, sl Aw (([] : List Pkt).length) cw 74 6 (V.flat encPkt ([] : List Pkt)), blk b5 (pk x4) 74, blk b23 [(u6 0), (i6 0), (w6 0), (w6 0), (w6 0), (w6 0)] 74]) (fun _ => rfl) ?_)
                      intro b23
                      refine A.cons (A.store 5 (vs := [(u6 0), (i6 0), (w6 0), (w6 0), (w6 0), (w6 0)]) [ringI encPkt 118 74 rb1 rs1 r ([] : List Pkt), blk b2 (qq rb1 m u ci co cd bi bo bd) 112, blk b3 (wq r m Aw (([] : List Pkt).length) cw ci co cd bi bo bd) 82, sl Aw (([] : List Pkt).length) cw 74 6 (V.flat encPkt ([] : List Pkt)), blk b5 (pk x4) 74, blk b23 [(u6 0), (i6 0), (w6 0), (w6 0), (w6 0), (w6 0)] 74] (by kernel_rfl) rfl rfl rfl rfl (by kernel_rfl) rfl rfl (by kernel_rfl) rfl ?_)
                      refine A.cons (A.q (some 15) (i6 6) (by kernel_rfl) (qt_assign rfl rfl) ?_)
                      refine A.done ?_
                      refine A.norm [(7, (.pointer (some ⟨b2, 0, none⟩))), (8, (i6 0)), (9, (.pointer (some ⟨b3, 0, none⟩))), (53, (.slice A0 l.length c0)), (54, (i6 (l.length : Int))), (55, (i6 (k : Int))), (56, (.bool (decide ((k : Int) < (l.length : Int))))), (11, (.pointer (some ⟨b5, 0, none⟩))), (61, (.bool (x4.id != 0))), (14, (.pointer (some ⟨b23, 0, none⟩))), (15, (i6 6))] [ringI encPkt 118 74 rb1 rs1 r ([] : List Pkt), blk b2 (qq rb1 m u ci co cd bi bo bd) 112, blk b3 (wq r m Aw (([] : List Pkt).length) cw ci co cd bi bo bd) 82, sl Aw (([] : List Pkt).length) cw 74 6 (V.flat encPkt ([] : List Pkt)), blk b5 (pk x4) 74, blk b23 [(u6 0), (i6 0), (w6 0), (w6 0), (w6 0), (w6 0)] 74] (by exact ⟨rfl, rfl, rfl, rfl, rfl, rfl, rfl, rfl, rfl, rfl, rfl, trivial⟩) rfl ?_
                      refine A.tn ?_
                      refine A.seq ?_
                      refine A.region ?_
                      refine A.cons (A.q (some 79) (.pointer (some ⟨b3, 2, none⟩)) (by kernel_rfl) (qt_pure (by kernel_rfl) fun _ => by kernel_rfl) ?_)
                      refine A.cons (A.q (some 80) (.slice Aw (([] : List Pkt).length) cw) (by kernel_rfl) (qt_load1 rfl rfl (by kernel_rfl) (reads_blk (i := 2) rfl rfl)) ?_)
                      refine A.cons (A.q (some 81) (i6 0) (by kernel_rfl) (qt_pure (by kernel_rfl) fun _ => by kernel_rfl) ?_)
                      refine A.cons (A.q (some 82) (.bool true) (by kernel_rfl) (qt_pure (by kernel_rfl) fun _ => by kernel_rfl) ?_)
                      refine A.done ?_
                      refine A.norm [(7, (.pointer (some ⟨b2, 0, none⟩))), (8, (i6 0)), (9, (.pointer (some ⟨b3, 0, none⟩))), (53, (.slice A0 l.length c0)), (54, (i6 (l.length : Int))), (55, (i6 (k : Int))), (56, (.bool (decide ((k : Int) < (l.length : Int))))), (11, (.pointer (some ⟨b5, 0, none⟩))), (61, (.bool (x4.id != 0))), (14, (.pointer (some ⟨b23, 0, none⟩))), (15, (i6 6)), (82, (.bool true))] [ringI encPkt 118 74 rb1 rs1 r ([] : List Pkt), blk b2 (qq rb1 m u ci co cd bi bo bd) 112, blk b3 (wq r m Aw (([] : List Pkt).length) cw ci co cd bi bo bd) 82, sl Aw (([] : List Pkt).length) cw 74 6 (V.flat encPkt ([] : List Pkt)), blk b5 (pk x4) 74, blk b23 [(u6 0), (i6 0), (w6 0), (w6 0), (w6 0), (w6 0)] 74] (by exact ⟨rfl, rfl, rfl, rfl, rfl, rfl, rfl, rfl, rfl, rfl, rfl, rfl, trivial⟩) rfl ?_
                      refine A.tn ?_
                      refine A.cond_t rfl ?_
                      refine A.seq ?_
                      refine A.region ?_
                      refine A.cons (A.q (some 83) (i6 6) (by kernel_rfl) (qt_move rfl rfl) ?_)
                      refine A.cons (A.q (some 84) (.bool false) (by kernel_rfl) (qt_pure (by kernel_rfl) fun _ => by kernel_rfl) ?_)
                      refine A.cons (A.q (some 85) (.bool false) (by kernel_rfl) (qt_move rfl rfl) ?_)
                      refine A.cons (A.q (some 86) (.agg #[(u6 0), (i6 0), (w6 0), (w6 0), (w6 0), (w6 0)]) (by kernel_rfl) (qt_loadN (vs := [(u6 0), (i6 0), (w6 0), (w6 0), (w6 0), (w6 0)]) rfl rfl (by kernel_rfl) (reads_blk (i := 5) rfl rfl)) ?_)
                      refine A.cons (A.q (some 87) (.agg #[(u6 0), (i6 0), (w6 0), (w6 0), (w6 0), (w6 0)]) (by kernel_rfl) (qt_pure (by kernel_rfl) fun _ => by kernel_rfl) ?_)
                      refine A.cons (A.q (some 88) (.bool false) (by kernel_rfl) (qt_neqA (b := true) rfl rfl rfl (by kernel_rfl) (by kernel_rfl)) ?_)
                      refine A.cons (A.q (some 89) (.bool false) (by kernel_rfl) (qt_pure (by kernel_rfl) fun _ => by kernel_rfl) ?_)
                      refine A.done ?_
                      refine A.norm [(7, (.pointer (some ⟨b2, 0, none⟩))), (8, (i6 0)), (9, (.pointer (some ⟨b3, 0, none⟩))), (53, (.slice A0 l.length c0)), (54, (i6 (l.length : Int))), (55, (i6 (k : Int))), (56, (.bool (decide ((k : Int) < (l.length : Int))))), (11, (.pointer (some ⟨b5, 0, none⟩))), (61, (.bool (x4.id != 0))), (14, (.pointer (some ⟨b23, 0, none⟩))), (15, (i6 6)), (82, (.bool true)), (89, (.bool false))] [ringI encPkt 118 74 rb1 rs1 r ([] : List Pkt), blk b2 (qq rb1 m u ci co cd bi bo bd) 112, blk b3 (wq r m Aw (([] : List Pkt).length) cw ci co cd bi bo bd) 82, sl Aw (([] : List Pkt).length) cw 74 6 (V.flat encPkt ([] : List Pkt)), blk b5 (pk x4) 74, blk b23 [(u6 0), (i6 0), (w6 0), (w6 0), (w6 0), (w6 0)] 74] (by exact ⟨rfl, rfl, rfl, rfl, rfl, rfl, rfl, rfl, rfl, rfl, rfl, rfl, rfl, trivial⟩) rfl ?_
                      refine A.tn ?_
                      refine A.cond_f rfl ?_
                      refine A.skip ?_
                      refine A.tn ?_
                      refine A.meet (([] : List Pkt), Aw, cw, u, ci, co, cd, bi, bo, bd) (⟨hk, hq, hu, hm, hv, hc, hco, by omega, hbi, hbo, by omega⟩) ?_
                      exact A.here (by exact ⟨rfl, rfl, rfl, rfl, rfl, rfl, trivial⟩) (sk (sk (sk (sk (sc (sc (sn)))))))
                    · skip
                      have hv3 : ∀ x ∈ q21, LenOk x := fun x hx => hv x (by simp [hx])
                      have hv4 : LenOk y21 := hv y21 (by simp)
                      have hp3 := lens_pos q21 hv3; have hu3 := hu; rw [lens_cons] at hu3; simp only [LenOk] at hv4; have hcl := hc; simp only [List.length_cons] at hcl; have hql := hq; simp only [List.length_cons] at hql
                      refine A.cons (A.call (some 14) [(.pointer (some ⟨rb1, 0, none⟩))] (fun _ : Unit => (.tuple #[(pa y21), (i6 0)])) (fun _ => True) (fun _ => [ringI encPkt 118 74 rb1 rs1 r q21, blk b2 (qq rb1 m u ci co cd bi bo bd) 112, blk b3 (wq r m Aw ((y21 :: q21).length) cw ci co cd bi bo bd) 82, sl Aw ((y21 :: q21).length) cw 74 6 (V.flat encPkt (y21 :: q21)), blk b5 (pk x4) 74, blk b20 [(u6 0), (i6 0), (w6 0), (w6 0), (w6 0), (w6 0)] 74]) (by kernel_rfl) rfl (by kernel_rfl) rfl (fun w s => (ringP_pop rb1 rs1 r q21 y21 w (s.mem (i := 0) rfl)).mono fun e w1 ⟨he, hr, hf⟩ => ⟨(), he, trivial, s.turn (i := 0) rfl hf hr (by have := (s.mem (i := 0) rfl : RingH _ _ _ _ _ _ _ _).bounds.2.2.2; simpa [ringI] using this) (fun _ h => .inl h)⟩) (fun _ _ => ?_))
                      refine A.cons (A.q (some 9) (.tuple #[(pa y21), (i6 0)]) (by kernel_rfl) (qt_move rfl rfl) ?_)
                      refine A.cons (A.q (some 15) (pa y21) (by kernel_rfl) (qt_pure (by kernel_rfl) fun _ => by kernel_rfl) ?_)
                      refine A.cons (A.q (some 16) (i6 0) (by kernel_rfl) (qt_pure (by kernel_rfl) fun _ => by kernel_rfl) ?_)
                      refine A.cons (A.alloc 4 [(u6 0), (i6 0), (w6 0), (w6 0), (w6 0), (w6 0)] (by kernel_rfl) rfl (by kernel_rfl) (fun b24 => [ringI encPkt 118 74 rb1 rs1 r q21, blk b2 (qq rb1 m u ci co cd bi bo bd) 112, blk b3 (wq r m Aw ((y21 :: q21).length) cw ci co cd bi bo bd) 82, sl Aw ((y21 :: q21).length) cw 74 6 (V.flat encPkt (y21 :: q21)), blk b5 (pk x4) 74, blk b20 [(u6 0), (i6 0), (w6 0), (w6 0), (w6 0), (w6 0)] 74, blk b24 [(u6 0), (i6 0), (w6 0), (w6 0), (w6 0), (w6 0)] 74]) (fun _ => rfl) ?_)
                      intro b24
                      refine A.cons (A.store 6 (vs := (pk y21)) [ringI encPkt 118 74 rb1 rs1 r q21, blk b2 (qq rb1 m u ci co cd bi bo bd) 112, blk b3 (wq r m Aw ((y21 :: q21).length) cw ci co cd bi bo bd) 82, sl Aw ((y21 :: q21).length) cw 74 6 (V.flat encPkt (y21 :: q21)), blk b5 (pk x4) 74, blk b20 [(u6 0), (i6 0), (w6 0), (w6 0), (w6 0), (w6 0)] 74, blk b24 (pk y21) 74] (by kernel_rfl) rfl rfl rfl rfl (by kernel_rfl) rfl rfl (by kernel_rfl) rfl ?_)
                      refine A.cons (A.q (some 5) (i6 0) (by kernel_rfl) (qt_assign rfl rfl) ?_)
                      refine A.done ?_
                      refine A.norm [(0, (.pointer (some ⟨b2, 0, none⟩))), (2, (.pointer (some ⟨b20, 0, none⟩))), (3, (i6 0)), (7, (.bool false)), (4, (.pointer (some ⟨b24, 0, none⟩))), (5, (i6 0))] [ringI encPkt 118 74 rb1 rs1 r q21, blk b2 (qq rb1 m u ci co cd bi bo bd) 112, blk b3 (wq r m Aw ((y21 :: q21).length) cw ci co cd bi bo bd) 82, sl Aw ((y21 :: q21).length) cw 74 6 (V.flat encPkt (y21 :: q21)), blk b5 (pk x4) 74, blk b20 [(u6 0), (i6 0), (w6 0), (w6 0), (w6 0), (w6 0)] 74, blk b24 (pk y21) 74] (by exact ⟨rfl, rfl, rfl, rfl, rfl, rfl, trivial⟩) rfl ?_
                      refine A.tn ?_
                      refine A.seq ?_
                      refine A.seq ?_
                      refine A.region ?_
                      refine A.cons (A.q (some 17) (i6 0) (by kernel_rfl) (qt_move rfl rfl) ?_)
                      refine A.cons (A.q (some 18) (.bool false) (by kernel_rfl) (qt_pure (by kernel_rfl) fun _ => by kernel_rfl) ?_)
                      refine A.done ?_
                      refine A.norm [(0, (.pointer (some ⟨b2, 0, none⟩))), (2, (.pointer (some ⟨b20, 0, none⟩))), (3, (i6 0)), (7, (.bool false)), (4, (.pointer (some ⟨b24, 0, none⟩))), (5, (i6 0)), (18, (.bool false))] [ringI encPkt 118 74 rb1 rs1 r q21, blk b2 (qq rb1 m u ci co cd bi bo bd) 112, blk b3 (wq r m Aw ((y21 :: q21).length) cw ci co cd bi bo bd) 82, sl Aw ((y21 :: q21).length) cw 74 6 (V.flat encPkt (y21 :: q21)), blk b5 (pk x4) 74, blk b20 [(u6 0), (i6 0), (w6 0), (w6 0), (w6 0), (w6 0)] 74, blk b24 (pk y21) 74] (by exact ⟨rfl, rfl, rfl, rfl, rfl, rfl, rfl, trivial⟩) rfl ?_
                      refine A.tn ?_
                      refine A.cond_f rfl ?_
                      refine A.skip ?_
                      refine A.tn ?_
                      refine A.seq ?_
                      refine A.draw [ringI encPkt 118 74 rb1 rs1 r q21, blk b3 (wq r m Aw ((y21 :: q21).length) cw ci co cd bi bo bd) 82, sl Aw ((y21 :: q21).length) cw 74 6 (V.flat encPkt (y21 :: q21)), blk b5 (pk x4) 74, blk b20 [(u6 0), (i6 0), (w6 0), (w6 0), (w6 0), (w6 0)] 74, blk b24 (pk y21) 74] (by kernel_rfl) ?_
                      refine A.take 0 (some 21) (.pointer (some ⟨b2, 0, none⟩)) rfl (by kernel_rfl) (by kernel_rfl) (sk (sc (sk (sk (sk (sk (sk (sn)))))))) (qt_move rfl rfl) ?_
                      refine A.take 1 (some 22) (.pointer (some ⟨b2, 0, none⟩)) rfl (by kernel_rfl) (by kernel_rfl) (sk (sc (sk (sk (sk (sk (sk (sn)))))))) (qt_pure (by kernel_rfl) fun _ => by kernel_rfl) ?_
                      refine A.take 2 (some 23) (.pointer (some ⟨b2, 2, none⟩)) rfl (by kernel_rfl) (by kernel_rfl) (sk (sc (sk (sk (sk (sk (sk (sn)))))))) (qt_pure (by kernel_rfl) fun _ => by kernel_rfl) ?_
                      refine A.take 4 (some 25) (.pointer (some ⟨b24, 1, none⟩)) rfl (by kernel_rfl) (by kernel_rfl) (sk (sc (sk (sk (sk (sk (sk (sn)))))))) (qt_pure (by kernel_rfl) fun _ => by kernel_rfl) ?_
                      refine A.take 5 (some 26) (i6 y21.len) rfl (by kernel_rfl) (by kernel_rfl) (sk (sc (sk (sk (sk (sk (sk (sn)))))))) (qt_load1 rfl rfl (by kernel_rfl) (reads_blk (i := 5) rfl rfl)) ?_
                      refine A.only 3 rfl (by kernel_rfl) (A.q (some 24) (i6 u) (by kernel_rfl) (qt_load1 rfl rfl (by kernel_rfl) (reads_blk (i := 1) rfl rfl)) ?_)
                      refine A.and (sk (sc (sk (sk (sk (sk (sk (sn)))))))) ?_
                      refine A.take 6 (some 27) (i6 (u - y21.len)) rfl (by kernel_rfl) (by kernel_rfl) (sk (sc (sk (sk (sk (sk (sk (sn)))))))) (qt_as (congrArg (Value.int .i64) (wrap_i64 (e := u - y21.len) (by constructor <;> omega))) (qt_pure (v := i6 (IntKind.i64.wrap (u - y21.len))) (by kernel_rfl) fun _ => by kernel_rfl)) ?_
                      refine A.take 7 (some 28) (.pointer (some ⟨b2, 0, none⟩)) rfl (by kernel_rfl) (by kernel_rfl) (sk (sc (sk (sk (sk (sk (sk (sn)))))))) (qt_pure (by kernel_rfl) fun _ => by kernel_rfl) ?_
                      refine A.take 8 (some 29) (.pointer (some ⟨b2, 2, none⟩)) rfl (by kernel_rfl) (by kernel_rfl) (sk (sc (sk (sk (sk (sk (sk (sn)))))))) (qt_pure (by kernel_rfl) fun _ => by kernel_rfl) ?_
                      refine A.only 9 rfl (by kernel_rfl) (A.store 1 (vs := [(i6 (u - y21.len))]) [ringI encPkt 118 74 rb1 rs1 r q21, blk b2 (qq rb1 m (u - y21.len) ci co cd bi bo bd) 112, blk b3 (wq r m Aw ((y21 :: q21).length) cw ci co cd bi bo bd) 82, sl Aw ((y21 :: q21).length) cw 74 6 (V.flat encPkt (y21 :: q21)), blk b5 (pk x4) 74, blk b20 [(u6 0), (i6 0), (w6 0), (w6 0), (w6 0), (w6 0)] 74, blk b24 (pk y21) 74] (by kernel_rfl) rfl rfl rfl rfl (by kernel_rfl) rfl rfl (by kernel_rfl) rfl ?_)
                      refine A.and (sk (sc (sk (sk (sk (sk (sk (sn)))))))) ?_
                      refine A.fin (by kernel_rfl) ?_
                      refine A.norm [(0, (.pointer (some ⟨b2, 0, none⟩))), (2, (.pointer (some ⟨b20, 0, none⟩))), (3, (i6 0)), (7, (.bool false)), (4, (.pointer (some ⟨b24, 0, none⟩))), (5, (i6 0)), (18, (.bool false))] [ringI encPkt 118 74 rb1 rs1 r q21, blk b2 (qq rb1 m (u - y21.len) ci co cd bi bo bd) 112, blk b3 (wq r m Aw ((y21 :: q21).length) cw ci co cd bi bo bd) 82, sl Aw ((y21 :: q21).length) cw 74 6 (V.flat encPkt (y21 :: q21)), blk b5 (pk x4) 74, blk b20 [(u6 0), (i6 0), (w6 0), (w6 0), (w6 0), (w6 0)] 74, blk b24 (pk y21) 74] (by exact ⟨rfl, rfl, rfl, rfl, rfl, rfl, rfl, trivial⟩) rfl ?_
                      refine A.tn ?_
                      refine A.seq ?_
                      refine A.region ?_
                      refine A.cons (A.q (some 30) (.pointer (some ⟨b2, 0, none⟩)) (by kernel_rfl) (qt_move rfl rfl) ?_)
                      refine A.cons (A.q (some 31) (.pointer (some ⟨b2, 0, none⟩)) (by kernel_rfl) (qt_pure (by kernel_rfl) fun _ => by kernel_rfl) ?_)
                      refine A.cons (A.q (some 32) (.pointer (some ⟨b2, 3, none⟩)) (by kernel_rfl) (qt_pure (by kernel_rfl) fun _ => by kernel_rfl) ?_)
                      refine A.cons (A.q (some 33) (.pointer (some ⟨b2, 4, none⟩)) (by kernel_rfl) (qt_pure (by kernel_rfl) fun _ => by kernel_rfl) ?_)
                      refine A.cons (A.q (some 34) (u6 co) (by kernel_rfl) (qt_load1 rfl rfl (by kernel_rfl) (reads_blk (i := 1) rfl rfl)) ?_)
                      refine A.cons (A.q (some 35) (u6 (co + 1)) (by kernel_rfl) (qt_as (congrArg (Value.int .u64) ((wrap_u64 (e := co + 1) (by constructor <;> omega)).trans (by first | rfl | omega : (co + 1 : Int) = co + 1))) (qt_pure (v := u6 (IntKind.u64.wrap (co + 1))) (by kernel_rfl) fun _ => by kernel_rfl)) ?_)
                      refine A.cons (A.q (some 36) (.pointer (some ⟨b2, 0, none⟩)) (by kernel_rfl) (qt_pure (by kernel_rfl) fun _ => by kernel_rfl) ?_)
                      refine A.cons (A.q (some 37) (.pointer (some ⟨b2, 3, none⟩)) (by kernel_rfl) (qt_pure (by kernel_rfl) fun _ => by kernel_rfl) ?_)
                      refine A.cons (A.q (some 38) (.pointer (some ⟨b2, 4, none⟩)) (by kernel_rfl) (qt_pure (by kernel_rfl) fun _ => by kernel_rfl) ?_)
                      refine A.cons (A.store 1 (vs := [(u6 (co + 1))]) [ringI encPkt 118 74 rb1 rs1 r q21, blk b2 (qq rb1 m (u - y21.len) ci (co + 1) cd bi bo bd) 112, blk b3 (wq r m Aw ((y21 :: q21).length) cw ci co cd bi bo bd) 82, sl Aw ((y21 :: q21).length) cw 74 6 (V.flat encPkt (y21 :: q21)), blk b5 (pk x4) 74, blk b20 [(u6 0), (i6 0), (w6 0), (w6 0), (w6 0), (w6 0)] 74, blk b24 (pk y21) 74] (by kernel_rfl) rfl rfl rfl rfl (by kernel_rfl) rfl rfl (by kernel_rfl) rfl ?_)
                      refine A.done ?_
                      refine A.norm [(0, (.pointer (some ⟨b2, 0, none⟩))), (2, (.pointer (some ⟨b20, 0, none⟩))), (3, (i6 0)), (7, (.bool false)), (4, (.pointer (some ⟨b24, 0, none⟩))), (5, (i6 0)), (18, (.bool false))] [ringI encPkt 118 74 rb1 rs1 r q21, blk b2 (qq rb1 m (u - y21.len) ci (co + 1) cd bi bo bd) 112, blk b3 (wq r m Aw ((y21 :: q21).length) cw ci co cd bi bo bd) 82, sl Aw ((y21 :: q21).length) cw 74 6 (V.flat encPkt (y21 :: q21)), blk b5 (pk x4) 74, blk b20 [(u6 0), (i6 0), (w6 0), (w6 0), (w6 0), (w6 0)] 74, blk b24 (pk y21) 74] (by exact ⟨rfl, rfl, rfl, rfl, rfl, rfl, rfl, trivial⟩) rfl ?_
                      refine A.tn ?_
                      refine A.seq ?_
                      refine A.draw [ringI encPkt 118 74 rb1 rs1 r q21, blk b3 (wq r m Aw ((y21 :: q21).length) cw ci co cd bi bo bd) 82, sl Aw ((y21 :: q21).length) cw 74 6 (V.flat encPkt (y21 :: q21)), blk b5 (pk x4) 74, blk b20 [(u6 0), (i6 0), (w6 0), (w6 0), (w6 0), (w6 0)] 74, blk b24 (pk y21) 74] (by kernel_rfl) ?_
                      refine A.take 0 (some 39) (.pointer (some ⟨b2, 0, none⟩)) rfl (by kernel_rfl) (by kernel_rfl) (sk (sc (sk (sk (sk (sk (sk (sn)))))))) (qt_move rfl rfl) ?_
                      refine A.take 1 (some 40) (.pointer (some ⟨b2, 0, none⟩)) rfl (by kernel_rfl) (by kernel_rfl) (sk (sc (sk (sk (sk (sk (sk (sn)))))))) (qt_pure (by kernel_rfl) fun _ => by kernel_rfl) ?_
                      refine A.take 2 (some 41) (.pointer (some ⟨b2, 3, none⟩)) rfl (by kernel_rfl) (by kernel_rfl) (sk (sc (sk (sk (sk (sk (sk (sn)))))))) (qt_pure (by kernel_rfl) fun _ => by kernel_rfl) ?_
                      refine A.take 3 (some 42) (.pointer (some ⟨b2, 7, none⟩)) rfl (by kernel_rfl) (by kernel_rfl) (sk (sc (sk (sk (sk (sk (sk (sn)))))))) (qt_pure (by kernel_rfl) fun _ => by kernel_rfl) ?_
                      refine A.take 5 (some 44) (.pointer (some ⟨b24, 1, none⟩)) rfl (by kernel_rfl) (by kernel_rfl) (sk (sc (sk (sk (sk (sk (sk (sn)))))))) (qt_pure (by kernel_rfl) fun _ => by kernel_rfl) ?_
                      refine A.take 6 (some 45) (i6 y21.len) rfl (by kernel_rfl) (by kernel_rfl) (sk (sc (sk (sk (sk (sk (sk (sn)))))))) (qt_load1 rfl rfl (by kernel_rfl) (reads_blk (i := 5) rfl rfl)) ?_
                      refine A.take 7 (some 46) (u6 y21.len) rfl (by kernel_rfl) (by kernel_rfl) (sk (sc (sk (sk (sk (sk (sk (sn)))))))) (qt_as (congrArg (Value.int .u64) ((wrap_u64 (e := y21.len) (by constructor <;> omega)).trans (by first | rfl | omega : (y21.len : Int) = y21.len))) (qt_pure (v := u6 (IntKind.u64.wrap (y21.len))) (by kernel_rfl) fun _ => by kernel_rfl)) ?_
                      refine A.only 4 rfl (by kernel_rfl) (A.q (some 43) (u6 bo) (by kernel_rfl) (qt_load1 rfl rfl (by kernel_rfl) (reads_blk (i := 1) rfl rfl)) ?_)
                      refine A.and (sk (sc (sk (sk (sk (sk (sk (sn)))))))) ?_
                      refine A.take 8 (some 47) (u6 (bo + y21.len)) rfl (by kernel_rfl) (by kernel_rfl) (sk (sc (sk (sk (sk (sk (sk (sn)))))))) (qt_as (congrArg (Value.int .u64) ((wrap_u64 (e := bo + y21.len) (by constructor <;> omega)).trans (by first | rfl | omega : (bo + y21.len : Int) = bo + y21.len))) (qt_pure (v := u6 (IntKind.u64.wrap (bo + y21.len))) (by kernel_rfl) fun _ => by kernel_rfl)) ?_
                      refine A.take 9 (some 48) (.pointer (some ⟨b2, 0, none⟩)) rfl (by kernel_rfl) (by kernel_rfl) (sk (sc (sk (sk (sk (sk (sk (sn)))))))) (qt_pure (by kernel_rfl) fun _ => by kernel_rfl) ?_
                      refine A.take 10 (some 49) (.pointer (some ⟨b2, 3, none⟩)) rfl (by kernel_rfl) (by kernel_rfl) (sk (sc (sk (sk (sk (sk (sk (sn)))))))) (qt_pure (by kernel_rfl) fun _ => by kernel_rfl) ?_
                      refine A.take 11 (some 50) (.pointer (some ⟨b2, 7, none⟩)) rfl (by kernel_rfl) (by kernel_rfl) (sk (sc (sk (sk (sk (sk (sk (sn)))))))) (qt_pure (by kernel_rfl) fun _ => by kernel_rfl) ?_
                      refine A.only 12 rfl (by kernel_rfl) (A.store 1 (vs := [(u6 (bo + y21.len))]) [ringI encPkt 118 74 rb1 rs1 r q21, blk b2 (qq rb1 m (u - y21.len) ci (co + 1) cd bi (bo + y21.len) bd) 112, blk b3 (wq r m Aw ((y21 :: q21).length) cw ci co cd bi bo bd) 82, sl Aw ((y21 :: q21).length) cw 74 6 (V.flat encPkt (y21 :: q21)), blk b5 (pk x4) 74, blk b20 [(u6 0), (i6 0), (w6 0), (w6 0), (w6 0), (w6 0)] 74, blk b24 (pk y21) 74] (by kernel_rfl) rfl rfl rfl rfl (by kernel_rfl) rfl rfl (by kernel_rfl) rfl ?_)
                      refine A.and (sk (sc (sk (sk (sk (sk (sk (sn)))))))) ?_
                      refine A.fin (by kernel_rfl) ?_
                      refine A.norm [(0, (.pointer (some ⟨b2, 0, none⟩))), (2, (.pointer (some ⟨b20, 0, none⟩))), (3, (i6 0)), (7, (.bool false)), (4, (.pointer (some ⟨b24, 0, none⟩))), (5, (i6 0)), (18, (.bool false))] [ringI encPkt 118 74 rb1 rs1 r q21, blk b2 (qq rb1 m (u - y21.len) ci (co + 1) cd bi (bo + y21.len) bd) 112, blk b3 (wq r m Aw ((y21 :: q21).length) cw ci co cd bi bo bd) 82, sl Aw ((y21 :: q21).length) cw 74 6 (V.flat encPkt (y21 :: q21)), blk b5 (pk x4) 74, blk b20 [(u6 0), (i6 0), (w6 0), (w6 0), (w6 0), (w6 0)] 74, blk b24 (pk y21) 74] (by exact ⟨rfl, rfl, rfl, rfl, rfl, rfl, rfl, trivial⟩) rfl ?_
                      refine A.tn ?_
                      refine A.seq ?_
                      refine A.region ?_
                      refine A.cons (A.q (some 51) (pa y21) (by kernel_rfl) (qt_loadN (vs := (pk y21)) rfl rfl (by kernel_rfl) (reads_blk (i := 6) rfl rfl)) ?_)
                      refine A.cons (A.store 5 (vs := (pk y21)) [ringI encPkt 118 74 rb1 rs1 r q21, blk b2 (qq rb1 m (u - y21.len) ci (co + 1) cd bi (bo + y21.len) bd) 112, blk b3 (wq r m Aw ((y21 :: q21).length) cw ci co cd bi bo bd) 82, sl Aw ((y21 :: q21).length) cw 74 6 (V.flat encPkt (y21 :: q21)), blk b5 (pk x4) 74, blk b20 (pk y21) 74, blk b24 (pk y21) 74] (by kernel_rfl) rfl rfl rfl rfl (by kernel_rfl) rfl rfl (by kernel_rfl) rfl ?_)
                      refine A.cons (A.q (some 3) (i6 0) (by kernel_rfl) (qt_assign rfl rfl) ?_)
                      refine A.done ?_
                      refine A.norm [(0, (.pointer (some ⟨b2, 0, none⟩))), (2, (.pointer (some ⟨b20, 0, none⟩))), (3, (i6 0)), (7, (.bool false)), (4, (.pointer (some ⟨b24, 0, none⟩))), (5, (i6 0)), (18, (.bool false))] [ringI encPkt 118 74 rb1 rs1 r q21, blk b2 (qq rb1 m (u - y21.len) ci (co + 1) cd bi (bo + y21.len) bd) 112, blk b3 (wq r m Aw ((y21 :: q21).length) cw ci co cd bi bo bd) 82, sl Aw ((y21 :: q21).length) cw 74 6 (V.flat encPkt (y21 :: q21)), blk b5 (pk x4) 74, blk b20 (pk y21) 74, blk b24 (pk y21) 74] (by exact ⟨rfl, rfl, rfl, rfl, rfl, rfl, rfl, trivial⟩) rfl ?_
                      refine A.tn ?_
                      refine A.ret ?_
                      refine A.post [(pa y21), (i6 0)] (fun a w rr s => ⟨rv_cellN (vs := (pk y21)) rr s rfl (by kernel_rfl) (reads_blk (i := 5) (off := 0) rfl rfl), rv_tmp rr rfl, trivial⟩) (A.back (by kernel_rfl) ?_)
                      refine A.items [ringI encPkt 118 74 rb1 rs1 r q21, blk b2 (qq rb1 m (u - y21.len) ci (co + 1) cd bi (bo + y21.len) bd) 112, blk b3 (wq r m Aw ((y21 :: q21).length) cw ci co cd bi bo bd) 82, sl Aw ((y21 :: q21).length) cw 74 6 (V.flat encPkt (y21 :: q21)), blk b5 (pk x4) 74] (sk (sk (sk (sk (sk (sc (sc (sn)))))))) ?_
                      refine A.cons (A.q (some 74) (.tuple #[(pa y21), (i6 0)]) (by kernel_rfl) (qt_move rfl rfl) ?_)
                      refine A.cons (A.q (some 77) (pa y21) (by kernel_rfl) (qt_pure (by kernel_rfl) fun _ => by kernel_rfl) ?_)
                      refine A.cons (A.q (some 78) (i6 0) (by kernel_rfl) (qt_pure (by kernel_rfl) fun _ => by kernel_rfl) ?_)
                      refine A.cons (A.alloc 14 [(u6 0), (i6 0), (w6 0), (w6 0), (w6 0), (w6 0)] (by kernel_rfl) rfl (by kernel_rfl) (fun b25 => [ringI encPkt 118 74 rb1 rs1 r q21, blk b2 (qq rb1 m (u - y21.len) ci (co + 1) cd bi (bo + y21.len) bd) 112, blk b3 (wq r m Aw ((y21 :: q21).length) cw ci co cd bi bo bd) 82, sl Aw ((y21 :: q21).length) cw 74 6 (V.flat encPkt (y21 :: q21)), blk b5 (pk x4) 74, blk b25 [(u6 0), (i6 0), (w6 0), (w6 0), (w6 0), (w6 0)] 74]) (fun _ => rfl) ?_)
                      intro b25
                      refine A.cons (A.store 5 (vs := (pk y21)) [ringI encPkt 118 74 rb1 rs1 r q21, blk b2 (qq rb1 m (u - y21.len) ci (co + 1) cd bi (bo + y21.len) bd) 112, blk b3 (wq r m Aw ((y21 :: q21).length) cw ci co cd bi bo bd) 82, sl Aw ((y21 :: q21).length) cw 74 6 (V.flat encPkt (y21 :: q21)), blk b5 (pk x4) 74, blk b25 (pk y21) 74] (by kernel_rfl) rfl rfl rfl rfl (by kernel_rfl) rfl rfl (by kernel_rfl) rfl ?_)
                      refine A.cons (A.q (some 15) (i6 0) (by kernel_rfl) (qt_assign rfl rfl) ?_)
                      refine A.done ?_
                      refine A.norm [(7, (.pointer (some ⟨b2, 0, none⟩))), (8, (i6 0)), (9, (.pointer (some ⟨b3, 0, none⟩))), (53, (.slice A0 l.length c0)), (54, (i6 (l.length : Int))), (55, (i6 (k : Int))), (56, (.bool (decide ((k : Int) < (l.length : Int))))), (11, (.pointer (some ⟨b5, 0, none⟩))), (61, (.bool (x4.id != 0))), (14, (.pointer (some ⟨b25, 0, none⟩))), (15, (i6 0))] [ringI encPkt 118 74 rb1 rs1 r q21, blk b2 (qq rb1 m (u - y21.len) ci (co + 1) cd bi (bo + y21.len) bd) 112, blk b3 (wq r m Aw ((y21 :: q21).length) cw ci co cd bi bo bd) 82, sl Aw ((y21 :: q21).length) cw 74 6 (V.flat encPkt (y21 :: q21)), blk b5 (pk x4) 74, blk b25 (pk y21) 74] (by exact ⟨rfl, rfl, rfl, rfl, rfl, rfl, rfl, rfl, rfl, rfl, rfl, trivial⟩) rfl ?_
                      refine A.tn ?_
                      refine A.seq ?_
                      refine A.region ?_
                      refine A.cons (A.q (some 79) (.pointer (some ⟨b3, 2, none⟩)) (by kernel_rfl) (qt_pure (by kernel_rfl) fun _ => by kernel_rfl) ?_)
                      refine A.cons (A.q (some 80) (.slice Aw ((y21 :: q21).length) cw) (by kernel_rfl) (qt_load1 rfl rfl (by kernel_rfl) (reads_blk (i := 2) rfl rfl)) ?_)
                      refine A.cons (A.q (some 81) (i6 ((y21 :: q21).length : Int)) (by kernel_rfl) (qt_pure (by kernel_rfl) fun _ => by kernel_rfl) ?_)
                      refine A.cons (A.q (some 82) (.bool (((y21 :: q21).length : Int) == 0)) (by kernel_rfl) (qt_pure (by kernel_rfl) fun _ => by kernel_rfl) ?_)
                      refine A.done ?_
                      refine A.norm [(7, (.pointer (some ⟨b2, 0, none⟩))), (8, (i6 0)), (9, (.pointer (some ⟨b3, 0, none⟩))), (53, (.slice A0 l.length c0)), (54, (i6 (l.length : Int))), (55, (i6 (k : Int))), (56, (.bool (decide ((k : Int) < (l.length : Int))))), (11, (.pointer (some ⟨b5, 0, none⟩))), (61, (.bool (x4.id != 0))), (14, (.pointer (some ⟨b25, 0, none⟩))), (15, (i6 0)), (82, (.bool (((y21 :: q21).length : Int) == 0)))] [ringI encPkt 118 74 rb1 rs1 r q21, blk b2 (qq rb1 m (u - y21.len) ci (co + 1) cd bi (bo + y21.len) bd) 112, blk b3 (wq r m Aw ((y21 :: q21).length) cw ci co cd bi bo bd) 82, sl Aw ((y21 :: q21).length) cw 74 6 (V.flat encPkt (y21 :: q21)), blk b5 (pk x4) 74, blk b25 (pk y21) 74] (by exact ⟨rfl, rfl, rfl, rfl, rfl, rfl, rfl, rfl, rfl, rfl, rfl, rfl, trivial⟩) rfl ?_
                      refine A.tn ?_
                      refine A.cond (E := ((y21 :: q21).length : Int) == 0) rfl (fun e22 => ?_) (fun e22 => ?_)
                      · exact absurd e22 (by simp at e22; omega)
                      · skip
                        have p22 := e22; try simp only [decide_eq_true_eq, decide_eq_false_iff_not, beq_iff_eq, beq_eq_false_iff_ne, bne_iff_ne, bne_eq_false_iff_eq, ne_eq, Bool.and_eq_true, Bool.or_eq_true, Bool.or_eq_false_iff, Bool.not_eq_true', Bool.not_eq_false', Int.not_lt, Int.not_le, gt_iff_lt, ge_iff_le, Classical.not_not] at p22
                        refine A.seq ?_
                        refine A.seq ?_
                        refine A.draw [ringI encPkt 118 74 rb1 rs1 r q21, blk b2 (qq rb1 m (u - y21.len) ci (co + 1) cd bi (bo + y21.len) bd) 112, blk b3 (wq r m Aw ((y21 :: q21).length) cw ci co cd bi bo bd) 82, sl Aw ((y21 :: q21).length) cw 74 6 (V.flat encPkt (y21 :: q21)), blk b5 (pk x4) 74, blk b25 (pk y21) 74] (by kernel_rfl) ?_
                        refine A.take 0 (some 90) (i6 0) rfl (by kernel_rfl) (by kernel_rfl) (List.Sublist.refl _) (qt_move rfl rfl) ?_
                        refine A.take 1 (some 91) (.bool false) rfl (by kernel_rfl) (by kernel_rfl) (List.Sublist.refl _) (qt_pure (by kernel_rfl) fun _ => by kernel_rfl) ?_
                        refine A.take 2 (some 92) (.bool false) rfl (by kernel_rfl) (by kernel_rfl) (List.Sublist.refl _) (qt_move rfl rfl) ?_
                        refine A.take 3 (some 93) (pa y21) rfl (by kernel_rfl) (by kernel_rfl) (List.Sublist.refl _) (qt_loadN (vs := (pk y21)) rfl rfl (by kernel_rfl) (reads_blk (i := 5) rfl rfl)) ?_
                        refine A.take 4 (some 94) (.pointer (some ⟨b3, 2, none⟩)) rfl (by kernel_rfl) (by kernel_rfl) (List.Sublist.refl _) (qt_pure (by kernel_rfl) fun _ => by kernel_rfl) ?_
                        refine A.take 5 (some 95) (.slice Aw ((y21 :: q21).length) cw) rfl (by kernel_rfl) (by kernel_rfl) (List.Sublist.refl _) (qt_load1 rfl rfl (by kernel_rfl) (reads_blk (i := 2) rfl rfl)) ?_
                        refine A.take 6 (some 96) (.pointer (some ((at0 Aw).add (0 * 6)))) rfl (by kernel_rfl) (by kernel_rfl) (List.Sublist.refl _) (qt_indexN (el := 74) (enc := encPkt) (xs := (y21 :: q21)) (m := 0) rfl rfl rfl (by kernel_rfl) (by kernel_rfl) encPkt_len (rd_sl (i := 3) rfl) (by decide) (by first | omega | (simp at *; omega))) ?_
                        refine A.take 7 (some 97) (pa y21) rfl (by kernel_rfl) (by kernel_rfl) (List.Sublist.refl _) (qt_loadN (vs := (pk y21)) rfl rfl (by kernel_rfl) (reads_at0 (vs := (pk y21)) encPkt_len (rd_sl (i := 3) rfl) rfl (by simp) rfl)) ?_
                        refine A.take 8 (some 98) (.bool (!((y21.id == y21.id) && ((y21.len == y21.len) && ((y21.h0 == y21.h0) && ((y21.h1 == y21.h1) && ((y21.h2 == y21.h2) && (y21.h3 == y21.h3)))))))) rfl (by kernel_rfl) (by kernel_rfl) (List.Sublist.refl _) (qt_neqA (b := (y21.id == y21.id) && ((y21.len == y21.len) && ((y21.h0 == y21.h0) && ((y21.h1 == y21.h1) && ((y21.h2 == y21.h2) && (y21.h3 == y21.h3)))))) rfl rfl rfl (by kernel_rfl) (by kernel_rfl)) ?_
                        refine A.take 9 (some 99) (.bool (!((y21.id == y21.id) && ((y21.len == y21.len) && ((y21.h0 == y21.h0) && ((y21.h1 == y21.h1) && ((y21.h2 == y21.h2) && (y21.h3 == y21.h3)))))))) rfl (by kernel_rfl) (by kernel_rfl) (List.Sublist.refl _) (qt_pure (by kernel_rfl) fun _ => by kernel_rfl) ?_
                        refine A.fin (by kernel_rfl) ?_
                        refine A.norm [(7, (.pointer (some ⟨b2, 0, none⟩))), (8, (i6 0)), (9, (.pointer (some ⟨b3, 0, none⟩))), (53, (.slice A0 l.length c0)), (54, (i6 (l.length : Int))), (55, (i6 (k : Int))), (56, (.bool (decide ((k : Int) < (l.length : Int))))), (11, (.pointer (some ⟨b5, 0, none⟩))), (61, (.bool (x4.id != 0))), (14, (.pointer (some ⟨b25, 0, none⟩))), (15, (i6 0)), (82, (.bool (((y21 :: q21).length : Int) == 0))), (99, (.bool (!((y21.id == y21.id) && ((y21.len == y21.len) && ((y21.h0 == y21.h0) && ((y21.h1 == y21.h1) && ((y21.h2 == y21.h2) && (y21.h3 == y21.h3)))))))))] [ringI encPkt 118 74 rb1 rs1 r q21, blk b2 (qq rb1 m (u - y21.len) ci (co + 1) cd bi (bo + y21.len) bd) 112, blk b3 (wq r m Aw ((y21 :: q21).length) cw ci co cd bi bo bd) 82, sl Aw ((y21 :: q21).length) cw 74 6 (V.flat encPkt (y21 :: q21)), blk b5 (pk x4) 74, blk b25 (pk y21) 74] (by exact ⟨rfl, rfl, rfl, rfl, rfl, rfl, rfl, rfl, rfl, rfl, rfl, rfl, rfl, trivial⟩) rfl ?_
                        refine A.tn ?_
                        refine A.cond (E := !((y21.id == y21.id) && ((y21.len == y21.len) && ((y21.h0 == y21.h0) && ((y21.h1 == y21.h1) && ((y21.h2 == y21.h2) && (y21.h3 == y21.h3))))))) rfl (fun e23 => ?_) (fun e23 => ?_)
                        · exact absurd e23 (by simp at e23)
                        · skip
                          have p23 := e23; try simp only [decide_eq_true_eq, decide_eq_false_iff_not, beq_iff_eq, beq_eq_false_iff_ne, bne_iff_ne, bne_eq_false_iff_eq, ne_eq, Bool.and_eq_true, Bool.or_eq_true, Bool.or_eq_false_iff, Bool.not_eq_true', Bool.not_eq_false', Int.not_lt, Int.not_le, gt_iff_lt, ge_iff_le, Classical.not_not] at p23
                          refine A.skip ?_
                          refine A.tn ?_
                          refine A.region ?_
                          refine A.cons (A.q (some 100) (.agg (wq r m Aw ((y21 :: q21).length) cw ci co cd bi bo bd).toArray) (by kernel_rfl) (qt_loadN (vs := (wq r m Aw ((y21 :: q21).length) cw ci co cd bi bo bd)) rfl rfl (by kernel_rfl) (reads_blk (i := 2) rfl rfl)) ?_)
                          refine A.cons (A.inl (some 101) [(.agg (wq r m Aw ((y21 :: q21).length) cw ci co cd bi bo bd).toArray)] [(0, (.agg (wq r m Aw ((y21 :: q21).length) cw ci co cd bi bo bd).toArray))] (by kernel_rfl) rfl (by kernel_rfl) rfl Try.func48 rfl rfl rfl ?_)
                          refine A.seq ?_
                          refine A.region ?_
                          refine A.cons (A.box 1 (wq r m Aw ((y21 :: q21).length) cw ci co cd bi bo bd) (by kernel_rfl) rfl rfl rfl (fun b26 => [ringI encPkt 118 74 rb1 rs1 r q21, blk b2 (qq rb1 m (u - y21.len) ci (co + 1) cd bi (bo + y21.len) bd) 112, blk b3 (wq r m Aw ((y21 :: q21).length) cw ci co cd bi bo bd) 82, sl Aw ((y21 :: q21).length) cw 74 6 (V.flat encPkt (y21 :: q21)), blk b5 (pk x4) 74, blk b25 (pk y21) 74, blk b26 (wq r m Aw ((y21 :: q21).length) cw ci co cd bi bo bd) 82]) (fun _ => rfl) ?_)
                          intro b26
                          refine A.cons (A.alloc 2 [(i6 0), (i6 0), (.slice none 0 0), (u6 0), (u6 0), (u6 0), (u6 0), (u6 0), (u6 0)] (by kernel_rfl) rfl (by kernel_rfl) (fun b27 => [ringI encPkt 118 74 rb1 rs1 r q21, blk b2 (qq rb1 m (u - y21.len) ci (co + 1) cd bi (bo + y21.len) bd) 112, blk b3 (wq r m Aw ((y21 :: q21).length) cw ci co cd bi bo bd) 82, sl Aw ((y21 :: q21).length) cw 74 6 (V.flat encPkt (y21 :: q21)), blk b5 (pk x4) 74, blk b25 (pk y21) 74, blk b26 (wq r m Aw ((y21 :: q21).length) cw ci co cd bi bo bd) 82, blk b27 [(i6 0), (i6 0), (.slice none 0 0), (u6 0), (u6 0), (u6 0), (u6 0), (u6 0), (u6 0)] 82]) (fun _ => rfl) ?_)
                          intro b27
                          refine A.done ?_
                          refine A.norm [(0, (.agg (wq r m Aw ((y21 :: q21).length) cw ci co cd bi bo bd).toArray)), (1, (.pointer (some ⟨b26, 0, none⟩))), (2, (.pointer (some ⟨b27, 0, none⟩)))] [ringI encPkt 118 74 rb1 rs1 r q21, blk b2 (qq rb1 m (u - y21.len) ci (co + 1) cd bi (bo + y21.len) bd) 112, blk b3 (wq r m Aw ((y21 :: q21).length) cw ci co cd bi bo bd) 82, sl Aw ((y21 :: q21).length) cw 74 6 (V.flat encPkt (y21 :: q21)), blk b5 (pk x4) 74, blk b25 (pk y21) 74, blk b26 (wq r m Aw ((y21 :: q21).length) cw ci co cd bi bo bd) 82, blk b27 [(i6 0), (i6 0), (.slice none 0 0), (u6 0), (u6 0), (u6 0), (u6 0), (u6 0), (u6 0)] 82] (by exact ⟨rfl, rfl, rfl, trivial⟩) rfl ?_
                          refine A.tn ?_
                          refine A.seq ?_
                          refine A.draw [blk b2 (qq rb1 m (u - y21.len) ci (co + 1) cd bi (bo + y21.len) bd) 112, blk b3 (wq r m Aw ((y21 :: q21).length) cw ci co cd bi bo bd) 82, sl Aw ((y21 :: q21).length) cw 74 6 (V.flat encPkt (y21 :: q21)), blk b5 (pk x4) 74, blk b25 (pk y21) 74, blk b26 (wq r m Aw ((y21 :: q21).length) cw ci co cd bi bo bd) 82, blk b27 [(i6 0), (i6 0), (.slice none 0 0), (u6 0), (u6 0), (u6 0), (u6 0), (u6 0), (u6 0)] 82] (by kernel_rfl) ?_
                          refine A.take 0 (some 4) (.agg (wq r m Aw ((y21 :: q21).length) cw ci co cd bi bo bd).toArray) rfl (by kernel_rfl) (by kernel_rfl) (sc (sk (sk (sk (sk (sk (sk (sk (sn))))))))) (qt_loadN (vs := (wq r m Aw ((y21 :: q21).length) cw ci co cd bi bo bd)) rfl rfl (by kernel_rfl) (reads_blk (i := 5) rfl rfl)) ?_
                          refine A.take 1 (some 5) (.pointer (some ⟨b26, 2, none⟩)) rfl (by kernel_rfl) (by kernel_rfl) (sc (sk (sk (sk (sk (sk (sk (sk (sn))))))))) (qt_pure (by kernel_rfl) fun _ => by kernel_rfl) ?_
                          refine A.take 2 (some 6) (.slice Aw ((y21 :: q21).length) cw) rfl (by kernel_rfl) (by kernel_rfl) (sc (sk (sk (sk (sk (sk (sk (sk (sn))))))))) (qt_load1 rfl rfl (by kernel_rfl) (reads_blk (i := 5) rfl rfl)) ?_
                          refine A.take 3 (some 7) (.pointer (some ((at0 Aw).add (0 * 6)))) rfl (by kernel_rfl) (by kernel_rfl) (sc (sk (sk (sk (sk (sk (sk (sk (sn))))))))) (qt_indexN (el := 74) (enc := encPkt) (xs := (y21 :: q21)) (m := 0) rfl rfl rfl (by kernel_rfl) (by kernel_rfl) encPkt_len (rd_sl (i := 2) rfl) (by decide) (by first | omega | (simp at *; omega))) ?_
                          refine A.take 4 (some 8) (.pointer (some ((at0 Aw).add (0 * 6 + 1)))) rfl (by kernel_rfl) (by kernel_rfl) (sc (sk (sk (sk (sk (sk (sk (sk (sn))))))))) (qt_fieldOf2 (0 * 6) 1 rfl rfl (by kernel_rfl)) ?_
                          refine A.take 5 (some 9) (i6 y21.len) rfl (by kernel_rfl) (by kernel_rfl) (sc (sk (sk (sk (sk (sk (sk (sk (sn))))))))) (qt_load1 rfl rfl (by kernel_rfl) (reads_at (f := 1) (vs := [(i6 y21.len)]) encPkt_len (rd_sl (i := 2) rfl) rfl (by simp) rfl)) ?_
                          refine A.take 6 (some 10) (.agg (wq r m Aw ((y21 :: q21).length) cw ci (co + 1) cd bi (bo + y21.len) bd).toArray) rfl (by kernel_rfl) (by kernel_rfl) (sc (sk (sk (sk (sk (sk (sk (sk (sn))))))))) (qt_call [(.agg (wq r m Aw ((y21 :: q21).length) cw ci co cd bi bo bd).toArray), (i6 1), (i6 y21.len)] rfl (by kernel_rfl) rfl (fun w s => count1_spec Aw cw (y21 :: q21) (r : Int) m ci co cd bi bo bd y21.len (co + 1) (bo + y21.len)  w (wrap_u64 (by constructor <;> omega)) ((congrArg (fun z => IntKind.u64.wrap (bo + z)) (wrap_u64 (by constructor <;> omega))).trans (wrap_u64 (by constructor <;> omega))))) ?_
                          refine A.only 7 rfl (by kernel_rfl) (A.alloc 3 [(i6 0), (i6 0), (.slice none 0 0), (u6 0), (u6 0), (u6 0), (u6 0), (u6 0), (u6 0)] (by kernel_rfl) rfl (by kernel_rfl) (fun b28 => [ringI encPkt 118 74 rb1 rs1 r q21, blk b2 (qq rb1 m (u - y21.len) ci (co + 1) cd bi (bo + y21.len) bd) 112, blk b3 (wq r m Aw ((y21 :: q21).length) cw ci co cd bi bo bd) 82, sl Aw ((y21 :: q21).length) cw 74 6 (V.flat encPkt (y21 :: q21)), blk b5 (pk x4) 74, blk b25 (pk y21) 74, blk b26 (wq r m Aw ((y21 :: q21).length) cw ci co cd bi bo bd) 82, blk b27 [(i6 0), (i6 0), (.slice none 0 0), (u6 0), (u6 0), (u6 0), (u6 0), (u6 0), (u6 0)] 82, blk b28 [(i6 0), (i6 0), (.slice none 0 0), (u6 0), (u6 0), (u6 0), (u6 0), (u6 0), (u6 0)] 82]) (fun _ => rfl) ?_)
                          intro b28
                          refine A.and (sc (sk (sk (sk (sk (sk (sk (sk (sc (sn)))))))))) ?_
                          refine A.only 8 rfl (by kernel_rfl) (A.store 8 (vs := (wq r m Aw ((y21 :: q21).length) cw ci (co + 1) cd bi (bo + y21.len) bd)) [ringI encPkt 118 74 rb1 rs1 r q21, blk b2 (qq rb1 m (u - y21.len) ci (co + 1) cd bi (bo + y21.len) bd) 112, blk b3 (wq r m Aw ((y21 :: q21).length) cw ci co cd bi bo bd) 82, sl Aw ((y21 :: q21).length) cw 74 6 (V.flat encPkt (y21 :: q21)), blk b5 (pk x4) 74, blk b25 (pk y21) 74, blk b26 (wq r m Aw ((y21 :: q21).length) cw ci co cd bi bo bd) 82, blk b27 [(i6 0), (i6 0), (.slice none 0 0), (u6 0), (u6 0), (u6 0), (u6 0), (u6 0), (u6 0)] 82, blk b28 (wq r m Aw ((y21 :: q21).length) cw ci (co + 1) cd bi (bo + y21.len) bd) 82] (by kernel_rfl) rfl rfl rfl rfl (by kernel_rfl) rfl rfl (by kernel_rfl) rfl ?_)
                          refine A.and (sc (sk (sk (sk (sk (sk (sk (sk (sc (sn)))))))))) ?_
                          refine A.fin (by kernel_rfl) ?_
                          refine A.norm [(0, (.agg (wq r m Aw ((y21 :: q21).length) cw ci co cd bi bo bd).toArray)), (1, (.pointer (some ⟨b26, 0, none⟩))), (2, (.pointer (some ⟨b27, 0, none⟩))), (3, (.pointer (some ⟨b28, 0, none⟩)))] [ringI encPkt 118 74 rb1 rs1 r q21, blk b2 (qq rb1 m (u - y21.len) ci (co + 1) cd bi (bo + y21.len) bd) 112, blk b3 (wq r m Aw ((y21 :: q21).length) cw ci co cd bi bo bd) 82, sl Aw ((y21 :: q21).length) cw 74 6 (V.flat encPkt (y21 :: q21)), blk b5 (pk x4) 74, blk b25 (pk y21) 74, blk b26 (wq r m Aw ((y21 :: q21).length) cw ci co cd bi bo bd) 82, blk b27 [(i6 0), (i6 0), (.slice none 0 0), (u6 0), (u6 0), (u6 0), (u6 0), (u6 0), (u6 0)] 82, blk b28 (wq r m Aw ((y21 :: q21).length) cw ci (co + 1) cd bi (bo + y21.len) bd) 82] (by exact ⟨rfl, rfl, rfl, rfl, trivial⟩) rfl ?_
                          refine A.tn ?_
                          refine A.seq ?_
                          refine A.draw [ringI encPkt 118 74 rb1 rs1 r q21, blk b2 (qq rb1 m (u - y21.len) ci (co + 1) cd bi (bo + y21.len) bd) 112, blk b3 (wq r m Aw ((y21 :: q21).length) cw ci co cd bi bo bd) 82, blk b5 (pk x4) 74, blk b25 (pk y21) 74, blk b26 (wq r m Aw ((y21 :: q21).length) cw ci co cd bi bo bd) 82, blk b28 (wq r m Aw ((y21 :: q21).length) cw ci (co + 1) cd bi (bo + y21.len) bd) 82] (by kernel_rfl) ?_
                          refine A.take 0 (some 11) (.pointer (some ⟨b28, 0, none⟩)) rfl (by kernel_rfl) (by kernel_rfl) (sk (sk (sk (sc (sk (sk (sk (sc (sk (sn)))))))))) (qt_pure (by kernel_rfl) fun _ => by kernel_rfl) ?_
                          refine A.take 1 (some 12) (i6 (r : Int)) rfl (by kernel_rfl) (by kernel_rfl) (sk (sk (sk (sc (sk (sk (sk (sc (sk (sn)))))))))) (qt_load1 rfl rfl (by kernel_rfl) (reads_blk (i := 6) rfl rfl)) ?_
                          refine A.take 2 (some 13) (.pointer (some ⟨b28, 1, none⟩)) rfl (by kernel_rfl) (by kernel_rfl) (sk (sk (sk (sc (sk (sk (sk (sc (sk (sn)))))))))) (qt_pure (by kernel_rfl) fun _ => by kernel_rfl) ?_
                          refine A.take 3 (some 14) (i6 m) rfl (by kernel_rfl) (by kernel_rfl) (sk (sk (sk (sc (sk (sk (sk (sc (sk (sn)))))))))) (qt_load1 rfl rfl (by kernel_rfl) (reads_blk (i := 6) rfl rfl)) ?_
                          refine A.take 4 (some 15) (.pointer (some ⟨b26, 2, none⟩)) rfl (by kernel_rfl) (by kernel_rfl) (sk (sk (sk (sc (sk (sk (sk (sc (sk (sn)))))))))) (qt_pure (by kernel_rfl) fun _ => by kernel_rfl) ?_
                          refine A.take 5 (some 16) (.slice Aw ((y21 :: q21).length) cw) rfl (by kernel_rfl) (by kernel_rfl) (sk (sk (sk (sc (sk (sk (sk (sc (sk (sn)))))))))) (qt_load1 rfl rfl (by kernel_rfl) (reads_blk (i := 5) rfl rfl)) ?_
                          refine A.take 7 (some 18) (.pointer (some ⟨b28, 3, none⟩)) rfl (by kernel_rfl) (by kernel_rfl) (sk (sk (sk (sc (sk (sk (sk (sc (sk (sn)))))))))) (qt_pure (by kernel_rfl) fun _ => by kernel_rfl) ?_
                          refine A.take 8 (some 19) (.agg #[(u6 ci), (u6 (co + 1)), (u6 cd), (u6 bi), (u6 (bo + y21.len)), (u6 bd)]) rfl (by kernel_rfl) (by kernel_rfl) (sk (sk (sk (sc (sk (sk (sk (sc (sk (sn)))))))))) (qt_loadN (vs := [(u6 ci), (u6 (co + 1)), (u6 cd), (u6 bi), (u6 (bo + y21.len)), (u6 bd)]) rfl rfl (by kernel_rfl) (reads_blk (i := 6) rfl rfl)) ?_
                          refine A.only 6 rfl (by kernel_rfl) (A.q (some 17) (.slice (if cw = 1 then Aw else Aw.map (·.add (1 * 6))) q21.length (cw - 1)) (by kernel_rfl) (qt_from (el := 74) (sz := 6) (k := 1) (len := (y21 :: q21).length) rfl rfl rfl (by kernel_rfl) (by kernel_rfl) (by simp)) ?_)
                          refine A.cutFrom 3 1 [ringI encPkt 118 74 rb1 rs1 r q21, blk b2 (qq rb1 m (u - y21.len) ci (co + 1) cd bi (bo + y21.len) bd) 112, blk b3 (wq r m Aw ((y21 :: q21).length) cw ci co cd bi bo bd) 82, sl (if cw = 1 then Aw else Aw.map (·.add (1 * 6))) (q21.length) (cw - 1) 74 6 (V.flat encPkt q21), blk b5 (pk x4) 74, blk b25 (pk y21) 74, blk b26 (wq r m Aw ((y21 :: q21).length) cw ci co cd bi bo bd) 82, blk b27 [(i6 0), (i6 0), (.slice none 0 0), (u6 0), (u6 0), (u6 0), (u6 0), (u6 0), (u6 0)] 82, blk b28 (wq r m Aw ((y21 :: q21).length) cw ci (co + 1) cd bi (bo + y21.len) bd) 82] rfl (by simp) (by decide) rfl ?_
                          refine A.and (sk (sk (sk (sc (sk (sk (sk (sc (sk (sn)))))))))) ?_
                          refine A.take 9 (some 20) (.agg (wq r m (if cw = 1 then Aw else Aw.map (·.add (1 * 6))) q21.length (cw - 1) ci (co + 1) cd bi (bo + y21.len) bd).toArray) rfl (by kernel_rfl) (by kernel_rfl) (sk (sk (sk (sc (sk (sk (sk (sc (sk (sn)))))))))) (qt_pure (by kernel_rfl) fun _ => by kernel_rfl) ?_
                          refine A.only 10 rfl (by kernel_rfl) (A.store 7 (vs := (wq r m (if cw = 1 then Aw else Aw.map (·.add (1 * 6))) q21.length (cw - 1) ci (co + 1) cd bi (bo + y21.len) bd)) [ringI encPkt 118 74 rb1 rs1 r q21, blk b2 (qq rb1 m (u - y21.len) ci (co + 1) cd bi (bo + y21.len) bd) 112, blk b3 (wq r m Aw ((y21 :: q21).length) cw ci co cd bi bo bd) 82, sl (if cw = 1 then Aw else Aw.map (·.add (1 * 6))) (q21.length) (cw - 1) 74 6 (V.flat encPkt q21), blk b5 (pk x4) 74, blk b25 (pk y21) 74, blk b26 (wq r m Aw ((y21 :: q21).length) cw ci co cd bi bo bd) 82, blk b27 (wq r m (if cw = 1 then Aw else Aw.map (·.add (1 * 6))) q21.length (cw - 1) ci (co + 1) cd bi (bo + y21.len) bd) 82, blk b28 (wq r m Aw ((y21 :: q21).length) cw ci (co + 1) cd bi (bo + y21.len) bd) 82] (by kernel_rfl) rfl rfl rfl rfl (by kernel_rfl) rfl rfl (by kernel_rfl) rfl ?_)
                          refine A.and (sk (sk (sk (sc (sk (sk (sk (sc (sk (sn)))))))))) ?_
                          refine A.fin (by kernel_rfl) ?_
                          refine A.norm [(0, (.agg (wq r m Aw ((y21 :: q21).length) cw ci co cd bi bo bd).toArray)), (1, (.pointer (some ⟨b26, 0, none⟩))), (2, (.pointer (some ⟨b27, 0, none⟩))), (3, (.pointer (some ⟨b28, 0, none⟩)))] [ringI encPkt 118 74 rb1 rs1 r q21, blk b2 (qq rb1 m (u - y21.len) ci (co + 1) cd bi (bo + y21.len) bd) 112, blk b3 (wq r m Aw ((y21 :: q21).length) cw ci co cd bi bo bd) 82, sl (if cw = 1 then Aw else Aw.map (·.add (1 * 6))) (q21.length) (cw - 1) 74 6 (V.flat encPkt q21), blk b5 (pk x4) 74, blk b25 (pk y21) 74, blk b26 (wq r m Aw ((y21 :: q21).length) cw ci co cd bi bo bd) 82, blk b27 (wq r m (if cw = 1 then Aw else Aw.map (·.add (1 * 6))) q21.length (cw - 1) ci (co + 1) cd bi (bo + y21.len) bd) 82, blk b28 (wq r m Aw ((y21 :: q21).length) cw ci (co + 1) cd bi (bo + y21.len) bd) 82] (by exact ⟨rfl, rfl, rfl, rfl, trivial⟩) rfl ?_
                          refine A.tn ?_
                          refine A.ret ?_
                          refine A.post [(.agg (wq r m (if cw = 1 then Aw else Aw.map (·.add (1 * 6))) q21.length (cw - 1) ci (co + 1) cd bi (bo + y21.len) bd).toArray)] (fun a w rr s => ⟨rv_cellN (vs := (wq r m (if cw = 1 then Aw else Aw.map (·.add (1 * 6))) q21.length (cw - 1) ci (co + 1) cd bi (bo + y21.len) bd)) rr s rfl (by kernel_rfl) (reads_blk (i := 7) rfl rfl), trivial⟩) (A.back (by kernel_rfl) ?_)
                          refine A.items [ringI encPkt 118 74 rb1 rs1 r q21, blk b2 (qq rb1 m (u - y21.len) ci (co + 1) cd bi (bo + y21.len) bd) 112, blk b3 (wq r m Aw ((y21 :: q21).length) cw ci co cd bi bo bd) 82, sl (if cw = 1 then Aw else Aw.map (·.add (1 * 6))) (q21.length) (cw - 1) 74 6 (V.flat encPkt q21), blk b5 (pk x4) 74, blk b25 (pk y21) 74] (sk (sk (sk (sk (sk (sk (sc (sc (sc (sn)))))))))) ?_
                          refine A.cons (A.store 2 (vs := (wq r m (if cw = 1 then Aw else Aw.map (·.add (1 * 6))) q21.length (cw - 1) ci (co + 1) cd bi (bo + y21.len) bd)) [ringI encPkt 118 74 rb1 rs1 r q21, blk b2 (qq rb1 m (u - y21.len) ci (co + 1) cd bi (bo + y21.len) bd) 112, blk b3 (wq r m (if cw = 1 then Aw else Aw.map (·.add (1 * 6))) q21.length (cw - 1) ci (co + 1) cd bi (bo + y21.len) bd) 82, sl (if cw = 1 then Aw else Aw.map (·.add (1 * 6))) (q21.length) (cw - 1) 74 6 (V.flat encPkt q21), blk b5 (pk x4) 74, blk b25 (pk y21) 74] (by kernel_rfl) rfl rfl rfl rfl (by kernel_rfl) rfl rfl (by kernel_rfl) rfl ?_)
                          refine A.done ?_
                          refine A.norm [(7, (.pointer (some ⟨b2, 0, none⟩))), (8, (i6 0)), (9, (.pointer (some ⟨b3, 0, none⟩))), (53, (.slice A0 l.length c0)), (54, (i6 (l.length : Int))), (55, (i6 (k : Int))), (56, (.bool (decide ((k : Int) < (l.length : Int))))), (11, (.pointer (some ⟨b5, 0, none⟩))), (61, (.bool (x4.id != 0))), (14, (.pointer (some ⟨b25, 0, none⟩))), (15, (i6 0)), (82, (.bool (((y21 :: q21).length : Int) == 0))), (99, (.bool (!((y21.id == y21.id) && ((y21.len == y21.len) && ((y21.h0 == y21.h0) && ((y21.h1 == y21.h1) && ((y21.h2 == y21.h2) && (y21.h3 == y21.h3)))))))))] [ringI encPkt 118 74 rb1 rs1 r q21, blk b2 (qq rb1 m (u - y21.len) ci (co + 1) cd bi (bo + y21.len) bd) 112, blk b3 (wq r m (if cw = 1 then Aw else Aw.map (·.add (1 * 6))) q21.length (cw - 1) ci (co + 1) cd bi (bo + y21.len) bd) 82, sl (if cw = 1 then Aw else Aw.map (·.add (1 * 6))) (q21.length) (cw - 1) 74 6 (V.flat encPkt q21), blk b5 (pk x4) 74, blk b25 (pk y21) 74] (by exact ⟨rfl, rfl, rfl, rfl, rfl, rfl, rfl, rfl, rfl, rfl, rfl, rfl, rfl, trivial⟩) rfl ?_
                          refine A.tn ?_
                          refine A.meet (q21, if cw = 1 then Aw else Aw.map (·.add (1 * 6)), cw - 1, u - y21.len, ci, co + 1, cd, bi, bo + y21.len, bd) (⟨hk, by simp only [List.length_cons] at hq; omega, by have := hu; rw [lens_cons] at this; omega, by omega, hv3, by simp only [List.length_cons] at hc; omega, by omega, by omega, by omega, by omega, by omega⟩) ?_
                          exact A.here (by exact ⟨rfl, rfl, rfl, rfl, rfl, rfl, trivial⟩) (sk (sk (sk (sk (sc (sc (sn)))))))
                · rintro ⟨q2, Aw2, cw2, u2, ci2, co2, cd2, bi2, bo2, bd2⟩ ⟨hk2, hq2, hu2, hm2, hv2, hc2, hco2, hci2, hbi2, hbo2, hbk2⟩
                  have hp2 := lens_pos q2 hv2; rw [← hu2] at hp2
                  refine A.norm [(7, (.pointer (some ⟨b2, 0, none⟩))), (8, (i6 0)), (9, (.pointer (some ⟨b3, 0, none⟩))), (53, (.slice A0 l.length c0)), (54, (i6 (l.length : Int))), (55, (i6 (k : Int)))] [ringI encPkt 118 74 rb1 rs1 r q2, blk b2 (qq rb1 m u2 ci2 co2 cd2 bi2 bo2 bd2) 112, blk b3 (wq r m Aw2 q2.length cw2 ci2 co2 cd2 bi2 bo2 bd2) 82, sl Aw2 (q2.length) cw2 74 6 (V.flat encPkt q2)] (by exact ⟨rfl, rfl, rfl, rfl, rfl, rfl, trivial⟩) rfl ?_
                  refine A.seq ?_
                  refine A.region ?_
                  refine A.cons (A.q (some 102) (.pointer (some ⟨b2, 0, none⟩)) (by kernel_rfl) (qt_move rfl rfl) ?_)
                  refine A.cons (A.inl (some 103) [(.pointer (some ⟨b2, 0, none⟩))] [(0, (.pointer (some ⟨b2, 0, none⟩)))] (by kernel_rfl) rfl (by kernel_rfl) rfl Try.func49 rfl rfl rfl ?_)
                  refine A.seq ?_
                  refine A.region ?_
                  refine A.cons (A.alloc 2 [(u6 0), (u6 0), (u6 0), (u6 0), (u6 0), (u6 0)] (by kernel_rfl) rfl (by kernel_rfl) (fun b29 => [ringI encPkt 118 74 rb1 rs1 r q2, blk b2 (qq rb1 m u2 ci2 co2 cd2 bi2 bo2 bd2) 112, blk b3 (wq r m Aw2 q2.length cw2 ci2 co2 cd2 bi2 bo2 bd2) 82, sl Aw2 (q2.length) cw2 74 6 (V.flat encPkt q2), blk b29 [(u6 0), (u6 0), (u6 0), (u6 0), (u6 0), (u6 0)] 87]) (fun _ => rfl) ?_)
                  intro b29
                  refine A.done ?_
                  refine A.norm [(0, (.pointer (some ⟨b2, 0, none⟩))), (2, (.pointer (some ⟨b29, 0, none⟩)))] [ringI encPkt 118 74 rb1 rs1 r q2, blk b2 (qq rb1 m u2 ci2 co2 cd2 bi2 bo2 bd2) 112, blk b3 (wq r m Aw2 q2.length cw2 ci2 co2 cd2 bi2 bo2 bd2) 82, sl Aw2 (q2.length) cw2 74 6 (V.flat encPkt q2), blk b29 [(u6 0), (u6 0), (u6 0), (u6 0), (u6 0), (u6 0)] 87] (by exact ⟨rfl, rfl, trivial⟩) rfl ?_
                  refine A.tn ?_
                  refine A.seq ?_
                  refine A.seq ?_
                  refine A.region ?_
                  refine A.cons (A.q (some 3) (.pointer (some ⟨b2, 0, none⟩)) (by kernel_rfl) (qt_move rfl rfl) ?_)
                  refine A.cons (A.q (some 4) (.bool false) (by kernel_rfl) (qt_pure (by kernel_rfl) fun _ => by kernel_rfl) ?_)
                  refine A.done ?_
                  refine A.norm [(0, (.pointer (some ⟨b2, 0, none⟩))), (2, (.pointer (some ⟨b29, 0, none⟩))), (4, (.bool false))] [ringI encPkt 118 74 rb1 rs1 r q2, blk b2 (qq rb1 m u2 ci2 co2 cd2 bi2 bo2 bd2) 112, blk b3 (wq r m Aw2 q2.length cw2 ci2 co2 cd2 bi2 bo2 bd2) 82, sl Aw2 (q2.length) cw2 74 6 (V.flat encPkt q2), blk b29 [(u6 0), (u6 0), (u6 0), (u6 0), (u6 0), (u6 0)] 87] (by exact ⟨rfl, rfl, rfl, trivial⟩) rfl ?_
                  refine A.tn ?_
                  refine A.cond_f rfl ?_
                  refine A.skip ?_
                  refine A.tn ?_
                  refine A.seq ?_
                  refine A.region ?_
                  refine A.cons (A.q (some 6) (.pointer (some ⟨b2, 0, none⟩)) (by kernel_rfl) (qt_move rfl rfl) ?_)
                  refine A.cons (A.q (some 7) (.pointer (some ⟨b2, 0, none⟩)) (by kernel_rfl) (qt_pure (by kernel_rfl) fun _ => by kernel_rfl) ?_)
                  refine A.cons (A.q (some 8) (.pointer (some ⟨b2, 3, none⟩)) (by kernel_rfl) (qt_pure (by kernel_rfl) fun _ => by kernel_rfl) ?_)
                  refine A.cons (A.q (some 9) (.agg #[(u6 ci2), (u6 co2), (u6 cd2), (u6 bi2), (u6 bo2), (u6 bd2)]) (by kernel_rfl) (qt_loadN (vs := [(u6 ci2), (u6 co2), (u6 cd2), (u6 bi2), (u6 bo2), (u6 bd2)]) rfl rfl (by kernel_rfl) (reads_blk (i := 1) rfl rfl)) ?_)
                  refine A.cons (A.store 4 (vs := [(u6 ci2), (u6 co2), (u6 cd2), (u6 bi2), (u6 bo2), (u6 bd2)]) [ringI encPkt 118 74 rb1 rs1 r q2, blk b2 (qq rb1 m u2 ci2 co2 cd2 bi2 bo2 bd2) 112, blk b3 (wq r m Aw2 q2.length cw2 ci2 co2 cd2 bi2 bo2 bd2) 82, sl Aw2 (q2.length) cw2 74 6 (V.flat encPkt q2), blk b29 [(u6 ci2), (u6 co2), (u6 cd2), (u6 bi2), (u6 bo2), (u6 bd2)] 87] (by kernel_rfl) rfl rfl rfl rfl (by kernel_rfl) rfl rfl (by kernel_rfl) rfl ?_)
                  refine A.done ?_
                  refine A.norm [(0, (.pointer (some ⟨b2, 0, none⟩))), (2, (.pointer (some ⟨b29, 0, none⟩))), (4, (.bool false))] [ringI encPkt 118 74 rb1 rs1 r q2, blk b2 (qq rb1 m u2 ci2 co2 cd2 bi2 bo2 bd2) 112, blk b3 (wq r m Aw2 q2.length cw2 ci2 co2 cd2 bi2 bo2 bd2) 82, sl Aw2 (q2.length) cw2 74 6 (V.flat encPkt q2), blk b29 [(u6 ci2), (u6 co2), (u6 cd2), (u6 bi2), (u6 bo2), (u6 bd2)] 87] (by exact ⟨rfl, rfl, rfl, trivial⟩) rfl ?_
                  refine A.tn ?_
                  refine A.ret ?_
                  refine A.post [(.agg #[(u6 ci2), (u6 co2), (u6 cd2), (u6 bi2), (u6 bo2), (u6 bd2)])] (fun a w rr s => ⟨rv_cellN (vs := [(u6 ci2), (u6 co2), (u6 cd2), (u6 bi2), (u6 bo2), (u6 bd2)]) rr s rfl (by kernel_rfl) (reads_blk (i := 4) rfl rfl), trivial⟩) (A.back (by kernel_rfl) ?_)
                  refine A.items [ringI encPkt 118 74 rb1 rs1 r q2, blk b2 (qq rb1 m u2 ci2 co2 cd2 bi2 bo2 bd2) 112, blk b3 (wq r m Aw2 q2.length cw2 ci2 co2 cd2 bi2 bo2 bd2) 82, sl Aw2 (q2.length) cw2 74 6 (V.flat encPkt q2)] (sk (sk (sk (sk (sc (sn)))))) ?_
                  refine A.cons (A.alloc 16 [(u6 0), (u6 0), (u6 0), (u6 0), (u6 0), (u6 0)] (by kernel_rfl) rfl (by kernel_rfl) (fun b30 => [ringI encPkt 118 74 rb1 rs1 r q2, blk b2 (qq rb1 m u2 ci2 co2 cd2 bi2 bo2 bd2) 112, blk b3 (wq r m Aw2 q2.length cw2 ci2 co2 cd2 bi2 bo2 bd2) 82, sl Aw2 (q2.length) cw2 74 6 (V.flat encPkt q2), blk b30 [(u6 0), (u6 0), (u6 0), (u6 0), (u6 0), (u6 0)] 87]) (fun _ => rfl) ?_)
                  intro b30
                  refine A.cons (A.store 4 (vs := [(u6 ci2), (u6 co2), (u6 cd2), (u6 bi2), (u6 bo2), (u6 bd2)]) [ringI encPkt 118 74 rb1 rs1 r q2, blk b2 (qq rb1 m u2 ci2 co2 cd2 bi2 bo2 bd2) 112, blk b3 (wq r m Aw2 q2.length cw2 ci2 co2 cd2 bi2 bo2 bd2) 82, sl Aw2 (q2.length) cw2 74 6 (V.flat encPkt q2), blk b30 [(u6 ci2), (u6 co2), (u6 cd2), (u6 bi2), (u6 bo2), (u6 bd2)] 87] (by kernel_rfl) rfl rfl rfl rfl (by kernel_rfl) rfl rfl (by kernel_rfl) rfl ?_)
                  refine A.done ?_
                  refine A.norm [(7, (.pointer (some ⟨b2, 0, none⟩))), (8, (i6 0)), (9, (.pointer (some ⟨b3, 0, none⟩))), (53, (.slice A0 l.length c0)), (54, (i6 (l.length : Int))), (55, (i6 (k : Int))), (16, (.pointer (some ⟨b30, 0, none⟩)))] [ringI encPkt 118 74 rb1 rs1 r q2, blk b2 (qq rb1 m u2 ci2 co2 cd2 bi2 bo2 bd2) 112, blk b3 (wq r m Aw2 q2.length cw2 ci2 co2 cd2 bi2 bo2 bd2) 82, sl Aw2 (q2.length) cw2 74 6 (V.flat encPkt q2), blk b30 [(u6 ci2), (u6 co2), (u6 cd2), (u6 bi2), (u6 bo2), (u6 bd2)] 87] (by exact ⟨rfl, rfl, rfl, rfl, rfl, rfl, rfl, trivial⟩) rfl ?_
                  refine A.tn ?_
                  refine A.seq ?_
                  refine A.draw [ringI encPkt 118 74 rb1 rs1 r q2, blk b2 (qq rb1 m u2 ci2 co2 cd2 bi2 bo2 bd2) 112, blk b3 (wq r m Aw2 q2.length cw2 ci2 co2 cd2 bi2 bo2 bd2) 82, sl Aw2 (q2.length) cw2 74 6 (V.flat encPkt q2), blk b30 [(u6 ci2), (u6 co2), (u6 cd2), (u6 bi2), (u6 bo2), (u6 bd2)] 87] (by kernel_rfl) ?_
                  refine A.take 0 (some 104) (.pointer (some ⟨b2, 0, none⟩)) rfl (by kernel_rfl) (by kernel_rfl) (List.Sublist.refl _) (qt_move rfl rfl) ?_
                  refine A.take 1 (some 105) (.agg (wq r m Aw2 q2.length cw2 ci2 co2 cd2 bi2 bo2 bd2).toArray) rfl (by kernel_rfl) (by kernel_rfl) (List.Sublist.refl _) (qt_loadN (vs := (wq r m Aw2 q2.length cw2 ci2 co2 cd2 bi2 bo2 bd2)) rfl rfl (by kernel_rfl) (reads_blk (i := 2) rfl rfl)) ?_
                  refine A.take 2 (some 106) (.bool true) rfl (by kernel_rfl) (by kernel_rfl) (List.Sublist.refl _) (qt_call [(.pointer (some ⟨b2, 0, none⟩)), (.agg (wq r m Aw2 q2.length cw2 ci2 co2 cd2 bi2 bo2 bd2).toArray)] rfl (by kernel_rfl) rfl (fun w s => sameq_spec b2 rb1 rs1 r Aw2 cw2 q2 m u2 ci2 co2 cd2 bi2 bo2 bd2 w (s.mem (i := 1) rfl) (s.mem (i := 0) rfl) ((rd_sl (i := 3) rfl) w s) (hv2) (hu2))) ?_
                  refine A.take 3 (some 107) (.bool false) rfl (by kernel_rfl) (by kernel_rfl) (List.Sublist.refl _) (qt_pure (by kernel_rfl) fun _ => by kernel_rfl) ?_
                  refine A.take 4 (some 108) (.bool false) rfl (by kernel_rfl) (by kernel_rfl) (List.Sublist.refl _) (qt_move rfl rfl) ?_
                  refine A.take 5 (some 109) (.pointer (some ⟨b30, 0, none⟩)) rfl (by kernel_rfl) (by kernel_rfl) (List.Sublist.refl _) (qt_pure (by kernel_rfl) fun _ => by kernel_rfl) ?_
                  refine A.take 6 (some 110) (u6 ci2) rfl (by kernel_rfl) (by kernel_rfl) (List.Sublist.refl _) (qt_load1 rfl rfl (by kernel_rfl) (reads_blk (i := 4) rfl rfl)) ?_
                  refine A.take 7 (some 111) (.pointer (some ⟨b30, 1, none⟩)) rfl (by kernel_rfl) (by kernel_rfl) (List.Sublist.refl _) (qt_pure (by kernel_rfl) fun _ => by kernel_rfl) ?_
                  refine A.take 8 (some 112) (u6 co2) rfl (by kernel_rfl) (by kernel_rfl) (List.Sublist.refl _) (qt_load1 rfl rfl (by kernel_rfl) (reads_blk (i := 4) rfl rfl)) ?_
                  refine A.take 9 (some 113) (.pointer (some ⟨b2, 0, none⟩)) rfl (by kernel_rfl) (by kernel_rfl) (List.Sublist.refl _) (qt_move rfl rfl) ?_
                  refine A.only 10 rfl (by kernel_rfl) (A.inl (some 114) [(.pointer (some ⟨b2, 0, none⟩))] [(0, (.pointer (some ⟨b2, 0, none⟩)))] (by kernel_rfl) rfl (by kernel_rfl) rfl Try.func51 rfl rfl rfl ?_)
                  refine A.seq ?_
                  refine A.region ?_
                  refine A.cons (A.q (some 2) (i6 0) (by kernel_rfl) (qt_assign rfl rfl) ?_)
                  refine A.done ?_
                  refine A.norm [(0, (.pointer (some ⟨b2, 0, none⟩))), (2, (i6 0))] [ringI encPkt 118 74 rb1 rs1 r q2, blk b2 (qq rb1 m u2 ci2 co2 cd2 bi2 bo2 bd2) 112, blk b3 (wq r m Aw2 q2.length cw2 ci2 co2 cd2 bi2 bo2 bd2) 82, sl Aw2 (q2.length) cw2 74 6 (V.flat encPkt q2), blk b30 [(u6 ci2), (u6 co2), (u6 cd2), (u6 bi2), (u6 bo2), (u6 bd2)] 87] (by exact ⟨rfl, rfl, trivial⟩) rfl ?_
                  refine A.tn ?_
                  refine A.seq ?_
                  refine A.seq ?_
                  refine A.region ?_
                  refine A.cons (A.q (some 3) (.pointer (some ⟨b2, 0, none⟩)) (by kernel_rfl) (qt_move rfl rfl) ?_)
                  refine A.cons (A.q (some 4) (.bool false) (by kernel_rfl) (qt_pure (by kernel_rfl) fun _ => by kernel_rfl) ?_)
                  refine A.done ?_
                  refine A.norm [(0, (.pointer (some ⟨b2, 0, none⟩))), (2, (i6 0)), (4, (.bool false))] [ringI encPkt 118 74 rb1 rs1 r q2, blk b2 (qq rb1 m u2 ci2 co2 cd2 bi2 bo2 bd2) 112, blk b3 (wq r m Aw2 q2.length cw2 ci2 co2 cd2 bi2 bo2 bd2) 82, sl Aw2 (q2.length) cw2 74 6 (V.flat encPkt q2), blk b30 [(u6 ci2), (u6 co2), (u6 cd2), (u6 bi2), (u6 bo2), (u6 bd2)] 87] (by exact ⟨rfl, rfl, rfl, trivial⟩) rfl ?_
                  refine A.tn ?_
                  refine A.cond_f rfl ?_
                  refine A.skip ?_
                  refine A.tn ?_
                  refine A.seq ?_
                  refine A.region ?_
                  refine A.cons (A.q (some 5) (.pointer (some ⟨b2, 0, none⟩)) (by kernel_rfl) (qt_move rfl rfl) ?_)
                  refine A.cons (A.q (some 6) (.pointer (some ⟨b2, 0, none⟩)) (by kernel_rfl) (qt_pure (by kernel_rfl) fun _ => by kernel_rfl) ?_)
                  refine A.cons (A.q (some 7) (.pointer (some ⟨b2, 0, none⟩)) (by kernel_rfl) (qt_pure (by kernel_rfl) fun _ => by kernel_rfl) ?_)
                  refine A.cons (A.q (some 8) (.pointer (some ⟨rb1, 0, none⟩)) (by kernel_rfl) (qt_load1 rfl rfl (by kernel_rfl) (reads_blk (i := 1) rfl rfl)) ?_)
                  refine A.cons (A.q (some 9) (i6 (q2.length : Int)) (by kernel_rfl) (qt_call [(.pointer (some ⟨rb1, 0, none⟩))] rfl (by kernel_rfl) rfl (fun w s => ringP_len rb1 rs1 r q2 w (s.mem (i := 0) rfl))) ?_)
                  refine A.cons (A.q (some 2) (i6 (q2.length : Int)) (by kernel_rfl) (qt_assign rfl rfl) ?_)
                  refine A.done ?_
                  refine A.norm [(0, (.pointer (some ⟨b2, 0, none⟩))), (2, (i6 (q2.length : Int))), (4, (.bool false))] [ringI encPkt 118 74 rb1 rs1 r q2, blk b2 (qq rb1 m u2 ci2 co2 cd2 bi2 bo2 bd2) 112, blk b3 (wq r m Aw2 q2.length cw2 ci2 co2 cd2 bi2 bo2 bd2) 82, sl Aw2 (q2.length) cw2 74 6 (V.flat encPkt q2), blk b30 [(u6 ci2), (u6 co2), (u6 cd2), (u6 bi2), (u6 bo2), (u6 bd2)] 87] (by exact ⟨rfl, rfl, rfl, trivial⟩) rfl ?_
                  refine A.tn ?_
                  refine A.ret ?_
                  refine A.post [(i6 (q2.length : Int))] (fun a w rr s => ⟨rv_tmp rr rfl, trivial⟩) (A.back (by kernel_rfl) ?_)
                  refine A.and (List.Sublist.refl _) ?_
                  refine A.take 11 (some 115) (u6 (q2.length : Int)) rfl (by kernel_rfl) (by kernel_rfl) (List.Sublist.refl _) (qt_as (congrArg (Value.int .u64) ((wrap_u64 (e := (q2.length : Int)) (by constructor <;> omega)).trans (by first | rfl | omega : ((q2.length : Int) : Int) = (q2.length : Int)))) (qt_pure (v := u6 (IntKind.u64.wrap ((q2.length : Int)))) (by kernel_rfl) fun _ => by kernel_rfl)) ?_
                  refine A.take 12 (some 116) (u6 (co2 + (q2.length : Int))) rfl (by kernel_rfl) (by kernel_rfl) (List.Sublist.refl _) (qt_as (congrArg (Value.int .u64) ((wrap_u64 (e := co2 + (q2.length : Int)) (by constructor <;> omega)).trans (by first | rfl | omega : (co2 + (q2.length : Int) : Int) = co2 + (q2.length : Int)))) (qt_pure (v := u6 (IntKind.u64.wrap (co2 + (q2.length : Int)))) (by kernel_rfl) fun _ => by kernel_rfl)) ?_
                  refine A.take 13 (some 117) (.bool (ci2 != (co2 + (q2.length : Int)))) rfl (by kernel_rfl) (by kernel_rfl) (List.Sublist.refl _) (qt_pure (by kernel_rfl) fun _ => by kernel_rfl) ?_
                  refine A.take 14 (some 118) (.bool (ci2 != (co2 + (q2.length : Int)))) rfl (by kernel_rfl) (by kernel_rfl) (List.Sublist.refl _) (qt_pure (by kernel_rfl) fun _ => by kernel_rfl) ?_
                  refine A.take 15 (some 119) (.bool (ci2 != (co2 + (q2.length : Int)))) rfl (by kernel_rfl) (by kernel_rfl) (List.Sublist.refl _) (qt_move rfl rfl) ?_
                  refine A.bool (ci2 != (co2 + (q2.length : Int))) (fun e24 => ?_) (fun e24 => ?_)
                  · exact absurd e24 (by first | (simp at e24; done) | (simp at e24; omega))
                  · skip
                    refine A.sub [(7, (.pointer (some ⟨b2, 0, none⟩))), (8, (i6 0)), (9, (.pointer (some ⟨b3, 0, none⟩))), (53, (.slice A0 l.length c0)), (54, (i6 (l.length : Int))), (55, (i6 (k : Int))), (16, (.pointer (some ⟨b30, 0, none⟩))), (104, (.pointer (some ⟨b2, 0, none⟩))), (105, (.agg (wq r m Aw2 q2.length cw2 ci2 co2 cd2 bi2 bo2 bd2).toArray)), (106, (.bool true)), (107, (.bool false)), (108, (.bool false)), (109, (.pointer (some ⟨b30, 0, none⟩))), (110, (u6 ci2)), (111, (.pointer (some ⟨b30, 1, none⟩))), (112, (u6 co2)), (113, (.pointer (some ⟨b2, 0, none⟩))), (114, (i6 (q2.length : Int))), (115, (u6 (q2.length : Int))), (116, (u6 (co2 + (q2.length : Int)))), (117, (.bool false)), (118, (.bool false)), (119, (.bool false))] (by exact ⟨rfl, rfl, rfl, rfl, rfl, rfl, rfl, rfl, rfl, rfl, rfl, rfl, rfl, rfl, rfl, rfl, rfl, rfl, rfl, rfl, (congrArg (fun z => some (Value.bool z)) e24), (congrArg (fun z => some (Value.bool z)) e24), (congrArg (fun z => some (Value.bool z)) e24), trivial⟩) ?_
                    refine A.take 16 (some 120) (.pointer (some ⟨b30, 3, none⟩)) rfl (by kernel_rfl) (by kernel_rfl) (List.Sublist.refl _) (qt_pure (by kernel_rfl) fun _ => by kernel_rfl) ?_
                    refine A.take 17 (some 121) (u6 bi2) rfl (by kernel_rfl) (by kernel_rfl) (List.Sublist.refl _) (qt_load1 rfl rfl (by kernel_rfl) (reads_blk (i := 4) rfl rfl)) ?_
                    refine A.take 18 (some 122) (.pointer (some ⟨b30, 4, none⟩)) rfl (by kernel_rfl) (by kernel_rfl) (List.Sublist.refl _) (qt_pure (by kernel_rfl) fun _ => by kernel_rfl) ?_
                    refine A.take 19 (some 123) (u6 bo2) rfl (by kernel_rfl) (by kernel_rfl) (List.Sublist.refl _) (qt_load1 rfl rfl (by kernel_rfl) (reads_blk (i := 4) rfl rfl)) ?_
                    refine A.take 20 (some 124) (.pointer (some ⟨b2, 0, none⟩)) rfl (by kernel_rfl) (by kernel_rfl) (List.Sublist.refl _) (qt_move rfl rfl) ?_
                    refine A.only 21 rfl (by kernel_rfl) (A.inl (some 125) [(.pointer (some ⟨b2, 0, none⟩))] [(0, (.pointer (some ⟨b2, 0, none⟩)))] (by kernel_rfl) rfl (by kernel_rfl) rfl Try.func46 rfl rfl rfl ?_)
                    refine A.seq ?_
                    refine A.region ?_
                    refine A.cons (A.q (some 2) (i6 0) (by kernel_rfl) (qt_assign rfl rfl) ?_)
                    refine A.done ?_
                    refine A.norm [(0, (.pointer (some ⟨b2, 0, none⟩))), (2, (i6 0))] [ringI encPkt 118 74 rb1 rs1 r q2, blk b2 (qq rb1 m u2 ci2 co2 cd2 bi2 bo2 bd2) 112, blk b3 (wq r m Aw2 q2.length cw2 ci2 co2 cd2 bi2 bo2 bd2) 82, sl Aw2 (q2.length) cw2 74 6 (V.flat encPkt q2), blk b30 [(u6 ci2), (u6 co2), (u6 cd2), (u6 bi2), (u6 bo2), (u6 bd2)] 87] (by exact ⟨rfl, rfl, trivial⟩) rfl ?_
                    refine A.tn ?_
                    refine A.seq ?_
                    refine A.seq ?_
                    refine A.region ?_
                    refine A.cons (A.q (some 3) (.pointer (some ⟨b2, 0, none⟩)) (by kernel_rfl) (qt_move rfl rfl) ?_)
                    refine A.cons (A.q (some 4) (.bool false) (by kernel_rfl) (qt_pure (by kernel_rfl) fun _ => by kernel_rfl) ?_)
                    refine A.done ?_
                    refine A.norm [(0, (.pointer (some ⟨b2, 0, none⟩))), (2, (i6 0)), (4, (.bool false))] [ringI encPkt 118 74 rb1 rs1 r q2, blk b2 (qq rb1 m u2 ci2 co2 cd2 bi2 bo2 bd2) 112, blk b3 (wq r m Aw2 q2.length cw2 ci2 co2 cd2 bi2 bo2 bd2) 82, sl Aw2 (q2.length) cw2 74 6 (V.flat encPkt q2), blk b30 [(u6 ci2), (u6 co2), (u6 cd2), (u6 bi2), (u6 bo2), (u6 bd2)] 87] (by exact ⟨rfl, rfl, rfl, trivial⟩) rfl ?_
                    refine A.tn ?_
                    refine A.cond_f rfl ?_
                    refine A.skip ?_
                    refine A.tn ?_
                    refine A.seq ?_
                    refine A.region ?_
                    refine A.cons (A.q (some 5) (.pointer (some ⟨b2, 0, none⟩)) (by kernel_rfl) (qt_move rfl rfl) ?_)
                    refine A.cons (A.q (some 6) (.pointer (some ⟨b2, 0, none⟩)) (by kernel_rfl) (qt_pure (by kernel_rfl) fun _ => by kernel_rfl) ?_)
                    refine A.cons (A.q (some 7) (.pointer (some ⟨b2, 2, none⟩)) (by kernel_rfl) (qt_pure (by kernel_rfl) fun _ => by kernel_rfl) ?_)
                    refine A.cons (A.q (some 8) (i6 u2) (by kernel_rfl) (qt_load1 rfl rfl (by kernel_rfl) (reads_blk (i := 1) rfl rfl)) ?_)
                    refine A.cons (A.q (some 2) (i6 u2) (by kernel_rfl) (qt_assign rfl rfl) ?_)
                    refine A.done ?_
                    refine A.norm [(0, (.pointer (some ⟨b2, 0, none⟩))), (2, (i6 u2)), (4, (.bool false))] [ringI encPkt 118 74 rb1 rs1 r q2, blk b2 (qq rb1 m u2 ci2 co2 cd2 bi2 bo2 bd2) 112, blk b3 (wq r m Aw2 q2.length cw2 ci2 co2 cd2 bi2 bo2 bd2) 82, sl Aw2 (q2.length) cw2 74 6 (V.flat encPkt q2), blk b30 [(u6 ci2), (u6 co2), (u6 cd2), (u6 bi2), (u6 bo2), (u6 bd2)] 87] (by exact ⟨rfl, rfl, rfl, trivial⟩) rfl ?_
                    refine A.tn ?_
                    refine A.ret ?_
                    refine A.post [(i6 u2)] (fun a w rr s => ⟨rv_tmp rr rfl, trivial⟩) (A.back (by kernel_rfl) ?_)
                    refine A.and (List.Sublist.refl _) ?_
                    refine A.take 22 (some 126) (u6 u2) rfl (by kernel_rfl) (by kernel_rfl) (List.Sublist.refl _) (qt_as (congrArg (Value.int .u64) ((wrap_u64 (e := u2) (by constructor <;> omega)).trans (by first | rfl | omega : (u2 : Int) = u2))) (qt_pure (v := u6 (IntKind.u64.wrap (u2))) (by kernel_rfl) fun _ => by kernel_rfl)) ?_
                    refine A.take 23 (some 127) (u6 (bo2 + u2)) rfl (by kernel_rfl) (by kernel_rfl) (List.Sublist.refl _) (qt_as (congrArg (Value.int .u64) ((wrap_u64 (e := bo2 + u2) (by constructor <;> omega)).trans (by first | rfl | omega : (bo2 + u2 : Int) = bo2 + u2))) (qt_pure (v := u6 (IntKind.u64.wrap (bo2 + u2))) (by kernel_rfl) fun _ => by kernel_rfl)) ?_
                    refine A.take 24 (some 128) (.bool (bi2 != (bo2 + u2))) rfl (by kernel_rfl) (by kernel_rfl) (List.Sublist.refl _) (qt_pure (by kernel_rfl) fun _ => by kernel_rfl) ?_
                    refine A.take 25 (some 129) (.bool (bi2 != (bo2 + u2))) rfl (by kernel_rfl) (by kernel_rfl) (List.Sublist.refl _) (qt_pure (by kernel_rfl) fun _ => by kernel_rfl) ?_
                    refine A.fin (by kernel_rfl) ?_
                    refine A.norm [(7, (.pointer (some ⟨b2, 0, none⟩))), (8, (i6 0)), (9, (.pointer (some ⟨b3, 0, none⟩))), (53, (.slice A0 l.length c0)), (54, (i6 (l.length : Int))), (55, (i6 (k : Int))), (16, (.pointer (some ⟨b30, 0, none⟩))), (129, (.bool (bi2 != (bo2 + u2))))] [ringI encPkt 118 74 rb1 rs1 r q2, blk b2 (qq rb1 m u2 ci2 co2 cd2 bi2 bo2 bd2) 112, blk b3 (wq r m Aw2 q2.length cw2 ci2 co2 cd2 bi2 bo2 bd2) 82, sl Aw2 (q2.length) cw2 74 6 (V.flat encPkt q2), blk b30 [(u6 ci2), (u6 co2), (u6 cd2), (u6 bi2), (u6 bo2), (u6 bd2)] 87] (by exact ⟨rfl, rfl, rfl, rfl, rfl, rfl, rfl, rfl, trivial⟩) rfl ?_
                    refine A.tn ?_
                    refine A.cond (E := bi2 != (bo2 + u2)) rfl (fun e25 => ?_) (fun e25 => ?_)
                    · exact absurd e25 (by first | (simp at e25; done) | (simp at e25; omega))
                    · skip
                      have p25 := e25; try simp only [decide_eq_true_eq, decide_eq_false_iff_not, beq_iff_eq, beq_eq_false_iff_ne, bne_iff_ne, bne_eq_false_iff_eq, ne_eq, Bool.and_eq_true, Bool.or_eq_true, Bool.or_eq_false_iff, Bool.not_eq_true', Bool.not_eq_false', Int.not_lt, Int.not_le, gt_iff_lt, ge_iff_le, Classical.not_not] at p25
                      refine A.skip ?_
                      refine A.bn ?_
                      refine A.tn ?_
                      refine A.region ?_
                      refine A.cons (A.q (some 130) (i6 ((k : Int) + 1)) (by kernel_rfl) (qt_as (congrArg (Value.int .i64) (wrap_i64 (e := (k : Int) + 1) (by constructor <;> omega))) (qt_pure (v := i6 (IntKind.i64.wrap ((k : Int) + 1))) (by kernel_rfl) fun _ => by kernel_rfl)) ?_)
                      refine A.cons (A.q (some 55) (i6 ((k : Int) + 1)) (by kernel_rfl) (qt_move rfl rfl) ?_)
                      refine A.done ?_
                      refine A.norm [(7, (.pointer (some ⟨b2, 0, none⟩))), (8, (i6 0)), (9, (.pointer (some ⟨b3, 0, none⟩))), (53, (.slice A0 l.length c0)), (54, (i6 (l.length : Int))), (55, (i6 ((k : Int) + 1))), (16, (.pointer (some ⟨b30, 0, none⟩))), (129, (.bool (bi2 != (bo2 + u2))))] [ringI encPkt 118 74 rb1 rs1 r q2, blk b2 (qq rb1 m u2 ci2 co2 cd2 bi2 bo2 bd2) 112, blk b3 (wq r m Aw2 q2.length cw2 ci2 co2 cd2 bi2 bo2 bd2) 82, sl Aw2 (q2.length) cw2 74 6 (V.flat encPkt q2), blk b30 [(u6 ci2), (u6 co2), (u6 cd2), (u6 bi2), (u6 bo2), (u6 bd2)] 87] (by exact ⟨rfl, rfl, rfl, rfl, rfl, rfl, rfl, rfl, trivial⟩) rfl ?_
                      refine A.tn ?_
                      refine A.next (k + 1, q2, Aw2, cw2, u2, ci2, co2, cd2, bi2, bo2, bd2) (⟨by omega, hq2, hu2, hm2, hv2, hc2, hco2, hci2, hbi2, hbo2, hbk2⟩) (by simp only []; omega) ?_
                      exact A.here (by exact ⟨rfl, rfl, rfl, rfl, rfl, rfl, trivial⟩) (sk (sk (sk (sk (sc (sn))))))
              · skip
                have p8 := e8; try simp only [decide_eq_true_eq, decide_eq_false_iff_not, beq_iff_eq, beq_eq_false_iff_ne, bne_iff_ne, bne_eq_false_iff_eq, ne_eq, Bool.and_eq_true, Bool.or_eq_true, Bool.or_eq_false_iff, Bool.not_eq_true', Bool.not_eq_false', Int.not_lt, Int.not_le, gt_iff_lt, ge_iff_le, Classical.not_not] at p8
                refine A.exit ?_
                refine A.te ?_
                refine A.te ?_
                refine A.bh ?_
                refine A.tn ?_
                refine A.seq ?_
                refine A.region ?_
                refine A.cons (A.q (some 131) (i6 0) (by kernel_rfl) (qt_move rfl rfl) ?_)
                refine A.cons (A.q (some 132) (.bool true) (by kernel_rfl) (qt_pure (by kernel_rfl) fun _ => by kernel_rfl) ?_)
                refine A.cons (A.q (some 133) (.bool true) (by kernel_rfl) (qt_move rfl rfl) ?_)
                refine A.cons (A.q (some 134) (.pointer (some ⟨b2, 0, none⟩)) (by kernel_rfl) (qt_move rfl rfl) ?_)
                refine A.cons (A.q (some 135) (.agg (wq r m Aw q.length cw ci co cd bi bo bd).toArray) (by kernel_rfl) (qt_loadN (vs := (wq r m Aw q.length cw ci co cd bi bo bd)) rfl rfl (by kernel_rfl) (reads_blk (i := 2) rfl rfl)) ?_)
                refine A.cons (A.q (some 136) (.bool true) (by kernel_rfl) (qt_call [(.pointer (some ⟨b2, 0, none⟩)), (.agg (wq r m Aw q.length cw ci co cd bi bo bd).toArray)] rfl (by kernel_rfl) rfl (fun w s => sameq_spec b2 rb1 rs1 r Aw cw q m u ci co cd bi bo bd w (s.mem (i := 1) rfl) (s.mem (i := 0) rfl) ((rd_sl (i := 3) rfl) w s) (hv) (hu))) ?_)
                refine A.cons (A.q (some 137) (.bool true) (by kernel_rfl) (qt_pure (by kernel_rfl) fun _ => by kernel_rfl) ?_)
                refine A.cons (A.q (some 138) (.bool true) (by kernel_rfl) (qt_move rfl rfl) ?_)
                refine A.cons (A.q (some 139) (.bool true) (by kernel_rfl) (qt_call [] rfl (by kernel_rfl) rfl (fun w _ => hundred_spec  w)) ?_)
                refine A.cons (A.q (some 140) (.bool true) (by kernel_rfl) (qt_pure (by kernel_rfl) fun _ => by kernel_rfl) ?_)
                refine A.cons (A.q (some 6) (.bool true) (by kernel_rfl) (qt_assign rfl rfl) ?_)
                refine A.done ?_
                refine A.norm [(7, (.pointer (some ⟨b2, 0, none⟩))), (8, (i6 0)), (9, (.pointer (some ⟨b3, 0, none⟩))), (53, (.slice A0 l.length c0)), (54, (i6 (l.length : Int))), (55, (i6 (k : Int))), (56, (.bool (decide ((k : Int) < (l.length : Int))))), (6, (.bool true))] [ringI encPkt 118 74 rb1 rs1 r q, blk b2 (qq rb1 m u ci co cd bi bo bd) 112, blk b3 (wq r m Aw q.length cw ci co cd bi bo bd) 82, sl Aw (q.length) cw 74 6 (V.flat encPkt q)] (by exact ⟨rfl, rfl, rfl, rfl, rfl, rfl, rfl, rfl, trivial⟩) rfl ?_
                refine A.tn ?_
                refine A.ret ?_
                refine A.post [(.bool true)] (fun a w rr s => ⟨rv_tmp rr rfl, trivial⟩) (fun w1 s => ?_)
                exact ⟨rfl, s.fr⟩

theorem pktqActs_walk (n m : Int) (A0 : Option Addr) (c0 : Nat) (l : List Pkt) (w : World) (hl : arrAt w A0 (V.flat encPkt l)) :
    Calls Try.prog 12 #[(i6 n), (i6 m), (.slice A0 (l.length) c0)] w fun e w' => e = .returned (.bool true) ∧ Fr [] w w' := by
  by_cases hl0 : 100 < l.length
  · exact pktqActs_long n m A0 c0 l w hl0
  by_cases hb : n < 1 ∨ 64 < n
  · exact pktqActs_bad1 n m A0 c0 l w (by omega) hb
  have h : n = (n.toNat : Int) := by omega
  by_cases hc : m < 1 ∨ 1048576 < m
  · rw [h]; exact pktqActs_bad2 n.toNat m A0 c0 l w (by omega) (by omega) (by omega) hc
  · rw [h]; exact pktqActs_ok n.toNat m A0 c0 l w (by omega) (by omega) (by omega) (by omega) (by omega) hl
end Go.Proofs.Ytkfmboicmdnjpaa
