/- What the functions of this layer do, proved operation by operation, for all arguments, under the conditions that each theorem states. -/
import Derived.Test.YtkfmboicmdnjpaaProg
import Derived.Test.YtkfmboicmdnjpaaRingL
import Derived.Test.YtkfmboicmdnjpaaVg
namespace Go.Proofs.Ytkfmboicmdnjpaa
open Go V
set_option linter.unusedVariables false
set_option linter.unusedSimpArgs false
structure Pkt where
  id : Int
  len : Int
  h0 : Int
  h1 : Int
  h2 : Int
  h3 : Int
  deriving Inhabited, DecidableEq
def encPkt (x : Pkt) : List Value := [(.int .u64 x.id), (.int .i64 x.len), (.int .u16 x.h0), (.int .u16 x.h1), (.int .u16 x.h2), (.int .u16 x.h3)]
theorem encPkt_len (x : Pkt) : (encPkt x).length = 6 := rfl
theorem encPkt_one (x : Pkt) : (encPkt x).all Value.oneCell' = true := rfl

set_option maxRecDepth 100000 in
theorem ringP_place_spec (b s room first n : Nat) (i : Nat) (w : World) (hb : w.heap[b]? = some (.cells [(.slice (some ⟨s, 0, none⟩) room room), (.int .i64 (first : Int)), (.int .i64 (n : Int))].toArray 118 (0, 0))) (h1 : 1 ≤ room ∧ room ≤ 64 ∧ first < room ∧ n ≤ room) (hi : i ≤ 64) :
    Calls Try.prog 74 #[(.pointer (some ⟨b, 0, none⟩)), (.int .i64 (i : Int))] w fun e w' => e = .returned (.int .i64 (((first + i) % room : Nat) : Int)) ∧ Fr [] w w' := by
  refine calls_of (args := [(.pointer (some ⟨b, 0, none⟩)), (.int .i64 (i : Int))]) (penv [(.pointer (some ⟨b, 0, none⟩)), (.int .i64 (i : Int))]) [] [] Try.func74 rfl rfl (look_penv _) (HS.nil w) ?_
  refine A.norm [(0, (.pointer (some ⟨b, 0, none⟩))), (1, (.int .i64 (i : Int)))] [] (by exact ⟨rfl, rfl, trivial⟩) rfl ?_
  refine A.seq ?_
  refine A.region ?_
  refine A.cons (A.q (some 4) (.int .i64 0) (by kernel_rfl) (qt_assign rfl rfl) ?_)
  refine A.done ?_
  refine A.norm [(0, (.pointer (some ⟨b, 0, none⟩))), (1, (.int .i64 (i : Int))), (4, (.int .i64 0))] [] (by exact ⟨rfl, rfl, rfl, trivial⟩) rfl ?_
  refine A.tn ?_
  refine A.seq ?_
  refine A.draw [] (by kernel_rfl) ?_
  refine A.take 0 (some 5) (.pointer (some ⟨b, 0, none⟩)) rfl (by kernel_rfl) (by kernel_rfl) (List.Sublist.refl _) (qt_move rfl rfl) ?_
  refine A.take 1 (some 6) (.pointer (some ⟨b, 0, none⟩)) rfl (by kernel_rfl) (by kernel_rfl) (List.Sublist.refl _) (qt_pure (by kernel_rfl) fun _ => by kernel_rfl) ?_
  refine A.take 2 (some 7) (.pointer (some ⟨b, 1, none⟩)) rfl (by kernel_rfl) (by kernel_rfl) (List.Sublist.refl _) (qt_pure (by kernel_rfl) fun _ => by kernel_rfl) ?_
  refine A.take 3 (some 8) (.int .i64 (first : Int)) rfl (by kernel_rfl) (by kernel_rfl) (List.Sublist.refl _) (qt_load1 rfl rfl (by kernel_rfl) (reads_oldblk hb rfl)) ?_
  refine A.take 4 (some 9) (.int .i64 (i : Int)) rfl (by kernel_rfl) (by kernel_rfl) (List.Sublist.refl _) (qt_move rfl rfl) ?_
  refine A.take 5 (some 10) (.int .i64 ((first : Int) + (i : Int))) rfl (by kernel_rfl) (by kernel_rfl) (List.Sublist.refl _) (qt_as (congrArg (Value.int .i64) (wrap_i64 (e := (first : Int) + (i : Int)) (by constructor <;> omega))) (qt_pure (v := .int .i64 (IntKind.i64.wrap ((first : Int) + (i : Int)))) (by kernel_rfl) fun _ => by kernel_rfl)) ?_
  refine A.take 6 (some 11) (.pointer (some ⟨b, 0, none⟩)) rfl (by kernel_rfl) (by kernel_rfl) (List.Sublist.refl _) (qt_move rfl rfl) ?_
  refine A.take 7 (some 12) (.pointer (some ⟨b, 0, none⟩)) rfl (by kernel_rfl) (by kernel_rfl) (List.Sublist.refl _) (qt_pure (by kernel_rfl) fun _ => by kernel_rfl) ?_
  refine A.take 8 (some 13) (.pointer (some ⟨b, 0, none⟩)) rfl (by kernel_rfl) (by kernel_rfl) (List.Sublist.refl _) (qt_pure (by kernel_rfl) fun _ => by kernel_rfl) ?_
  refine A.take 9 (some 14) (.slice (some ⟨s, 0, none⟩) room room) rfl (by kernel_rfl) (by kernel_rfl) (List.Sublist.refl _) (qt_load1 rfl rfl (by kernel_rfl) (reads_oldblk hb rfl)) ?_
  refine A.take 10 (some 15) (.int .i64 (room : Int)) rfl (by kernel_rfl) (by kernel_rfl) (List.Sublist.refl _) (qt_pure (by kernel_rfl) fun _ => by kernel_rfl) ?_
  refine A.take 11 (some 16) (.int .i64 (((first : Int) + (i : Int)).tmod (room : Int))) rfl (by kernel_rfl) (by kernel_rfl) (List.Sublist.refl _) (qt_rem rfl rfl rfl (by omega)) ?_
  refine A.take 12 (some 4) (.int .i64 (((first : Int) + (i : Int)).tmod (room : Int))) rfl (by kernel_rfl) (by kernel_rfl) (List.Sublist.refl _) (qt_assign rfl rfl) ?_
  refine A.fin (by kernel_rfl) ?_
  refine A.norm [(0, (.pointer (some ⟨b, 0, none⟩))), (1, (.int .i64 (i : Int))), (4, (.int .i64 (((first : Int) + (i : Int)).tmod (room : Int))))] [] (by exact ⟨rfl, rfl, rfl, trivial⟩) rfl ?_
  refine A.tn ?_
  refine A.ret ?_
  refine A.post [(.int .i64 (((first : Int) + (i : Int)).tmod (room : Int)))] (fun a w r s => ⟨rv_tmp r rfl, trivial⟩) (fun w1 s => ?_)
  refine ⟨congrArg Ending.returned (?_ : ((.int .i64 (((first : Int) + (i : Int)).tmod (room : Int))) : Value) = _), s.fr⟩
  refine congrArg (Value.int .i64) ?_; rw [Int.tmod_eq_emod_of_nonneg (by omega)]; norm_cast

set_option maxRecDepth 100000 in
theorem ringP_len_w (b s room first n : Nat) (w : World) (hb : w.heap[b]? = some (.cells [(.slice (some ⟨s, 0, none⟩) room room), (.int .i64 (first : Int)), (.int .i64 (n : Int))].toArray 118 (0, 0))) :
    Calls Try.prog 70 #[(.pointer (some ⟨b, 0, none⟩))] w fun e w' => e = .returned (.int .i64 (n : Int)) ∧ Fr [] w w' := by
  refine calls_of (args := [(.pointer (some ⟨b, 0, none⟩))]) (penv [(.pointer (some ⟨b, 0, none⟩))]) [] [] Try.func70 rfl rfl (look_penv _) (HS.nil w) ?_
  refine A.norm [(0, (.pointer (some ⟨b, 0, none⟩)))] [] (by exact ⟨rfl, trivial⟩) rfl ?_
  refine A.seq ?_
  refine A.region ?_
  refine A.cons (A.q (some 2) (.int .i64 0) (by kernel_rfl) (qt_assign rfl rfl) ?_)
  refine A.done ?_
  refine A.norm [(0, (.pointer (some ⟨b, 0, none⟩))), (2, (.int .i64 0))] [] (by exact ⟨rfl, rfl, trivial⟩) rfl ?_
  refine A.tn ?_
  refine A.seq ?_
  refine A.seq ?_
  refine A.region ?_
  refine A.cons (A.q (some 3) (.pointer (some ⟨b, 0, none⟩)) (by kernel_rfl) (qt_move rfl rfl) ?_)
  refine A.cons (A.q (some 4) (.bool false) (by kernel_rfl) (qt_pure (by kernel_rfl) fun _ => by kernel_rfl) ?_)
  refine A.done ?_
  refine A.norm [(0, (.pointer (some ⟨b, 0, none⟩))), (2, (.int .i64 0)), (4, (.bool false))] [] (by exact ⟨rfl, rfl, rfl, trivial⟩) rfl ?_
  refine A.tn ?_
  refine A.cond_f rfl ?_
  refine A.skip ?_
  refine A.tn ?_
  refine A.seq ?_
  refine A.region ?_
  refine A.cons (A.q (some 5) (.pointer (some ⟨b, 0, none⟩)) (by kernel_rfl) (qt_move rfl rfl) ?_)
  refine A.cons (A.q (some 6) (.pointer (some ⟨b, 0, none⟩)) (by kernel_rfl) (qt_pure (by kernel_rfl) fun _ => by kernel_rfl) ?_)
  refine A.cons (A.q (some 7) (.pointer (some ⟨b, 2, none⟩)) (by kernel_rfl) (qt_pure (by kernel_rfl) fun _ => by kernel_rfl) ?_)
  refine A.cons (A.q (some 8) (.int .i64 (n : Int)) (by kernel_rfl) (qt_load1 rfl rfl (by kernel_rfl) (reads_oldblk hb rfl)) ?_)
  refine A.cons (A.q (some 2) (.int .i64 (n : Int)) (by kernel_rfl) (qt_assign rfl rfl) ?_)
  refine A.done ?_
  refine A.norm [(0, (.pointer (some ⟨b, 0, none⟩))), (2, (.int .i64 (n : Int))), (4, (.bool false))] [] (by exact ⟨rfl, rfl, rfl, trivial⟩) rfl ?_
  refine A.tn ?_
  refine A.ret ?_
  refine A.post [(.int .i64 (n : Int))] (fun a w r s => ⟨rv_tmp r rfl, trivial⟩) (fun w1 s => ?_)
  exact ⟨rfl, s.fr⟩

set_option maxRecDepth 100000 in
theorem ringP_room_w (b s room first n : Nat) (w : World) (hb : w.heap[b]? = some (.cells [(.slice (some ⟨s, 0, none⟩) room room), (.int .i64 (first : Int)), (.int .i64 (n : Int))].toArray 118 (0, 0))) (h1 : 1 ≤ room ∧ room ≤ 64 ∧ first < room ∧ n ≤ room) :
    Calls Try.prog 73 #[(.pointer (some ⟨b, 0, none⟩))] w fun e w' => e = .returned (.int .i64 ((room : Int) - (n : Int))) ∧ Fr [] w w' := by
  refine calls_of (args := [(.pointer (some ⟨b, 0, none⟩))]) (penv [(.pointer (some ⟨b, 0, none⟩))]) [] [] Try.func73 rfl rfl (look_penv _) (HS.nil w) ?_
  refine A.norm [(0, (.pointer (some ⟨b, 0, none⟩)))] [] (by exact ⟨rfl, trivial⟩) rfl ?_
  refine A.seq ?_
  refine A.region ?_
  refine A.cons (A.q (some 2) (.int .i64 0) (by kernel_rfl) (qt_assign rfl rfl) ?_)
  refine A.done ?_
  refine A.norm [(0, (.pointer (some ⟨b, 0, none⟩))), (2, (.int .i64 0))] [] (by exact ⟨rfl, rfl, trivial⟩) rfl ?_
  refine A.tn ?_
  refine A.seq ?_
  refine A.seq ?_
  refine A.region ?_
  refine A.cons (A.q (some 3) (.pointer (some ⟨b, 0, none⟩)) (by kernel_rfl) (qt_move rfl rfl) ?_)
  refine A.cons (A.q (some 4) (.bool false) (by kernel_rfl) (qt_pure (by kernel_rfl) fun _ => by kernel_rfl) ?_)
  refine A.done ?_
  refine A.norm [(0, (.pointer (some ⟨b, 0, none⟩))), (2, (.int .i64 0)), (4, (.bool false))] [] (by exact ⟨rfl, rfl, rfl, trivial⟩) rfl ?_
  refine A.tn ?_
  refine A.cond_f rfl ?_
  refine A.skip ?_
  refine A.tn ?_
  refine A.seq ?_
  refine A.draw [] (by kernel_rfl) ?_
  refine A.take 0 (some 5) (.pointer (some ⟨b, 0, none⟩)) rfl (by kernel_rfl) (by kernel_rfl) (List.Sublist.refl _) (qt_move rfl rfl) ?_
  refine A.take 1 (some 6) (.pointer (some ⟨b, 0, none⟩)) rfl (by kernel_rfl) (by kernel_rfl) (List.Sublist.refl _) (qt_pure (by kernel_rfl) fun _ => by kernel_rfl) ?_
  refine A.take 2 (some 7) (.pointer (some ⟨b, 0, none⟩)) rfl (by kernel_rfl) (by kernel_rfl) (List.Sublist.refl _) (qt_pure (by kernel_rfl) fun _ => by kernel_rfl) ?_
  refine A.take 3 (some 8) (.slice (some ⟨s, 0, none⟩) room room) rfl (by kernel_rfl) (by kernel_rfl) (List.Sublist.refl _) (qt_load1 rfl rfl (by kernel_rfl) (reads_oldblk hb rfl)) ?_
  refine A.take 4 (some 9) (.int .i64 (room : Int)) rfl (by kernel_rfl) (by kernel_rfl) (List.Sublist.refl _) (qt_pure (by kernel_rfl) fun _ => by kernel_rfl) ?_
  refine A.take 5 (some 10) (.pointer (some ⟨b, 0, none⟩)) rfl (by kernel_rfl) (by kernel_rfl) (List.Sublist.refl _) (qt_move rfl rfl) ?_
  refine A.take 6 (some 11) (.pointer (some ⟨b, 0, none⟩)) rfl (by kernel_rfl) (by kernel_rfl) (List.Sublist.refl _) (qt_pure (by kernel_rfl) fun _ => by kernel_rfl) ?_
  refine A.take 7 (some 12) (.pointer (some ⟨b, 2, none⟩)) rfl (by kernel_rfl) (by kernel_rfl) (List.Sublist.refl _) (qt_pure (by kernel_rfl) fun _ => by kernel_rfl) ?_
  refine A.take 8 (some 13) (.int .i64 (n : Int)) rfl (by kernel_rfl) (by kernel_rfl) (List.Sublist.refl _) (qt_load1 rfl rfl (by kernel_rfl) (reads_oldblk hb rfl)) ?_
  refine A.take 9 (some 14) (.int .i64 ((room : Int) - (n : Int))) rfl (by kernel_rfl) (by kernel_rfl) (List.Sublist.refl _) (qt_as (congrArg (Value.int .i64) (wrap_i64 (e := (room : Int) - (n : Int)) (by constructor <;> omega))) (qt_pure (v := .int .i64 (IntKind.i64.wrap ((room : Int) - (n : Int)))) (by kernel_rfl) fun _ => by kernel_rfl)) ?_
  refine A.take 10 (some 2) (.int .i64 ((room : Int) - (n : Int))) rfl (by kernel_rfl) (by kernel_rfl) (List.Sublist.refl _) (qt_assign rfl rfl) ?_
  refine A.fin (by kernel_rfl) ?_
  refine A.norm [(0, (.pointer (some ⟨b, 0, none⟩))), (2, (.int .i64 ((room : Int) - (n : Int)))), (4, (.bool false))] [] (by exact ⟨rfl, rfl, rfl, trivial⟩) rfl ?_
  refine A.tn ?_
  refine A.ret ?_
  refine A.post [(.int .i64 ((room : Int) - (n : Int)))] (fun a w r s => ⟨rv_tmp r rfl, trivial⟩) (fun w1 s => ?_)
  exact ⟨rfl, s.fr⟩

set_option maxRecDepth 100000 in
theorem ringP_at_ok (b s room first n : Nat) (slots : List Pkt) (k : Nat) (x : Pkt) (w : World) (hw : RingW encPkt 118 74 b s room slots first n w) (hk : k < n) (hx : slots[(first + k) % room]? = some x) :
    Calls Try.prog 71 #[(.pointer (some ⟨b, 0, none⟩)), (.int .i64 (k : Int))] w fun e w' => e = .returned (.tuple #[(.agg #[(.int .u64 x.id), (.int .i64 x.len), (.int .u16 x.h0), (.int .u16 x.h1), (.int .u16 x.h2), (.int .u16 x.h3)]), (.int .i64 0)]) ∧ Fr [] w w' := by
  have hlo := hw.lo; have hhi := hw.hi; have hft := hw.fst; have hct := hw.cnt; have hln := hw.len; have hne := hw.ne
  refine calls_of (args := [(.pointer (some ⟨b, 0, none⟩)), (.int .i64 (k : Int))]) (penv [(.pointer (some ⟨b, 0, none⟩)), (.int .i64 (k : Int))]) [] [] Try.func71 rfl rfl (look_penv _) (HS.nil w) ?_
  refine A.norm [(0, (.pointer (some ⟨b, 0, none⟩))), (1, (.int .i64 (k : Int)))] [] (by exact ⟨rfl, rfl, trivial⟩) rfl ?_
  refine A.seq ?_
  refine A.region ?_
  refine A.cons (A.alloc 4 [(.int .u64 0), (.int .i64 0), (.int .u16 0), (.int .u16 0), (.int .u16 0), (.int .u16 0)] (by kernel_rfl) rfl (by kernel_rfl) (fun b1 => [blk b1 [(.int .u64 0), (.int .i64 0), (.int .u16 0), (.int .u16 0), (.int .u16 0), (.int .u16 0)] 74]) (fun _ => rfl) ?_)
  intro b1
  refine A.cons (A.q (some 5) (.int .i64 0) (by kernel_rfl) (qt_assign rfl rfl) ?_)
  refine A.done ?_
  refine A.norm [(0, (.pointer (some ⟨b, 0, none⟩))), (1, (.int .i64 (k : Int))), (4, (.pointer (some ⟨b1, 0, none⟩))), (5, (.int .i64 0))] [blk b1 [(.int .u64 0), (.int .i64 0), (.int .u16 0), (.int .u16 0), (.int .u16 0), (.int .u16 0)] 74] (by exact ⟨rfl, rfl, rfl, rfl, trivial⟩) rfl ?_
  refine A.tn ?_
  refine A.seq ?_
  refine A.region ?_
  refine A.cons (A.alloc 6 [(.int .u64 0), (.int .i64 0), (.int .u16 0), (.int .u16 0), (.int .u16 0), (.int .u16 0)] (by kernel_rfl) rfl (by kernel_rfl) (fun b2 => [blk b1 [(.int .u64 0), (.int .i64 0), (.int .u16 0), (.int .u16 0), (.int .u16 0), (.int .u16 0)] 74, blk b2 [(.int .u64 0), (.int .i64 0), (.int .u16 0), (.int .u16 0), (.int .u16 0), (.int .u16 0)] 74]) (fun _ => rfl) ?_)
  intro b2
  refine A.done ?_
  refine A.norm [(0, (.pointer (some ⟨b, 0, none⟩))), (1, (.int .i64 (k : Int))), (4, (.pointer (some ⟨b1, 0, none⟩))), (5, (.int .i64 0)), (6, (.pointer (some ⟨b2, 0, none⟩)))] [blk b1 [(.int .u64 0), (.int .i64 0), (.int .u16 0), (.int .u16 0), (.int .u16 0), (.int .u16 0)] 74, blk b2 [(.int .u64 0), (.int .i64 0), (.int .u16 0), (.int .u16 0), (.int .u16 0), (.int .u16 0)] 74] (by exact ⟨rfl, rfl, rfl, rfl, rfl, trivial⟩) rfl ?_
  refine A.tn ?_
  refine A.seq ?_
  refine A.block ?_
  refine A.seq ?_
  refine A.region ?_
  refine A.cons (A.q (some 8) (.pointer (some ⟨b, 0, none⟩)) (by kernel_rfl) (qt_move rfl rfl) ?_)
  refine A.cons (A.q (some 9) (.bool false) (by kernel_rfl) (qt_pure (by kernel_rfl) fun _ => by kernel_rfl) ?_)
  refine A.cons (A.q (some 7) (.bool false) (by kernel_rfl) (qt_assign rfl rfl) ?_)
  refine A.done ?_
  refine A.norm [(0, (.pointer (some ⟨b, 0, none⟩))), (1, (.int .i64 (k : Int))), (4, (.pointer (some ⟨b1, 0, none⟩))), (5, (.int .i64 0)), (6, (.pointer (some ⟨b2, 0, none⟩))), (7, (.bool false))] [blk b1 [(.int .u64 0), (.int .i64 0), (.int .u16 0), (.int .u16 0), (.int .u16 0), (.int .u16 0)] 74, blk b2 [(.int .u64 0), (.int .i64 0), (.int .u16 0), (.int .u16 0), (.int .u16 0), (.int .u16 0)] 74] (by exact ⟨rfl, rfl, rfl, rfl, rfl, rfl, trivial⟩) rfl ?_
  refine A.tn ?_
  refine A.cond_f rfl ?_
  refine A.seq ?_
  refine A.region ?_
  refine A.cons (A.q (some 12) (.int .i64 (k : Int)) (by kernel_rfl) (qt_move rfl rfl) ?_)
  refine A.cons (A.q (some 13) (.bool (decide ((k : Int) < 0))) (by kernel_rfl) (qt_pure (by kernel_rfl) fun _ => by kernel_rfl) ?_)
  refine A.cons (A.q (some 14) (.bool (decide ((k : Int) < 0))) (by kernel_rfl) (qt_move rfl rfl) ?_)
  refine A.bool (decide ((k : Int) < 0)) (fun e1 => ?_) (fun e1 => ?_)
  · exact absurd e1 (by first | (simp; done) | (simp; omega) | grind)
  · skip
    refine A.sub [(0, (.pointer (some ⟨b, 0, none⟩))), (1, (.int .i64 (k : Int))), (4, (.pointer (some ⟨b1, 0, none⟩))), (5, (.int .i64 0)), (6, (.pointer (some ⟨b2, 0, none⟩))), (7, (.bool false)), (12, (.int .i64 (k : Int))), (13, (.bool false)), (14, (.bool false))] (by exact ⟨rfl, rfl, rfl, rfl, rfl, rfl, rfl, (congrArg (fun z => some (Value.bool z)) e1), (congrArg (fun z => some (Value.bool z)) e1), trivial⟩) ?_
    refine A.cons (A.q (some 15) (.int .i64 (k : Int)) (by kernel_rfl) (qt_move rfl rfl) ?_)
    refine A.cons (A.q (some 16) (.pointer (some ⟨b, 0, none⟩)) (by kernel_rfl) (qt_move rfl rfl) ?_)
    refine A.cons (A.q (some 17) (.pointer (some ⟨b, 0, none⟩)) (by kernel_rfl) (qt_pure (by kernel_rfl) fun _ => by kernel_rfl) ?_)
    refine A.cons (A.q (some 18) (.pointer (some ⟨b, 2, none⟩)) (by kernel_rfl) (qt_pure (by kernel_rfl) fun _ => by kernel_rfl) ?_)
    refine A.cons (A.q (some 19) (.int .i64 (n : Int)) (by kernel_rfl) (qt_load1 rfl rfl (by kernel_rfl) (reads_oldblk hw.hb rfl)) ?_)
    refine A.cons (A.q (some 20) (.bool (decide ((k : Int) ≥ (n : Int)))) (by kernel_rfl) (qt_pure (by kernel_rfl) fun _ => by kernel_rfl) ?_)
    refine A.cons (A.q (some 21) (.bool (decide ((k : Int) ≥ (n : Int)))) (by kernel_rfl) (qt_pure (by kernel_rfl) fun _ => by kernel_rfl) ?_)
    refine A.cons (A.q (some 11) (.bool (decide ((k : Int) ≥ (n : Int)))) (by kernel_rfl) (qt_assign rfl rfl) ?_)
    refine A.done ?_
    refine A.norm [(0, (.pointer (some ⟨b, 0, none⟩))), (1, (.int .i64 (k : Int))), (4, (.pointer (some ⟨b1, 0, none⟩))), (5, (.int .i64 0)), (6, (.pointer (some ⟨b2, 0, none⟩))), (7, (.bool false)), (11, (.bool (decide ((k : Int) ≥ (n : Int)))))] [blk b1 [(.int .u64 0), (.int .i64 0), (.int .u16 0), (.int .u16 0), (.int .u16 0), (.int .u16 0)] 74, blk b2 [(.int .u64 0), (.int .i64 0), (.int .u16 0), (.int .u16 0), (.int .u16 0), (.int .u16 0)] 74] (by exact ⟨rfl, rfl, rfl, rfl, rfl, rfl, rfl, trivial⟩) rfl ?_
    refine A.tn ?_
    refine A.cond (E := decide ((k : Int) ≥ (n : Int))) rfl (fun e2 => ?_) (fun e2 => ?_)
    · exact absurd e2 (by first | (simp; done) | (simp; omega) | grind)
    · skip
      have p2 := e2; try simp only [decide_eq_true_eq, decide_eq_false_iff_not, beq_iff_eq, beq_eq_false_iff_ne, bne_iff_ne, bne_eq_false_iff_eq, ne_eq, Bool.and_eq_true, Bool.or_eq_true, Bool.or_eq_false_iff, Bool.not_eq_true', Bool.not_eq_false', Int.not_lt, Int.not_le, gt_iff_lt, ge_iff_le, Classical.not_not] at p2
      refine A.skip ?_
      refine A.bn ?_
      refine A.tn ?_
      refine A.seq ?_
      refine A.draw [blk b2 [(.int .u64 0), (.int .i64 0), (.int .u16 0), (.int .u16 0), (.int .u16 0), (.int .u16 0)] 74] (by kernel_rfl) ?_
      refine A.take 0 (some 23) (.pointer (some ⟨b, 0, none⟩)) rfl (by kernel_rfl) (by kernel_rfl) (List.Sublist.cons _ (List.Sublist.cons_cons _ (List.Sublist.slnil))) (qt_move rfl rfl) ?_
      refine A.take 1 (some 24) (.pointer (some ⟨b, 0, none⟩)) rfl (by kernel_rfl) (by kernel_rfl) (List.Sublist.cons _ (List.Sublist.cons_cons _ (List.Sublist.slnil))) (qt_pure (by kernel_rfl) fun _ => by kernel_rfl) ?_
      refine A.take 2 (some 25) (.pointer (some ⟨b, 0, none⟩)) rfl (by kernel_rfl) (by kernel_rfl) (List.Sublist.cons _ (List.Sublist.cons_cons _ (List.Sublist.slnil))) (qt_pure (by kernel_rfl) fun _ => by kernel_rfl) ?_
      refine A.take 3 (some 26) (.slice (some ⟨s, 0, none⟩) room room) rfl (by kernel_rfl) (by kernel_rfl) (List.Sublist.cons _ (List.Sublist.cons_cons _ (List.Sublist.slnil))) (qt_load1 rfl rfl (by kernel_rfl) (reads_oldblk hw.hb rfl)) ?_
      refine A.take 4 (some 27) (.pointer (some ⟨b, 0, none⟩)) rfl (by kernel_rfl) (by kernel_rfl) (List.Sublist.cons _ (List.Sublist.cons_cons _ (List.Sublist.slnil))) (qt_move rfl rfl) ?_
      refine A.take 5 (some 28) (.int .i64 (k : Int)) rfl (by kernel_rfl) (by kernel_rfl) (List.Sublist.cons _ (List.Sublist.cons_cons _ (List.Sublist.slnil))) (qt_move rfl rfl) ?_
      refine A.take 6 (some 29) (.int .i64 (((first + k) % room : Nat) : Int)) rfl (by kernel_rfl) (by kernel_rfl) (List.Sublist.cons _ (List.Sublist.cons_cons _ (List.Sublist.slnil))) (qt_call [(.pointer (some ⟨b, 0, none⟩)), (.int .i64 (k : Int))] rfl (by kernel_rfl) rfl (fun w s0 => ringP_place_spec b s room first n k w (old_blk s0 hw.hb) ⟨hlo, hhi, hft, hct⟩ (by omega))) ?_
      refine A.take 7 (some 30) (.pointer (some ⟨s, ((first + k) % room : Nat) * 6, none⟩)) rfl (by kernel_rfl) (by kernel_rfl) (List.Sublist.cons _ (List.Sublist.cons_cons _ (List.Sublist.slnil))) (qt_index0 (el := 74) (m := ((first + k) % room : Nat)) rfl rfl rfl (by kernel_rfl) (by kernel_rfl) (Nat.mod_lt _ (by omega))) ?_
      refine A.take 8 (some 31) (.agg #[(.int .u64 x.id), (.int .i64 x.len), (.int .u16 x.h0), (.int .u16 x.h1), (.int .u16 x.h2), (.int .u16 x.h3)]) rfl (by kernel_rfl) (by kernel_rfl) (List.Sublist.cons _ (List.Sublist.cons_cons _ (List.Sublist.slnil))) (qt_loadN (vs := [(.int .u64 x.id), (.int .i64 x.len), (.int .u16 x.h0), (.int .u16 x.h1), (.int .u16 x.h2), (.int .u16 x.h3)]) rfl rfl (by kernel_rfl) (reads_oldblk hw.hs (by have := V.flat_at encPkt_len hx 0 6 (by decide); simpa [encPkt] using this))) ?_
      refine A.only 9 rfl (by kernel_rfl) (A.store 0 (vs := [(.int .u64 x.id), (.int .i64 x.len), (.int .u16 x.h0), (.int .u16 x.h1), (.int .u16 x.h2), (.int .u16 x.h3)]) [blk b1 [(.int .u64 x.id), (.int .i64 x.len), (.int .u16 x.h0), (.int .u16 x.h1), (.int .u16 x.h2), (.int .u16 x.h3)] 74, blk b2 [(.int .u64 0), (.int .i64 0), (.int .u16 0), (.int .u16 0), (.int .u16 0), (.int .u16 0)] 74] (by kernel_rfl) rfl rfl rfl rfl (by kernel_rfl) rfl rfl (by kernel_rfl) rfl ?_)
      refine A.and (List.Sublist.cons _ (List.Sublist.cons_cons _ (List.Sublist.slnil))) ?_
      refine A.take 10 (some 5) (.int .i64 0) rfl (by kernel_rfl) (by kernel_rfl) (List.Sublist.cons _ (List.Sublist.cons_cons _ (List.Sublist.slnil))) (qt_assign rfl rfl) ?_
      refine A.fin (by kernel_rfl) ?_
      refine A.norm [(0, (.pointer (some ⟨b, 0, none⟩))), (1, (.int .i64 (k : Int))), (4, (.pointer (some ⟨b1, 0, none⟩))), (5, (.int .i64 0)), (6, (.pointer (some ⟨b2, 0, none⟩))), (7, (.bool false)), (11, (.bool (decide ((k : Int) ≥ (n : Int)))))] [blk b1 [(.int .u64 x.id), (.int .i64 x.len), (.int .u16 x.h0), (.int .u16 x.h1), (.int .u16 x.h2), (.int .u16 x.h3)] 74, blk b2 [(.int .u64 0), (.int .i64 0), (.int .u16 0), (.int .u16 0), (.int .u16 0), (.int .u16 0)] 74] (by exact ⟨rfl, rfl, rfl, rfl, rfl, rfl, rfl, trivial⟩) rfl ?_
      refine A.tn ?_
      refine A.ret ?_
      refine A.post [(.agg #[(.int .u64 x.id), (.int .i64 x.len), (.int .u16 x.h0), (.int .u16 x.h1), (.int .u16 x.h2), (.int .u16 x.h3)]), (.int .i64 0)] (fun a w r s => ⟨rv_cellN (vs := [(.int .u64 x.id), (.int .i64 x.len), (.int .u16 x.h0), (.int .u16 x.h1), (.int .u16 x.h2), (.int .u16 x.h3)]) r s rfl (by kernel_rfl) (reads_blk (i := 0) rfl rfl), rv_tmp r rfl, trivial⟩) (fun w1 s => ?_)
      exact ⟨rfl, s.fr⟩

set_option maxRecDepth 100000 in
theorem ringP_at_none (b s room first n : Nat) (slots : List Pkt) (i : Int) (w : World) (hw : RingW encPkt 118 74 b s room slots first n w) (hi : ¬ (0 ≤ i ∧ i < (n : Int))) :
    Calls Try.prog 71 #[(.pointer (some ⟨b, 0, none⟩)), (.int .i64 i)] w fun e w' => e = .returned (.tuple #[(.agg #[(.int .u64 0), (.int .i64 0), (.int .u16 0), (.int .u16 0), (.int .u16 0), (.int .u16 0)]), (.int .i64 6)]) ∧ Fr [] w w' := by
  have hlo := hw.lo; have hhi := hw.hi; have hft := hw.fst; have hct := hw.cnt; have hln := hw.len; have hne := hw.ne
  refine calls_of (args := [(.pointer (some ⟨b, 0, none⟩)), (.int .i64 i)]) (penv [(.pointer (some ⟨b, 0, none⟩)), (.int .i64 i)]) [] [] Try.func71 rfl rfl (look_penv _) (HS.nil w) ?_
  refine A.norm [(0, (.pointer (some ⟨b, 0, none⟩))), (1, (.int .i64 i))] [] (by exact ⟨rfl, rfl, trivial⟩) rfl ?_
  refine A.seq ?_
  refine A.region ?_
  refine A.cons (A.alloc 4 [(.int .u64 0), (.int .i64 0), (.int .u16 0), (.int .u16 0), (.int .u16 0), (.int .u16 0)] (by kernel_rfl) rfl (by kernel_rfl) (fun b1 => [blk b1 [(.int .u64 0), (.int .i64 0), (.int .u16 0), (.int .u16 0), (.int .u16 0), (.int .u16 0)] 74]) (fun _ => rfl) ?_)
  intro b1
  refine A.cons (A.q (some 5) (.int .i64 0) (by kernel_rfl) (qt_assign rfl rfl) ?_)
  refine A.done ?_
  refine A.norm [(0, (.pointer (some ⟨b, 0, none⟩))), (1, (.int .i64 i)), (4, (.pointer (some ⟨b1, 0, none⟩))), (5, (.int .i64 0))] [blk b1 [(.int .u64 0), (.int .i64 0), (.int .u16 0), (.int .u16 0), (.int .u16 0), (.int .u16 0)] 74] (by exact ⟨rfl, rfl, rfl, rfl, trivial⟩) rfl ?_
  refine A.tn ?_
  refine A.seq ?_
  refine A.region ?_
  refine A.cons (A.alloc 6 [(.int .u64 0), (.int .i64 0), (.int .u16 0), (.int .u16 0), (.int .u16 0), (.int .u16 0)] (by kernel_rfl) rfl (by kernel_rfl) (fun b2 => [blk b1 [(.int .u64 0), (.int .i64 0), (.int .u16 0), (.int .u16 0), (.int .u16 0), (.int .u16 0)] 74, blk b2 [(.int .u64 0), (.int .i64 0), (.int .u16 0), (.int .u16 0), (.int .u16 0), (.int .u16 0)] 74]) (fun _ => rfl) ?_)
  intro b2
  refine A.done ?_
  refine A.norm [(0, (.pointer (some ⟨b, 0, none⟩))), (1, (.int .i64 i)), (4, (.pointer (some ⟨b1, 0, none⟩))), (5, (.int .i64 0)), (6, (.pointer (some ⟨b2, 0, none⟩)))] [blk b1 [(.int .u64 0), (.int .i64 0), (.int .u16 0), (.int .u16 0), (.int .u16 0), (.int .u16 0)] 74, blk b2 [(.int .u64 0), (.int .i64 0), (.int .u16 0), (.int .u16 0), (.int .u16 0), (.int .u16 0)] 74] (by exact ⟨rfl, rfl, rfl, rfl, rfl, trivial⟩) rfl ?_
  refine A.tn ?_
  refine A.seq ?_
  refine A.block ?_
  refine A.seq ?_
  refine A.region ?_
  refine A.cons (A.q (some 8) (.pointer (some ⟨b, 0, none⟩)) (by kernel_rfl) (qt_move rfl rfl) ?_)
  refine A.cons (A.q (some 9) (.bool false) (by kernel_rfl) (qt_pure (by kernel_rfl) fun _ => by kernel_rfl) ?_)
  refine A.cons (A.q (some 7) (.bool false) (by kernel_rfl) (qt_assign rfl rfl) ?_)
  refine A.done ?_
  refine A.norm [(0, (.pointer (some ⟨b, 0, none⟩))), (1, (.int .i64 i)), (4, (.pointer (some ⟨b1, 0, none⟩))), (5, (.int .i64 0)), (6, (.pointer (some ⟨b2, 0, none⟩))), (7, (.bool false))] [blk b1 [(.int .u64 0), (.int .i64 0), (.int .u16 0), (.int .u16 0), (.int .u16 0), (.int .u16 0)] 74, blk b2 [(.int .u64 0), (.int .i64 0), (.int .u16 0), (.int .u16 0), (.int .u16 0), (.int .u16 0)] 74] (by exact ⟨rfl, rfl, rfl, rfl, rfl, rfl, trivial⟩) rfl ?_
  refine A.tn ?_
  refine A.cond_f rfl ?_
  refine A.seq ?_
  refine A.cutR (fun _ : Unit => [(0, (.pointer (some ⟨b, 0, none⟩))), (1, (.int .i64 i)), (4, (.pointer (some ⟨b1, 0, none⟩))), (5, (.int .i64 0)), (6, (.pointer (some ⟨b2, 0, none⟩))), (7, (.bool false)), (11, (.bool ((decide (i < 0)) || (decide (i ≥ (n : Int))))))]) (fun _ => [blk b1 [(.int .u64 0), (.int .i64 0), (.int .u16 0), (.int .u16 0), (.int .u16 0), (.int .u16 0)] 74, blk b2 [(.int .u64 0), (.int .i64 0), (.int .u16 0), (.int .u16 0), (.int .u16 0), (.int .u16 0)] 74]) (fun _ => True) ?_ (fun _ _ => ?_)
  · skip
    refine A.region ?_
    refine A.cons (A.q (some 12) (.int .i64 i) (by kernel_rfl) (qt_move rfl rfl) ?_)
    refine A.cons (A.q (some 13) (.bool (decide (i < 0))) (by kernel_rfl) (qt_pure (by kernel_rfl) fun _ => by kernel_rfl) ?_)
    refine A.cons (A.q (some 14) (.bool (decide (i < 0))) (by kernel_rfl) (qt_move rfl rfl) ?_)
    refine A.bool (decide (i < 0)) (fun e1 => ?_) (fun e1 => ?_)
    · skip
      refine A.sub [(0, (.pointer (some ⟨b, 0, none⟩))), (1, (.int .i64 i)), (4, (.pointer (some ⟨b1, 0, none⟩))), (5, (.int .i64 0)), (6, (.pointer (some ⟨b2, 0, none⟩))), (7, (.bool false)), (12, (.int .i64 i)), (13, (.bool true)), (14, (.bool true))] (by exact ⟨rfl, rfl, rfl, rfl, rfl, rfl, rfl, (congrArg (fun z => some (Value.bool z)) e1), (congrArg (fun z => some (Value.bool z)) e1), trivial⟩) ?_
      refine A.cons (A.jump (some 15) rfl rfl (by intro x hx; cases hx; rfl) ?_)
      refine A.cons (A.jump (some 16) rfl rfl (by intro x hx; cases hx; rfl) ?_)
      refine A.cons (A.jump (some 17) rfl rfl (by intro x hx; cases hx; rfl) ?_)
      refine A.cons (A.jump (some 18) rfl rfl (by intro x hx; cases hx; rfl) ?_)
      refine A.cons (A.jump (some 19) rfl rfl (by intro x hx; cases hx; rfl) ?_)
      refine A.cons (A.jump (some 20) rfl rfl (by intro x hx; cases hx; rfl) ?_)
      refine A.cons (A.q (some 21) (.bool true) (by kernel_rfl) (qt_pure (by kernel_rfl) fun _ => by kernel_rfl) ?_)
      refine A.cons (A.q (some 11) (.bool true) (by kernel_rfl) (qt_assign rfl rfl) ?_)
      refine A.done ?_
      exact A.meet () trivial (A.here (by exact ⟨rfl, rfl, rfl, rfl, rfl, rfl, (by rw [e1]; rfl), trivial⟩) (List.Sublist.refl _))
    · skip
      refine A.sub [(0, (.pointer (some ⟨b, 0, none⟩))), (1, (.int .i64 i)), (4, (.pointer (some ⟨b1, 0, none⟩))), (5, (.int .i64 0)), (6, (.pointer (some ⟨b2, 0, none⟩))), (7, (.bool false)), (12, (.int .i64 i)), (13, (.bool false)), (14, (.bool false))] (by exact ⟨rfl, rfl, rfl, rfl, rfl, rfl, rfl, (congrArg (fun z => some (Value.bool z)) e1), (congrArg (fun z => some (Value.bool z)) e1), trivial⟩) ?_
      refine A.cons (A.q (some 15) (.int .i64 i) (by kernel_rfl) (qt_move rfl rfl) ?_)
      refine A.cons (A.q (some 16) (.pointer (some ⟨b, 0, none⟩)) (by kernel_rfl) (qt_move rfl rfl) ?_)
      refine A.cons (A.q (some 17) (.pointer (some ⟨b, 0, none⟩)) (by kernel_rfl) (qt_pure (by kernel_rfl) fun _ => by kernel_rfl) ?_)
      refine A.cons (A.q (some 18) (.pointer (some ⟨b, 2, none⟩)) (by kernel_rfl) (qt_pure (by kernel_rfl) fun _ => by kernel_rfl) ?_)
      refine A.cons (A.q (some 19) (.int .i64 (n : Int)) (by kernel_rfl) (qt_load1 rfl rfl (by kernel_rfl) (reads_oldblk hw.hb rfl)) ?_)
      refine A.cons (A.q (some 20) (.bool (decide (i ≥ (n : Int)))) (by kernel_rfl) (qt_pure (by kernel_rfl) fun _ => by kernel_rfl) ?_)
      refine A.cons (A.q (some 21) (.bool (decide (i ≥ (n : Int)))) (by kernel_rfl) (qt_pure (by kernel_rfl) fun _ => by kernel_rfl) ?_)
      refine A.cons (A.q (some 11) (.bool (decide (i ≥ (n : Int)))) (by kernel_rfl) (qt_assign rfl rfl) ?_)
      refine A.done ?_
      exact A.meet () trivial (A.here (by exact ⟨rfl, rfl, rfl, rfl, rfl, rfl, (by rw [e1]; rfl), trivial⟩) (List.Sublist.refl _))
  · skip
    refine A.tn ?_
    refine A.cond (E := (decide (i < 0)) || (decide (i ≥ (n : Int)))) rfl (fun e2 => ?_) (fun e2 => ?_)
    · skip
      have p2 := e2; try simp only [decide_eq_true_eq, decide_eq_false_iff_not, beq_iff_eq, beq_eq_false_iff_ne, bne_iff_ne, bne_eq_false_iff_eq, ne_eq, Bool.and_eq_true, Bool.or_eq_true, Bool.or_eq_false_iff, Bool.not_eq_true', Bool.not_eq_false', Int.not_lt, Int.not_le, gt_iff_lt, ge_iff_le, Classical.not_not] at p2
      refine A.seq ?_
      refine A.region ?_
      refine A.cons (A.q (some 22) (.agg #[(.int .u64 0), (.int .i64 0), (.int .u16 0), (.int .u16 0), (.int .u16 0), (.int .u16 0)]) (by kernel_rfl) (qt_loadN (vs := [(.int .u64 0), (.int .i64 0), (.int .u16 0), (.int .u16 0), (.int .u16 0), (.int .u16 0)]) rfl rfl (by kernel_rfl) (reads_blk (i := 1) rfl rfl)) ?_)
      refine A.cons (A.store 0 (vs := [(.int .u64 0), (.int .i64 0), (.int .u16 0), (.int .u16 0), (.int .u16 0), (.int .u16 0)]) [blk b1 [(.int .u64 0), (.int .i64 0), (.int .u16 0), (.int .u16 0), (.int .u16 0), (.int .u16 0)] 74, blk b2 [(.int .u64 0), (.int .i64 0), (.int .u16 0), (.int .u16 0), (.int .u16 0), (.int .u16 0)] 74] (by kernel_rfl) rfl rfl rfl rfl (by kernel_rfl) rfl rfl (by kernel_rfl) rfl ?_)
      refine A.cons (A.q (some 5) (.int .i64 6) (by kernel_rfl) (qt_assign rfl rfl) ?_)
      refine A.done ?_
      refine A.norm [(0, (.pointer (some ⟨b, 0, none⟩))), (1, (.int .i64 i)), (4, (.pointer (some ⟨b1, 0, none⟩))), (5, (.int .i64 6)), (6, (.pointer (some ⟨b2, 0, none⟩))), (7, (.bool false)), (11, (.bool ((decide (i < 0)) || (decide (i ≥ (n : Int))))))] [blk b1 [(.int .u64 0), (.int .i64 0), (.int .u16 0), (.int .u16 0), (.int .u16 0), (.int .u16 0)] 74, blk b2 [(.int .u64 0), (.int .i64 0), (.int .u16 0), (.int .u16 0), (.int .u16 0), (.int .u16 0)] 74] (by exact ⟨rfl, rfl, rfl, rfl, rfl, rfl, rfl, trivial⟩) rfl ?_
      refine A.tn ?_
      refine A.ret ?_
      refine A.br ?_
      refine A.tr ?_
      refine A.post [(.agg #[(.int .u64 0), (.int .i64 0), (.int .u16 0), (.int .u16 0), (.int .u16 0), (.int .u16 0)]), (.int .i64 6)] (fun a w r s => ⟨rv_cellN (vs := [(.int .u64 0), (.int .i64 0), (.int .u16 0), (.int .u16 0), (.int .u16 0), (.int .u16 0)]) r s rfl (by kernel_rfl) (reads_blk (i := 0) rfl rfl), rv_tmp r rfl, trivial⟩) (fun w1 s => ?_)
      exact ⟨rfl, s.fr⟩
    · exact absurd e2 (by first | (simp; done) | (simp; omega) | grind)

set_option maxRecDepth 100000 in
theorem ringP_new_bad (r : Int) (w : World) (h : r < 1 ∨ 64 < r) :
    Calls Try.prog 63 #[(.int .i64 r)] w fun e w' => e = .returned (.tuple #[(.pointer none), (.int .i64 1)]) ∧ Fr [] w w' := by
  refine calls_of (args := [(.int .i64 r)]) (penv [(.int .i64 r)]) [] [] Try.func63 rfl rfl (look_penv _) (HS.nil w) ?_
  refine A.norm [(0, (.int .i64 r))] [] (by exact ⟨rfl, trivial⟩) rfl ?_
  refine A.seq ?_
  refine A.region ?_
  refine A.cons (A.q (some 2) (.pointer none) (by kernel_rfl) (qt_assign rfl rfl) ?_)
  refine A.cons (A.q (some 3) (.int .i64 0) (by kernel_rfl) (qt_assign rfl rfl) ?_)
  refine A.done ?_
  refine A.norm [(0, (.int .i64 r)), (2, (.pointer none)), (3, (.int .i64 0))] [] (by exact ⟨rfl, rfl, rfl, trivial⟩) rfl ?_
  refine A.tn ?_
  refine A.seq ?_
  refine A.seq ?_
  refine A.cutR (fun _ : Unit => [(0, (.int .i64 r)), (2, (.pointer none)), (3, (.int .i64 0)), (9, (.bool ((decide (r < 1)) || (decide (r > 64)))))]) (fun _ => []) (fun _ => True) ?_ (fun _ _ => ?_)
  · skip
    refine A.region ?_
    refine A.cons (A.q (some 4) (.int .i64 r) (by kernel_rfl) (qt_move rfl rfl) ?_)
    refine A.cons (A.q (some 5) (.bool (decide (r < 1))) (by kernel_rfl) (qt_pure (by kernel_rfl) fun _ => by kernel_rfl) ?_)
    refine A.cons (A.q (some 6) (.bool (decide (r < 1))) (by kernel_rfl) (qt_move rfl rfl) ?_)
    refine A.bool (decide (r < 1)) (fun e1 => ?_) (fun e1 => ?_)
    · skip
      refine A.sub [(0, (.int .i64 r)), (2, (.pointer none)), (3, (.int .i64 0)), (4, (.int .i64 r)), (5, (.bool true)), (6, (.bool true))] (by exact ⟨rfl, rfl, rfl, rfl, (congrArg (fun z => some (Value.bool z)) e1), (congrArg (fun z => some (Value.bool z)) e1), trivial⟩) ?_
      refine A.cons (A.jump (some 7) rfl rfl (by intro x hx; cases hx; rfl) ?_)
      refine A.cons (A.jump (some 8) rfl rfl (by intro x hx; cases hx; rfl) ?_)
      refine A.cons (A.q (some 9) (.bool true) (by kernel_rfl) (qt_pure (by kernel_rfl) fun _ => by kernel_rfl) ?_)
      refine A.done ?_
      exact A.meet () trivial (A.here (by exact ⟨rfl, rfl, rfl, (by rw [e1]; rfl), trivial⟩) (List.Sublist.refl _))
    · skip
      refine A.sub [(0, (.int .i64 r)), (2, (.pointer none)), (3, (.int .i64 0)), (4, (.int .i64 r)), (5, (.bool false)), (6, (.bool false))] (by exact ⟨rfl, rfl, rfl, rfl, (congrArg (fun z => some (Value.bool z)) e1), (congrArg (fun z => some (Value.bool z)) e1), trivial⟩) ?_
      refine A.cons (A.q (some 7) (.int .i64 r) (by kernel_rfl) (qt_move rfl rfl) ?_)
      refine A.cons (A.q (some 8) (.bool (decide (r > 64))) (by kernel_rfl) (qt_pure (by kernel_rfl) fun _ => by kernel_rfl) ?_)
      refine A.cons (A.q (some 9) (.bool (decide (r > 64))) (by kernel_rfl) (qt_pure (by kernel_rfl) fun _ => by kernel_rfl) ?_)
      refine A.done ?_
      exact A.meet () trivial (A.here (by exact ⟨rfl, rfl, rfl, (by rw [e1]; rfl), trivial⟩) (List.Sublist.refl _))
  · skip
    refine A.tn ?_
    refine A.cond (E := (decide (r < 1)) || (decide (r > 64))) rfl (fun e2 => ?_) (fun e2 => ?_)
    · skip
      have p2 := e2; try simp only [decide_eq_true_eq, decide_eq_false_iff_not, beq_iff_eq, beq_eq_false_iff_ne, bne_iff_ne, bne_eq_false_iff_eq, ne_eq, Bool.and_eq_true, Bool.or_eq_true, Bool.or_eq_false_iff, Bool.not_eq_true', Bool.not_eq_false', Int.not_lt, Int.not_le, gt_iff_lt, ge_iff_le, Classical.not_not] at p2
      refine A.seq ?_
      refine A.region ?_
      refine A.cons (A.q (some 2) (.pointer none) (by kernel_rfl) (qt_assign rfl rfl) ?_)
      refine A.cons (A.q (some 3) (.int .i64 1) (by kernel_rfl) (qt_assign rfl rfl) ?_)
      refine A.done ?_
      refine A.norm [(0, (.int .i64 r)), (2, (.pointer none)), (3, (.int .i64 1)), (9, (.bool ((decide (r < 1)) || (decide (r > 64)))))] [] (by exact ⟨rfl, rfl, rfl, rfl, trivial⟩) rfl ?_
      refine A.tn ?_
      refine A.ret ?_
      refine A.tr ?_
      refine A.post [(.pointer none), (.int .i64 1)] (fun a w r s => ⟨rv_tmp r rfl, rv_tmp r rfl, trivial⟩) (fun w1 s => ?_)
      exact ⟨rfl, s.fr⟩
    · exact absurd e2 (by first | (simp; done) | (simp; omega) | grind)

set_option maxRecDepth 100000 in
theorem ringP_new_ok (room : Nat) (w : World) (h1 : 1 ≤ room) (h2 : room ≤ 64) :
    Calls Try.prog 63 #[(.int .i64 (room : Int))] w fun e w' => ∃ b s, e = .returned (.tuple #[(.pointer (some ⟨b, 0, none⟩)), (.int .i64 0)]) ∧ RingH encPkt 118 74 b s room ([] : List Pkt) w' ∧ Fr [] w w' ∧ w.heap.size ≤ b ∧ w.heap.size ≤ s := by
  refine calls_of (args := [(.int .i64 (room : Int))]) (penv [(.int .i64 (room : Int))]) [] [] Try.func63 rfl rfl (look_penv _) (HS.nil w) ?_
  refine A.norm [(0, (.int .i64 (room : Int)))] [] (by exact ⟨rfl, trivial⟩) rfl ?_
  refine A.seq ?_
  refine A.region ?_
  refine A.cons (A.q (some 2) (.pointer none) (by kernel_rfl) (qt_assign rfl rfl) ?_)
  refine A.cons (A.q (some 3) (.int .i64 0) (by kernel_rfl) (qt_assign rfl rfl) ?_)
  refine A.done ?_
  refine A.norm [(0, (.int .i64 (room : Int))), (2, (.pointer none)), (3, (.int .i64 0))] [] (by exact ⟨rfl, rfl, rfl, trivial⟩) rfl ?_
  refine A.tn ?_
  refine A.seq ?_
  refine A.seq ?_
  refine A.region ?_
  refine A.cons (A.q (some 4) (.int .i64 (room : Int)) (by kernel_rfl) (qt_move rfl rfl) ?_)
  refine A.cons (A.q (some 5) (.bool (decide ((room : Int) < 1))) (by kernel_rfl) (qt_pure (by kernel_rfl) fun _ => by kernel_rfl) ?_)
  refine A.cons (A.q (some 6) (.bool (decide ((room : Int) < 1))) (by kernel_rfl) (qt_move rfl rfl) ?_)
  refine A.bool (decide ((room : Int) < 1)) (fun e1 => ?_) (fun e1 => ?_)
  · exact absurd e1 (by first | (simp; done) | (simp; omega) | grind)
  · skip
    refine A.sub [(0, (.int .i64 (room : Int))), (2, (.pointer none)), (3, (.int .i64 0)), (4, (.int .i64 (room : Int))), (5, (.bool false)), (6, (.bool false))] (by exact ⟨rfl, rfl, rfl, rfl, (congrArg (fun z => some (Value.bool z)) e1), (congrArg (fun z => some (Value.bool z)) e1), trivial⟩) ?_
    refine A.cons (A.q (some 7) (.int .i64 (room : Int)) (by kernel_rfl) (qt_move rfl rfl) ?_)
    refine A.cons (A.q (some 8) (.bool (decide ((room : Int) > 64))) (by kernel_rfl) (qt_pure (by kernel_rfl) fun _ => by kernel_rfl) ?_)
    refine A.cons (A.q (some 9) (.bool (decide ((room : Int) > 64))) (by kernel_rfl) (qt_pure (by kernel_rfl) fun _ => by kernel_rfl) ?_)
    refine A.done ?_
    refine A.norm [(0, (.int .i64 (room : Int))), (2, (.pointer none)), (3, (.int .i64 0)), (9, (.bool (decide ((room : Int) > 64))))] [] (by exact ⟨rfl, rfl, rfl, rfl, trivial⟩) rfl ?_
    refine A.tn ?_
    refine A.cond (E := decide ((room : Int) > 64)) rfl (fun e2 => ?_) (fun e2 => ?_)
    · exact absurd e2 (by first | (simp; done) | (simp; omega) | grind)
    · skip
      have p2 := e2; try simp only [decide_eq_true_eq, decide_eq_false_iff_not, beq_iff_eq, beq_eq_false_iff_ne, bne_iff_ne, bne_eq_false_iff_eq, ne_eq, Bool.and_eq_true, Bool.or_eq_true, Bool.or_eq_false_iff, Bool.not_eq_true', Bool.not_eq_false', Int.not_lt, Int.not_le, gt_iff_lt, ge_iff_le, Classical.not_not] at p2
      refine A.skip ?_
      refine A.tn ?_
      refine A.seq ?_
      refine A.region ?_
      refine A.cons (A.q (some 10) (.int .i64 (room : Int)) (by kernel_rfl) (qt_move rfl rfl) ?_)
      refine A.cons (A.make encPkt (default : Pkt) 11 (e := 74) (sz := 6) (by_ := 24) (z := (.agg #[(.int .u64 0), (.int .i64 0), (.int .u16 0), (.int .u16 0), (.int .u16 0), (.int .u16 0)])) room (by kernel_rfl) rfl rfl rfl (by kernel_rfl) (by kernel_rfl) rfl (by rfl) (by omega) (by omega) (fun b1 => [blk b1 (V.flat encPkt (List.replicate room default)) 74]) (fun _ => rfl) ?_)
      intro b1
      refine A.cons (A.q (some 12) (.agg #[(.slice (some ⟨b1, 0, none⟩) room room), (.int .i64 0), (.int .i64 0)]) (by kernel_rfl) (qt_pure (by kernel_rfl) fun _ => by kernel_rfl) ?_)
      refine A.cons (A.box 13 [(.slice (some ⟨b1, 0, none⟩) room room), (.int .i64 0), (.int .i64 0)] (by kernel_rfl) rfl rfl rfl (fun b2 => [blk b1 (V.flat encPkt (List.replicate room default)) 74, blk b2 [(.slice (some ⟨b1, 0, none⟩) room room), (.int .i64 0), (.int .i64 0)] 118]) (fun _ => rfl) ?_)
      intro b2
      refine A.cons (A.q (some 2) (.pointer (some ⟨b2, 0, none⟩)) (by kernel_rfl) (qt_assign rfl rfl) ?_)
      refine A.cons (A.q (some 3) (.int .i64 0) (by kernel_rfl) (qt_assign rfl rfl) ?_)
      refine A.done ?_
      refine A.norm [(0, (.int .i64 (room : Int))), (2, (.pointer (some ⟨b2, 0, none⟩))), (3, (.int .i64 0)), (9, (.bool (decide ((room : Int) > 64))))] [blk b1 (V.flat encPkt (List.replicate room default)) 74, blk b2 [(.slice (some ⟨b1, 0, none⟩) room room), (.int .i64 0), (.int .i64 0)] 118] (by exact ⟨rfl, rfl, rfl, rfl, trivial⟩) rfl ?_
      refine A.tn ?_
      refine A.ret ?_
      refine A.post [(.pointer (some ⟨b2, 0, none⟩)), (.int .i64 0)] (fun a w r s => ⟨rv_tmp r rfl, rv_tmp r rfl, trivial⟩) (fun w1 s => ?_)
      have hne := s.nodup
      simp only [feet, blk, List.flatMap_cons, List.flatMap_nil, List.nodup_cons, List.mem_cons, List.append_nil, List.cons_append, List.nil_append] at hne
      exact ⟨b2, b1, rfl, ⟨List.replicate room default, 0, ⟨s.mem (i := 1) rfl, s.mem (i := 0) rfl, by simp, h1, h2, by omega, by simp, by rintro rfl; simp at hne⟩, by simp⟩, s.fr, s.new (by simp [feet, blk]), s.new (by simp [feet, blk])⟩

set_option maxRecDepth 100000 in
theorem ringP_push_full (b s room first n : Nat) (slots : List Pkt) (x : Pkt) (w : World) (hw : RingW encPkt 118 74 b s room slots first n w) (hn : n = room) :
    Calls Try.prog 64 #[(.pointer (some ⟨b, 0, none⟩)), (.agg #[(.int .u64 x.id), (.int .i64 x.len), (.int .u16 x.h0), (.int .u16 x.h1), (.int .u16 x.h2), (.int .u16 x.h3)])] w fun e w' => e = .returned (.int .i64 5) ∧ Fr [] w w' := by
  have hlo := hw.lo; have hhi := hw.hi; have hft := hw.fst; have hct := hw.cnt; have hln := hw.len; have hne := hw.ne
  refine calls_of (args := [(.pointer (some ⟨b, 0, none⟩)), (.agg #[(.int .u64 x.id), (.int .i64 x.len), (.int .u16 x.h0), (.int .u16 x.h1), (.int .u16 x.h2), (.int .u16 x.h3)])]) (penv [(.pointer (some ⟨b, 0, none⟩)), (.agg #[(.int .u64 x.id), (.int .i64 x.len), (.int .u16 x.h0), (.int .u16 x.h1), (.int .u16 x.h2), (.int .u16 x.h3)])]) [] [] Try.func64 rfl rfl (look_penv _) (HS.nil w) ?_
  refine A.norm [(0, (.pointer (some ⟨b, 0, none⟩))), (1, (.agg #[(.int .u64 x.id), (.int .i64 x.len), (.int .u16 x.h0), (.int .u16 x.h1), (.int .u16 x.h2), (.int .u16 x.h3)]))] [] (by exact ⟨rfl, rfl, trivial⟩) rfl ?_
  refine A.seq ?_
  refine A.region ?_
  refine A.cons (A.box 3 [(.int .u64 x.id), (.int .i64 x.len), (.int .u16 x.h0), (.int .u16 x.h1), (.int .u16 x.h2), (.int .u16 x.h3)] (by kernel_rfl) rfl rfl rfl (fun b1 => [blk b1 [(.int .u64 x.id), (.int .i64 x.len), (.int .u16 x.h0), (.int .u16 x.h1), (.int .u16 x.h2), (.int .u16 x.h3)] 74]) (fun _ => rfl) ?_)
  intro b1
  refine A.cons (A.q (some 4) (.int .i64 0) (by kernel_rfl) (qt_assign rfl rfl) ?_)
  refine A.done ?_
  refine A.norm [(0, (.pointer (some ⟨b, 0, none⟩))), (1, (.agg #[(.int .u64 x.id), (.int .i64 x.len), (.int .u16 x.h0), (.int .u16 x.h1), (.int .u16 x.h2), (.int .u16 x.h3)])), (3, (.pointer (some ⟨b1, 0, none⟩))), (4, (.int .i64 0))] [blk b1 [(.int .u64 x.id), (.int .i64 x.len), (.int .u16 x.h0), (.int .u16 x.h1), (.int .u16 x.h2), (.int .u16 x.h3)] 74] (by exact ⟨rfl, rfl, rfl, rfl, trivial⟩) rfl ?_
  refine A.tn ?_
  refine A.seq ?_
  refine A.block ?_
  refine A.seq ?_
  refine A.region ?_
  refine A.cons (A.q (some 6) (.pointer (some ⟨b, 0, none⟩)) (by kernel_rfl) (qt_move rfl rfl) ?_)
  refine A.cons (A.q (some 7) (.bool false) (by kernel_rfl) (qt_pure (by kernel_rfl) fun _ => by kernel_rfl) ?_)
  refine A.cons (A.q (some 5) (.bool false) (by kernel_rfl) (qt_assign rfl rfl) ?_)
  refine A.done ?_
  refine A.norm [(0, (.pointer (some ⟨b, 0, none⟩))), (1, (.agg #[(.int .u64 x.id), (.int .i64 x.len), (.int .u16 x.h0), (.int .u16 x.h1), (.int .u16 x.h2), (.int .u16 x.h3)])), (3, (.pointer (some ⟨b1, 0, none⟩))), (4, (.int .i64 0)), (5, (.bool false))] [blk b1 [(.int .u64 x.id), (.int .i64 x.len), (.int .u16 x.h0), (.int .u16 x.h1), (.int .u16 x.h2), (.int .u16 x.h3)] 74] (by exact ⟨rfl, rfl, rfl, rfl, rfl, trivial⟩) rfl ?_
  refine A.tn ?_
  refine A.cond_f rfl ?_
  refine A.seq ?_
  refine A.region ?_
  refine A.cons (A.q (some 9) (.pointer (some ⟨b, 0, none⟩)) (by kernel_rfl) (qt_move rfl rfl) ?_)
  refine A.cons (A.q (some 10) (.int .i64 ((room : Int) - (n : Int))) (by kernel_rfl) (qt_call [(.pointer (some ⟨b, 0, none⟩))] rfl (by kernel_rfl) rfl (fun w s0 => ringP_room_w b s room first n w (old_blk s0 hw.hb) ⟨hlo, hhi, hft, hct⟩)) ?_)
  refine A.cons (A.q (some 11) (.bool (((room : Int) - (n : Int)) == 0)) (by kernel_rfl) (qt_pure (by kernel_rfl) fun _ => by kernel_rfl) ?_)
  refine A.cons (A.q (some 8) (.bool (((room : Int) - (n : Int)) == 0)) (by kernel_rfl) (qt_assign rfl rfl) ?_)
  refine A.done ?_
  refine A.norm [(0, (.pointer (some ⟨b, 0, none⟩))), (1, (.agg #[(.int .u64 x.id), (.int .i64 x.len), (.int .u16 x.h0), (.int .u16 x.h1), (.int .u16 x.h2), (.int .u16 x.h3)])), (3, (.pointer (some ⟨b1, 0, none⟩))), (4, (.int .i64 0)), (5, (.bool false)), (8, (.bool (((room : Int) - (n : Int)) == 0)))] [blk b1 [(.int .u64 x.id), (.int .i64 x.len), (.int .u16 x.h0), (.int .u16 x.h1), (.int .u16 x.h2), (.int .u16 x.h3)] 74] (by exact ⟨rfl, rfl, rfl, rfl, rfl, rfl, trivial⟩) rfl ?_
  refine A.tn ?_
  refine A.cond (E := ((room : Int) - (n : Int)) == 0) rfl (fun e1 => ?_) (fun e1 => ?_)
  · skip
    have p1 := e1; try simp only [decide_eq_true_eq, decide_eq_false_iff_not, beq_iff_eq, beq_eq_false_iff_ne, bne_iff_ne, bne_eq_false_iff_eq, ne_eq, Bool.and_eq_true, Bool.or_eq_true, Bool.or_eq_false_iff, Bool.not_eq_true', Bool.not_eq_false', Int.not_lt, Int.not_le, gt_iff_lt, ge_iff_le, Classical.not_not] at p1
    refine A.seq ?_
    refine A.region ?_
    refine A.cons (A.q (some 4) (.int .i64 5) (by kernel_rfl) (qt_assign rfl rfl) ?_)
    refine A.done ?_
    refine A.norm [(0, (.pointer (some ⟨b, 0, none⟩))), (1, (.agg #[(.int .u64 x.id), (.int .i64 x.len), (.int .u16 x.h0), (.int .u16 x.h1), (.int .u16 x.h2), (.int .u16 x.h3)])), (3, (.pointer (some ⟨b1, 0, none⟩))), (4, (.int .i64 5)), (5, (.bool false)), (8, (.bool (((room : Int) - (n : Int)) == 0)))] [blk b1 [(.int .u64 x.id), (.int .i64 x.len), (.int .u16 x.h0), (.int .u16 x.h1), (.int .u16 x.h2), (.int .u16 x.h3)] 74] (by exact ⟨rfl, rfl, rfl, rfl, rfl, rfl, trivial⟩) rfl ?_
    refine A.tn ?_
    refine A.ret ?_
    refine A.br ?_
    refine A.tr ?_
    refine A.post [(.int .i64 5)] (fun a w r s => ⟨rv_tmp r rfl, trivial⟩) (fun w1 s => ?_)
    exact ⟨rfl, s.fr⟩
  · exact absurd e1 (by first | (simp; done) | (simp; omega) | grind)

set_option maxRecDepth 100000 in
theorem ringP_push_w (b s room first n : Nat) (slots : List Pkt) (x : Pkt) (w : World) (hw : RingW encPkt 118 74 b s room slots first n w) (hn : n < room) :
    Calls Try.prog 64 #[(.pointer (some ⟨b, 0, none⟩)), (.agg #[(.int .u64 x.id), (.int .i64 x.len), (.int .u16 x.h0), (.int .u16 x.h1), (.int .u16 x.h2), (.int .u16 x.h3)])] w fun e w' => e = .returned (.int .i64 0) ∧ RingW encPkt 118 74 b s room (slots.set ((first + n) % room) x) first (n + 1) w' ∧ Fr [b, s] w w' := by
  have hlo := hw.lo; have hhi := hw.hi; have hft := hw.fst; have hct := hw.cnt; have hln := hw.len; have hne := hw.ne
  refine calls_of (args := [(.pointer (some ⟨b, 0, none⟩)), (.agg #[(.int .u64 x.id), (.int .i64 x.len), (.int .u16 x.h0), (.int .u16 x.h1), (.int .u16 x.h2), (.int .u16 x.h3)])]) (penv [(.pointer (some ⟨b, 0, none⟩)), (.agg #[(.int .u64 x.id), (.int .i64 x.len), (.int .u16 x.h0), (.int .u16 x.h1), (.int .u16 x.h2), (.int .u16 x.h3)])]) [b, s] [blk b [(.slice (some ⟨s, 0, none⟩) room room), (.int .i64 (first : Int)), (.int .i64 (n : Int))] 118, blk s (V.flat encPkt slots) 74] Try.func64 rfl rfl (look_penv _) (ringHS hw) ?_
  refine A.norm [(0, (.pointer (some ⟨b, 0, none⟩))), (1, (.agg #[(.int .u64 x.id), (.int .i64 x.len), (.int .u16 x.h0), (.int .u16 x.h1), (.int .u16 x.h2), (.int .u16 x.h3)]))] [blk b [(.slice (some ⟨s, 0, none⟩) room room), (.int .i64 (first : Int)), (.int .i64 (n : Int))] 118, blk s (V.flat encPkt slots) 74] (by exact ⟨rfl, rfl, trivial⟩) rfl ?_
  refine A.seq ?_
  refine A.region ?_
  refine A.cons (A.box 3 [(.int .u64 x.id), (.int .i64 x.len), (.int .u16 x.h0), (.int .u16 x.h1), (.int .u16 x.h2), (.int .u16 x.h3)] (by kernel_rfl) rfl rfl rfl (fun b1 => [blk b [(.slice (some ⟨s, 0, none⟩) room room), (.int .i64 (first : Int)), (.int .i64 (n : Int))] 118, blk s (V.flat encPkt slots) 74, blk b1 [(.int .u64 x.id), (.int .i64 x.len), (.int .u16 x.h0), (.int .u16 x.h1), (.int .u16 x.h2), (.int .u16 x.h3)] 74]) (fun _ => rfl) ?_)
  intro b1
  refine A.cons (A.q (some 4) (.int .i64 0) (by kernel_rfl) (qt_assign rfl rfl) ?_)
  refine A.done ?_
  refine A.norm [(0, (.pointer (some ⟨b, 0, none⟩))), (1, (.agg #[(.int .u64 x.id), (.int .i64 x.len), (.int .u16 x.h0), (.int .u16 x.h1), (.int .u16 x.h2), (.int .u16 x.h3)])), (3, (.pointer (some ⟨b1, 0, none⟩))), (4, (.int .i64 0))] [blk b [(.slice (some ⟨s, 0, none⟩) room room), (.int .i64 (first : Int)), (.int .i64 (n : Int))] 118, blk s (V.flat encPkt slots) 74, blk b1 [(.int .u64 x.id), (.int .i64 x.len), (.int .u16 x.h0), (.int .u16 x.h1), (.int .u16 x.h2), (.int .u16 x.h3)] 74] (by exact ⟨rfl, rfl, rfl, rfl, trivial⟩) rfl ?_
  refine A.tn ?_
  refine A.seq ?_
  refine A.block ?_
  refine A.seq ?_
  refine A.region ?_
  refine A.cons (A.q (some 6) (.pointer (some ⟨b, 0, none⟩)) (by kernel_rfl) (qt_move rfl rfl) ?_)
  refine A.cons (A.q (some 7) (.bool false) (by kernel_rfl) (qt_pure (by kernel_rfl) fun _ => by kernel_rfl) ?_)
  refine A.cons (A.q (some 5) (.bool false) (by kernel_rfl) (qt_assign rfl rfl) ?_)
  refine A.done ?_
  refine A.norm [(0, (.pointer (some ⟨b, 0, none⟩))), (1, (.agg #[(.int .u64 x.id), (.int .i64 x.len), (.int .u16 x.h0), (.int .u16 x.h1), (.int .u16 x.h2), (.int .u16 x.h3)])), (3, (.pointer (some ⟨b1, 0, none⟩))), (4, (.int .i64 0)), (5, (.bool false))] [blk b [(.slice (some ⟨s, 0, none⟩) room room), (.int .i64 (first : Int)), (.int .i64 (n : Int))] 118, blk s (V.flat encPkt slots) 74, blk b1 [(.int .u64 x.id), (.int .i64 x.len), (.int .u16 x.h0), (.int .u16 x.h1), (.int .u16 x.h2), (.int .u16 x.h3)] 74] (by exact ⟨rfl, rfl, rfl, rfl, rfl, trivial⟩) rfl ?_
  refine A.tn ?_
  refine A.cond_f rfl ?_
  refine A.seq ?_
  refine A.region ?_
  refine A.cons (A.q (some 9) (.pointer (some ⟨b, 0, none⟩)) (by kernel_rfl) (qt_move rfl rfl) ?_)
  refine A.cons (A.q (some 10) (.int .i64 ((room : Int) - (n : Int))) (by kernel_rfl) (qt_call [(.pointer (some ⟨b, 0, none⟩))] rfl (by kernel_rfl) rfl (fun w s0 => ringP_room_w b s room first n w (s0.mem (i := 0) rfl) ⟨hlo, hhi, hft, hct⟩)) ?_)
  refine A.cons (A.q (some 11) (.bool (((room : Int) - (n : Int)) == 0)) (by kernel_rfl) (qt_pure (by kernel_rfl) fun _ => by kernel_rfl) ?_)
  refine A.cons (A.q (some 8) (.bool (((room : Int) - (n : Int)) == 0)) (by kernel_rfl) (qt_assign rfl rfl) ?_)
  refine A.done ?_
  refine A.norm [(0, (.pointer (some ⟨b, 0, none⟩))), (1, (.agg #[(.int .u64 x.id), (.int .i64 x.len), (.int .u16 x.h0), (.int .u16 x.h1), (.int .u16 x.h2), (.int .u16 x.h3)])), (3, (.pointer (some ⟨b1, 0, none⟩))), (4, (.int .i64 0)), (5, (.bool false)), (8, (.bool (((room : Int) - (n : Int)) == 0)))] [blk b [(.slice (some ⟨s, 0, none⟩) room room), (.int .i64 (first : Int)), (.int .i64 (n : Int))] 118, blk s (V.flat encPkt slots) 74, blk b1 [(.int .u64 x.id), (.int .i64 x.len), (.int .u16 x.h0), (.int .u16 x.h1), (.int .u16 x.h2), (.int .u16 x.h3)] 74] (by exact ⟨rfl, rfl, rfl, rfl, rfl, rfl, trivial⟩) rfl ?_
  refine A.tn ?_
  refine A.cond (E := ((room : Int) - (n : Int)) == 0) rfl (fun e1 => ?_) (fun e1 => ?_)
  · exact absurd e1 (by first | (simp; done) | (simp; omega) | grind)
  · skip
    have p1 := e1; try simp only [decide_eq_true_eq, decide_eq_false_iff_not, beq_iff_eq, beq_eq_false_iff_ne, bne_iff_ne, bne_eq_false_iff_eq, ne_eq, Bool.and_eq_true, Bool.or_eq_true, Bool.or_eq_false_iff, Bool.not_eq_true', Bool.not_eq_false', Int.not_lt, Int.not_le, gt_iff_lt, ge_iff_le, Classical.not_not] at p1
    refine A.skip ?_
    refine A.bn ?_
    refine A.tn ?_
    refine A.seq ?_
    refine A.draw [blk b [(.slice (some ⟨s, 0, none⟩) room room), (.int .i64 (first : Int)), (.int .i64 (n : Int))] 118, blk b1 [(.int .u64 x.id), (.int .i64 x.len), (.int .u16 x.h0), (.int .u16 x.h1), (.int .u16 x.h2), (.int .u16 x.h3)] 74] (by kernel_rfl) ?_
    refine A.take 0 (some 12) (.pointer (some ⟨b, 0, none⟩)) rfl (by kernel_rfl) (by kernel_rfl) (List.Sublist.cons_cons _ (List.Sublist.cons _ (List.Sublist.cons_cons _ (List.Sublist.slnil)))) (qt_move rfl rfl) ?_
    refine A.take 1 (some 13) (.pointer (some ⟨b, 0, none⟩)) rfl (by kernel_rfl) (by kernel_rfl) (List.Sublist.cons_cons _ (List.Sublist.cons _ (List.Sublist.cons_cons _ (List.Sublist.slnil)))) (qt_pure (by kernel_rfl) fun _ => by kernel_rfl) ?_
    refine A.take 2 (some 14) (.pointer (some ⟨b, 0, none⟩)) rfl (by kernel_rfl) (by kernel_rfl) (List.Sublist.cons_cons _ (List.Sublist.cons _ (List.Sublist.cons_cons _ (List.Sublist.slnil)))) (qt_pure (by kernel_rfl) fun _ => by kernel_rfl) ?_
    refine A.take 3 (some 15) (.slice (some ⟨s, 0, none⟩) room room) rfl (by kernel_rfl) (by kernel_rfl) (List.Sublist.cons_cons _ (List.Sublist.cons _ (List.Sublist.cons_cons _ (List.Sublist.slnil)))) (qt_load1 rfl rfl (by kernel_rfl) (reads_blk (i := 0) rfl rfl)) ?_
    refine A.take 4 (some 16) (.pointer (some ⟨b, 0, none⟩)) rfl (by kernel_rfl) (by kernel_rfl) (List.Sublist.cons_cons _ (List.Sublist.cons _ (List.Sublist.cons_cons _ (List.Sublist.slnil)))) (qt_move rfl rfl) ?_
    refine A.take 5 (some 17) (.pointer (some ⟨b, 0, none⟩)) rfl (by kernel_rfl) (by kernel_rfl) (List.Sublist.cons_cons _ (List.Sublist.cons _ (List.Sublist.cons_cons _ (List.Sublist.slnil)))) (qt_move rfl rfl) ?_
    refine A.take 6 (some 18) (.pointer (some ⟨b, 0, none⟩)) rfl (by kernel_rfl) (by kernel_rfl) (List.Sublist.cons_cons _ (List.Sublist.cons _ (List.Sublist.cons_cons _ (List.Sublist.slnil)))) (qt_pure (by kernel_rfl) fun _ => by kernel_rfl) ?_
    refine A.take 7 (some 19) (.pointer (some ⟨b, 2, none⟩)) rfl (by kernel_rfl) (by kernel_rfl) (List.Sublist.cons_cons _ (List.Sublist.cons _ (List.Sublist.cons_cons _ (List.Sublist.slnil)))) (qt_pure (by kernel_rfl) fun _ => by kernel_rfl) ?_
    refine A.take 8 (some 20) (.int .i64 (n : Int)) rfl (by kernel_rfl) (by kernel_rfl) (List.Sublist.cons_cons _ (List.Sublist.cons _ (List.Sublist.cons_cons _ (List.Sublist.slnil)))) (qt_load1 rfl rfl (by kernel_rfl) (reads_blk (i := 0) rfl rfl)) ?_
    refine A.take 9 (some 21) (.int .i64 (((first + n) % room : Nat) : Int)) rfl (by kernel_rfl) (by kernel_rfl) (List.Sublist.cons_cons _ (List.Sublist.cons _ (List.Sublist.cons_cons _ (List.Sublist.slnil)))) (qt_call [(.pointer (some ⟨b, 0, none⟩)), (.int .i64 (n : Int))] rfl (by kernel_rfl) rfl (fun w s0 => ringP_place_spec b s room first n n w (s0.mem (i := 0) rfl) ⟨hlo, hhi, hft, hct⟩ (by omega))) ?_
    refine A.take 10 (some 22) (.agg #[(.int .u64 x.id), (.int .i64 x.len), (.int .u16 x.h0), (.int .u16 x.h1), (.int .u16 x.h2), (.int .u16 x.h3)]) rfl (by kernel_rfl) (by kernel_rfl) (List.Sublist.cons_cons _ (List.Sublist.cons _ (List.Sublist.cons_cons _ (List.Sublist.slnil)))) (qt_loadN (vs := [(.int .u64 x.id), (.int .i64 x.len), (.int .u16 x.h0), (.int .u16 x.h1), (.int .u16 x.h2), (.int .u16 x.h3)]) rfl rfl (by kernel_rfl) (reads_blk (i := 1) rfl rfl)) ?_
    refine A.take 11 (some 23) (.pointer (some ⟨s, ((first + n) % room : Nat) * 6, none⟩)) rfl (by kernel_rfl) (by kernel_rfl) (List.Sublist.cons_cons _ (List.Sublist.cons _ (List.Sublist.cons_cons _ (List.Sublist.slnil)))) (qt_index0 (el := 74) (m := ((first + n) % room : Nat)) rfl rfl rfl (by kernel_rfl) (by kernel_rfl) (by first | exact Nat.mod_lt _ (by omega) | omega)) ?_
    refine A.only 12 rfl (by kernel_rfl) (A.storeAt 1 ((first + n) % room : Nat) x [blk b [(.slice (some ⟨s, 0, none⟩) room room), (.int .i64 (first : Int)), (.int .i64 (n : Int))] 118, blk s (V.flat encPkt (slots.set ((first + n) % room : Nat) x)) 74, blk b1 [(.int .u64 x.id), (.int .i64 x.len), (.int .u16 x.h0), (.int .u16 x.h1), (.int .u16 x.h2), (.int .u16 x.h3)] 74] (by kernel_rfl) rfl rfl rfl rfl (by kernel_rfl) rfl encPkt_len rfl (by rw [hln]; first | exact Nat.mod_lt _ (by omega) | omega) rfl ?_)
    refine A.and (List.Sublist.cons_cons _ (List.Sublist.cons _ (List.Sublist.cons_cons _ (List.Sublist.slnil)))) ?_
    refine A.fin (by kernel_rfl) ?_
    refine A.norm [(0, (.pointer (some ⟨b, 0, none⟩))), (1, (.agg #[(.int .u64 x.id), (.int .i64 x.len), (.int .u16 x.h0), (.int .u16 x.h1), (.int .u16 x.h2), (.int .u16 x.h3)])), (3, (.pointer (some ⟨b1, 0, none⟩))), (4, (.int .i64 0)), (5, (.bool false)), (8, (.bool (((room : Int) - (n : Int)) == 0)))] [blk b [(.slice (some ⟨s, 0, none⟩) room room), (.int .i64 (first : Int)), (.int .i64 (n : Int))] 118, blk s (V.flat encPkt (slots.set ((first + n) % room : Nat) x)) 74, blk b1 [(.int .u64 x.id), (.int .i64 x.len), (.int .u16 x.h0), (.int .u16 x.h1), (.int .u16 x.h2), (.int .u16 x.h3)] 74] (by exact ⟨rfl, rfl, rfl, rfl, rfl, rfl, trivial⟩) rfl ?_
    refine A.tn ?_
    refine A.seq ?_
    refine A.region ?_
    refine A.cons (A.q (some 24) (.pointer (some ⟨b, 0, none⟩)) (by kernel_rfl) (qt_move rfl rfl) ?_)
    refine A.cons (A.q (some 25) (.pointer (some ⟨b, 0, none⟩)) (by kernel_rfl) (qt_pure (by kernel_rfl) fun _ => by kernel_rfl) ?_)
    refine A.cons (A.q (some 26) (.pointer (some ⟨b, 2, none⟩)) (by kernel_rfl) (qt_pure (by kernel_rfl) fun _ => by kernel_rfl) ?_)
    refine A.cons (A.q (some 27) (.int .i64 (n : Int)) (by kernel_rfl) (qt_load1 rfl rfl (by kernel_rfl) (reads_blk (i := 0) rfl rfl)) ?_)
    refine A.cons (A.q (some 28) (.int .i64 ((n : Int) + 1)) (by kernel_rfl) (qt_as (congrArg (Value.int .i64) (wrap_i64 (e := (n : Int) + 1) (by constructor <;> omega))) (qt_pure (v := .int .i64 (IntKind.i64.wrap ((n : Int) + 1))) (by kernel_rfl) fun _ => by kernel_rfl)) ?_)
    refine A.cons (A.q (some 29) (.pointer (some ⟨b, 0, none⟩)) (by kernel_rfl) (qt_pure (by kernel_rfl) fun _ => by kernel_rfl) ?_)
    refine A.cons (A.q (some 30) (.pointer (some ⟨b, 2, none⟩)) (by kernel_rfl) (qt_pure (by kernel_rfl) fun _ => by kernel_rfl) ?_)
    refine A.cons (A.store 0 (vs := [(.int .i64 ((n : Int) + 1))]) [blk b [(.slice (some ⟨s, 0, none⟩) room room), (.int .i64 (first : Int)), (.int .i64 ((n : Int) + 1))] 118, blk s (V.flat encPkt (slots.set ((first + n) % room : Nat) x)) 74, blk b1 [(.int .u64 x.id), (.int .i64 x.len), (.int .u16 x.h0), (.int .u16 x.h1), (.int .u16 x.h2), (.int .u16 x.h3)] 74] (by kernel_rfl) rfl rfl rfl rfl (by kernel_rfl) rfl rfl (by kernel_rfl) rfl ?_)
    refine A.done ?_
    refine A.norm [(0, (.pointer (some ⟨b, 0, none⟩))), (1, (.agg #[(.int .u64 x.id), (.int .i64 x.len), (.int .u16 x.h0), (.int .u16 x.h1), (.int .u16 x.h2), (.int .u16 x.h3)])), (3, (.pointer (some ⟨b1, 0, none⟩))), (4, (.int .i64 0)), (5, (.bool false)), (8, (.bool (((room : Int) - (n : Int)) == 0)))] [blk b [(.slice (some ⟨s, 0, none⟩) room room), (.int .i64 (first : Int)), (.int .i64 ((n : Int) + 1))] 118, blk s (V.flat encPkt (slots.set ((first + n) % room : Nat) x)) 74, blk b1 [(.int .u64 x.id), (.int .i64 x.len), (.int .u16 x.h0), (.int .u16 x.h1), (.int .u16 x.h2), (.int .u16 x.h3)] 74] (by exact ⟨rfl, rfl, rfl, rfl, rfl, rfl, trivial⟩) rfl ?_
    refine A.tn ?_
    refine A.seq ?_
    refine A.region ?_
    refine A.cons (A.q (some 4) (.int .i64 0) (by kernel_rfl) (qt_assign rfl rfl) ?_)
    refine A.done ?_
    refine A.norm [(0, (.pointer (some ⟨b, 0, none⟩))), (1, (.agg #[(.int .u64 x.id), (.int .i64 x.len), (.int .u16 x.h0), (.int .u16 x.h1), (.int .u16 x.h2), (.int .u16 x.h3)])), (3, (.pointer (some ⟨b1, 0, none⟩))), (4, (.int .i64 0)), (5, (.bool false)), (8, (.bool (((room : Int) - (n : Int)) == 0)))] [blk b [(.slice (some ⟨s, 0, none⟩) room room), (.int .i64 (first : Int)), (.int .i64 ((n : Int) + 1))] 118, blk s (V.flat encPkt (slots.set ((first + n) % room : Nat) x)) 74, blk b1 [(.int .u64 x.id), (.int .i64 x.len), (.int .u16 x.h0), (.int .u16 x.h1), (.int .u16 x.h2), (.int .u16 x.h3)] 74] (by exact ⟨rfl, rfl, rfl, rfl, rfl, rfl, trivial⟩) rfl ?_
    refine A.tn ?_
    refine A.ret ?_
    refine A.post [(.int .i64 0)] (fun a w r s => ⟨rv_tmp r rfl, trivial⟩) (fun w1 s => ?_)
    exact ⟨rfl, ⟨s.mem (i := 0) rfl, s.mem (i := 1) rfl, by simp [hln], hlo, hhi, hft, by omega, hne⟩, s.fr⟩

set_option maxRecDepth 100000 in
theorem ringP_pop_w (b s room first m : Nat) (slots : List Pkt) (x : Pkt) (w : World) (hw : RingW encPkt 118 74 b s room slots first (m + 1) w) (hx : slots[(first + 0) % room]? = some x) :
    Calls Try.prog 65 #[(.pointer (some ⟨b, 0, none⟩))] w fun e w' => e = .returned (.tuple #[(.agg #[(.int .u64 x.id), (.int .i64 x.len), (.int .u16 x.h0), (.int .u16 x.h1), (.int .u16 x.h2), (.int .u16 x.h3)]), (.int .i64 0)]) ∧ RingW encPkt 118 74 b s room (slots.set first (default : Pkt)) ((first + 1) % room) m w' ∧ Fr [b, s] w w' := by
  have hlo := hw.lo; have hhi := hw.hi; have hft := hw.fst; have hct := hw.cnt; have hln := hw.len; have hne := hw.ne
  refine calls_of (args := [(.pointer (some ⟨b, 0, none⟩))]) (penv [(.pointer (some ⟨b, 0, none⟩))]) [b, s] [blk b [(.slice (some ⟨s, 0, none⟩) room room), (.int .i64 (first : Int)), (.int .i64 ((m + 1 : Nat) : Int))] 118, blk s (V.flat encPkt slots) 74] Try.func65 rfl rfl (look_penv _) (ringHS hw) ?_
  refine A.norm [(0, (.pointer (some ⟨b, 0, none⟩)))] [blk b [(.slice (some ⟨s, 0, none⟩) room room), (.int .i64 (first : Int)), (.int .i64 ((m + 1 : Nat) : Int))] 118, blk s (V.flat encPkt slots) 74] (by exact ⟨rfl, trivial⟩) rfl ?_
  refine A.seq ?_
  refine A.region ?_
  refine A.cons (A.alloc 2 [(.int .u64 0), (.int .i64 0), (.int .u16 0), (.int .u16 0), (.int .u16 0), (.int .u16 0)] (by kernel_rfl) rfl (by kernel_rfl) (fun b1 => [blk b [(.slice (some ⟨s, 0, none⟩) room room), (.int .i64 (first : Int)), (.int .i64 ((m + 1 : Nat) : Int))] 118, blk s (V.flat encPkt slots) 74, blk b1 [(.int .u64 0), (.int .i64 0), (.int .u16 0), (.int .u16 0), (.int .u16 0), (.int .u16 0)] 74]) (fun _ => rfl) ?_)
  intro b1
  refine A.cons (A.q (some 3) (.int .i64 0) (by kernel_rfl) (qt_assign rfl rfl) ?_)
  refine A.done ?_
  refine A.norm [(0, (.pointer (some ⟨b, 0, none⟩))), (2, (.pointer (some ⟨b1, 0, none⟩))), (3, (.int .i64 0))] [blk b [(.slice (some ⟨s, 0, none⟩) room room), (.int .i64 (first : Int)), (.int .i64 ((m + 1 : Nat) : Int))] 118, blk s (V.flat encPkt slots) 74, blk b1 [(.int .u64 0), (.int .i64 0), (.int .u16 0), (.int .u16 0), (.int .u16 0), (.int .u16 0)] 74] (by exact ⟨rfl, rfl, rfl, trivial⟩) rfl ?_
  refine A.tn ?_
  refine A.seq ?_
  refine A.region ?_
  refine A.cons (A.q (some 8) (.pointer (some ⟨b, 0, none⟩)) (by kernel_rfl) (qt_move rfl rfl) ?_)
  refine A.cons (A.q (some 9) (.tuple #[(.agg #[(.int .u64 x.id), (.int .i64 x.len), (.int .u16 x.h0), (.int .u16 x.h1), (.int .u16 x.h2), (.int .u16 x.h3)]), (.int .i64 0)]) (by kernel_rfl) (qt_call [(.pointer (some ⟨b, 0, none⟩)), (.int .i64 0)] rfl (by kernel_rfl) rfl (fun w s0 => ringP_at_ok b s room first (m + 1) slots 0 x w ⟨s0.mem (i := 0) rfl, s0.mem (i := 1) rfl, hw.len, hw.lo, hw.hi, hw.fst, hw.cnt, hw.ne⟩ (by omega) hx)) ?_)
  refine A.cons (A.q (some 7) (.tuple #[(.agg #[(.int .u64 x.id), (.int .i64 x.len), (.int .u16 x.h0), (.int .u16 x.h1), (.int .u16 x.h2), (.int .u16 x.h3)]), (.int .i64 0)]) (by kernel_rfl) (qt_move rfl rfl) ?_)
  refine A.cons (A.q (some 10) (.agg #[(.int .u64 x.id), (.int .i64 x.len), (.int .u16 x.h0), (.int .u16 x.h1), (.int .u16 x.h2), (.int .u16 x.h3)]) (by kernel_rfl) (qt_pure (by kernel_rfl) fun _ => by kernel_rfl) ?_)
  refine A.cons (A.q (some 11) (.int .i64 0) (by kernel_rfl) (qt_pure (by kernel_rfl) fun _ => by kernel_rfl) ?_)
  refine A.cons (A.alloc 4 [(.int .u64 0), (.int .i64 0), (.int .u16 0), (.int .u16 0), (.int .u16 0), (.int .u16 0)] (by kernel_rfl) rfl (by kernel_rfl) (fun b2 => [blk b [(.slice (some ⟨s, 0, none⟩) room room), (.int .i64 (first : Int)), (.int .i64 ((m + 1 : Nat) : Int))] 118, blk s (V.flat encPkt slots) 74, blk b1 [(.int .u64 0), (.int .i64 0), (.int .u16 0), (.int .u16 0), (.int .u16 0), (.int .u16 0)] 74, blk b2 [(.int .u64 0), (.int .i64 0), (.int .u16 0), (.int .u16 0), (.int .u16 0), (.int .u16 0)] 74]) (fun _ => rfl) ?_)
  intro b2
  refine A.cons (A.store 3 (vs := [(.int .u64 x.id), (.int .i64 x.len), (.int .u16 x.h0), (.int .u16 x.h1), (.int .u16 x.h2), (.int .u16 x.h3)]) [blk b [(.slice (some ⟨s, 0, none⟩) room room), (.int .i64 (first : Int)), (.int .i64 ((m + 1 : Nat) : Int))] 118, blk s (V.flat encPkt slots) 74, blk b1 [(.int .u64 0), (.int .i64 0), (.int .u16 0), (.int .u16 0), (.int .u16 0), (.int .u16 0)] 74, blk b2 [(.int .u64 x.id), (.int .i64 x.len), (.int .u16 x.h0), (.int .u16 x.h1), (.int .u16 x.h2), (.int .u16 x.h3)] 74] (by kernel_rfl) rfl rfl rfl rfl (by kernel_rfl) rfl rfl (by kernel_rfl) rfl ?_)
  refine A.cons (A.q (some 5) (.int .i64 0) (by kernel_rfl) (qt_assign rfl rfl) ?_)
  refine A.done ?_
  refine A.norm [(0, (.pointer (some ⟨b, 0, none⟩))), (2, (.pointer (some ⟨b1, 0, none⟩))), (3, (.int .i64 0)), (4, (.pointer (some ⟨b2, 0, none⟩))), (5, (.int .i64 0))] [blk b [(.slice (some ⟨s, 0, none⟩) room room), (.int .i64 (first : Int)), (.int .i64 ((m + 1 : Nat) : Int))] 118, blk s (V.flat encPkt slots) 74, blk b1 [(.int .u64 0), (.int .i64 0), (.int .u16 0), (.int .u16 0), (.int .u16 0), (.int .u16 0)] 74, blk b2 [(.int .u64 x.id), (.int .i64 x.len), (.int .u16 x.h0), (.int .u16 x.h1), (.int .u16 x.h2), (.int .u16 x.h3)] 74] (by exact ⟨rfl, rfl, rfl, rfl, rfl, trivial⟩) rfl ?_
  refine A.tn ?_
  refine A.seq ?_
  refine A.seq ?_
  refine A.region ?_
  refine A.cons (A.q (some 12) (.int .i64 0) (by kernel_rfl) (qt_move rfl rfl) ?_)
  refine A.cons (A.q (some 13) (.bool false) (by kernel_rfl) (qt_pure (by kernel_rfl) fun _ => by kernel_rfl) ?_)
  refine A.done ?_
  refine A.norm [(0, (.pointer (some ⟨b, 0, none⟩))), (2, (.pointer (some ⟨b1, 0, none⟩))), (3, (.int .i64 0)), (4, (.pointer (some ⟨b2, 0, none⟩))), (5, (.int .i64 0)), (13, (.bool false))] [blk b [(.slice (some ⟨s, 0, none⟩) room room), (.int .i64 (first : Int)), (.int .i64 ((m + 1 : Nat) : Int))] 118, blk s (V.flat encPkt slots) 74, blk b1 [(.int .u64 0), (.int .i64 0), (.int .u16 0), (.int .u16 0), (.int .u16 0), (.int .u16 0)] 74, blk b2 [(.int .u64 x.id), (.int .i64 x.len), (.int .u16 x.h0), (.int .u16 x.h1), (.int .u16 x.h2), (.int .u16 x.h3)] 74] (by exact ⟨rfl, rfl, rfl, rfl, rfl, rfl, trivial⟩) rfl ?_
  refine A.tn ?_
  refine A.cond_f rfl ?_
  refine A.skip ?_
  refine A.tn ?_
  refine A.seq ?_
  refine A.region ?_
  refine A.cons (A.alloc 6 [(.int .u64 0), (.int .i64 0), (.int .u16 0), (.int .u16 0), (.int .u16 0), (.int .u16 0)] (by kernel_rfl) rfl (by kernel_rfl) (fun b3 => [blk b [(.slice (some ⟨s, 0, none⟩) room room), (.int .i64 (first : Int)), (.int .i64 ((m + 1 : Nat) : Int))] 118, blk s (V.flat encPkt slots) 74, blk b1 [(.int .u64 0), (.int .i64 0), (.int .u16 0), (.int .u16 0), (.int .u16 0), (.int .u16 0)] 74, blk b2 [(.int .u64 x.id), (.int .i64 x.len), (.int .u16 x.h0), (.int .u16 x.h1), (.int .u16 x.h2), (.int .u16 x.h3)] 74, blk b3 [(.int .u64 0), (.int .i64 0), (.int .u16 0), (.int .u16 0), (.int .u16 0), (.int .u16 0)] 74]) (fun _ => rfl) ?_)
  intro b3
  refine A.done ?_
  refine A.norm [(0, (.pointer (some ⟨b, 0, none⟩))), (2, (.pointer (some ⟨b1, 0, none⟩))), (3, (.int .i64 0)), (4, (.pointer (some ⟨b2, 0, none⟩))), (5, (.int .i64 0)), (13, (.bool false)), (6, (.pointer (some ⟨b3, 0, none⟩)))] [blk b [(.slice (some ⟨s, 0, none⟩) room room), (.int .i64 (first : Int)), (.int .i64 ((m + 1 : Nat) : Int))] 118, blk s (V.flat encPkt slots) 74, blk b1 [(.int .u64 0), (.int .i64 0), (.int .u16 0), (.int .u16 0), (.int .u16 0), (.int .u16 0)] 74, blk b2 [(.int .u64 x.id), (.int .i64 x.len), (.int .u16 x.h0), (.int .u16 x.h1), (.int .u16 x.h2), (.int .u16 x.h3)] 74, blk b3 [(.int .u64 0), (.int .i64 0), (.int .u16 0), (.int .u16 0), (.int .u16 0), (.int .u16 0)] 74] (by exact ⟨rfl, rfl, rfl, rfl, rfl, rfl, rfl, trivial⟩) rfl ?_
  refine A.tn ?_
  refine A.seq ?_
  refine A.draw [blk b [(.slice (some ⟨s, 0, none⟩) room room), (.int .i64 (first : Int)), (.int .i64 ((m + 1 : Nat) : Int))] 118, blk b1 [(.int .u64 0), (.int .i64 0), (.int .u16 0), (.int .u16 0), (.int .u16 0), (.int .u16 0)] 74, blk b2 [(.int .u64 x.id), (.int .i64 x.len), (.int .u16 x.h0), (.int .u16 x.h1), (.int .u16 x.h2), (.int .u16 x.h3)] 74, blk b3 [(.int .u64 0), (.int .i64 0), (.int .u16 0), (.int .u16 0), (.int .u16 0), (.int .u16 0)] 74] (by kernel_rfl) ?_
  refine A.take 0 (some 16) (.pointer (some ⟨b, 0, none⟩)) rfl (by kernel_rfl) (by kernel_rfl) (List.Sublist.cons_cons _ (List.Sublist.cons _ (List.Sublist.cons_cons _ (List.Sublist.cons_cons _ (List.Sublist.cons_cons _ (List.Sublist.slnil)))))) (qt_move rfl rfl) ?_
  refine A.take 1 (some 17) (.pointer (some ⟨b, 0, none⟩)) rfl (by kernel_rfl) (by kernel_rfl) (List.Sublist.cons_cons _ (List.Sublist.cons _ (List.Sublist.cons_cons _ (List.Sublist.cons_cons _ (List.Sublist.cons_cons _ (List.Sublist.slnil)))))) (qt_pure (by kernel_rfl) fun _ => by kernel_rfl) ?_
  refine A.take 2 (some 18) (.pointer (some ⟨b, 0, none⟩)) rfl (by kernel_rfl) (by kernel_rfl) (List.Sublist.cons_cons _ (List.Sublist.cons _ (List.Sublist.cons_cons _ (List.Sublist.cons_cons _ (List.Sublist.cons_cons _ (List.Sublist.slnil)))))) (qt_pure (by kernel_rfl) fun _ => by kernel_rfl) ?_
  refine A.take 3 (some 19) (.slice (some ⟨s, 0, none⟩) room room) rfl (by kernel_rfl) (by kernel_rfl) (List.Sublist.cons_cons _ (List.Sublist.cons _ (List.Sublist.cons_cons _ (List.Sublist.cons_cons _ (List.Sublist.cons_cons _ (List.Sublist.slnil)))))) (qt_load1 rfl rfl (by kernel_rfl) (reads_blk (i := 0) rfl rfl)) ?_
  refine A.take 4 (some 20) (.pointer (some ⟨b, 0, none⟩)) rfl (by kernel_rfl) (by kernel_rfl) (List.Sublist.cons_cons _ (List.Sublist.cons _ (List.Sublist.cons_cons _ (List.Sublist.cons_cons _ (List.Sublist.cons_cons _ (List.Sublist.slnil)))))) (qt_move rfl rfl) ?_
  refine A.take 5 (some 21) (.pointer (some ⟨b, 0, none⟩)) rfl (by kernel_rfl) (by kernel_rfl) (List.Sublist.cons_cons _ (List.Sublist.cons _ (List.Sublist.cons_cons _ (List.Sublist.cons_cons _ (List.Sublist.cons_cons _ (List.Sublist.slnil)))))) (qt_pure (by kernel_rfl) fun _ => by kernel_rfl) ?_
  refine A.take 6 (some 22) (.pointer (some ⟨b, 1, none⟩)) rfl (by kernel_rfl) (by kernel_rfl) (List.Sublist.cons_cons _ (List.Sublist.cons _ (List.Sublist.cons_cons _ (List.Sublist.cons_cons _ (List.Sublist.cons_cons _ (List.Sublist.slnil)))))) (qt_pure (by kernel_rfl) fun _ => by kernel_rfl) ?_
  refine A.take 7 (some 23) (.int .i64 (first : Int)) rfl (by kernel_rfl) (by kernel_rfl) (List.Sublist.cons_cons _ (List.Sublist.cons _ (List.Sublist.cons_cons _ (List.Sublist.cons_cons _ (List.Sublist.cons_cons _ (List.Sublist.slnil)))))) (qt_load1 rfl rfl (by kernel_rfl) (reads_blk (i := 0) rfl rfl)) ?_
  refine A.take 8 (some 24) (.agg #[(.int .u64 0), (.int .i64 0), (.int .u16 0), (.int .u16 0), (.int .u16 0), (.int .u16 0)]) rfl (by kernel_rfl) (by kernel_rfl) (List.Sublist.cons_cons _ (List.Sublist.cons _ (List.Sublist.cons_cons _ (List.Sublist.cons_cons _ (List.Sublist.cons_cons _ (List.Sublist.slnil)))))) (qt_loadN (vs := [(.int .u64 0), (.int .i64 0), (.int .u16 0), (.int .u16 0), (.int .u16 0), (.int .u16 0)]) rfl rfl (by kernel_rfl) (reads_blk (i := 3) rfl rfl)) ?_
  refine A.take 9 (some 25) (.pointer (some ⟨s, first * 6, none⟩)) rfl (by kernel_rfl) (by kernel_rfl) (List.Sublist.cons_cons _ (List.Sublist.cons _ (List.Sublist.cons_cons _ (List.Sublist.cons_cons _ (List.Sublist.cons_cons _ (List.Sublist.slnil)))))) (qt_index0 (el := 74) (m := first) rfl rfl rfl (by kernel_rfl) (by kernel_rfl) (by first | exact Nat.mod_lt _ (by omega) | omega)) ?_
  refine A.only 10 rfl (by kernel_rfl) (A.storeAt 1 first (default : Pkt) [blk b [(.slice (some ⟨s, 0, none⟩) room room), (.int .i64 (first : Int)), (.int .i64 ((m + 1 : Nat) : Int))] 118, blk s (V.flat encPkt (slots.set first (default : Pkt))) 74, blk b1 [(.int .u64 0), (.int .i64 0), (.int .u16 0), (.int .u16 0), (.int .u16 0), (.int .u16 0)] 74, blk b2 [(.int .u64 x.id), (.int .i64 x.len), (.int .u16 x.h0), (.int .u16 x.h1), (.int .u16 x.h2), (.int .u16 x.h3)] 74, blk b3 [(.int .u64 0), (.int .i64 0), (.int .u16 0), (.int .u16 0), (.int .u16 0), (.int .u16 0)] 74] (by kernel_rfl) rfl rfl rfl rfl (by kernel_rfl) rfl encPkt_len rfl (by rw [hln]; first | exact Nat.mod_lt _ (by omega) | omega) rfl ?_)
  refine A.and (List.Sublist.cons_cons _ (List.Sublist.cons _ (List.Sublist.cons_cons _ (List.Sublist.cons_cons _ (List.Sublist.cons_cons _ (List.Sublist.slnil)))))) ?_
  refine A.fin (by kernel_rfl) ?_
  refine A.norm [(0, (.pointer (some ⟨b, 0, none⟩))), (2, (.pointer (some ⟨b1, 0, none⟩))), (3, (.int .i64 0)), (4, (.pointer (some ⟨b2, 0, none⟩))), (5, (.int .i64 0)), (13, (.bool false)), (6, (.pointer (some ⟨b3, 0, none⟩)))] [blk b [(.slice (some ⟨s, 0, none⟩) room room), (.int .i64 (first : Int)), (.int .i64 ((m + 1 : Nat) : Int))] 118, blk s (V.flat encPkt (slots.set first (default : Pkt))) 74, blk b1 [(.int .u64 0), (.int .i64 0), (.int .u16 0), (.int .u16 0), (.int .u16 0), (.int .u16 0)] 74, blk b2 [(.int .u64 x.id), (.int .i64 x.len), (.int .u16 x.h0), (.int .u16 x.h1), (.int .u16 x.h2), (.int .u16 x.h3)] 74, blk b3 [(.int .u64 0), (.int .i64 0), (.int .u16 0), (.int .u16 0), (.int .u16 0), (.int .u16 0)] 74] (by exact ⟨rfl, rfl, rfl, rfl, rfl, rfl, rfl, trivial⟩) rfl ?_
  refine A.tn ?_
  refine A.seq ?_
  refine A.region ?_
  refine A.cons (A.q (some 26) (.pointer (some ⟨b, 0, none⟩)) (by kernel_rfl) (qt_move rfl rfl) ?_)
  refine A.cons (A.q (some 27) (.pointer (some ⟨b, 0, none⟩)) (by kernel_rfl) (qt_move rfl rfl) ?_)
  refine A.cons (A.q (some 28) (.int .i64 (((first + 1) % room : Nat) : Int)) (by kernel_rfl) (qt_call [(.pointer (some ⟨b, 0, none⟩)), (.int .i64 1)] rfl (by kernel_rfl) rfl (fun w s0 => ringP_place_spec b s room first (m + 1) 1 w (s0.mem (i := 0) rfl) ⟨hlo, hhi, hft, hct⟩ (by omega))) ?_)
  refine A.cons (A.q (some 29) (.pointer (some ⟨b, 0, none⟩)) (by kernel_rfl) (qt_pure (by kernel_rfl) fun _ => by kernel_rfl) ?_)
  refine A.cons (A.q (some 30) (.pointer (some ⟨b, 1, none⟩)) (by kernel_rfl) (qt_pure (by kernel_rfl) fun _ => by kernel_rfl) ?_)
  refine A.cons (A.store 0 (vs := [(.int .i64 (((first + 1) % room : Nat) : Int))]) [blk b [(.slice (some ⟨s, 0, none⟩) room room), (.int .i64 (((first + 1) % room : Nat) : Int)), (.int .i64 ((m + 1 : Nat) : Int))] 118, blk s (V.flat encPkt (slots.set first (default : Pkt))) 74, blk b1 [(.int .u64 0), (.int .i64 0), (.int .u16 0), (.int .u16 0), (.int .u16 0), (.int .u16 0)] 74, blk b2 [(.int .u64 x.id), (.int .i64 x.len), (.int .u16 x.h0), (.int .u16 x.h1), (.int .u16 x.h2), (.int .u16 x.h3)] 74, blk b3 [(.int .u64 0), (.int .i64 0), (.int .u16 0), (.int .u16 0), (.int .u16 0), (.int .u16 0)] 74] (by kernel_rfl) rfl rfl rfl rfl (by kernel_rfl) rfl rfl (by kernel_rfl) rfl ?_)
  refine A.done ?_
  refine A.norm [(0, (.pointer (some ⟨b, 0, none⟩))), (2, (.pointer (some ⟨b1, 0, none⟩))), (3, (.int .i64 0)), (4, (.pointer (some ⟨b2, 0, none⟩))), (5, (.int .i64 0)), (13, (.bool false)), (6, (.pointer (some ⟨b3, 0, none⟩)))] [blk b [(.slice (some ⟨s, 0, none⟩) room room), (.int .i64 (((first + 1) % room : Nat) : Int)), (.int .i64 ((m + 1 : Nat) : Int))] 118, blk s (V.flat encPkt (slots.set first (default : Pkt))) 74, blk b1 [(.int .u64 0), (.int .i64 0), (.int .u16 0), (.int .u16 0), (.int .u16 0), (.int .u16 0)] 74, blk b2 [(.int .u64 x.id), (.int .i64 x.len), (.int .u16 x.h0), (.int .u16 x.h1), (.int .u16 x.h2), (.int .u16 x.h3)] 74, blk b3 [(.int .u64 0), (.int .i64 0), (.int .u16 0), (.int .u16 0), (.int .u16 0), (.int .u16 0)] 74] (by exact ⟨rfl, rfl, rfl, rfl, rfl, rfl, rfl, trivial⟩) rfl ?_
  refine A.tn ?_
  refine A.seq ?_
  refine A.region ?_
  refine A.cons (A.q (some 31) (.pointer (some ⟨b, 0, none⟩)) (by kernel_rfl) (qt_move rfl rfl) ?_)
  refine A.cons (A.q (some 32) (.pointer (some ⟨b, 0, none⟩)) (by kernel_rfl) (qt_pure (by kernel_rfl) fun _ => by kernel_rfl) ?_)
  refine A.cons (A.q (some 33) (.pointer (some ⟨b, 2, none⟩)) (by kernel_rfl) (qt_pure (by kernel_rfl) fun _ => by kernel_rfl) ?_)
  refine A.cons (A.q (some 34) (.int .i64 ((m + 1 : Nat) : Int)) (by kernel_rfl) (qt_load1 rfl rfl (by kernel_rfl) (reads_blk (i := 0) rfl rfl)) ?_)
  refine A.cons (A.q (some 35) (.int .i64 (m : Int)) (by kernel_rfl) (qt_as (congrArg (Value.int .i64) ((wrap_i64 (e := ((m + 1 : Nat) : Int) - 1) (by constructor <;> omega)).trans (by first | rfl | omega : (((m + 1 : Nat) : Int) - 1 : Int) = (m : Int)))) (qt_pure (v := .int .i64 (IntKind.i64.wrap (((m + 1 : Nat) : Int) - 1))) (by kernel_rfl) fun _ => by kernel_rfl)) ?_)
  refine A.cons (A.q (some 36) (.pointer (some ⟨b, 0, none⟩)) (by kernel_rfl) (qt_pure (by kernel_rfl) fun _ => by kernel_rfl) ?_)
  refine A.cons (A.q (some 37) (.pointer (some ⟨b, 2, none⟩)) (by kernel_rfl) (qt_pure (by kernel_rfl) fun _ => by kernel_rfl) ?_)
  refine A.cons (A.store 0 (vs := [(.int .i64 (m : Int))]) [blk b [(.slice (some ⟨s, 0, none⟩) room room), (.int .i64 (((first + 1) % room : Nat) : Int)), (.int .i64 (m : Int))] 118, blk s (V.flat encPkt (slots.set first (default : Pkt))) 74, blk b1 [(.int .u64 0), (.int .i64 0), (.int .u16 0), (.int .u16 0), (.int .u16 0), (.int .u16 0)] 74, blk b2 [(.int .u64 x.id), (.int .i64 x.len), (.int .u16 x.h0), (.int .u16 x.h1), (.int .u16 x.h2), (.int .u16 x.h3)] 74, blk b3 [(.int .u64 0), (.int .i64 0), (.int .u16 0), (.int .u16 0), (.int .u16 0), (.int .u16 0)] 74] (by kernel_rfl) rfl rfl rfl rfl (by kernel_rfl) rfl rfl (by kernel_rfl) rfl ?_)
  refine A.done ?_
  refine A.norm [(0, (.pointer (some ⟨b, 0, none⟩))), (2, (.pointer (some ⟨b1, 0, none⟩))), (3, (.int .i64 0)), (4, (.pointer (some ⟨b2, 0, none⟩))), (5, (.int .i64 0)), (13, (.bool false)), (6, (.pointer (some ⟨b3, 0, none⟩)))] [blk b [(.slice (some ⟨s, 0, none⟩) room room), (.int .i64 (((first + 1) % room : Nat) : Int)), (.int .i64 (m : Int))] 118, blk s (V.flat encPkt (slots.set first (default : Pkt))) 74, blk b1 [(.int .u64 0), (.int .i64 0), (.int .u16 0), (.int .u16 0), (.int .u16 0), (.int .u16 0)] 74, blk b2 [(.int .u64 x.id), (.int .i64 x.len), (.int .u16 x.h0), (.int .u16 x.h1), (.int .u16 x.h2), (.int .u16 x.h3)] 74, blk b3 [(.int .u64 0), (.int .i64 0), (.int .u16 0), (.int .u16 0), (.int .u16 0), (.int .u16 0)] 74] (by exact ⟨rfl, rfl, rfl, rfl, rfl, rfl, rfl, trivial⟩) rfl ?_
  refine A.tn ?_
  refine A.seq ?_
  refine A.region ?_
  refine A.cons (A.q (some 38) (.agg #[(.int .u64 x.id), (.int .i64 x.len), (.int .u16 x.h0), (.int .u16 x.h1), (.int .u16 x.h2), (.int .u16 x.h3)]) (by kernel_rfl) (qt_loadN (vs := [(.int .u64 x.id), (.int .i64 x.len), (.int .u16 x.h0), (.int .u16 x.h1), (.int .u16 x.h2), (.int .u16 x.h3)]) rfl rfl (by kernel_rfl) (reads_blk (i := 3) rfl rfl)) ?_)
  refine A.cons (A.store 2 (vs := [(.int .u64 x.id), (.int .i64 x.len), (.int .u16 x.h0), (.int .u16 x.h1), (.int .u16 x.h2), (.int .u16 x.h3)]) [blk b [(.slice (some ⟨s, 0, none⟩) room room), (.int .i64 (((first + 1) % room : Nat) : Int)), (.int .i64 (m : Int))] 118, blk s (V.flat encPkt (slots.set first (default : Pkt))) 74, blk b1 [(.int .u64 x.id), (.int .i64 x.len), (.int .u16 x.h0), (.int .u16 x.h1), (.int .u16 x.h2), (.int .u16 x.h3)] 74, blk b2 [(.int .u64 x.id), (.int .i64 x.len), (.int .u16 x.h0), (.int .u16 x.h1), (.int .u16 x.h2), (.int .u16 x.h3)] 74, blk b3 [(.int .u64 0), (.int .i64 0), (.int .u16 0), (.int .u16 0), (.int .u16 0), (.int .u16 0)] 74] (by kernel_rfl) rfl rfl rfl rfl (by kernel_rfl) rfl rfl (by kernel_rfl) rfl ?_)
  refine A.cons (A.q (some 3) (.int .i64 0) (by kernel_rfl) (qt_assign rfl rfl) ?_)
  refine A.done ?_
  refine A.norm [(0, (.pointer (some ⟨b, 0, none⟩))), (2, (.pointer (some ⟨b1, 0, none⟩))), (3, (.int .i64 0)), (4, (.pointer (some ⟨b2, 0, none⟩))), (5, (.int .i64 0)), (13, (.bool false)), (6, (.pointer (some ⟨b3, 0, none⟩)))] [blk b [(.slice (some ⟨s, 0, none⟩) room room), (.int .i64 (((first + 1) % room : Nat) : Int)), (.int .i64 (m : Int))] 118, blk s (V.flat encPkt (slots.set first (default : Pkt))) 74, blk b1 [(.int .u64 x.id), (.int .i64 x.len), (.int .u16 x.h0), (.int .u16 x.h1), (.int .u16 x.h2), (.int .u16 x.h3)] 74, blk b2 [(.int .u64 x.id), (.int .i64 x.len), (.int .u16 x.h0), (.int .u16 x.h1), (.int .u16 x.h2), (.int .u16 x.h3)] 74, blk b3 [(.int .u64 0), (.int .i64 0), (.int .u16 0), (.int .u16 0), (.int .u16 0), (.int .u16 0)] 74] (by exact ⟨rfl, rfl, rfl, rfl, rfl, rfl, rfl, trivial⟩) rfl ?_
  refine A.tn ?_
  refine A.ret ?_
  refine A.post [(.agg #[(.int .u64 x.id), (.int .i64 x.len), (.int .u16 x.h0), (.int .u16 x.h1), (.int .u16 x.h2), (.int .u16 x.h3)]), (.int .i64 0)] (fun a w r s => ⟨rv_cellN (vs := [(.int .u64 x.id), (.int .i64 x.len), (.int .u16 x.h0), (.int .u16 x.h1), (.int .u16 x.h2), (.int .u16 x.h3)]) r s rfl (by kernel_rfl) (reads_blk (i := 2) rfl rfl), rv_tmp r rfl, trivial⟩) (fun w1 s => ?_)
  exact ⟨rfl, ⟨s.mem (i := 0) rfl, s.mem (i := 1) rfl, by simp [hln], hlo, hhi, Nat.mod_lt _ (by omega), by omega, hne⟩, s.fr⟩

set_option maxRecDepth 100000 in
theorem ringP_pop_none (b s room first : Nat) (slots : List Pkt) (w : World) (hw : RingW encPkt 118 74 b s room slots first 0 w) :
    Calls Try.prog 65 #[(.pointer (some ⟨b, 0, none⟩))] w fun e w' => e = .returned (.tuple #[(.agg #[(.int .u64 0), (.int .i64 0), (.int .u16 0), (.int .u16 0), (.int .u16 0), (.int .u16 0)]), (.int .i64 6)]) ∧ Fr [] w w' := by
  have hlo := hw.lo; have hhi := hw.hi; have hft := hw.fst; have hct := hw.cnt; have hln := hw.len; have hne := hw.ne
  refine calls_of (args := [(.pointer (some ⟨b, 0, none⟩))]) (penv [(.pointer (some ⟨b, 0, none⟩))]) [] [] Try.func65 rfl rfl (look_penv _) (HS.nil w) ?_
  refine A.norm [(0, (.pointer (some ⟨b, 0, none⟩)))] [] (by exact ⟨rfl, trivial⟩) rfl ?_
  refine A.seq ?_
  refine A.region ?_
  refine A.cons (A.alloc 2 [(.int .u64 0), (.int .i64 0), (.int .u16 0), (.int .u16 0), (.int .u16 0), (.int .u16 0)] (by kernel_rfl) rfl (by kernel_rfl) (fun b1 => [blk b1 [(.int .u64 0), (.int .i64 0), (.int .u16 0), (.int .u16 0), (.int .u16 0), (.int .u16 0)] 74]) (fun _ => rfl) ?_)
  intro b1
  refine A.cons (A.q (some 3) (.int .i64 0) (by kernel_rfl) (qt_assign rfl rfl) ?_)
  refine A.done ?_
  refine A.norm [(0, (.pointer (some ⟨b, 0, none⟩))), (2, (.pointer (some ⟨b1, 0, none⟩))), (3, (.int .i64 0))] [blk b1 [(.int .u64 0), (.int .i64 0), (.int .u16 0), (.int .u16 0), (.int .u16 0), (.int .u16 0)] 74] (by exact ⟨rfl, rfl, rfl, trivial⟩) rfl ?_
  refine A.tn ?_
  refine A.seq ?_
  refine A.region ?_
  refine A.cons (A.q (some 8) (.pointer (some ⟨b, 0, none⟩)) (by kernel_rfl) (qt_move rfl rfl) ?_)
  refine A.cons (A.q (some 9) (.tuple #[(.agg #[(.int .u64 0), (.int .i64 0), (.int .u16 0), (.int .u16 0), (.int .u16 0), (.int .u16 0)]), (.int .i64 6)]) (by kernel_rfl) (qt_call [(.pointer (some ⟨b, 0, none⟩)), (.int .i64 0)] rfl (by kernel_rfl) rfl (fun w s0 => ringP_at_none b s room first 0 slots 0 w (hw_old s0 hw) (by omega))) ?_)
  refine A.cons (A.q (some 7) (.tuple #[(.agg #[(.int .u64 0), (.int .i64 0), (.int .u16 0), (.int .u16 0), (.int .u16 0), (.int .u16 0)]), (.int .i64 6)]) (by kernel_rfl) (qt_move rfl rfl) ?_)
  refine A.cons (A.q (some 10) (.agg #[(.int .u64 0), (.int .i64 0), (.int .u16 0), (.int .u16 0), (.int .u16 0), (.int .u16 0)]) (by kernel_rfl) (qt_pure (by kernel_rfl) fun _ => by kernel_rfl) ?_)
  refine A.cons (A.q (some 11) (.int .i64 6) (by kernel_rfl) (qt_pure (by kernel_rfl) fun _ => by kernel_rfl) ?_)
  refine A.cons (A.alloc 4 [(.int .u64 0), (.int .i64 0), (.int .u16 0), (.int .u16 0), (.int .u16 0), (.int .u16 0)] (by kernel_rfl) rfl (by kernel_rfl) (fun b2 => [blk b1 [(.int .u64 0), (.int .i64 0), (.int .u16 0), (.int .u16 0), (.int .u16 0), (.int .u16 0)] 74, blk b2 [(.int .u64 0), (.int .i64 0), (.int .u16 0), (.int .u16 0), (.int .u16 0), (.int .u16 0)] 74]) (fun _ => rfl) ?_)
  intro b2
  refine A.cons (A.store 1 (vs := [(.int .u64 0), (.int .i64 0), (.int .u16 0), (.int .u16 0), (.int .u16 0), (.int .u16 0)]) [blk b1 [(.int .u64 0), (.int .i64 0), (.int .u16 0), (.int .u16 0), (.int .u16 0), (.int .u16 0)] 74, blk b2 [(.int .u64 0), (.int .i64 0), (.int .u16 0), (.int .u16 0), (.int .u16 0), (.int .u16 0)] 74] (by kernel_rfl) rfl rfl rfl rfl (by kernel_rfl) rfl rfl (by kernel_rfl) rfl ?_)
  refine A.cons (A.q (some 5) (.int .i64 6) (by kernel_rfl) (qt_assign rfl rfl) ?_)
  refine A.done ?_
  refine A.norm [(0, (.pointer (some ⟨b, 0, none⟩))), (2, (.pointer (some ⟨b1, 0, none⟩))), (3, (.int .i64 0)), (4, (.pointer (some ⟨b2, 0, none⟩))), (5, (.int .i64 6))] [blk b1 [(.int .u64 0), (.int .i64 0), (.int .u16 0), (.int .u16 0), (.int .u16 0), (.int .u16 0)] 74, blk b2 [(.int .u64 0), (.int .i64 0), (.int .u16 0), (.int .u16 0), (.int .u16 0), (.int .u16 0)] 74] (by exact ⟨rfl, rfl, rfl, rfl, rfl, trivial⟩) rfl ?_
  refine A.tn ?_
  refine A.seq ?_
  refine A.seq ?_
  refine A.region ?_
  refine A.cons (A.q (some 12) (.int .i64 6) (by kernel_rfl) (qt_move rfl rfl) ?_)
  refine A.cons (A.q (some 13) (.bool true) (by kernel_rfl) (qt_pure (by kernel_rfl) fun _ => by kernel_rfl) ?_)
  refine A.done ?_
  refine A.norm [(0, (.pointer (some ⟨b, 0, none⟩))), (2, (.pointer (some ⟨b1, 0, none⟩))), (3, (.int .i64 0)), (4, (.pointer (some ⟨b2, 0, none⟩))), (5, (.int .i64 6)), (13, (.bool true))] [blk b1 [(.int .u64 0), (.int .i64 0), (.int .u16 0), (.int .u16 0), (.int .u16 0), (.int .u16 0)] 74, blk b2 [(.int .u64 0), (.int .i64 0), (.int .u16 0), (.int .u16 0), (.int .u16 0), (.int .u16 0)] 74] (by exact ⟨rfl, rfl, rfl, rfl, rfl, rfl, trivial⟩) rfl ?_
  refine A.tn ?_
  refine A.cond_t rfl ?_
  refine A.seq ?_
  refine A.region ?_
  refine A.cons (A.q (some 14) (.agg #[(.int .u64 0), (.int .i64 0), (.int .u16 0), (.int .u16 0), (.int .u16 0), (.int .u16 0)]) (by kernel_rfl) (qt_loadN (vs := [(.int .u64 0), (.int .i64 0), (.int .u16 0), (.int .u16 0), (.int .u16 0), (.int .u16 0)]) rfl rfl (by kernel_rfl) (reads_blk (i := 1) rfl rfl)) ?_)
  refine A.cons (A.q (some 15) (.int .i64 6) (by kernel_rfl) (qt_move rfl rfl) ?_)
  refine A.cons (A.store 0 (vs := [(.int .u64 0), (.int .i64 0), (.int .u16 0), (.int .u16 0), (.int .u16 0), (.int .u16 0)]) [blk b1 [(.int .u64 0), (.int .i64 0), (.int .u16 0), (.int .u16 0), (.int .u16 0), (.int .u16 0)] 74, blk b2 [(.int .u64 0), (.int .i64 0), (.int .u16 0), (.int .u16 0), (.int .u16 0), (.int .u16 0)] 74] (by kernel_rfl) rfl rfl rfl rfl (by kernel_rfl) rfl rfl (by kernel_rfl) rfl ?_)
  refine A.cons (A.q (some 3) (.int .i64 6) (by kernel_rfl) (qt_assign rfl rfl) ?_)
  refine A.done ?_
  refine A.norm [(0, (.pointer (some ⟨b, 0, none⟩))), (2, (.pointer (some ⟨b1, 0, none⟩))), (3, (.int .i64 6)), (4, (.pointer (some ⟨b2, 0, none⟩))), (5, (.int .i64 6)), (13, (.bool true))] [blk b1 [(.int .u64 0), (.int .i64 0), (.int .u16 0), (.int .u16 0), (.int .u16 0), (.int .u16 0)] 74, blk b2 [(.int .u64 0), (.int .i64 0), (.int .u16 0), (.int .u16 0), (.int .u16 0), (.int .u16 0)] 74] (by exact ⟨rfl, rfl, rfl, rfl, rfl, rfl, trivial⟩) rfl ?_
  refine A.tn ?_
  refine A.ret ?_
  refine A.tr ?_
  refine A.post [(.agg #[(.int .u64 0), (.int .i64 0), (.int .u16 0), (.int .u16 0), (.int .u16 0), (.int .u16 0)]), (.int .i64 6)] (fun a w r s => ⟨rv_cellN (vs := [(.int .u64 0), (.int .i64 0), (.int .u16 0), (.int .u16 0), (.int .u16 0), (.int .u16 0)]) r s rfl (by kernel_rfl) (reads_blk (i := 0) rfl rfl), rv_tmp r rfl, trivial⟩) (fun w1 s => ?_)
  exact ⟨rfl, s.fr⟩

set_option maxRecDepth 100000 in
theorem ringP_at_nil (i : Int) (w : World) :
    Calls Try.prog 71 #[(.pointer none), (.int .i64 i)] w fun e w' => e = .returned (.tuple #[(.agg #[(.int .u64 0), (.int .i64 0), (.int .u16 0), (.int .u16 0), (.int .u16 0), (.int .u16 0)]), (.int .i64 7)]) ∧ Fr [] w w' := by
  refine calls_of (args := [(.pointer none), (.int .i64 i)]) (penv [(.pointer none), (.int .i64 i)]) [] [] Try.func71 rfl rfl (look_penv _) (HS.nil w) ?_
  refine A.norm [(0, (.pointer none)), (1, (.int .i64 i))] [] (by exact ⟨rfl, rfl, trivial⟩) rfl ?_
  refine A.seq ?_
  refine A.region ?_
  refine A.cons (A.alloc 4 [(.int .u64 0), (.int .i64 0), (.int .u16 0), (.int .u16 0), (.int .u16 0), (.int .u16 0)] (by kernel_rfl) rfl (by kernel_rfl) (fun b1 => [blk b1 [(.int .u64 0), (.int .i64 0), (.int .u16 0), (.int .u16 0), (.int .u16 0), (.int .u16 0)] 74]) (fun _ => rfl) ?_)
  intro b1
  refine A.cons (A.q (some 5) (.int .i64 0) (by kernel_rfl) (qt_assign rfl rfl) ?_)
  refine A.done ?_
  refine A.norm [(0, (.pointer none)), (1, (.int .i64 i)), (4, (.pointer (some ⟨b1, 0, none⟩))), (5, (.int .i64 0))] [blk b1 [(.int .u64 0), (.int .i64 0), (.int .u16 0), (.int .u16 0), (.int .u16 0), (.int .u16 0)] 74] (by exact ⟨rfl, rfl, rfl, rfl, trivial⟩) rfl ?_
  refine A.tn ?_
  refine A.seq ?_
  refine A.region ?_
  refine A.cons (A.alloc 6 [(.int .u64 0), (.int .i64 0), (.int .u16 0), (.int .u16 0), (.int .u16 0), (.int .u16 0)] (by kernel_rfl) rfl (by kernel_rfl) (fun b2 => [blk b1 [(.int .u64 0), (.int .i64 0), (.int .u16 0), (.int .u16 0), (.int .u16 0), (.int .u16 0)] 74, blk b2 [(.int .u64 0), (.int .i64 0), (.int .u16 0), (.int .u16 0), (.int .u16 0), (.int .u16 0)] 74]) (fun _ => rfl) ?_)
  intro b2
  refine A.done ?_
  refine A.norm [(0, (.pointer none)), (1, (.int .i64 i)), (4, (.pointer (some ⟨b1, 0, none⟩))), (5, (.int .i64 0)), (6, (.pointer (some ⟨b2, 0, none⟩)))] [blk b1 [(.int .u64 0), (.int .i64 0), (.int .u16 0), (.int .u16 0), (.int .u16 0), (.int .u16 0)] 74, blk b2 [(.int .u64 0), (.int .i64 0), (.int .u16 0), (.int .u16 0), (.int .u16 0), (.int .u16 0)] 74] (by exact ⟨rfl, rfl, rfl, rfl, rfl, trivial⟩) rfl ?_
  refine A.tn ?_
  refine A.seq ?_
  refine A.block ?_
  refine A.seq ?_
  refine A.region ?_
  refine A.cons (A.q (some 8) (.pointer none) (by kernel_rfl) (qt_move rfl rfl) ?_)
  refine A.cons (A.q (some 9) (.bool true) (by kernel_rfl) (qt_pure (by kernel_rfl) fun _ => by kernel_rfl) ?_)
  refine A.cons (A.q (some 7) (.bool true) (by kernel_rfl) (qt_assign rfl rfl) ?_)
  refine A.done ?_
  refine A.norm [(0, (.pointer none)), (1, (.int .i64 i)), (4, (.pointer (some ⟨b1, 0, none⟩))), (5, (.int .i64 0)), (6, (.pointer (some ⟨b2, 0, none⟩))), (7, (.bool true))] [blk b1 [(.int .u64 0), (.int .i64 0), (.int .u16 0), (.int .u16 0), (.int .u16 0), (.int .u16 0)] 74, blk b2 [(.int .u64 0), (.int .i64 0), (.int .u16 0), (.int .u16 0), (.int .u16 0), (.int .u16 0)] 74] (by exact ⟨rfl, rfl, rfl, rfl, rfl, rfl, trivial⟩) rfl ?_
  refine A.tn ?_
  refine A.cond_t rfl ?_
  refine A.seq ?_
  refine A.region ?_
  refine A.cons (A.q (some 10) (.agg #[(.int .u64 0), (.int .i64 0), (.int .u16 0), (.int .u16 0), (.int .u16 0), (.int .u16 0)]) (by kernel_rfl) (qt_loadN (vs := [(.int .u64 0), (.int .i64 0), (.int .u16 0), (.int .u16 0), (.int .u16 0), (.int .u16 0)]) rfl rfl (by kernel_rfl) (reads_blk (i := 1) rfl rfl)) ?_)
  refine A.cons (A.store 0 (vs := [(.int .u64 0), (.int .i64 0), (.int .u16 0), (.int .u16 0), (.int .u16 0), (.int .u16 0)]) [blk b1 [(.int .u64 0), (.int .i64 0), (.int .u16 0), (.int .u16 0), (.int .u16 0), (.int .u16 0)] 74, blk b2 [(.int .u64 0), (.int .i64 0), (.int .u16 0), (.int .u16 0), (.int .u16 0), (.int .u16 0)] 74] (by kernel_rfl) rfl rfl rfl rfl (by kernel_rfl) rfl rfl (by kernel_rfl) rfl ?_)
  refine A.cons (A.q (some 5) (.int .i64 7) (by kernel_rfl) (qt_assign rfl rfl) ?_)
  refine A.done ?_
  refine A.norm [(0, (.pointer none)), (1, (.int .i64 i)), (4, (.pointer (some ⟨b1, 0, none⟩))), (5, (.int .i64 7)), (6, (.pointer (some ⟨b2, 0, none⟩))), (7, (.bool true))] [blk b1 [(.int .u64 0), (.int .i64 0), (.int .u16 0), (.int .u16 0), (.int .u16 0), (.int .u16 0)] 74, blk b2 [(.int .u64 0), (.int .i64 0), (.int .u16 0), (.int .u16 0), (.int .u16 0), (.int .u16 0)] 74] (by exact ⟨rfl, rfl, rfl, rfl, rfl, rfl, trivial⟩) rfl ?_
  refine A.tn ?_
  refine A.ret ?_
  refine A.br ?_
  refine A.tr ?_
  refine A.post [(.agg #[(.int .u64 0), (.int .i64 0), (.int .u16 0), (.int .u16 0), (.int .u16 0), (.int .u16 0)]), (.int .i64 7)] (fun a w r s => ⟨rv_cellN (vs := [(.int .u64 0), (.int .i64 0), (.int .u16 0), (.int .u16 0), (.int .u16 0), (.int .u16 0)]) r s rfl (by kernel_rfl) (reads_blk (i := 0) rfl rfl), rv_tmp r rfl, trivial⟩) (fun w1 s => ?_)
  exact ⟨rfl, s.fr⟩

set_option maxRecDepth 100000 in
theorem ringP_pop_nil (w : World) :
    Calls Try.prog 65 #[(.pointer none)] w fun e w' => e = .returned (.tuple #[(.agg #[(.int .u64 0), (.int .i64 0), (.int .u16 0), (.int .u16 0), (.int .u16 0), (.int .u16 0)]), (.int .i64 7)]) ∧ Fr [] w w' := by
  refine calls_of (args := [(.pointer none)]) (penv [(.pointer none)]) [] [] Try.func65 rfl rfl (look_penv _) (HS.nil w) ?_
  refine A.norm [(0, (.pointer none))] [] (by exact ⟨rfl, trivial⟩) rfl ?_
  refine A.seq ?_
  refine A.region ?_
  refine A.cons (A.alloc 2 [(.int .u64 0), (.int .i64 0), (.int .u16 0), (.int .u16 0), (.int .u16 0), (.int .u16 0)] (by kernel_rfl) rfl (by kernel_rfl) (fun b1 => [blk b1 [(.int .u64 0), (.int .i64 0), (.int .u16 0), (.int .u16 0), (.int .u16 0), (.int .u16 0)] 74]) (fun _ => rfl) ?_)
  intro b1
  refine A.cons (A.q (some 3) (.int .i64 0) (by kernel_rfl) (qt_assign rfl rfl) ?_)
  refine A.done ?_
  refine A.norm [(0, (.pointer none)), (2, (.pointer (some ⟨b1, 0, none⟩))), (3, (.int .i64 0))] [blk b1 [(.int .u64 0), (.int .i64 0), (.int .u16 0), (.int .u16 0), (.int .u16 0), (.int .u16 0)] 74] (by exact ⟨rfl, rfl, rfl, trivial⟩) rfl ?_
  refine A.tn ?_
  refine A.seq ?_
  refine A.region ?_
  refine A.cons (A.q (some 8) (.pointer none) (by kernel_rfl) (qt_move rfl rfl) ?_)
  refine A.cons (A.q (some 9) (.tuple #[(.agg #[(.int .u64 0), (.int .i64 0), (.int .u16 0), (.int .u16 0), (.int .u16 0), (.int .u16 0)]), (.int .i64 7)]) (by kernel_rfl) (qt_call [(.pointer none), (.int .i64 0)] rfl (by kernel_rfl) rfl (fun w s0 => ringP_at_nil 0 w)) ?_)
  refine A.cons (A.q (some 7) (.tuple #[(.agg #[(.int .u64 0), (.int .i64 0), (.int .u16 0), (.int .u16 0), (.int .u16 0), (.int .u16 0)]), (.int .i64 7)]) (by kernel_rfl) (qt_move rfl rfl) ?_)
  refine A.cons (A.q (some 10) (.agg #[(.int .u64 0), (.int .i64 0), (.int .u16 0), (.int .u16 0), (.int .u16 0), (.int .u16 0)]) (by kernel_rfl) (qt_pure (by kernel_rfl) fun _ => by kernel_rfl) ?_)
  refine A.cons (A.q (some 11) (.int .i64 7) (by kernel_rfl) (qt_pure (by kernel_rfl) fun _ => by kernel_rfl) ?_)
  refine A.cons (A.alloc 4 [(.int .u64 0), (.int .i64 0), (.int .u16 0), (.int .u16 0), (.int .u16 0), (.int .u16 0)] (by kernel_rfl) rfl (by kernel_rfl) (fun b2 => [blk b1 [(.int .u64 0), (.int .i64 0), (.int .u16 0), (.int .u16 0), (.int .u16 0), (.int .u16 0)] 74, blk b2 [(.int .u64 0), (.int .i64 0), (.int .u16 0), (.int .u16 0), (.int .u16 0), (.int .u16 0)] 74]) (fun _ => rfl) ?_)
  intro b2
  refine A.cons (A.store 1 (vs := [(.int .u64 0), (.int .i64 0), (.int .u16 0), (.int .u16 0), (.int .u16 0), (.int .u16 0)]) [blk b1 [(.int .u64 0), (.int .i64 0), (.int .u16 0), (.int .u16 0), (.int .u16 0), (.int .u16 0)] 74, blk b2 [(.int .u64 0), (.int .i64 0), (.int .u16 0), (.int .u16 0), (.int .u16 0), (.int .u16 0)] 74] (by kernel_rfl) rfl rfl rfl rfl (by kernel_rfl) rfl rfl (by kernel_rfl) rfl ?_)
  refine A.cons (A.q (some 5) (.int .i64 7) (by kernel_rfl) (qt_assign rfl rfl) ?_)
  refine A.done ?_
  refine A.norm [(0, (.pointer none)), (2, (.pointer (some ⟨b1, 0, none⟩))), (3, (.int .i64 0)), (4, (.pointer (some ⟨b2, 0, none⟩))), (5, (.int .i64 7))] [blk b1 [(.int .u64 0), (.int .i64 0), (.int .u16 0), (.int .u16 0), (.int .u16 0), (.int .u16 0)] 74, blk b2 [(.int .u64 0), (.int .i64 0), (.int .u16 0), (.int .u16 0), (.int .u16 0), (.int .u16 0)] 74] (by exact ⟨rfl, rfl, rfl, rfl, rfl, trivial⟩) rfl ?_
  refine A.tn ?_
  refine A.seq ?_
  refine A.seq ?_
  refine A.region ?_
  refine A.cons (A.q (some 12) (.int .i64 7) (by kernel_rfl) (qt_move rfl rfl) ?_)
  refine A.cons (A.q (some 13) (.bool true) (by kernel_rfl) (qt_pure (by kernel_rfl) fun _ => by kernel_rfl) ?_)
  refine A.done ?_
  refine A.norm [(0, (.pointer none)), (2, (.pointer (some ⟨b1, 0, none⟩))), (3, (.int .i64 0)), (4, (.pointer (some ⟨b2, 0, none⟩))), (5, (.int .i64 7)), (13, (.bool true))] [blk b1 [(.int .u64 0), (.int .i64 0), (.int .u16 0), (.int .u16 0), (.int .u16 0), (.int .u16 0)] 74, blk b2 [(.int .u64 0), (.int .i64 0), (.int .u16 0), (.int .u16 0), (.int .u16 0), (.int .u16 0)] 74] (by exact ⟨rfl, rfl, rfl, rfl, rfl, rfl, trivial⟩) rfl ?_
  refine A.tn ?_
  refine A.cond_t rfl ?_
  refine A.seq ?_
  refine A.region ?_
  refine A.cons (A.q (some 14) (.agg #[(.int .u64 0), (.int .i64 0), (.int .u16 0), (.int .u16 0), (.int .u16 0), (.int .u16 0)]) (by kernel_rfl) (qt_loadN (vs := [(.int .u64 0), (.int .i64 0), (.int .u16 0), (.int .u16 0), (.int .u16 0), (.int .u16 0)]) rfl rfl (by kernel_rfl) (reads_blk (i := 1) rfl rfl)) ?_)
  refine A.cons (A.q (some 15) (.int .i64 7) (by kernel_rfl) (qt_move rfl rfl) ?_)
  refine A.cons (A.store 0 (vs := [(.int .u64 0), (.int .i64 0), (.int .u16 0), (.int .u16 0), (.int .u16 0), (.int .u16 0)]) [blk b1 [(.int .u64 0), (.int .i64 0), (.int .u16 0), (.int .u16 0), (.int .u16 0), (.int .u16 0)] 74, blk b2 [(.int .u64 0), (.int .i64 0), (.int .u16 0), (.int .u16 0), (.int .u16 0), (.int .u16 0)] 74] (by kernel_rfl) rfl rfl rfl rfl (by kernel_rfl) rfl rfl (by kernel_rfl) rfl ?_)
  refine A.cons (A.q (some 3) (.int .i64 7) (by kernel_rfl) (qt_assign rfl rfl) ?_)
  refine A.done ?_
  refine A.norm [(0, (.pointer none)), (2, (.pointer (some ⟨b1, 0, none⟩))), (3, (.int .i64 7)), (4, (.pointer (some ⟨b2, 0, none⟩))), (5, (.int .i64 7)), (13, (.bool true))] [blk b1 [(.int .u64 0), (.int .i64 0), (.int .u16 0), (.int .u16 0), (.int .u16 0), (.int .u16 0)] 74, blk b2 [(.int .u64 0), (.int .i64 0), (.int .u16 0), (.int .u16 0), (.int .u16 0), (.int .u16 0)] 74] (by exact ⟨rfl, rfl, rfl, rfl, rfl, rfl, trivial⟩) rfl ?_
  refine A.tn ?_
  refine A.ret ?_
  refine A.tr ?_
  refine A.post [(.agg #[(.int .u64 0), (.int .i64 0), (.int .u16 0), (.int .u16 0), (.int .u16 0), (.int .u16 0)]), (.int .i64 7)] (fun a w r s => ⟨rv_cellN (vs := [(.int .u64 0), (.int .i64 0), (.int .u16 0), (.int .u16 0), (.int .u16 0), (.int .u16 0)]) r s rfl (by kernel_rfl) (reads_blk (i := 0) rfl rfl), rv_tmp r rfl, trivial⟩) (fun w1 s => ?_)
  exact ⟨rfl, s.fr⟩

set_option maxRecDepth 100000 in
theorem ringP_len_nil (w : World) :
    Calls Try.prog 70 #[(.pointer none)] w fun e w' => e = .returned (.int .i64 0) ∧ Fr [] w w' := by
  refine calls_of (args := [(.pointer none)]) (penv [(.pointer none)]) [] [] Try.func70 rfl rfl (look_penv _) (HS.nil w) ?_
  refine A.norm [(0, (.pointer none))] [] (by exact ⟨rfl, trivial⟩) rfl ?_
  refine A.seq ?_
  refine A.region ?_
  refine A.cons (A.q (some 2) (.int .i64 0) (by kernel_rfl) (qt_assign rfl rfl) ?_)
  refine A.done ?_
  refine A.norm [(0, (.pointer none)), (2, (.int .i64 0))] [] (by exact ⟨rfl, rfl, trivial⟩) rfl ?_
  refine A.tn ?_
  refine A.seq ?_
  refine A.seq ?_
  refine A.region ?_
  refine A.cons (A.q (some 3) (.pointer none) (by kernel_rfl) (qt_move rfl rfl) ?_)
  refine A.cons (A.q (some 4) (.bool true) (by kernel_rfl) (qt_pure (by kernel_rfl) fun _ => by kernel_rfl) ?_)
  refine A.done ?_
  refine A.norm [(0, (.pointer none)), (2, (.int .i64 0)), (4, (.bool true))] [] (by exact ⟨rfl, rfl, rfl, trivial⟩) rfl ?_
  refine A.tn ?_
  refine A.cond_t rfl ?_
  refine A.seq ?_
  refine A.region ?_
  refine A.cons (A.q (some 2) (.int .i64 0) (by kernel_rfl) (qt_assign rfl rfl) ?_)
  refine A.done ?_
  refine A.norm [(0, (.pointer none)), (2, (.int .i64 0)), (4, (.bool true))] [] (by exact ⟨rfl, rfl, rfl, trivial⟩) rfl ?_
  refine A.tn ?_
  refine A.ret ?_
  refine A.tr ?_
  refine A.post [(.int .i64 0)] (fun a w r s => ⟨rv_tmp r rfl, trivial⟩) (fun w1 s => ?_)
  exact ⟨rfl, s.fr⟩

set_option maxRecDepth 100000 in
theorem ringP_room_nil (w : World) :
    Calls Try.prog 73 #[(.pointer none)] w fun e w' => e = .returned (.int .i64 0) ∧ Fr [] w w' := by
  refine calls_of (args := [(.pointer none)]) (penv [(.pointer none)]) [] [] Try.func73 rfl rfl (look_penv _) (HS.nil w) ?_
  refine A.norm [(0, (.pointer none))] [] (by exact ⟨rfl, trivial⟩) rfl ?_
  refine A.seq ?_
  refine A.region ?_
  refine A.cons (A.q (some 2) (.int .i64 0) (by kernel_rfl) (qt_assign rfl rfl) ?_)
  refine A.done ?_
  refine A.norm [(0, (.pointer none)), (2, (.int .i64 0))] [] (by exact ⟨rfl, rfl, trivial⟩) rfl ?_
  refine A.tn ?_
  refine A.seq ?_
  refine A.seq ?_
  refine A.region ?_
  refine A.cons (A.q (some 3) (.pointer none) (by kernel_rfl) (qt_move rfl rfl) ?_)
  refine A.cons (A.q (some 4) (.bool true) (by kernel_rfl) (qt_pure (by kernel_rfl) fun _ => by kernel_rfl) ?_)
  refine A.done ?_
  refine A.norm [(0, (.pointer none)), (2, (.int .i64 0)), (4, (.bool true))] [] (by exact ⟨rfl, rfl, rfl, trivial⟩) rfl ?_
  refine A.tn ?_
  refine A.cond_t rfl ?_
  refine A.seq ?_
  refine A.region ?_
  refine A.cons (A.q (some 2) (.int .i64 0) (by kernel_rfl) (qt_assign rfl rfl) ?_)
  refine A.done ?_
  refine A.norm [(0, (.pointer none)), (2, (.int .i64 0)), (4, (.bool true))] [] (by exact ⟨rfl, rfl, rfl, trivial⟩) rfl ?_
  refine A.tn ?_
  refine A.ret ?_
  refine A.tr ?_
  refine A.post [(.int .i64 0)] (fun a w r s => ⟨rv_tmp r rfl, trivial⟩) (fun w1 s => ?_)
  exact ⟨rfl, s.fr⟩

set_option maxRecDepth 100000 in
theorem ringP_push_nil (x : Pkt) (w : World) :
    Calls Try.prog 64 #[(.pointer none), (.agg #[(.int .u64 x.id), (.int .i64 x.len), (.int .u16 x.h0), (.int .u16 x.h1), (.int .u16 x.h2), (.int .u16 x.h3)])] w fun e w' => e = .returned (.int .i64 7) ∧ Fr [] w w' := by
  refine calls_of (args := [(.pointer none), (.agg #[(.int .u64 x.id), (.int .i64 x.len), (.int .u16 x.h0), (.int .u16 x.h1), (.int .u16 x.h2), (.int .u16 x.h3)])]) (penv [(.pointer none), (.agg #[(.int .u64 x.id), (.int .i64 x.len), (.int .u16 x.h0), (.int .u16 x.h1), (.int .u16 x.h2), (.int .u16 x.h3)])]) [] [] Try.func64 rfl rfl (look_penv _) (HS.nil w) ?_
  refine A.norm [(0, (.pointer none)), (1, (.agg #[(.int .u64 x.id), (.int .i64 x.len), (.int .u16 x.h0), (.int .u16 x.h1), (.int .u16 x.h2), (.int .u16 x.h3)]))] [] (by exact ⟨rfl, rfl, trivial⟩) rfl ?_
  refine A.seq ?_
  refine A.region ?_
  refine A.cons (A.box 3 [(.int .u64 x.id), (.int .i64 x.len), (.int .u16 x.h0), (.int .u16 x.h1), (.int .u16 x.h2), (.int .u16 x.h3)] (by kernel_rfl) rfl rfl rfl (fun b1 => [blk b1 [(.int .u64 x.id), (.int .i64 x.len), (.int .u16 x.h0), (.int .u16 x.h1), (.int .u16 x.h2), (.int .u16 x.h3)] 74]) (fun _ => rfl) ?_)
  intro b1
  refine A.cons (A.q (some 4) (.int .i64 0) (by kernel_rfl) (qt_assign rfl rfl) ?_)
  refine A.done ?_
  refine A.norm [(0, (.pointer none)), (1, (.agg #[(.int .u64 x.id), (.int .i64 x.len), (.int .u16 x.h0), (.int .u16 x.h1), (.int .u16 x.h2), (.int .u16 x.h3)])), (3, (.pointer (some ⟨b1, 0, none⟩))), (4, (.int .i64 0))] [blk b1 [(.int .u64 x.id), (.int .i64 x.len), (.int .u16 x.h0), (.int .u16 x.h1), (.int .u16 x.h2), (.int .u16 x.h3)] 74] (by exact ⟨rfl, rfl, rfl, rfl, trivial⟩) rfl ?_
  refine A.tn ?_
  refine A.seq ?_
  refine A.block ?_
  refine A.seq ?_
  refine A.region ?_
  refine A.cons (A.q (some 6) (.pointer none) (by kernel_rfl) (qt_move rfl rfl) ?_)
  refine A.cons (A.q (some 7) (.bool true) (by kernel_rfl) (qt_pure (by kernel_rfl) fun _ => by kernel_rfl) ?_)
  refine A.cons (A.q (some 5) (.bool true) (by kernel_rfl) (qt_assign rfl rfl) ?_)
  refine A.done ?_
  refine A.norm [(0, (.pointer none)), (1, (.agg #[(.int .u64 x.id), (.int .i64 x.len), (.int .u16 x.h0), (.int .u16 x.h1), (.int .u16 x.h2), (.int .u16 x.h3)])), (3, (.pointer (some ⟨b1, 0, none⟩))), (4, (.int .i64 0)), (5, (.bool true))] [blk b1 [(.int .u64 x.id), (.int .i64 x.len), (.int .u16 x.h0), (.int .u16 x.h1), (.int .u16 x.h2), (.int .u16 x.h3)] 74] (by exact ⟨rfl, rfl, rfl, rfl, rfl, trivial⟩) rfl ?_
  refine A.tn ?_
  refine A.cond_t rfl ?_
  refine A.seq ?_
  refine A.region ?_
  refine A.cons (A.q (some 4) (.int .i64 7) (by kernel_rfl) (qt_assign rfl rfl) ?_)
  refine A.done ?_
  refine A.norm [(0, (.pointer none)), (1, (.agg #[(.int .u64 x.id), (.int .i64 x.len), (.int .u16 x.h0), (.int .u16 x.h1), (.int .u16 x.h2), (.int .u16 x.h3)])), (3, (.pointer (some ⟨b1, 0, none⟩))), (4, (.int .i64 7)), (5, (.bool true))] [blk b1 [(.int .u64 x.id), (.int .i64 x.len), (.int .u16 x.h0), (.int .u16 x.h1), (.int .u16 x.h2), (.int .u16 x.h3)] 74] (by exact ⟨rfl, rfl, rfl, rfl, rfl, trivial⟩) rfl ?_
  refine A.tn ?_
  refine A.ret ?_
  refine A.br ?_
  refine A.tr ?_
  refine A.post [(.int .i64 7)] (fun a w r s => ⟨rv_tmp r rfl, trivial⟩) (fun w1 s => ?_)
  exact ⟨rfl, s.fr⟩

theorem ringP_push (b s room : Nat) (q : List Pkt) (x : Pkt) (w : World) (h : RingH encPkt 118 74 b s room q w) (hn : q.length < room) :
    Calls Try.prog 64 #[(.pointer (some ⟨b, 0, none⟩)), (.agg #[(.int .u64 x.id), (.int .i64 x.len), (.int .u16 x.h0), (.int .u16 x.h1), (.int .u16 x.h2), (.int .u16 x.h3)])] w fun e w' => e = .returned (.int .i64 0) ∧ RingH encPkt 118 74 b s room (q ++ [x]) w' ∧ Fr [b, s] w w' := by
  obtain ⟨slots, first, r, v⟩ := h
  refine (ringP_push_w b s room first q.length slots x w r hn).mono fun e w' ⟨he, hr, hf⟩ => ⟨he, ⟨_, first, by simpa using hr, ring_push_view r.len r.fst hn v⟩, hf⟩
theorem ringP_pushFull (b s room : Nat) (q : List Pkt) (x : Pkt) (w : World) (h : RingH encPkt 118 74 b s room q w) (hn : q.length = room) :
    Calls Try.prog 64 #[(.pointer (some ⟨b, 0, none⟩)), (.agg #[(.int .u64 x.id), (.int .i64 x.len), (.int .u16 x.h0), (.int .u16 x.h1), (.int .u16 x.h2), (.int .u16 x.h3)])] w fun e w' => e = .returned (.int .i64 5) ∧ Fr [] w w' := by
  obtain ⟨slots, first, r, v⟩ := h
  exact ringP_push_full b s room first q.length slots x w r hn
theorem ringP_pop (b s room : Nat) (q : List Pkt) (x : Pkt) (w : World) (h : RingH encPkt 118 74 b s room (x :: q) w) :
    Calls Try.prog 65 #[(.pointer (some ⟨b, 0, none⟩))] w fun e w' => e = .returned (.tuple #[(.agg #[(.int .u64 x.id), (.int .i64 x.len), (.int .u16 x.h0), (.int .u16 x.h1), (.int .u16 x.h2), (.int .u16 x.h3)]), (.int .i64 0)]) ∧ RingH encPkt 118 74 b s room q w' ∧ Fr [b, s] w w' := by
  obtain ⟨slots, first, r, v⟩ := h
  refine (ringP_pop_w b s room first q.length slots x w (by simpa using r) (v 0 x rfl)).mono fun e w' ⟨he, hr, hf⟩ => ⟨he, ⟨_, _, hr, ring_pop_view r.fst (by have := r.cnt; simpa using this) v⟩, hf⟩
theorem ringP_popNone (b s room : Nat) (w : World) (h : RingH encPkt 118 74 b s room ([] : List Pkt) w) :
    Calls Try.prog 65 #[(.pointer (some ⟨b, 0, none⟩))] w fun e w' => e = .returned (.tuple #[(.agg #[(.int .u64 0), (.int .i64 0), (.int .u16 0), (.int .u16 0), (.int .u16 0), (.int .u16 0)]), (.int .i64 6)]) ∧ Fr [] w w' := by
  obtain ⟨slots, first, r, v⟩ := h
  exact ringP_pop_none b s room first slots w r
theorem ringP_at (b s room k : Nat) (q : List Pkt) (x : Pkt) (w : World) (h : RingH encPkt 118 74 b s room q w) (hx : q[k]? = some x) :
    Calls Try.prog 71 #[(.pointer (some ⟨b, 0, none⟩)), .int .i64 (k : Int)] w fun e w' => e = .returned (.tuple #[(.agg #[(.int .u64 x.id), (.int .i64 x.len), (.int .u16 x.h0), (.int .u16 x.h1), (.int .u16 x.h2), (.int .u16 x.h3)]), (.int .i64 0)]) ∧ Fr [] w w' := by
  obtain ⟨slots, first, r, v⟩ := h
  exact ringP_at_ok b s room first q.length slots k x w r (List.getElem?_eq_some_iff.1 hx).1 (v k x hx)
theorem ringP_atNone (b s room : Nat) (i : Int) (q : List Pkt) (w : World) (h : RingH encPkt 118 74 b s room q w) (hi : ¬ (0 ≤ i ∧ i < (q.length : Int))) :
    Calls Try.prog 71 #[(.pointer (some ⟨b, 0, none⟩)), .int .i64 i] w fun e w' => e = .returned (.tuple #[(.agg #[(.int .u64 0), (.int .i64 0), (.int .u16 0), (.int .u16 0), (.int .u16 0), (.int .u16 0)]), (.int .i64 6)]) ∧ Fr [] w w' := by
  obtain ⟨slots, first, r, v⟩ := h
  exact ringP_at_none b s room first q.length slots i w r hi
theorem ringP_len (b s room : Nat) (q : List Pkt) (w : World) (h : RingH encPkt 118 74 b s room q w) :
    Calls Try.prog 70 #[(.pointer (some ⟨b, 0, none⟩))] w fun e w' => e = .returned (.int .i64 (q.length : Int)) ∧ Fr [] w w' := by
  obtain ⟨slots, first, r, v⟩ := h
  exact ringP_len_w b s room first q.length w r.hb
theorem ringP_room (b s room : Nat) (q : List Pkt) (w : World) (h : RingH encPkt 118 74 b s room q w) :
    Calls Try.prog 73 #[(.pointer (some ⟨b, 0, none⟩))] w fun e w' => e = .returned (.int .i64 ((room : Int) - (q.length : Int))) ∧ Fr [] w w' := by
  obtain ⟨slots, first, r, v⟩ := h
  exact ringP_room_w b s room first q.length w r.hb ⟨r.lo, r.hi, r.fst, r.cnt⟩
end Go.Proofs.Ytkfmboicmdnjpaa
