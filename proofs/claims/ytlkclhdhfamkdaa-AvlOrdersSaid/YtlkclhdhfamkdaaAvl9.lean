/- What the functions of this layer do, proved operation by operation, for all arguments, under the conditions that each theorem states. -/
import Derived.Test.YtlkclhdhfamkdaaProg
import Derived.Test.YtlkclhdhfamkdaaAvl8
namespace Go.Proofs.Ytlkclhdhfamkdaa
open Go V
set_option linter.unusedVariables false
set_option linter.unusedSimpArgs false

set_option maxHeartbeats 8000000 in
set_option maxRecDepth 100000 in
theorem key_spec (a i : Int) (w : World) :
    Calls Try.prog 12 #[(u_ a), (i_ i)] w fun e w' => e = .returned (.agg #[(u_ a), (i_ i)]) ∧ Fr [] w w' := by
  refine calls_of (args := [(u_ a), (i_ i)]) (penv [(u_ a), (i_ i)]) [] [] Try.func12 rfl rfl (look_penv _) (HS.nil w) ?_
  refine A.norm [(0, (u_ a)), (1, (i_ i))] [] (by exact ⟨rfl, rfl, trivial⟩) rfl ?_
  refine A.seq ?_
  refine A.region (A.goA1 [.al] [0, 1, 4] (fun b1 => [(0, (u_ a)), (1, (i_ i)), (4, (p_ b1))]) (fun b1 => [blk b1 [(u_ 0), (i_ 0)] 28]) (fun b1 => []) (fun _ => T0) (fun _ => by kernel_rfl) (fun b1 => trivial) ?_)
  intro b1
  refine A.tn ?_
  refine A.seq ?_
  refine A.region (A.goAS [.p, .p, .p, .st 0] [(0, (u_ a)), (1, (i_ i)), (4, (p_ b1))] [blk b1 [(u_ a), (i_ i)] 28] [b1] T0 (by kernel_rfl) trivial ?_)
  refine A.tn ?_
  refine A.ret ?_
  refine A.postQ [(.agg #[(u_ a), (i_ i)])] (fun aa ww rr ss => ⟨rv_cellN (vs := [(u_ a), (i_ i)]) rr ss rfl (by kernel_rfl) (reads_blk (i := 0) rfl rfl), trivial⟩) ?_
  rfl

set_option maxHeartbeats 8000000 in
set_option maxRecDepth 100000 in
theorem ref_spec (a i : Int) (w : World) :
    Calls Try.prog 18 #[(.agg #[(u_ a), (i_ i)])] w fun e w' => e = .returned (.agg #[(u_ a), (i_ i)]) ∧ Fr [] w w' := by
  refine calls_of (args := [(.agg #[(u_ a), (i_ i)])]) (penv [(.agg #[(u_ a), (i_ i)])]) [] [] Try.func18 rfl rfl (look_penv _) (HS.nil w) ?_
  refine A.norm [(0, (.agg #[(u_ a), (i_ i)]))] [] (by exact ⟨rfl, trivial⟩) rfl ?_
  refine A.seq ?_
  refine A.region (A.goA2 [.al, .al] [0, 1, 2] (fun b1 b2 => [(0, (.agg #[(u_ a), (i_ i)])), (1, (p_ b1)), (2, (p_ b2))]) (fun b1 b2 => [blk b1 [(u_ a), (i_ i)] 28, blk b2 [(u_ 0), (i_ 0)] 44]) (fun b1 b2 => []) (fun _ _ => T0) (fun _ _ => by kernel_rfl) (fun b1 b2 => trivial) ?_)
  intro b1 b2
  refine A.tn ?_
  refine A.seq ?_
  refine A.region (A.goAS [.p, .ld 0, .p, .ld 0, .p, .st 1] [(0, (.agg #[(u_ a), (i_ i)])), (1, (p_ b1)), (2, (p_ b2))] [blk b1 [(u_ a), (i_ i)] 28, blk b2 [(u_ a), (i_ i)] 44] [b1, b1, b2] T0 (by kernel_rfl) trivial ?_)
  refine A.tn ?_
  refine A.ret ?_
  refine A.postQ [(.agg #[(u_ a), (i_ i)])] (fun aa ww rr ss => ⟨rv_cellN (vs := [(u_ a), (i_ i)]) rr ss rfl (by kernel_rfl) (reads_blk (i := 1) rfl rfl), trivial⟩) ?_
  rfl

set_option maxHeartbeats 8000000 in
set_option maxRecDepth 100000 in
theorem item_spec (ka ki va vi : Int) (w : World) :
    Calls Try.prog 54 #[(.agg #[(u_ ka), (i_ ki), (u_ va), (i_ vi)])] w fun e w' => e = .returned (.agg #[(u_ ka), (i_ ki), (u_ va), (i_ vi)]) ∧ Fr [] w w' := by
  refine calls_of (args := [(.agg #[(u_ ka), (i_ ki), (u_ va), (i_ vi)])]) (penv [(.agg #[(u_ ka), (i_ ki), (u_ va), (i_ vi)])]) [] [] Try.func54 rfl rfl (look_penv _) (HS.nil w) ?_
  refine A.norm [(0, (.agg #[(u_ ka), (i_ ki), (u_ va), (i_ vi)]))] [] (by exact ⟨rfl, trivial⟩) rfl ?_
  refine A.seq ?_
  refine A.region (A.goA2 [.al, .al] [0, 1, 2] (fun b1 b2 => [(0, (.agg #[(u_ ka), (i_ ki), (u_ va), (i_ vi)])), (1, (p_ b1)), (2, (p_ b2))]) (fun b1 b2 => [blk b1 [(u_ ka), (i_ ki), (u_ va), (i_ vi)] 36, blk b2 [(u_ 0), (i_ 0), (u_ 0), (i_ 0)] 49]) (fun b1 b2 => []) (fun _ _ => T0) (fun _ _ => by kernel_rfl) (fun b1 b2 => trivial) ?_)
  intro b1 b2
  refine A.tn ?_
  refine A.seq ?_
  refine A.draw2 [7] 8 (by kernel_rfl) ?_
  refine A.drawP 1 [.p, .ld 0, .cq (.agg #[(u_ ka), (i_ ki)]), .p, .ld 0, .cq (.agg #[(u_ va), (i_ vi)]), .p] [0, 1, 2, 3, 4, 5, 6] [(0, (.agg #[(u_ ka), (i_ ki), (u_ va), (i_ vi)])), (1, (p_ b1)), (2, (p_ b2)), (9, (.agg #[(u_ ka), (i_ ki), (u_ va), (i_ vi)]))] [b1, b1] (fun κ => κ.call 18 [(.agg #[(u_ ka), (i_ ki)])] (.agg #[(u_ ka), (i_ ki)]) ∧ κ.call 18 [(.agg #[(u_ va), (i_ vi)])] (.agg #[(u_ va), (i_ vi)]) ∧ True) (by kernel_rfl) ⟨(fun ww ss => ref_spec ka ki ww), (fun ww ss => ref_spec va vi ww), trivial⟩ ?_
  refine A.only2 7 rfl (by kernel_rfl) (A.store 1 (vs := [(u_ ka), (i_ ki), (u_ va), (i_ vi)]) [blk b1 [(u_ ka), (i_ ki), (u_ va), (i_ vi)] 36, blk b2 [(u_ ka), (i_ ki), (u_ va), (i_ vi)] 49] (by kernel_rfl) rfl rfl rfl rfl (by kernel_rfl) rfl rfl (by kernel_rfl) rfl ?_)
  refine A.stage ?_
  refine A.fin2 (by kernel_rfl) ?_
  refine A.sub [(0, (.agg #[(u_ ka), (i_ ki), (u_ va), (i_ vi)])), (1, (p_ b1)), (2, (p_ b2))] (by exact ⟨rfl, rfl, rfl, trivial⟩) ?_
  refine A.tn ?_
  refine A.ret ?_
  refine A.postQ [(.agg #[(u_ ka), (i_ ki), (u_ va), (i_ vi)])] (fun aa ww rr ss => ⟨rv_cellN (vs := [(u_ ka), (i_ ki), (u_ va), (i_ vi)]) rr ss rfl (by kernel_rfl) (reads_blk (i := 1) rfl rfl), trivial⟩) ?_
  rfl

set_option maxHeartbeats 8000000 in
set_option maxRecDepth 100000 in
theorem less_spec (x i y j : Int) (w : World) :
    Calls Try.prog 53 #[(.agg #[(u_ x), (i_ i)]), (.agg #[(u_ y), (i_ j)])] w fun e w' => e = .returned (b_ (decide (lessK x i y j))) ∧ Fr [] w w' := by
  refine calls_of (args := [(.agg #[(u_ x), (i_ i)]), (.agg #[(u_ y), (i_ j)])]) (penv [(.agg #[(u_ x), (i_ i)]), (.agg #[(u_ y), (i_ j)])]) [] [] Try.func53 rfl rfl (look_penv _) (HS.nil w) ?_
  refine A.norm [(0, (.agg #[(u_ x), (i_ i)])), (1, (.agg #[(u_ y), (i_ j)]))] [] (by exact ⟨rfl, rfl, trivial⟩) rfl ?_
  refine A.seq ?_
  refine A.region (A.goA2 [.al, .al, .p] [0, 1, 2, 3, 4] (fun b1 b2 => [(0, (.agg #[(u_ x), (i_ i)])), (1, (.agg #[(u_ y), (i_ j)])), (2, (p_ b1)), (3, (p_ b2)), (4, (b_ false))]) (fun b1 b2 => [blk b1 [(u_ x), (i_ i)] 44, blk b2 [(u_ y), (i_ j)] 44]) (fun b1 b2 => []) (fun _ _ => T0) (fun _ _ => by kernel_rfl) (fun b1 b2 => trivial) ?_)
  intro b1 b2
  refine A.tn ?_
  refine A.seq ?_
  refine A.region (A.goA [.p, .ld 0, .p, .ld 1, .p, .p, .o, .p, .ld 0, .p, .ld 1, .p, .p, .o, .p, .ld 0, .p, .ld 1, .p, .cl, .cl, .p] [(0, (.agg #[(u_ x), (i_ i)])), (1, (.agg #[(u_ y), (i_ j)])), (2, (p_ b1)), (3, (p_ b2)), (4, (b_ ((decide (x < y)) || ((x == y) && (decide (i < j))))))] [b1, b2, b1, b2, b1, b2] T0 (by kernel_rfl) trivial ?_)
  refine A.tn ?_
  refine A.ret ?_
  refine A.postQ [(b_ ((decide (x < y)) || ((x == y) && (decide (i < j)))))] (fun aa ww rr ss => ⟨rv_tmp rr rfl, trivial⟩) ?_
  show ((b_ ((decide (x < y)) || ((x == y) && (decide (i < j))))) : Value) = (b_ (decide (lessK x i y j)))
  refine congrArg Value.bool ?_; rw [Bool.eq_iff_iff, decide_eq_true_eq]; simp [lessK]

set_option maxHeartbeats 8000000 in
set_option maxRecDepth 100000 in
theorem rfind_spec (al : Option Addr) (l : List It) (cl : Nat) (a i : Int) (hl : l.length ≤ 1000000) (w : World) (r0 : arrAt w al (V.flat encIt l)) :
    Calls Try.prog 17 #[(.slice al l.length cl), (.agg #[(u_ a), (i_ i)])] w fun e w' => e = .returned (i_ (refFind a i l)) ∧ Fr [] w w' := by
  refine calls_of (args := [(.slice al l.length cl), (.agg #[(u_ a), (i_ i)])]) (penv [(.slice al l.length cl), (.agg #[(u_ a), (i_ i)])]) [] [] Try.func17 rfl rfl (look_penv _) (HS.nil w) ?_
  refine A.norm [(0, (.slice al l.length cl)), (1, (.agg #[(u_ a), (i_ i)]))] [] (by exact ⟨rfl, rfl, trivial⟩) rfl ?_
  refine A.seq ?_
  refine A.region (A.goA1 [.al, .p] [0, 1, 3, 4] (fun b1 => [(0, (.slice al l.length cl)), (1, (.agg #[(u_ a), (i_ i)])), (3, (p_ b1)), (4, (i_ 0))]) (fun b1 => [blk b1 [(u_ a), (i_ i)] 44]) (fun b1 => []) (fun _ => T0) (fun _ => by kernel_rfl) (fun b1 => trivial) ?_)
  intro b1
  refine A.tn ?_
  refine A.seq ?_
  refine A.seq ?_
  refine A.region (A.goA [.p, .p, .p] [(0, (.slice al l.length cl)), (1, (.agg #[(u_ a), (i_ i)])), (3, (p_ b1)), (4, (i_ 0)), (7, (.slice al l.length cl)), (8, (i_ (l.length : Int))), (9, (i_ 0))] [] T0 (by kernel_rfl) trivial ?_)
  refine A.tn ?_
  refine A.block ?_
  refine A.loop (fun (zz : Nat) => match zz with | k => [(3, (p_ b1)), (7, (.slice al l.length cl)), (8, (i_ (l.length : Int))), (9, (i_ (k : Int)))]) (fun (zz : Nat) => match zz with | k => [blk b1 [(u_ a), (i_ i)] 44]) (fun (zz : Nat) => match zz with | k => (k ≤ l.length) ∧ (∀ y ∈ l.take k, ¬ (y.ka = a ∧ y.ki = i))) (fun (zz : Nat) => match zz with | k => l.length - k) (0 : Nat) ⟨(by first | assumption | omega | (simp_all; done) | (simp_all; omega) | grind), (by simp)⟩ ?_ ?_
  · exact A.hereK [0] (by exact ⟨rfl, rfl, rfl, rfl, trivial⟩) (by kernel_rfl)
  · rintro k ⟨hk, hn⟩
    refine A.norm [(3, (p_ b1)), (7, (.slice al l.length cl)), (8, (i_ (l.length : Int))), (9, (i_ (k : Int)))] [blk b1 [(u_ a), (i_ i)] 44] (by exact ⟨rfl, rfl, rfl, rfl, trivial⟩) rfl ?_
    refine A.seq ?_
    refine A.region (A.goA [.p] [(3, (p_ b1)), (7, (.slice al l.length cl)), (8, (i_ (l.length : Int))), (9, (i_ (k : Int))), (10, (b_ (decide ((k : Int) < (l.length : Int)))))] [] T0 (by kernel_rfl) trivial ?_)
    refine A.tn ?_
    refine A.seq ?_
    refine A.cond (E := decide ((k : Int) < (l.length : Int))) rfl (fun e1 => ?_) (fun e1 => ?_)
    · skip
      have p1 := of_decide_eq_true e1
      refine A.skip ?_
      refine A.tn ?_
      refine A.seq ?_
      refine A.block ?_
      refine A.seq ?_
      refine A.region (A.goP [.p, .ix] [(3, (p_ b1)), (7, (.slice al l.length cl)), (8, (i_ (l.length : Int))), (9, (i_ (k : Int))), (10, (b_ (decide ((k : Int) < (l.length : Int))))), (11, (i_ (k : Int))), (12, (.pointer (some ((at0 al).add (k * 4)))))] [] (fun κ => κ.ix al l.length (k : Int) ∧ True) (by kernel_rfl) ⟨(ixOf encIt_len (by decide) (rd_old r0 (by simp [feet])) (by first | omega | (simp; done))), trivial⟩ ?_)
      obtain ⟨x2, hx2⟩ : ∃ x, (l)[k]? = some x := ⟨_, List.getElem?_eq_getElem (by omega)⟩
      refine A.goA1 [.rd [(u_ x2.ka), (i_ x2.ki), (u_ x2.va), (i_ x2.vi)], .al, .p, .st 1] [3, 7, 8, 9, 10, 6, 5] (fun b3 => [(3, (p_ b1)), (7, (.slice al l.length cl)), (8, (i_ (l.length : Int))), (9, (i_ (k : Int))), (10, (b_ (decide ((k : Int) < (l.length : Int))))), (6, (p_ b3)), (5, (i_ (k : Int)))]) (fun b3 => [blk b1 [(u_ a), (i_ i)] 44, blk b3 [(u_ x2.ka), (i_ x2.ki), (u_ x2.va), (i_ x2.vi)] 49]) (fun b3 => [b3]) (fun _ => (fun κ => κ.rd ((at0 al).add (k * 4)) [(u_ x2.ka), (i_ x2.ki), (u_ x2.va), (i_ x2.vi)] ∧ True)) (fun _ => by kernel_rfl) (fun b3 => ⟨(reads_at0 (vs := [(u_ x2.ka), (i_ x2.ki), (u_ x2.va), (i_ x2.vi)]) encIt_len (rd_old r0 (by simp [feet])) hx2 (by simp) rfl), trivial⟩) ?_
      intro b3
      refine A.tn ?_
      refine A.seq ?_
      refine A.region (A.goA [.p, .ld 1, .ld 0, .eq] [(3, (p_ b1)), (7, (.slice al l.length cl)), (8, (i_ (l.length : Int))), (9, (i_ (k : Int))), (10, (b_ (decide ((k : Int) < (l.length : Int))))), (6, (p_ b3)), (5, (i_ (k : Int))), (17, (b_ ((x2.ka == a) && (x2.ki == i))))] [b3, b1] T0 (by kernel_rfl) trivial ?_)
      refine A.tn ?_
      refine A.cond (E := (x2.ka == a) && (x2.ki == i)) rfl (fun e2 => ?_) (fun e2 => ?_)
      · skip
        have p2 := e2; try simp only [decide_eq_true_eq, decide_eq_false_iff_not, beq_iff_eq, beq_eq_false_iff_ne, bne_iff_ne, bne_eq_false_iff_eq, ne_eq, Bool.and_eq_true, Bool.or_eq_true, Bool.or_eq_false_iff, Bool.not_eq_true', Bool.not_eq_false', Int.not_lt, Int.not_le, gt_iff_lt, ge_iff_le, Classical.not_not] at p2
        refine A.seq ?_
        refine A.region (A.goA [.p, .p] [(3, (p_ b1)), (7, (.slice al l.length cl)), (8, (i_ (l.length : Int))), (9, (i_ (k : Int))), (10, (b_ (decide ((k : Int) < (l.length : Int))))), (6, (p_ b3)), (5, (i_ (k : Int))), (17, (b_ ((x2.ka == a) && (x2.ki == i)))), (4, (i_ (k : Int)))] [] T0 (by kernel_rfl) trivial ?_)
        refine A.tn ?_
        refine A.ret ?_
        refine A.br ?_
        refine A.tr ?_
        refine A.tr ?_
        refine A.br ?_
        refine A.tr ?_
        refine A.postQ [(i_ (k : Int))] (fun aa ww rr ss => ⟨rv_tmp rr rfl, trivial⟩) ?_
        show ((i_ (k : Int)) : Value) = (i_ (refFind a i l))
        refine congrArg (Value.int .i64) ?_; first | exact (refFind_at (by assumption) (by simp_all) hn).symm | (rw [List.take_of_length_le (by omega)] at hn; exact (refFind_none hn).symm)
      · skip
        have p2 := e2; try simp only [decide_eq_true_eq, decide_eq_false_iff_not, beq_iff_eq, beq_eq_false_iff_ne, bne_iff_ne, bne_eq_false_iff_eq, ne_eq, Bool.and_eq_true, Bool.or_eq_true, Bool.or_eq_false_iff, Bool.not_eq_true', Bool.not_eq_false', Int.not_lt, Int.not_le, gt_iff_lt, ge_iff_le, Classical.not_not] at p2
        refine A.skip ?_
        refine A.bn ?_
        refine A.tn ?_
        refine A.region (A.goA [.w ((k : Int) + 1), .p] [(3, (p_ b1)), (7, (.slice al l.length cl)), (8, (i_ (l.length : Int))), (9, (i_ ((k : Int) + 1))), (10, (b_ (decide ((k : Int) < (l.length : Int))))), (6, (p_ b3)), (5, (i_ (k : Int))), (17, (b_ ((x2.ka == a) && (x2.ki == i))))] [] (fun κ => (IntKind.i64.wrap ((k : Int) + 1) = ((k : Int) + 1)) ∧ True) (by kernel_rfl) ⟨(wrap_i64 (e := (k : Int) + 1) (by constructor <;> omega)), trivial⟩ ?_)
        refine A.tn ?_
        refine A.next (k + 1) ⟨(by first | assumption | omega | (simp_all; done) | (simp_all; omega) | grind), (by rw [take_snoc (by assumption)]; intro y hy; rcases List.mem_append.1 hy with hy | hy; exact hn y hy; (simp at hy; subst hy; simp_all))⟩ (by first | omega | (simp; omega) | (simp_all; omega)) ?_
        exact A.hereK [0] (by exact ⟨rfl, rfl, rfl, rfl, trivial⟩) (by kernel_rfl)
    · skip
      have p1 := of_decide_eq_false e1
      refine A.exit ?_
      refine A.te ?_
      refine A.te ?_
      refine A.bh ?_
      refine A.tn ?_
      refine A.seq ?_
      refine A.region (A.goA [.p] [(3, (p_ b1)), (7, (.slice al l.length cl)), (8, (i_ (l.length : Int))), (9, (i_ (k : Int))), (10, (b_ (decide ((k : Int) < (l.length : Int))))), (4, (i_ (-1)))] [] T0 (by kernel_rfl) trivial ?_)
      refine A.tn ?_
      refine A.ret ?_
      refine A.postQ [(i_ (-1))] (fun aa ww rr ss => ⟨rv_tmp rr rfl, trivial⟩) ?_
      show ((i_ (-1)) : Value) = (i_ (refFind a i l))
      refine congrArg (Value.int .i64) ?_; first | exact (refFind_at (by assumption) (by simp_all) hn).symm | (rw [List.take_of_length_le (by omega)] at hn; exact (refFind_none hn).symm)

set_option maxHeartbeats 8000000 in
set_option maxRecDepth 100000 in
theorem rwithout_spec (al : Option Addr) (l : List It) (cl : Nat) (a i : Int) (hl : l.length ≤ 1000000) (w : World) (r0 : arrAt w al (V.flat encIt l)) (hs : HS w (feet []) [] w) :
    Calls Try.prog 19 #[(.slice al l.length cl), (.agg #[(u_ a), (i_ i)])] w fun e w' => ∃ zz, e = .returned ((fun (zz : (Option Addr) × Nat) => match zz with | (al', cl') => (.slice al' ((delL a i l).length) cl')) zz) ∧ (fun (zz : (Option Addr) × Nat) => match zz with | (al', cl') => True) zz ∧ Turn [] ((fun (zz : (Option Addr) × Nat) => match zz with | (al', cl') => [sl al' ((delL a i l).length) cl' 49 4 (V.flat encIt (delL a i l))]) zz) w w' := by
  refine calls_of (args := [(.slice al l.length cl), (.agg #[(u_ a), (i_ i)])]) (penv [(.slice al l.length cl), (.agg #[(u_ a), (i_ i)])]) (feet []) [] Try.func19 rfl rfl (look_penv _) hs ?_
  refine A.norm [(0, (.slice al l.length cl)), (1, (.agg #[(u_ a), (i_ i)]))] [] (by exact ⟨rfl, rfl, trivial⟩) rfl ?_
  refine A.seq ?_
  refine A.region (A.goA1 [.al, .p] [0, 1, 3, 4] (fun b1 => [(0, (.slice al l.length cl)), (1, (.agg #[(u_ a), (i_ i)])), (3, (p_ b1)), (4, e_)]) (fun b1 => [blk b1 [(u_ a), (i_ i)] 44]) (fun b1 => []) (fun _ => T0) (fun _ => by kernel_rfl) (fun b1 => trivial) ?_)
  intro b1
  refine A.tn ?_
  refine A.seq ?_
  refine A.region (A.goA [.p] [(0, (.slice al l.length cl)), (1, (.agg #[(u_ a), (i_ i)])), (3, (p_ b1)), (4, e_), (5, e_)] [] T0 (by kernel_rfl) trivial ?_)
  refine A.tn ?_
  refine A.seq ?_
  refine A.seq ?_
  refine A.region (A.goA [.p, .p, .p] [(0, (.slice al l.length cl)), (1, (.agg #[(u_ a), (i_ i)])), (3, (p_ b1)), (4, e_), (5, e_), (8, (.slice al l.length cl)), (9, (i_ (l.length : Int))), (10, (i_ 0))] [] T0 (by kernel_rfl) trivial ?_)
  refine A.tn ?_
  refine A.block ?_
  refine A.ownNil 49 4 [blk b1 [(u_ a), (i_ i)] 44, sl none (([] : List It).length) 0 49 4 (V.flat encIt ([] : List It))] rfl ?_
  refine A.setH [blk b1 [(u_ a), (i_ i)] 44, sl none ((delL a i (l.take 0)).length) 0 49 4 (V.flat encIt (delL a i (l.take 0)))] (cc rfl (cc (slC (by first | (rw [take_snoc (by assumption), delL_snoc]; simp_all; done) | (simp [delL]; done) | (rw [List.take_of_length_le (by omega)]) : ([] : List It) = (delL a i (l.take 0)))) rfl)) ?_
  refine A.sub [(0, (.slice al l.length cl)), (1, (.agg #[(u_ a), (i_ i)])), (3, (p_ b1)), (4, e_), (5, (.slice none ((delL a i (l.take 0)).length) 0)), (8, (.slice al l.length cl)), (9, (i_ (l.length : Int))), (10, (i_ 0))] (by exact ⟨rfl, rfl, rfl, rfl, (congrArg (fun z_ : List It => some (Value.slice none z_.length 0)) (by first | (rw [take_snoc (by assumption), delL_snoc]; simp_all; done) | (simp [delL]; done) | (rw [List.take_of_length_le (by omega)]) : ([] : List It) = (delL a i (l.take 0)))), rfl, rfl, rfl, trivial⟩) ?_
  refine A.loop (fun (zz : Nat × (Option Addr) × Nat) => match zz with | (k, ao, co) => [(3, (p_ b1)), (4, e_), (8, (.slice al l.length cl)), (9, (i_ (l.length : Int))), (10, (i_ (k : Int))), (5, (.slice ao ((delL a i (l.take k)).length) co))]) (fun (zz : Nat × (Option Addr) × Nat) => match zz with | (k, ao, co) => [sl ao ((delL a i (l.take k)).length) co 49 4 (V.flat encIt (delL a i (l.take k))), blk b1 [(u_ a), (i_ i)] 44]) (fun (zz : Nat × (Option Addr) × Nat) => match zz with | (k, ao, co) => (k ≤ l.length)) (fun (zz : Nat × (Option Addr) × Nat) => match zz with | (k, ao, co) => l.length - k) (0, none, 0) (by first | assumption | omega | (simp_all; done) | (simp_all; omega) | grind) ?_ ?_
  · exact A.hereK [1, 0] (by exact ⟨rfl, rfl, rfl, rfl, rfl, rfl, trivial⟩) (by kernel_rfl)
  · rintro ⟨k, ao, co⟩ hk
    have hk : k ≤ l.length := hk
    have hdl := delL_len (a := a) (i := i) (l.take k); simp only [List.length_take] at hdl
    refine A.norm [(3, (p_ b1)), (4, e_), (8, (.slice al l.length cl)), (9, (i_ (l.length : Int))), (10, (i_ (k : Int))), (5, (.slice ao ((delL a i (l.take k)).length) co))] [sl ao ((delL a i (l.take k)).length) co 49 4 (V.flat encIt (delL a i (l.take k))), blk b1 [(u_ a), (i_ i)] 44] (by exact ⟨rfl, rfl, rfl, rfl, rfl, rfl, trivial⟩) rfl ?_
    refine A.seq ?_
    refine A.region (A.goA [.p] [(3, (p_ b1)), (4, e_), (8, (.slice al l.length cl)), (9, (i_ (l.length : Int))), (10, (i_ (k : Int))), (5, (.slice ao ((delL a i (l.take k)).length) co)), (11, (b_ (decide ((k : Int) < (l.length : Int)))))] [] T0 (by kernel_rfl) trivial ?_)
    refine A.tn ?_
    refine A.seq ?_
    refine A.cond (E := decide ((k : Int) < (l.length : Int))) rfl (fun e1 => ?_) (fun e1 => ?_)
    · skip
      have p1 := of_decide_eq_true e1
      refine A.skip ?_
      refine A.tn ?_
      refine A.seq ?_
      refine A.block ?_
      refine A.seq ?_
      refine A.region (A.goP [.ix] [(3, (p_ b1)), (4, e_), (8, (.slice al l.length cl)), (9, (i_ (l.length : Int))), (10, (i_ (k : Int))), (5, (.slice ao ((delL a i (l.take k)).length) co)), (11, (b_ (decide ((k : Int) < (l.length : Int))))), (12, (.pointer (some ((at0 al).add (k * 4)))))] [] (fun κ => κ.ix al l.length (k : Int) ∧ True) (by kernel_rfl) ⟨(ixOf encIt_len (by decide) (rd_old r0 (by simp [feet])) (by first | omega | (simp; done))), trivial⟩ ?_)
      obtain ⟨x3, hx3⟩ : ∃ x, (l)[k]? = some x := ⟨_, List.getElem?_eq_getElem (by omega)⟩
      refine A.goA1 [.rd [(u_ x3.ka), (i_ x3.ki), (u_ x3.va), (i_ x3.vi)], .al, .st 2] [3, 4, 8, 9, 10, 5, 11, 7] (fun b4 => [(3, (p_ b1)), (4, e_), (8, (.slice al l.length cl)), (9, (i_ (l.length : Int))), (10, (i_ (k : Int))), (5, (.slice ao ((delL a i (l.take k)).length) co)), (11, (b_ (decide ((k : Int) < (l.length : Int))))), (7, (p_ b4))]) (fun b4 => [sl ao ((delL a i (l.take k)).length) co 49 4 (V.flat encIt (delL a i (l.take k))), blk b1 [(u_ a), (i_ i)] 44, blk b4 [(u_ x3.ka), (i_ x3.ki), (u_ x3.va), (i_ x3.vi)] 49]) (fun b4 => [b4]) (fun _ => (fun κ => κ.rd ((at0 al).add (k * 4)) [(u_ x3.ka), (i_ x3.ki), (u_ x3.va), (i_ x3.vi)] ∧ True)) (fun _ => by kernel_rfl) (fun b4 => ⟨(reads_at0 (vs := [(u_ x3.ka), (i_ x3.ki), (u_ x3.va), (i_ x3.vi)]) encIt_len (rd_old r0 (by simp [feet])) hx3 (by simp) rfl), trivial⟩) ?_
      intro b4
      refine A.tn ?_
      refine A.seq ?_
      refine A.region (A.goA [.p, .ld 2, .ld 1, .eq] [(3, (p_ b1)), (4, e_), (8, (.slice al l.length cl)), (9, (i_ (l.length : Int))), (10, (i_ (k : Int))), (5, (.slice ao ((delL a i (l.take k)).length) co)), (11, (b_ (decide ((k : Int) < (l.length : Int))))), (7, (p_ b4)), (17, (b_ (!((x3.ka == a) && (x3.ki == i)))))] [b4, b1] T0 (by kernel_rfl) trivial ?_)
      refine A.tn ?_
      refine A.cond (E := !((x3.ka == a) && (x3.ki == i))) rfl (fun e2 => ?_) (fun e2 => ?_)
      · skip
        have p2 := e2; try simp only [decide_eq_true_eq, decide_eq_false_iff_not, beq_iff_eq, beq_eq_false_iff_ne, bne_iff_ne, bne_eq_false_iff_eq, ne_eq, Bool.and_eq_true, Bool.or_eq_true, Bool.or_eq_false_iff, Bool.not_eq_true', Bool.not_eq_false', Int.not_lt, Int.not_le, gt_iff_lt, ge_iff_le, Classical.not_not] at p2
        refine A.region (A.goP [.p, .ld 2] [(3, (p_ b1)), (4, e_), (8, (.slice al l.length cl)), (9, (i_ (l.length : Int))), (10, (i_ (k : Int))), (5, (.slice ao ((delL a i (l.take k)).length) co)), (11, (b_ (decide ((k : Int) < (l.length : Int))))), (7, (p_ b4)), (17, (b_ (!((x3.ka == a) && (x3.ki == i))))), (18, (.slice ao ((delL a i (l.take k)).length) co)), (19, (.agg #[(u_ x3.ka), (i_ x3.ki), (u_ x3.va), (i_ x3.vi)]))] [b4] T0 (by kernel_rfl) trivial ?_)
        refine A.cons (A.buildSlice 20 (e := 49) [(u_ x3.ka), (i_ x3.ki), (u_ x3.va), (i_ x3.vi)] (by kernel_rfl) rfl (fun _ => by kernel_rfl) (fun b5 => [sl ao ((delL a i (l.take k)).length) co 49 4 (V.flat encIt (delL a i (l.take k))), blk b1 [(u_ a), (i_ i)] 44, blk b4 [(u_ x3.ka), (i_ x3.ki), (u_ x3.va), (i_ x3.vi)] 49, blk b5 [(u_ x3.ka), (i_ x3.ki), (u_ x3.va), (i_ x3.vi)] 49]) (fun _ => rfl) ?_)
        intro b5
        refine A.cons (A.appendC (enc := encIt) (xs := (delL a i (l.take k))) [x3] 0 21 (e := 49) (z := (.agg #[(u_ 0), (i_ 0), (u_ 0), (i_ 0)])) (sz := 4) (by_ := 32) (by kernel_rfl) rfl rfl rfl (by kernel_rfl) (by kernel_rfl) (by rfl) (by decide) encIt_len encIt_one rfl (rd_blk (i := 3) rfl) (by simp; omega) (fun A6 c6 => [sl A6 (((delL a i (l.take k)) ++ ([x3])).length) c6 49 4 (V.flat encIt ((delL a i (l.take k)) ++ ([x3]))), blk b1 [(u_ a), (i_ i)] 44, blk b4 [(u_ x3.ka), (i_ x3.ki), (u_ x3.va), (i_ x3.vi)] 49, blk b5 [(u_ x3.ka), (i_ x3.ki), (u_ x3.va), (i_ x3.vi)] 49]) (fun _ _ => rfl) ?_)
        intro A6 c6
        refine A.goA [.p] [(3, (p_ b1)), (4, e_), (8, (.slice al l.length cl)), (9, (i_ (l.length : Int))), (10, (i_ (k : Int))), (5, (.slice A6 (((delL a i (l.take k)) ++ ([x3])).length) c6)), (11, (b_ (decide ((k : Int) < (l.length : Int))))), (7, (p_ b4)), (17, (b_ (!((x3.ka == a) && (x3.ki == i)))))] [] T0 (by kernel_rfl) trivial ?_
        refine A.bn ?_
        refine A.tn ?_
        refine A.region (A.goA [.w ((k : Int) + 1), .p] [(3, (p_ b1)), (4, e_), (8, (.slice al l.length cl)), (9, (i_ (l.length : Int))), (10, (i_ ((k : Int) + 1))), (5, (.slice A6 (((delL a i (l.take k)) ++ ([x3])).length) c6)), (11, (b_ (decide ((k : Int) < (l.length : Int))))), (7, (p_ b4)), (17, (b_ (!((x3.ka == a) && (x3.ki == i)))))] [] (fun κ => (IntKind.i64.wrap ((k : Int) + 1) = ((k : Int) + 1)) ∧ True) (by kernel_rfl) ⟨(wrap_i64 (e := (k : Int) + 1) (by constructor <;> omega)), trivial⟩ ?_)
        refine A.tn ?_
        refine A.setH [sl A6 ((delL a i (l.take (k + 1))).length) c6 49 4 (V.flat encIt (delL a i (l.take (k + 1)))), blk b1 [(u_ a), (i_ i)] 44, blk b4 [(u_ x3.ka), (i_ x3.ki), (u_ x3.va), (i_ x3.vi)] 49, blk b5 [(u_ x3.ka), (i_ x3.ki), (u_ x3.va), (i_ x3.vi)] 49] (cc (slC (by first | (rw [take_snoc (by assumption), delL_snoc]; simp_all; done) | (simp [delL]; done) | (rw [List.take_of_length_le (by omega)]) : (delL a i (l.take k)) ++ ([x3]) = (delL a i (l.take (k + 1))))) rfl) ?_
        refine A.sub [(3, (p_ b1)), (4, e_), (8, (.slice al l.length cl)), (9, (i_ (l.length : Int))), (10, (i_ ((k : Int) + 1))), (5, (.slice A6 ((delL a i (l.take (k + 1))).length) c6)), (11, (b_ (decide ((k : Int) < (l.length : Int))))), (7, (p_ b4)), (17, (b_ (!((x3.ka == a) && (x3.ki == i)))))] (by exact ⟨rfl, rfl, rfl, rfl, rfl, (congrArg (fun z_ : List It => some (Value.slice A6 z_.length c6)) (by first | (rw [take_snoc (by assumption), delL_snoc]; simp_all; done) | (simp [delL]; done) | (rw [List.take_of_length_le (by omega)]) : (delL a i (l.take k)) ++ ([x3]) = (delL a i (l.take (k + 1))))), rfl, rfl, rfl, trivial⟩) ?_
        refine A.next (k + 1, A6, c6) (by first | assumption | omega | (simp_all; done) | (simp_all; omega) | grind) (by first | omega | (simp; omega) | (simp_all; omega)) ?_
        exact A.hereK [0, 0] (by exact ⟨rfl, rfl, rfl, rfl, rfl, rfl, trivial⟩) (by kernel_rfl)
      · skip
        have p2 := e2; try simp only [decide_eq_true_eq, decide_eq_false_iff_not, beq_iff_eq, beq_eq_false_iff_ne, bne_iff_ne, bne_eq_false_iff_eq, ne_eq, Bool.and_eq_true, Bool.or_eq_true, Bool.or_eq_false_iff, Bool.not_eq_true', Bool.not_eq_false', Int.not_lt, Int.not_le, gt_iff_lt, ge_iff_le, Classical.not_not] at p2
        refine A.skip ?_
        refine A.bn ?_
        refine A.tn ?_
        refine A.region (A.goA [.w ((k : Int) + 1), .p] [(3, (p_ b1)), (4, e_), (8, (.slice al l.length cl)), (9, (i_ (l.length : Int))), (10, (i_ ((k : Int) + 1))), (5, (.slice ao ((delL a i (l.take k)).length) co)), (11, (b_ (decide ((k : Int) < (l.length : Int))))), (7, (p_ b4)), (17, (b_ (!((x3.ka == a) && (x3.ki == i)))))] [] (fun κ => (IntKind.i64.wrap ((k : Int) + 1) = ((k : Int) + 1)) ∧ True) (by kernel_rfl) ⟨(wrap_i64 (e := (k : Int) + 1) (by constructor <;> omega)), trivial⟩ ?_)
        refine A.tn ?_
        refine A.setH [sl ao ((delL a i (l.take (k + 1))).length) co 49 4 (V.flat encIt (delL a i (l.take (k + 1)))), blk b1 [(u_ a), (i_ i)] 44, blk b4 [(u_ x3.ka), (i_ x3.ki), (u_ x3.va), (i_ x3.vi)] 49] (cc (slC (by first | (rw [take_snoc (by assumption), delL_snoc]; simp_all; done) | (simp [delL]; done) | (rw [List.take_of_length_le (by omega)]) : (delL a i (l.take k)) = (delL a i (l.take (k + 1))))) rfl) ?_
        refine A.sub [(3, (p_ b1)), (4, e_), (8, (.slice al l.length cl)), (9, (i_ (l.length : Int))), (10, (i_ ((k : Int) + 1))), (5, (.slice ao ((delL a i (l.take (k + 1))).length) co)), (11, (b_ (decide ((k : Int) < (l.length : Int))))), (7, (p_ b4)), (17, (b_ (!((x3.ka == a) && (x3.ki == i)))))] (by exact ⟨rfl, rfl, rfl, rfl, rfl, (congrArg (fun z_ : List It => some (Value.slice ao z_.length co)) (by first | (rw [take_snoc (by assumption), delL_snoc]; simp_all; done) | (simp [delL]; done) | (rw [List.take_of_length_le (by omega)]) : (delL a i (l.take k)) = (delL a i (l.take (k + 1))))), rfl, rfl, rfl, trivial⟩) ?_
        refine A.next (k + 1, ao, co) (by first | assumption | omega | (simp_all; done) | (simp_all; omega) | grind) (by first | omega | (simp; omega) | (simp_all; omega)) ?_
        exact A.hereK [0, 0] (by exact ⟨rfl, rfl, rfl, rfl, rfl, rfl, trivial⟩) (by kernel_rfl)
    · skip
      have p1 := of_decide_eq_false e1
      refine A.exit ?_
      refine A.te ?_
      refine A.te ?_
      refine A.bh ?_
      refine A.tn ?_
      refine A.seq ?_
      refine A.region (A.goA [.p, .p] [(3, (p_ b1)), (4, (.slice ao ((delL a i (l.take k)).length) co)), (8, (.slice al l.length cl)), (9, (i_ (l.length : Int))), (10, (i_ (k : Int))), (5, (.slice ao ((delL a i (l.take k)).length) co)), (11, (b_ (decide ((k : Int) < (l.length : Int)))))] [] T0 (by kernel_rfl) trivial ?_)
      refine A.tn ?_
      refine A.ret ?_
      refine A.setH [sl ao ((delL a i l).length) co 49 4 (V.flat encIt (delL a i l)), blk b1 [(u_ a), (i_ i)] 44] (cc (slC (by first | (rw [take_snoc (by assumption), delL_snoc]; simp_all; done) | (simp [delL]; done) | (rw [List.take_of_length_le (by omega)]) : (delL a i (l.take k)) = (delL a i l))) rfl) ?_
      refine A.postK [0] [(.slice ao ((delL a i (l.take k)).length) co)] (fun aa ww rr ss => ⟨rv_tmp rr rfl, trivial⟩) (ao, co) ?_ ?_ (by kernel_rfl)
      · show ((.slice ao ((delL a i (l.take k)).length) co) : Value) = (.slice ao ((delL a i l).length) co)
        rw [List.take_of_length_le (by omega)]
      · trivial

set_option maxHeartbeats 8000000 in
set_option maxRecDepth 100000 in
theorem rput_spec (al : Option Addr) (l : List It) (cl : Nat) (x : It) (hl : l.length ≤ 1000000) (w : World) (r0 : arrAt w al (V.flat encIt l)) (hs : HS w (feet []) [] w) :
    Calls Try.prog 20 #[(.slice al l.length cl), (.agg #[(u_ x.ka), (i_ x.ki), (u_ x.va), (i_ x.vi)])] w fun e w' => ∃ zz, e = .returned ((fun (zz : (Option Addr) × Nat) => match zz with | (al', cl') => (.slice al' ((insL x l).length) cl')) zz) ∧ (fun (zz : (Option Addr) × Nat) => match zz with | (al', cl') => True) zz ∧ Turn [] ((fun (zz : (Option Addr) × Nat) => match zz with | (al', cl') => [sl al' ((insL x l).length) cl' 49 4 (V.flat encIt (insL x l))]) zz) w w' := by
  refine calls_of (args := [(.slice al l.length cl), (.agg #[(u_ x.ka), (i_ x.ki), (u_ x.va), (i_ x.vi)])]) (penv [(.slice al l.length cl), (.agg #[(u_ x.ka), (i_ x.ki), (u_ x.va), (i_ x.vi)])]) (feet []) [] Try.func20 rfl rfl (look_penv _) hs ?_
  refine A.norm [(0, (.slice al l.length cl)), (1, (.agg #[(u_ x.ka), (i_ x.ki), (u_ x.va), (i_ x.vi)]))] [] (by exact ⟨rfl, rfl, trivial⟩) rfl ?_
  refine A.seq ?_
  refine A.region (A.goA1 [.al, .p] [0, 1, 3, 4] (fun b1 => [(0, (.slice al l.length cl)), (1, (.agg #[(u_ x.ka), (i_ x.ki), (u_ x.va), (i_ x.vi)])), (3, (p_ b1)), (4, e_)]) (fun b1 => [blk b1 [(u_ x.ka), (i_ x.ki), (u_ x.va), (i_ x.vi)] 49]) (fun b1 => []) (fun _ => T0) (fun _ => by kernel_rfl) (fun b1 => trivial) ?_)
  intro b1
  refine A.tn ?_
  refine A.seq ?_
  refine A.region (A.goA [.p] [(0, (.slice al l.length cl)), (1, (.agg #[(u_ x.ka), (i_ x.ki), (u_ x.va), (i_ x.vi)])), (3, (p_ b1)), (4, e_), (5, e_)] [] T0 (by kernel_rfl) trivial ?_)
  refine A.tn ?_
  refine A.seq ?_
  refine A.region (A.goA [.p] [(0, (.slice al l.length cl)), (1, (.agg #[(u_ x.ka), (i_ x.ki), (u_ x.va), (i_ x.vi)])), (3, (p_ b1)), (4, e_), (5, e_), (6, (b_ false))] [] T0 (by kernel_rfl) trivial ?_)
  refine A.tn ?_
  refine A.seq ?_
  refine A.seq ?_
  refine A.region (A.goA [.p, .p, .p] [(0, (.slice al l.length cl)), (1, (.agg #[(u_ x.ka), (i_ x.ki), (u_ x.va), (i_ x.vi)])), (3, (p_ b1)), (4, e_), (5, e_), (6, (b_ false)), (9, (.slice al l.length cl)), (10, (i_ (l.length : Int))), (11, (i_ 0))] [] T0 (by kernel_rfl) trivial ?_)
  refine A.tn ?_
  refine A.block ?_
  refine A.ownNil 49 4 [blk b1 [(u_ x.ka), (i_ x.ki), (u_ x.va), (i_ x.vi)] 49, sl none (([] : List It).length) 0 49 4 (V.flat encIt ([] : List It))] rfl ?_
  refine A.loop (fun (zz : Nat × (Option Addr) × Nat × (List It) × Bool) => match zz with | (k, ao, co, xs, pt) => [(3, (p_ b1)), (4, e_), (9, (.slice al l.length cl)), (10, (i_ (l.length : Int))), (11, (i_ (k : Int))), (5, (.slice ao xs.length co)), (6, (b_ pt))]) (fun (zz : Nat × (Option Addr) × Nat × (List It) × Bool) => match zz with | (k, ao, co, xs, pt) => [sl ao (xs.length) co 49 4 (V.flat encIt xs), blk b1 [(u_ x.ka), (i_ x.ki), (u_ x.va), (i_ x.vi)] 49]) (fun (zz : Nat × (Option Addr) × Nat × (List It) × Bool) => match zz with | (k, ao, co, xs, pt) => (k ≤ l.length) ∧ (pt = true → xs ++ l.drop k = insL x l) ∧ (pt = false → xs = l.take k ∧ insL x l = l.take k ++ insL x (l.drop k)) ∧ (xs.length ≤ k + 1)) (fun (zz : Nat × (Option Addr) × Nat × (List It) × Bool) => match zz with | (k, ao, co, xs, pt) => l.length - k) (0, none, 0, ([] : List It), false) ⟨(by first | assumption | omega | (simp_all; done) | (simp_all; omega) | grind), (by exact fun h => by cases h), (by exact fun _ => ⟨rfl, rfl⟩), (by simp)⟩ ?_ ?_
  · exact A.hereK [1, 0] (by exact ⟨rfl, rfl, rfl, rfl, rfl, rfl, rfl, trivial⟩) (by kernel_rfl)
  · rintro ⟨k, ao, co, xs, pt⟩ ⟨hk, h1, h2, h3⟩
    refine A.norm [(3, (p_ b1)), (4, e_), (9, (.slice al l.length cl)), (10, (i_ (l.length : Int))), (11, (i_ (k : Int))), (5, (.slice ao xs.length co)), (6, (b_ pt))] [sl ao (xs.length) co 49 4 (V.flat encIt xs), blk b1 [(u_ x.ka), (i_ x.ki), (u_ x.va), (i_ x.vi)] 49] (by exact ⟨rfl, rfl, rfl, rfl, rfl, rfl, rfl, trivial⟩) rfl ?_
    refine A.seq ?_
    refine A.region (A.goA [.p] [(3, (p_ b1)), (4, e_), (9, (.slice al l.length cl)), (10, (i_ (l.length : Int))), (11, (i_ (k : Int))), (5, (.slice ao xs.length co)), (6, (b_ pt)), (12, (b_ (decide ((k : Int) < (l.length : Int)))))] [] T0 (by kernel_rfl) trivial ?_)
    refine A.tn ?_
    refine A.seq ?_
    refine A.cond (E := decide ((k : Int) < (l.length : Int))) rfl (fun e1 => ?_) (fun e1 => ?_)
    · skip
      have p1 := of_decide_eq_true e1
      refine A.skip ?_
      refine A.tn ?_
      refine A.seq ?_
      refine A.block ?_
      refine A.seq ?_
      refine A.region (A.goP [.ix] [(3, (p_ b1)), (4, e_), (9, (.slice al l.length cl)), (10, (i_ (l.length : Int))), (11, (i_ (k : Int))), (5, (.slice ao xs.length co)), (6, (b_ pt)), (12, (b_ (decide ((k : Int) < (l.length : Int))))), (13, (.pointer (some ((at0 al).add (k * 4)))))] [] (fun κ => κ.ix al l.length (k : Int) ∧ True) (by kernel_rfl) ⟨(ixOf encIt_len (by decide) (rd_old r0 (by simp [feet])) (by first | omega | (simp; done))), trivial⟩ ?_)
      obtain ⟨x3, hx3⟩ : ∃ x, (l)[k]? = some x := ⟨_, List.getElem?_eq_getElem (by omega)⟩
      refine A.goA1 [.rd [(u_ x3.ka), (i_ x3.ki), (u_ x3.va), (i_ x3.vi)], .al, .st 2] [3, 4, 9, 10, 11, 5, 6, 12, 8] (fun b4 => [(3, (p_ b1)), (4, e_), (9, (.slice al l.length cl)), (10, (i_ (l.length : Int))), (11, (i_ (k : Int))), (5, (.slice ao xs.length co)), (6, (b_ pt)), (12, (b_ (decide ((k : Int) < (l.length : Int))))), (8, (p_ b4))]) (fun b4 => [sl ao (xs.length) co 49 4 (V.flat encIt xs), blk b1 [(u_ x.ka), (i_ x.ki), (u_ x.va), (i_ x.vi)] 49, blk b4 [(u_ x3.ka), (i_ x3.ki), (u_ x3.va), (i_ x3.vi)] 49]) (fun b4 => [b4]) (fun _ => (fun κ => κ.rd ((at0 al).add (k * 4)) [(u_ x3.ka), (i_ x3.ki), (u_ x3.va), (i_ x3.vi)] ∧ True)) (fun _ => by kernel_rfl) (fun b4 => ⟨(reads_at0 (vs := [(u_ x3.ka), (i_ x3.ki), (u_ x3.va), (i_ x3.vi)]) encIt_len (rd_old r0 (by simp [feet])) hx3 (by simp) rfl), trivial⟩) ?_
      intro b4
      refine A.tn ?_
      refine A.seq ?_
      refine A.seq ?_
      refine A.region (A.goA [.p, .p, .p, .o, .p, .ld 1, .p, .ld 2, .cq (b_ (decide (lessK x.ka x.ki x3.ka x3.ki))), .cl] [(3, (p_ b1)), (4, e_), (9, (.slice al l.length cl)), (10, (i_ (l.length : Int))), (11, (i_ (k : Int))), (5, (.slice ao xs.length co)), (6, (b_ pt)), (12, (b_ (decide ((k : Int) < (l.length : Int))))), (8, (p_ b4)), (23, (b_ ((!pt) && (decide (lessK x.ka x.ki x3.ka x3.ki)))))] [b1, b4] (fun κ => ((true && ((!pt) == true)) = true → κ.call 53 [(.agg #[(u_ x.ka), (i_ x.ki)]), (.agg #[(u_ x3.ka), (i_ x3.ki)])] (b_ (decide (lessK x.ka x.ki x3.ka x3.ki)))) ∧ True) (by kernel_rfl) ⟨(fun h_ => (fun ww ss => less_spec x.ka x.ki x3.ka x3.ki ww)), trivial⟩ ?_)
      refine A.tn ?_
      refine A.cond (E := (!pt) && (decide (lessK x.ka x.ki x3.ka x3.ki))) rfl (fun e2 => ?_) (fun e2 => ?_)
      · skip
        have p2 := e2; try simp only [decide_eq_true_eq, decide_eq_false_iff_not, beq_iff_eq, beq_eq_false_iff_ne, bne_iff_ne, bne_eq_false_iff_eq, ne_eq, Bool.and_eq_true, Bool.or_eq_true, Bool.or_eq_false_iff, Bool.not_eq_true', Bool.not_eq_false', Int.not_lt, Int.not_le, gt_iff_lt, ge_iff_le, Classical.not_not] at p2
        refine A.seq ?_
        refine A.region (A.goP [.p, .ld 1] [(3, (p_ b1)), (4, e_), (9, (.slice al l.length cl)), (10, (i_ (l.length : Int))), (11, (i_ (k : Int))), (5, (.slice ao xs.length co)), (6, (b_ pt)), (12, (b_ (decide ((k : Int) < (l.length : Int))))), (8, (p_ b4)), (23, (b_ ((!pt) && (decide (lessK x.ka x.ki x3.ka x3.ki))))), (24, (.slice ao xs.length co)), (25, (.agg #[(u_ x.ka), (i_ x.ki), (u_ x.va), (i_ x.vi)]))] [b1] T0 (by kernel_rfl) trivial ?_)
        refine A.cons (A.buildSlice 26 (e := 49) [(u_ x.ka), (i_ x.ki), (u_ x.va), (i_ x.vi)] (by kernel_rfl) rfl (fun _ => by kernel_rfl) (fun b5 => [sl ao (xs.length) co 49 4 (V.flat encIt xs), blk b1 [(u_ x.ka), (i_ x.ki), (u_ x.va), (i_ x.vi)] 49, blk b4 [(u_ x3.ka), (i_ x3.ki), (u_ x3.va), (i_ x3.vi)] 49, blk b5 [(u_ x.ka), (i_ x.ki), (u_ x.va), (i_ x.vi)] 49]) (fun _ => rfl) ?_)
        intro b5
        refine A.cons (A.appendC (enc := encIt) (xs := xs) [x] 0 27 (e := 49) (z := (.agg #[(u_ 0), (i_ 0), (u_ 0), (i_ 0)])) (sz := 4) (by_ := 32) (by kernel_rfl) rfl rfl rfl (by kernel_rfl) (by kernel_rfl) (by rfl) (by decide) encIt_len encIt_one rfl (rd_blk (i := 3) rfl) (by simp; omega) (fun A6 c6 => [sl A6 ((xs ++ ([x])).length) c6 49 4 (V.flat encIt (xs ++ ([x]))), blk b1 [(u_ x.ka), (i_ x.ki), (u_ x.va), (i_ x.vi)] 49, blk b4 [(u_ x3.ka), (i_ x3.ki), (u_ x3.va), (i_ x3.vi)] 49, blk b5 [(u_ x.ka), (i_ x.ki), (u_ x.va), (i_ x.vi)] 49]) (fun _ _ => rfl) ?_)
        intro A6 c6
        refine A.goA [.p] [(3, (p_ b1)), (4, e_), (9, (.slice al l.length cl)), (10, (i_ (l.length : Int))), (11, (i_ (k : Int))), (5, (.slice A6 ((xs ++ ([x])).length) c6)), (6, (b_ pt)), (12, (b_ (decide ((k : Int) < (l.length : Int))))), (8, (p_ b4)), (23, (b_ ((!pt) && (decide (lessK x.ka x.ki x3.ka x3.ki)))))] [] T0 (by kernel_rfl) trivial ?_
        refine A.tn ?_
        refine A.region (A.goA [.p] [(3, (p_ b1)), (4, e_), (9, (.slice al l.length cl)), (10, (i_ (l.length : Int))), (11, (i_ (k : Int))), (5, (.slice A6 ((xs ++ ([x])).length) c6)), (6, (b_ true)), (12, (b_ (decide ((k : Int) < (l.length : Int))))), (8, (p_ b4)), (23, (b_ ((!pt) && (decide (lessK x.ka x.ki x3.ka x3.ki)))))] [] T0 (by kernel_rfl) trivial ?_)
        refine A.tn ?_
        refine A.region (A.goP [.p, .ld 2] [(3, (p_ b1)), (4, e_), (9, (.slice al l.length cl)), (10, (i_ (l.length : Int))), (11, (i_ (k : Int))), (5, (.slice A6 ((xs ++ ([x])).length) c6)), (6, (b_ true)), (12, (b_ (decide ((k : Int) < (l.length : Int))))), (8, (p_ b4)), (23, (b_ ((!pt) && (decide (lessK x.ka x.ki x3.ka x3.ki))))), (28, (.slice A6 ((xs ++ ([x])).length) c6)), (29, (.agg #[(u_ x3.ka), (i_ x3.ki), (u_ x3.va), (i_ x3.vi)]))] [b4] T0 (by kernel_rfl) trivial ?_)
        refine A.cons (A.buildSlice 30 (e := 49) [(u_ x3.ka), (i_ x3.ki), (u_ x3.va), (i_ x3.vi)] (by kernel_rfl) rfl (fun _ => by kernel_rfl) (fun b7 => [sl A6 ((xs ++ ([x])).length) c6 49 4 (V.flat encIt (xs ++ ([x]))), blk b1 [(u_ x.ka), (i_ x.ki), (u_ x.va), (i_ x.vi)] 49, blk b4 [(u_ x3.ka), (i_ x3.ki), (u_ x3.va), (i_ x3.vi)] 49, blk b5 [(u_ x.ka), (i_ x.ki), (u_ x.va), (i_ x.vi)] 49, blk b7 [(u_ x3.ka), (i_ x3.ki), (u_ x3.va), (i_ x3.vi)] 49]) (fun _ => rfl) ?_)
        intro b7
        refine A.cons (A.appendC (enc := encIt) (xs := xs ++ ([x])) [x3] 0 31 (e := 49) (z := (.agg #[(u_ 0), (i_ 0), (u_ 0), (i_ 0)])) (sz := 4) (by_ := 32) (by kernel_rfl) rfl rfl rfl (by kernel_rfl) (by kernel_rfl) (by rfl) (by decide) encIt_len encIt_one rfl (rd_blk (i := 4) rfl) (by simp; omega) (fun A8 c8 => [sl A8 (((xs ++ ([x])) ++ ([x3])).length) c8 49 4 (V.flat encIt ((xs ++ ([x])) ++ ([x3]))), blk b1 [(u_ x.ka), (i_ x.ki), (u_ x.va), (i_ x.vi)] 49, blk b4 [(u_ x3.ka), (i_ x3.ki), (u_ x3.va), (i_ x3.vi)] 49, blk b5 [(u_ x.ka), (i_ x.ki), (u_ x.va), (i_ x.vi)] 49, blk b7 [(u_ x3.ka), (i_ x3.ki), (u_ x3.va), (i_ x3.vi)] 49]) (fun _ _ => rfl) ?_)
        intro A8 c8
        refine A.goA [.p] [(3, (p_ b1)), (4, e_), (9, (.slice al l.length cl)), (10, (i_ (l.length : Int))), (11, (i_ (k : Int))), (5, (.slice A8 (((xs ++ ([x])) ++ ([x3])).length) c8)), (6, (b_ true)), (12, (b_ (decide ((k : Int) < (l.length : Int))))), (8, (p_ b4)), (23, (b_ ((!pt) && (decide (lessK x.ka x.ki x3.ka x3.ki)))))] [] T0 (by kernel_rfl) trivial ?_
        refine A.bn ?_
        refine A.tn ?_
        refine A.region (A.goA [.w ((k : Int) + 1), .p] [(3, (p_ b1)), (4, e_), (9, (.slice al l.length cl)), (10, (i_ (l.length : Int))), (11, (i_ ((k : Int) + 1))), (5, (.slice A8 (((xs ++ ([x])) ++ ([x3])).length) c8)), (6, (b_ true)), (12, (b_ (decide ((k : Int) < (l.length : Int))))), (8, (p_ b4)), (23, (b_ ((!pt) && (decide (lessK x.ka x.ki x3.ka x3.ki)))))] [] (fun κ => (IntKind.i64.wrap ((k : Int) + 1) = ((k : Int) + 1)) ∧ True) (by kernel_rfl) ⟨(wrap_i64 (e := (k : Int) + 1) (by constructor <;> omega)), trivial⟩ ?_)
        refine A.tn ?_
        refine A.next (k + 1, A8, c8, (xs ++ ([x])) ++ ([x3]), true) ⟨(by first | assumption | omega | (simp_all; done) | (simp_all; omega) | grind), (by first | (intro h_; cases h_; done) | (intro _; rw [List.append_assoc]; simp only [List.cons_append, List.nil_append]; rw [← drop_cons (by assumption)]; first | (simp_all; done) | (have h2' := h2 (by simp_all); rw [h2'.2, h2'.1, drop_cons (by assumption), insL, if_pos (by show lessK _ _ _ _; simp_all)]; simp; done)) | exact fun h_ => by simp_all), (by first | (intro h_; cases h_; done) | (intro h_; have h2' := h2 (by simp_all); refine ⟨by rw [h2'.1, take_snoc (by assumption)], ?_⟩; rw [h2'.2, drop_cons (by assumption), insL, if_neg (by show ¬ lessK _ _ _ _; simp_all), take_snoc (by assumption)]; simp; done)), (by first | (simp; omega) | (have h2' := h2 (by simp_all); rw [h2'.1]; simp; omega))⟩ (by first | omega | (simp; omega) | (simp_all; omega)) ?_
        exact A.hereK [0, 0] (by exact ⟨rfl, rfl, rfl, rfl, rfl, rfl, rfl, trivial⟩) (by kernel_rfl)
      · skip
        have p2 := e2; try simp only [decide_eq_true_eq, decide_eq_false_iff_not, beq_iff_eq, beq_eq_false_iff_ne, bne_iff_ne, bne_eq_false_iff_eq, ne_eq, Bool.and_eq_true, Bool.or_eq_true, Bool.or_eq_false_iff, Bool.not_eq_true', Bool.not_eq_false', Int.not_lt, Int.not_le, gt_iff_lt, ge_iff_le, Classical.not_not] at p2
        refine A.skip ?_
        refine A.tn ?_
        refine A.region (A.goP [.p, .ld 2] [(3, (p_ b1)), (4, e_), (9, (.slice al l.length cl)), (10, (i_ (l.length : Int))), (11, (i_ (k : Int))), (5, (.slice ao xs.length co)), (6, (b_ pt)), (12, (b_ (decide ((k : Int) < (l.length : Int))))), (8, (p_ b4)), (23, (b_ ((!pt) && (decide (lessK x.ka x.ki x3.ka x3.ki))))), (28, (.slice ao xs.length co)), (29, (.agg #[(u_ x3.ka), (i_ x3.ki), (u_ x3.va), (i_ x3.vi)]))] [b4] T0 (by kernel_rfl) trivial ?_)
        refine A.cons (A.buildSlice 30 (e := 49) [(u_ x3.ka), (i_ x3.ki), (u_ x3.va), (i_ x3.vi)] (by kernel_rfl) rfl (fun _ => by kernel_rfl) (fun b9 => [sl ao (xs.length) co 49 4 (V.flat encIt xs), blk b1 [(u_ x.ka), (i_ x.ki), (u_ x.va), (i_ x.vi)] 49, blk b4 [(u_ x3.ka), (i_ x3.ki), (u_ x3.va), (i_ x3.vi)] 49, blk b9 [(u_ x3.ka), (i_ x3.ki), (u_ x3.va), (i_ x3.vi)] 49]) (fun _ => rfl) ?_)
        intro b9
        refine A.cons (A.appendC (enc := encIt) (xs := xs) [x3] 0 31 (e := 49) (z := (.agg #[(u_ 0), (i_ 0), (u_ 0), (i_ 0)])) (sz := 4) (by_ := 32) (by kernel_rfl) rfl rfl rfl (by kernel_rfl) (by kernel_rfl) (by rfl) (by decide) encIt_len encIt_one rfl (rd_blk (i := 3) rfl) (by simp; omega) (fun A10 c10 => [sl A10 ((xs ++ ([x3])).length) c10 49 4 (V.flat encIt (xs ++ ([x3]))), blk b1 [(u_ x.ka), (i_ x.ki), (u_ x.va), (i_ x.vi)] 49, blk b4 [(u_ x3.ka), (i_ x3.ki), (u_ x3.va), (i_ x3.vi)] 49, blk b9 [(u_ x3.ka), (i_ x3.ki), (u_ x3.va), (i_ x3.vi)] 49]) (fun _ _ => rfl) ?_)
        intro A10 c10
        refine A.goA [.p] [(3, (p_ b1)), (4, e_), (9, (.slice al l.length cl)), (10, (i_ (l.length : Int))), (11, (i_ (k : Int))), (5, (.slice A10 ((xs ++ ([x3])).length) c10)), (6, (b_ pt)), (12, (b_ (decide ((k : Int) < (l.length : Int))))), (8, (p_ b4)), (23, (b_ ((!pt) && (decide (lessK x.ka x.ki x3.ka x3.ki)))))] [] T0 (by kernel_rfl) trivial ?_
        refine A.bn ?_
        refine A.tn ?_
        refine A.region (A.goA [.w ((k : Int) + 1), .p] [(3, (p_ b1)), (4, e_), (9, (.slice al l.length cl)), (10, (i_ (l.length : Int))), (11, (i_ ((k : Int) + 1))), (5, (.slice A10 ((xs ++ ([x3])).length) c10)), (6, (b_ pt)), (12, (b_ (decide ((k : Int) < (l.length : Int))))), (8, (p_ b4)), (23, (b_ ((!pt) && (decide (lessK x.ka x.ki x3.ka x3.ki)))))] [] (fun κ => (IntKind.i64.wrap ((k : Int) + 1) = ((k : Int) + 1)) ∧ True) (by kernel_rfl) ⟨(wrap_i64 (e := (k : Int) + 1) (by constructor <;> omega)), trivial⟩ ?_)
        refine A.tn ?_
        refine A.next (k + 1, A10, c10, xs ++ ([x3]), pt) ⟨(by first | assumption | omega | (simp_all; done) | (simp_all; omega) | grind), (by first | (intro h_; cases h_; done) | (intro _; rw [List.append_assoc]; simp only [List.cons_append, List.nil_append]; rw [← drop_cons (by assumption)]; first | (simp_all; done) | (have h2' := h2 (by simp_all); rw [h2'.2, h2'.1, drop_cons (by assumption), insL, if_pos (by show lessK _ _ _ _; simp_all)]; simp; done)) | exact fun h_ => by simp_all), (by first | (intro h_; cases h_; done) | (intro h_; have h2' := h2 (by simp_all); refine ⟨by rw [h2'.1, take_snoc (by assumption)], ?_⟩; rw [h2'.2, drop_cons (by assumption), insL, if_neg (by show ¬ lessK _ _ _ _; simp_all), take_snoc (by assumption)]; simp; done)), (by first | (simp; omega) | (have h2' := h2 (by simp_all); rw [h2'.1]; simp; omega))⟩ (by first | omega | (simp; omega) | (simp_all; omega)) ?_
        exact A.hereK [0, 0] (by exact ⟨rfl, rfl, rfl, rfl, rfl, rfl, rfl, trivial⟩) (by kernel_rfl)
    · skip
      have p1 := of_decide_eq_false e1
      refine A.exit ?_
      refine A.te ?_
      refine A.te ?_
      refine A.bh ?_
      refine A.tn ?_
      refine A.seq ?_
      refine A.seq ?_
      refine A.region (A.goA [.p, .p] [(3, (p_ b1)), (4, e_), (9, (.slice al l.length cl)), (10, (i_ (l.length : Int))), (11, (i_ (k : Int))), (5, (.slice ao xs.length co)), (6, (b_ pt)), (12, (b_ (decide ((k : Int) < (l.length : Int))))), (34, (b_ (!pt)))] [] T0 (by kernel_rfl) trivial ?_)
      refine A.tn ?_
      refine A.cond (E := !pt) rfl (fun e3 => ?_) (fun e3 => ?_)
      · skip
        have p3 := e3; try simp only [decide_eq_true_eq, decide_eq_false_iff_not, beq_iff_eq, beq_eq_false_iff_ne, bne_iff_ne, bne_eq_false_iff_eq, ne_eq, Bool.and_eq_true, Bool.or_eq_true, Bool.or_eq_false_iff, Bool.not_eq_true', Bool.not_eq_false', Int.not_lt, Int.not_le, gt_iff_lt, ge_iff_le, Classical.not_not] at p3
        refine A.region (A.goP [.p, .ld 1] [(3, (p_ b1)), (4, e_), (9, (.slice al l.length cl)), (10, (i_ (l.length : Int))), (11, (i_ (k : Int))), (5, (.slice ao xs.length co)), (6, (b_ pt)), (12, (b_ (decide ((k : Int) < (l.length : Int))))), (34, (b_ (!pt))), (35, (.slice ao xs.length co)), (36, (.agg #[(u_ x.ka), (i_ x.ki), (u_ x.va), (i_ x.vi)]))] [b1] T0 (by kernel_rfl) trivial ?_)
        refine A.cons (A.buildSlice 37 (e := 49) [(u_ x.ka), (i_ x.ki), (u_ x.va), (i_ x.vi)] (by kernel_rfl) rfl (fun _ => by kernel_rfl) (fun b11 => [sl ao (xs.length) co 49 4 (V.flat encIt xs), blk b1 [(u_ x.ka), (i_ x.ki), (u_ x.va), (i_ x.vi)] 49, blk b11 [(u_ x.ka), (i_ x.ki), (u_ x.va), (i_ x.vi)] 49]) (fun _ => rfl) ?_)
        intro b11
        refine A.cons (A.appendC (enc := encIt) (xs := xs) [x] 0 38 (e := 49) (z := (.agg #[(u_ 0), (i_ 0), (u_ 0), (i_ 0)])) (sz := 4) (by_ := 32) (by kernel_rfl) rfl rfl rfl (by kernel_rfl) (by kernel_rfl) (by rfl) (by decide) encIt_len encIt_one rfl (rd_blk (i := 2) rfl) (by simp; omega) (fun A12 c12 => [sl A12 ((xs ++ ([x])).length) c12 49 4 (V.flat encIt (xs ++ ([x]))), blk b1 [(u_ x.ka), (i_ x.ki), (u_ x.va), (i_ x.vi)] 49, blk b11 [(u_ x.ka), (i_ x.ki), (u_ x.va), (i_ x.vi)] 49]) (fun _ _ => rfl) ?_)
        intro A12 c12
        refine A.goA [.p] [(3, (p_ b1)), (4, e_), (9, (.slice al l.length cl)), (10, (i_ (l.length : Int))), (11, (i_ (k : Int))), (5, (.slice A12 ((xs ++ ([x])).length) c12)), (6, (b_ pt)), (12, (b_ (decide ((k : Int) < (l.length : Int))))), (34, (b_ (!pt)))] [] T0 (by kernel_rfl) trivial ?_
        refine A.tn ?_
        refine A.seq ?_
        refine A.region (A.goA [.p, .p] [(3, (p_ b1)), (4, (.slice A12 ((xs ++ ([x])).length) c12)), (9, (.slice al l.length cl)), (10, (i_ (l.length : Int))), (11, (i_ (k : Int))), (5, (.slice A12 ((xs ++ ([x])).length) c12)), (6, (b_ pt)), (12, (b_ (decide ((k : Int) < (l.length : Int))))), (34, (b_ (!pt)))] [] T0 (by kernel_rfl) trivial ?_)
        refine A.tn ?_
        refine A.ret ?_
        refine A.setH [sl A12 ((insL x l).length) c12 49 4 (V.flat encIt (insL x l)), blk b1 [(u_ x.ka), (i_ x.ki), (u_ x.va), (i_ x.vi)] 49, blk b11 [(u_ x.ka), (i_ x.ki), (u_ x.va), (i_ x.vi)] 49] (cc (slC (by rcases Decidable.em (pt = true) with hp_ | hp_ <;> first | (exfalso; simp_all; done) | (have h1' := h1 hp_; rw [List.drop_eq_nil_of_le (by omega), List.append_nil] at h1'; exact h1') | (have h2' := h2 (Bool.eq_false_iff.2 hp_); rw [h2'.2, h2'.1, List.drop_eq_nil_of_le (by omega)]; rfl) : xs ++ ([x]) = (insL x l))) rfl) ?_
        refine A.postK [0] [(.slice A12 ((xs ++ ([x])).length) c12)] (fun aa ww rr ss => ⟨rv_tmp rr rfl, trivial⟩) (A12, c12) ?_ ?_ (by kernel_rfl)
        · show ((.slice A12 ((xs ++ ([x])).length) c12) : Value) = (.slice A12 ((insL x l).length) c12)
          rcases Decidable.em (pt = true) with hp_ | hp_ <;> first | (exfalso; simp_all; done) | (have h1' := h1 hp_; rw [List.drop_eq_nil_of_le (by omega), List.append_nil] at h1'; rw [h1']; done) | (have h2' := h2 (Bool.eq_false_iff.2 hp_); rw [h2'.2, h2'.1, List.drop_eq_nil_of_le (by omega)]; rfl)
        · trivial
      · skip
        have p3 := e3; try simp only [decide_eq_true_eq, decide_eq_false_iff_not, beq_iff_eq, beq_eq_false_iff_ne, bne_iff_ne, bne_eq_false_iff_eq, ne_eq, Bool.and_eq_true, Bool.or_eq_true, Bool.or_eq_false_iff, Bool.not_eq_true', Bool.not_eq_false', Int.not_lt, Int.not_le, gt_iff_lt, ge_iff_le, Classical.not_not] at p3
        refine A.skip ?_
        refine A.tn ?_
        refine A.seq ?_
        refine A.region (A.goA [.p, .p] [(3, (p_ b1)), (4, (.slice ao xs.length co)), (9, (.slice al l.length cl)), (10, (i_ (l.length : Int))), (11, (i_ (k : Int))), (5, (.slice ao xs.length co)), (6, (b_ pt)), (12, (b_ (decide ((k : Int) < (l.length : Int))))), (34, (b_ (!pt)))] [] T0 (by kernel_rfl) trivial ?_)
        refine A.tn ?_
        refine A.ret ?_
        refine A.setH [sl ao ((insL x l).length) co 49 4 (V.flat encIt (insL x l)), blk b1 [(u_ x.ka), (i_ x.ki), (u_ x.va), (i_ x.vi)] 49] (cc (slC (by rcases Decidable.em (pt = true) with hp_ | hp_ <;> first | (exfalso; simp_all; done) | (have h1' := h1 hp_; rw [List.drop_eq_nil_of_le (by omega), List.append_nil] at h1'; exact h1') | (have h2' := h2 (Bool.eq_false_iff.2 hp_); rw [h2'.2, h2'.1, List.drop_eq_nil_of_le (by omega)]; rfl) : xs = (insL x l))) rfl) ?_
        refine A.postK [0] [(.slice ao xs.length co)] (fun aa ww rr ss => ⟨rv_tmp rr rfl, trivial⟩) (ao, co) ?_ ?_ (by kernel_rfl)
        · show ((.slice ao xs.length co) : Value) = (.slice ao ((insL x l).length) co)
          rcases Decidable.em (pt = true) with hp_ | hp_ <;> first | (exfalso; simp_all; done) | (have h1' := h1 hp_; rw [List.drop_eq_nil_of_le (by omega), List.append_nil] at h1'; rw [h1']; done) | (have h2' := h2 (Bool.eq_false_iff.2 hp_); rw [h2'.2, h2'.1, List.drop_eq_nil_of_le (by omega)]; rfl)
        · trivial

set_option maxHeartbeats 8000000 in
set_option maxRecDepth 100000 in
theorem rfirst_spec (al : Option Addr) (l : List It) (cl : Nat) (n : Int) (hl : l.length ≤ 1000000) (w : World) (r0 : arrAt w al (V.flat encIt l)) :
    Calls Try.prog 57 #[(.slice al l.length cl), (u_ n)] w fun e w' => e = .returned (.agg #[(u_ (((firstL n l).getD default).ka)), (i_ (((firstL n l).getD default).ki)), (u_ (((firstL n l).getD default).va)), (i_ (((firstL n l).getD default).vi)), (b_ ((firstL n l).isSome))]) ∧ Fr [] w w' := by
  refine calls_of (args := [(.slice al l.length cl), (u_ n)]) (penv [(.slice al l.length cl), (u_ n)]) [] [] Try.func57 rfl rfl (look_penv _) (HS.nil w) ?_
  refine A.norm [(0, (.slice al l.length cl)), (1, (u_ n))] [] (by exact ⟨rfl, rfl, trivial⟩) rfl ?_
  refine A.seq ?_
  refine A.region (A.goA1 [.al] [0, 1, 4] (fun b1 => [(0, (.slice al l.length cl)), (1, (u_ n)), (4, (p_ b1))]) (fun b1 => [blk b1 [(u_ 0), (i_ 0), (u_ 0), (i_ 0), (b_ false)] 104]) (fun b1 => []) (fun _ => T0) (fun _ => by kernel_rfl) (fun b1 => trivial) ?_)
  intro b1
  refine A.tn ?_
  refine A.seq ?_
  refine A.seq ?_
  refine A.region (A.goA [.p, .p, .p] [(0, (.slice al l.length cl)), (1, (u_ n)), (4, (p_ b1)), (7, (.slice al l.length cl)), (8, (i_ (l.length : Int))), (9, (i_ 0))] [] T0 (by kernel_rfl) trivial ?_)
  refine A.tn ?_
  refine A.block ?_
  refine A.loop (fun (zz : Nat) => match zz with | k => [(1, (u_ n)), (4, (p_ b1)), (7, (.slice al l.length cl)), (8, (i_ (l.length : Int))), (9, (i_ (k : Int)))]) (fun (zz : Nat) => match zz with | k => [blk b1 [(u_ 0), (i_ 0), (u_ 0), (i_ 0), (b_ false)] 104]) (fun (zz : Nat) => match zz with | k => (k ≤ l.length) ∧ (firstL n l = firstL n (l.drop k))) (fun (zz : Nat) => match zz with | k => l.length - k) (0 : Nat) ⟨(by first | assumption | omega | (simp_all; done) | (simp_all; omega) | grind), (by rfl)⟩ ?_ ?_
  · exact A.hereK [0] (by exact ⟨rfl, rfl, rfl, rfl, rfl, trivial⟩) (by kernel_rfl)
  · rintro k ⟨hk, hf⟩
    refine A.norm [(1, (u_ n)), (4, (p_ b1)), (7, (.slice al l.length cl)), (8, (i_ (l.length : Int))), (9, (i_ (k : Int)))] [blk b1 [(u_ 0), (i_ 0), (u_ 0), (i_ 0), (b_ false)] 104] (by exact ⟨rfl, rfl, rfl, rfl, rfl, trivial⟩) rfl ?_
    refine A.seq ?_
    refine A.region (A.goA [.p] [(1, (u_ n)), (4, (p_ b1)), (7, (.slice al l.length cl)), (8, (i_ (l.length : Int))), (9, (i_ (k : Int))), (10, (b_ (decide ((k : Int) < (l.length : Int)))))] [] T0 (by kernel_rfl) trivial ?_)
    refine A.tn ?_
    refine A.seq ?_
    refine A.cond (E := decide ((k : Int) < (l.length : Int))) rfl (fun e1 => ?_) (fun e1 => ?_)
    · skip
      have p1 := of_decide_eq_true e1
      refine A.skip ?_
      refine A.tn ?_
      refine A.seq ?_
      refine A.block ?_
      refine A.seq ?_
      refine A.region (A.goP [.ix] [(1, (u_ n)), (4, (p_ b1)), (7, (.slice al l.length cl)), (8, (i_ (l.length : Int))), (9, (i_ (k : Int))), (10, (b_ (decide ((k : Int) < (l.length : Int))))), (11, (.pointer (some ((at0 al).add (k * 4)))))] [] (fun κ => κ.ix al l.length (k : Int) ∧ True) (by kernel_rfl) ⟨(ixOf encIt_len (by decide) (rd_old r0 (by simp [feet])) (by first | omega | (simp; done))), trivial⟩ ?_)
      obtain ⟨x2, hx2⟩ : ∃ x, (l)[k]? = some x := ⟨_, List.getElem?_eq_getElem (by omega)⟩
      refine A.goA1 [.rd [(u_ x2.ka), (i_ x2.ki), (u_ x2.va), (i_ x2.vi)], .al, .st 1] [1, 4, 7, 8, 9, 10, 6] (fun b3 => [(1, (u_ n)), (4, (p_ b1)), (7, (.slice al l.length cl)), (8, (i_ (l.length : Int))), (9, (i_ (k : Int))), (10, (b_ (decide ((k : Int) < (l.length : Int))))), (6, (p_ b3))]) (fun b3 => [blk b1 [(u_ 0), (i_ 0), (u_ 0), (i_ 0), (b_ false)] 104, blk b3 [(u_ x2.ka), (i_ x2.ki), (u_ x2.va), (i_ x2.vi)] 49]) (fun b3 => [b3]) (fun _ => (fun κ => κ.rd ((at0 al).add (k * 4)) [(u_ x2.ka), (i_ x2.ki), (u_ x2.va), (i_ x2.vi)] ∧ True)) (fun _ => by kernel_rfl) (fun b3 => ⟨(reads_at0 (vs := [(u_ x2.ka), (i_ x2.ki), (u_ x2.va), (i_ x2.vi)]) encIt_len (rd_old r0 (by simp [feet])) hx2 (by simp) rfl), trivial⟩) ?_
      intro b3
      refine A.tn ?_
      refine A.seq ?_
      refine A.region (A.goA [.p, .p, .ld 1, .p, .p] [(1, (u_ n)), (4, (p_ b1)), (7, (.slice al l.length cl)), (8, (i_ (l.length : Int))), (9, (i_ (k : Int))), (10, (b_ (decide ((k : Int) < (l.length : Int))))), (6, (p_ b3)), (17, (b_ (decide (x2.va ≤ n))))] [b3] T0 (by kernel_rfl) trivial ?_)
      refine A.tn ?_
      refine A.cond (E := decide (x2.va ≤ n)) rfl (fun e2 => ?_) (fun e2 => ?_)
      · skip
        have p2 := of_decide_eq_true e2
        refine A.seq ?_
        refine A.region (A.goAS [.ld 1, .p, .st 0] [(1, (u_ n)), (4, (p_ b1)), (7, (.slice al l.length cl)), (8, (i_ (l.length : Int))), (9, (i_ (k : Int))), (10, (b_ (decide ((k : Int) < (l.length : Int))))), (6, (p_ b3)), (17, (b_ (decide (x2.va ≤ n))))] [blk b1 [(u_ x2.ka), (i_ x2.ki), (u_ x2.va), (i_ x2.vi), (b_ true)] 104, blk b3 [(u_ x2.ka), (i_ x2.ki), (u_ x2.va), (i_ x2.vi)] 49] [b3, b1] T0 (by kernel_rfl) trivial ?_)
        refine A.tn ?_
        refine A.ret ?_
        refine A.br ?_
        refine A.tr ?_
        refine A.tr ?_
        refine A.br ?_
        refine A.tr ?_
        refine A.postQ [(.agg #[(u_ x2.ka), (i_ x2.ki), (u_ x2.va), (i_ x2.vi), (b_ true)])] (fun aa ww rr ss => ⟨rv_cellN (vs := [(u_ x2.ka), (i_ x2.ki), (u_ x2.va), (i_ x2.vi), (b_ true)]) rr ss rfl (by kernel_rfl) (reads_blk (i := 0) rfl rfl), trivial⟩) ?_
        show ((.agg #[(u_ x2.ka), (i_ x2.ki), (u_ x2.va), (i_ x2.vi), (b_ true)]) : Value) = (.agg #[(u_ (((firstL n l).getD default).ka)), (i_ (((firstL n l).getD default).ki)), (u_ (((firstL n l).getD default).va)), (i_ (((firstL n l).getD default).vi)), (b_ ((firstL n l).isSome))])
        rw [hf]; first | (rw [drop_cons (by assumption)]; unfold firstL; rw [List.find?_cons_of_pos (by simp_all)]; rfl) | (rw [List.drop_eq_nil_of_le (by omega)]; rfl)
      · skip
        have p2 := of_decide_eq_false e2
        refine A.skip ?_
        refine A.bn ?_
        refine A.tn ?_
        refine A.region (A.goA [.w ((k : Int) + 1), .p] [(1, (u_ n)), (4, (p_ b1)), (7, (.slice al l.length cl)), (8, (i_ (l.length : Int))), (9, (i_ ((k : Int) + 1))), (10, (b_ (decide ((k : Int) < (l.length : Int))))), (6, (p_ b3)), (17, (b_ (decide (x2.va ≤ n))))] [] (fun κ => (IntKind.i64.wrap ((k : Int) + 1) = ((k : Int) + 1)) ∧ True) (by kernel_rfl) ⟨(wrap_i64 (e := (k : Int) + 1) (by constructor <;> omega)), trivial⟩ ?_)
        refine A.tn ?_
        refine A.next (k + 1) ⟨(by first | assumption | omega | (simp_all; done) | (simp_all; omega) | grind), (by rw [hf, drop_cons (by assumption)]; unfold firstL; rw [List.find?_cons_of_neg (by simp_all)])⟩ (by first | omega | (simp; omega) | (simp_all; omega)) ?_
        exact A.hereK [0] (by exact ⟨rfl, rfl, rfl, rfl, rfl, trivial⟩) (by kernel_rfl)
    · skip
      have p1 := of_decide_eq_false e1
      refine A.exit ?_
      refine A.te ?_
      refine A.te ?_
      refine A.bh ?_
      refine A.tn ?_
      refine A.seq ?_
      refine A.region (A.goAS [.p, .st 0] [(1, (u_ n)), (4, (p_ b1)), (7, (.slice al l.length cl)), (8, (i_ (l.length : Int))), (9, (i_ (k : Int))), (10, (b_ (decide ((k : Int) < (l.length : Int)))))] [blk b1 [(u_ 0), (i_ 0), (u_ 0), (i_ 0), (b_ false)] 104] [b1] T0 (by kernel_rfl) trivial ?_)
      refine A.tn ?_
      refine A.ret ?_
      refine A.postQ [(.agg #[(u_ 0), (i_ 0), (u_ 0), (i_ 0), (b_ false)])] (fun aa ww rr ss => ⟨rv_cellN (vs := [(u_ 0), (i_ 0), (u_ 0), (i_ 0), (b_ false)]) rr ss rfl (by kernel_rfl) (reads_blk (i := 0) rfl rfl), trivial⟩) ?_
      show ((.agg #[(u_ 0), (i_ 0), (u_ 0), (i_ 0), (b_ false)]) : Value) = (.agg #[(u_ (((firstL n l).getD default).ka)), (i_ (((firstL n l).getD default).ki)), (u_ (((firstL n l).getD default).va)), (i_ (((firstL n l).getD default).vi)), (b_ ((firstL n l).isSome))])
      rw [hf]; first | (rw [drop_cons (by assumption)]; unfold firstL; rw [List.find?_cons_of_pos (by simp_all)]; rfl) | (rw [List.drop_eq_nil_of_le (by omega)]; rfl)

set_option maxHeartbeats 8000000 in
set_option maxRecDepth 100000 in
theorem rbelow_spec (al : Option Addr) (l : List It) (cl : Nat) (n : Int) (hl : l.length ≤ 1000000) (hS : Srt l) (w : World) (r0 : arrAt w al (V.flat encIt l)) :
    Calls Try.prog 56 #[(.slice al l.length cl), (u_ n)] w fun e w' => e = .returned (.agg #[(u_ (((belowL n l).getD default).ka)), (i_ (((belowL n l).getD default).ki)), (u_ (((belowL n l).getD default).va)), (i_ (((belowL n l).getD default).vi)), (b_ ((belowL n l).isSome))]) ∧ Fr [] w w' := by
  refine calls_of (args := [(.slice al l.length cl), (u_ n)]) (penv [(.slice al l.length cl), (u_ n)]) [] [] Try.func56 rfl rfl (look_penv _) (HS.nil w) ?_
  refine A.norm [(0, (.slice al l.length cl)), (1, (u_ n))] [] (by exact ⟨rfl, rfl, trivial⟩) rfl ?_
  refine A.seq ?_
  refine A.region (A.goA1 [.al] [0, 1, 4] (fun b1 => [(0, (.slice al l.length cl)), (1, (u_ n)), (4, (p_ b1))]) (fun b1 => [blk b1 [(u_ 0), (i_ 0), (u_ 0), (i_ 0), (b_ false)] 104]) (fun b1 => []) (fun _ => T0) (fun _ => by kernel_rfl) (fun b1 => trivial) ?_)
  intro b1
  refine A.tn ?_
  refine A.seq ?_
  refine A.region (A.goA1 [.p, .al, .st 1] [0, 1, 4, 5] (fun b2 => [(0, (.slice al l.length cl)), (1, (u_ n)), (4, (p_ b1)), (5, (p_ b2))]) (fun b2 => [blk b1 [(u_ 0), (i_ 0), (u_ 0), (i_ 0), (b_ false)] 104, blk b2 [(u_ 0), (i_ 0), (u_ 0), (i_ 0), (b_ false)] 104]) (fun b2 => [b2]) (fun _ => T0) (fun _ => by kernel_rfl) (fun b2 => trivial) ?_)
  intro b2
  refine A.tn ?_
  refine A.seq ?_
  refine A.seq ?_
  refine A.region (A.goA [.p, .p, .p] [(0, (.slice al l.length cl)), (1, (u_ n)), (4, (p_ b1)), (5, (p_ b2)), (9, (.slice al l.length cl)), (10, (i_ (l.length : Int))), (11, (i_ 0))] [] T0 (by kernel_rfl) trivial ?_)
  refine A.tn ?_
  refine A.block ?_
  refine A.setH [blk b1 [(u_ 0), (i_ 0), (u_ 0), (i_ 0), (b_ false)] 104, blk b2 [(u_ ((default : It).ka)), (i_ ((default : It).ki)), (u_ ((default : It).va)), (i_ ((default : It).vi)), (b_ false)] 104] (cc rfl (cc (blkC (cc (congrArg u_ (by first | rfl | omega | (simp; done) | grind : 0 = (default : It).ka)) (cc (congrArg i_ (by first | rfl | omega | (simp; done) | grind : 0 = (default : It).ki)) (cc (congrArg u_ (by first | rfl | omega | (simp; done) | grind : 0 = (default : It).va)) (cc (congrArg i_ (by first | rfl | omega | (simp; done) | grind : 0 = (default : It).vi)) rfl))))) rfl)) ?_
  refine A.loop (fun (zz : Nat × Bool × It) => match zz with | (k, mt, ov) => [(1, (u_ n)), (4, (p_ b1)), (5, (p_ b2)), (9, (.slice al l.length cl)), (10, (i_ (l.length : Int))), (11, (i_ (k : Int)))]) (fun (zz : Nat × Bool × It) => match zz with | (k, mt, ov) => [blk b2 [(u_ ov.ka), (i_ ov.ki), (u_ ov.va), (i_ ov.vi), (b_ mt)] 104, blk b1 [(u_ 0), (i_ 0), (u_ 0), (i_ 0), (b_ false)] 104]) (fun (zz : Nat × Bool × It) => match zz with | (k, mt, ov) => (k ≤ l.length) ∧ (ob mt ov = belowL n (l.take k)) ∧ (mt = false → ov = default)) (fun (zz : Nat × Bool × It) => match zz with | (k, mt, ov) => l.length - k) (0, false, (default : It)) ⟨(by first | assumption | omega | (simp_all; done) | (simp_all; omega) | grind), (by rfl), (by exact fun _ => rfl)⟩ ?_ ?_
  · exact A.hereK [1, 0] (by exact ⟨rfl, rfl, rfl, rfl, rfl, rfl, trivial⟩) (by kernel_rfl)
  · rintro ⟨k, mt, ov⟩ ⟨hk, hf, hm⟩
    refine A.norm [(1, (u_ n)), (4, (p_ b1)), (5, (p_ b2)), (9, (.slice al l.length cl)), (10, (i_ (l.length : Int))), (11, (i_ (k : Int)))] [blk b2 [(u_ ov.ka), (i_ ov.ki), (u_ ov.va), (i_ ov.vi), (b_ mt)] 104, blk b1 [(u_ 0), (i_ 0), (u_ 0), (i_ 0), (b_ false)] 104] (by exact ⟨rfl, rfl, rfl, rfl, rfl, rfl, trivial⟩) rfl ?_
    refine A.seq ?_
    refine A.region (A.goA [.p] [(1, (u_ n)), (4, (p_ b1)), (5, (p_ b2)), (9, (.slice al l.length cl)), (10, (i_ (l.length : Int))), (11, (i_ (k : Int))), (12, (b_ (decide ((k : Int) < (l.length : Int)))))] [] T0 (by kernel_rfl) trivial ?_)
    refine A.tn ?_
    refine A.seq ?_
    refine A.cond (E := decide ((k : Int) < (l.length : Int))) rfl (fun e1 => ?_) (fun e1 => ?_)
    · skip
      have p1 := of_decide_eq_true e1
      refine A.skip ?_
      refine A.tn ?_
      refine A.seq ?_
      refine A.block ?_
      refine A.seq ?_
      refine A.region (A.goP [.ix] [(1, (u_ n)), (4, (p_ b1)), (5, (p_ b2)), (9, (.slice al l.length cl)), (10, (i_ (l.length : Int))), (11, (i_ (k : Int))), (12, (b_ (decide ((k : Int) < (l.length : Int))))), (13, (.pointer (some ((at0 al).add (k * 4)))))] [] (fun κ => κ.ix al l.length (k : Int) ∧ True) (by kernel_rfl) ⟨(ixOf encIt_len (by decide) (rd_old r0 (by simp [feet])) (by first | omega | (simp; done))), trivial⟩ ?_)
      obtain ⟨x3, hx3⟩ : ∃ x, (l)[k]? = some x := ⟨_, List.getElem?_eq_getElem (by omega)⟩
      refine A.goA1 [.rd [(u_ x3.ka), (i_ x3.ki), (u_ x3.va), (i_ x3.vi)], .al, .st 2] [1, 4, 5, 9, 10, 11, 12, 7] (fun b4 => [(1, (u_ n)), (4, (p_ b1)), (5, (p_ b2)), (9, (.slice al l.length cl)), (10, (i_ (l.length : Int))), (11, (i_ (k : Int))), (12, (b_ (decide ((k : Int) < (l.length : Int))))), (7, (p_ b4))]) (fun b4 => [blk b2 [(u_ ov.ka), (i_ ov.ki), (u_ ov.va), (i_ ov.vi), (b_ mt)] 104, blk b1 [(u_ 0), (i_ 0), (u_ 0), (i_ 0), (b_ false)] 104, blk b4 [(u_ x3.ka), (i_ x3.ki), (u_ x3.va), (i_ x3.vi)] 49]) (fun b4 => [b4]) (fun _ => (fun κ => κ.rd ((at0 al).add (k * 4)) [(u_ x3.ka), (i_ x3.ki), (u_ x3.va), (i_ x3.vi)] ∧ True)) (fun _ => by kernel_rfl) (fun b4 => ⟨(reads_at0 (vs := [(u_ x3.ka), (i_ x3.ki), (u_ x3.va), (i_ x3.vi)]) encIt_len (rd_old r0 (by simp [feet])) hx3 (by simp) rfl), trivial⟩) ?_
      intro b4
      refine A.tn ?_
      refine A.seq ?_
      refine A.region (A.goA [.p, .p, .ld 2, .p, .p, .p, .o, .p, .ld 0, .p, .p, .o, .p, .ld 2, .p, .p, .ld 0, .cq (b_ (decide (lessK x3.va x3.vi ov.va ov.vi))), .cl, .cl] [(1, (u_ n)), (4, (p_ b1)), (5, (p_ b2)), (9, (.slice al l.length cl)), (10, (i_ (l.length : Int))), (11, (i_ (k : Int))), (12, (b_ (decide ((k : Int) < (l.length : Int))))), (7, (p_ b4)), (32, (b_ ((decide (x3.ka ≤ n)) && ((!mt) || (decide (lessK x3.va x3.vi ov.va ov.vi))))))] [b4, b2, b4, b2] (fun κ => (((true && ((decide (x3.ka ≤ n)) == true)) && ((!mt) == false)) = true → κ.call 53 [(.agg #[(u_ x3.va), (i_ x3.vi)]), (.agg #[(u_ ov.va), (i_ ov.vi)])] (b_ (decide (lessK x3.va x3.vi ov.va ov.vi)))) ∧ True) (by kernel_rfl) ⟨(fun h_ => (fun ww ss => less_spec x3.va x3.vi ov.va ov.vi ww)), trivial⟩ ?_)
      refine A.tn ?_
      refine A.cond (E := (decide (x3.ka ≤ n)) && ((!mt) || (decide (lessK x3.va x3.vi ov.va ov.vi)))) rfl (fun e2 => ?_) (fun e2 => ?_)
      · skip
        have p2 := e2; try simp only [decide_eq_true_eq, decide_eq_false_iff_not, beq_iff_eq, beq_eq_false_iff_ne, bne_iff_ne, bne_eq_false_iff_eq, ne_eq, Bool.and_eq_true, Bool.or_eq_true, Bool.or_eq_false_iff, Bool.not_eq_true', Bool.not_eq_false', Int.not_lt, Int.not_le, gt_iff_lt, ge_iff_le, Classical.not_not] at p2
        refine A.region (A.goAS [.ld 2, .p, .st 0] [(1, (u_ n)), (4, (p_ b1)), (5, (p_ b2)), (9, (.slice al l.length cl)), (10, (i_ (l.length : Int))), (11, (i_ (k : Int))), (12, (b_ (decide ((k : Int) < (l.length : Int))))), (7, (p_ b4)), (32, (b_ ((decide (x3.ka ≤ n)) && ((!mt) || (decide (lessK x3.va x3.vi ov.va ov.vi))))))] [blk b2 [(u_ x3.ka), (i_ x3.ki), (u_ x3.va), (i_ x3.vi), (b_ true)] 104, blk b1 [(u_ 0), (i_ 0), (u_ 0), (i_ 0), (b_ false)] 104, blk b4 [(u_ x3.ka), (i_ x3.ki), (u_ x3.va), (i_ x3.vi)] 49] [b4, b2] T0 (by kernel_rfl) trivial ?_)
        refine A.bn ?_
        refine A.tn ?_
        refine A.region (A.goA [.w ((k : Int) + 1), .p] [(1, (u_ n)), (4, (p_ b1)), (5, (p_ b2)), (9, (.slice al l.length cl)), (10, (i_ (l.length : Int))), (11, (i_ ((k : Int) + 1))), (12, (b_ (decide ((k : Int) < (l.length : Int))))), (7, (p_ b4)), (32, (b_ ((decide (x3.ka ≤ n)) && ((!mt) || (decide (lessK x3.va x3.vi ov.va ov.vi))))))] [] (fun κ => (IntKind.i64.wrap ((k : Int) + 1) = ((k : Int) + 1)) ∧ True) (by kernel_rfl) ⟨(wrap_i64 (e := (k : Int) + 1) (by constructor <;> omega)), trivial⟩ ?_)
        refine A.tn ?_
        refine A.next (k + 1, true, x3) ⟨(by first | assumption | omega | (simp_all; done) | (simp_all; omega) | grind), (by rw [take_snoc (by assumption), below_ref (by rw [← take_snoc (by assumption)]; exact List.Pairwise.sublist (List.take_sublist _ _) hS) hf]; first | (rw [if_pos (by simp_all)]; rfl) | (rw [if_neg (by simp_all)])), (by first | exact hm | (intro h_; cases h_))⟩ (by first | omega | (simp; omega) | (simp_all; omega)) ?_
        exact A.hereK [0, 0] (by exact ⟨rfl, rfl, rfl, rfl, rfl, rfl, trivial⟩) (by kernel_rfl)
      · skip
        have p2 := e2; try simp only [decide_eq_true_eq, decide_eq_false_iff_not, beq_iff_eq, beq_eq_false_iff_ne, bne_iff_ne, bne_eq_false_iff_eq, ne_eq, Bool.and_eq_true, Bool.or_eq_true, Bool.or_eq_false_iff, Bool.not_eq_true', Bool.not_eq_false', Int.not_lt, Int.not_le, gt_iff_lt, ge_iff_le, Classical.not_not] at p2
        refine A.skip ?_
        refine A.bn ?_
        refine A.tn ?_
        refine A.region (A.goA [.w ((k : Int) + 1), .p] [(1, (u_ n)), (4, (p_ b1)), (5, (p_ b2)), (9, (.slice al l.length cl)), (10, (i_ (l.length : Int))), (11, (i_ ((k : Int) + 1))), (12, (b_ (decide ((k : Int) < (l.length : Int))))), (7, (p_ b4)), (32, (b_ ((decide (x3.ka ≤ n)) && ((!mt) || (decide (lessK x3.va x3.vi ov.va ov.vi))))))] [] (fun κ => (IntKind.i64.wrap ((k : Int) + 1) = ((k : Int) + 1)) ∧ True) (by kernel_rfl) ⟨(wrap_i64 (e := (k : Int) + 1) (by constructor <;> omega)), trivial⟩ ?_)
        refine A.tn ?_
        refine A.next (k + 1, mt, ov) ⟨(by first | assumption | omega | (simp_all; done) | (simp_all; omega) | grind), (by rw [take_snoc (by assumption), below_ref (by rw [← take_snoc (by assumption)]; exact List.Pairwise.sublist (List.take_sublist _ _) hS) hf]; first | (rw [if_pos (by simp_all)]; rfl) | (rw [if_neg (by simp_all)])), (by first | exact hm | (intro h_; cases h_))⟩ (by first | omega | (simp; omega) | (simp_all; omega)) ?_
        exact A.hereK [0, 0] (by exact ⟨rfl, rfl, rfl, rfl, rfl, rfl, trivial⟩) (by kernel_rfl)
    · skip
      have p1 := of_decide_eq_false e1
      refine A.exit ?_
      refine A.te ?_
      refine A.te ?_
      refine A.bh ?_
      refine A.tn ?_
      refine A.seq ?_
      refine A.region (A.goAS [.ld 0, .st 1] [(1, (u_ n)), (4, (p_ b1)), (5, (p_ b2)), (9, (.slice al l.length cl)), (10, (i_ (l.length : Int))), (11, (i_ (k : Int))), (12, (b_ (decide ((k : Int) < (l.length : Int)))))] [blk b2 [(u_ ov.ka), (i_ ov.ki), (u_ ov.va), (i_ ov.vi), (b_ mt)] 104, blk b1 [(u_ ov.ka), (i_ ov.ki), (u_ ov.va), (i_ ov.vi), (b_ mt)] 104] [b2, b1] T0 (by kernel_rfl) trivial ?_)
      refine A.tn ?_
      refine A.ret ?_
      refine A.postQ [(.agg #[(u_ ov.ka), (i_ ov.ki), (u_ ov.va), (i_ ov.vi), (b_ mt)])] (fun aa ww rr ss => ⟨rv_cellN (vs := [(u_ ov.ka), (i_ ov.ki), (u_ ov.va), (i_ ov.vi), (b_ mt)]) rr ss rfl (by kernel_rfl) (reads_blk (i := 1) rfl rfl), trivial⟩) ?_
      show ((.agg #[(u_ ov.ka), (i_ ov.ki), (u_ ov.va), (i_ ov.vi), (b_ mt)]) : Value) = (.agg #[(u_ (((belowL n l).getD default).ka)), (i_ (((belowL n l).getD default).ki)), (u_ (((belowL n l).getD default).va)), (i_ (((belowL n l).getD default).vi)), (b_ ((belowL n l).isSome))])
      rw [List.take_of_length_le (by omega)] at hf; rw [← hf]; cases mt with | true => rfl | false => rw [hm rfl]; rfl

set_option maxHeartbeats 8000000 in
set_option maxRecDepth 100000 in
theorem needs_spec (h : Nat) (hh_ : h ≤ 40) (w : World) :
    Calls Try.prog 55 #[(i_ (h : Int))] w fun e w' => e = .returned (i_ (nd h : Int)) ∧ Fr [] w w' := by
  refine calls_of (args := [(i_ (h : Int))]) (penv [(i_ (h : Int))]) [] [] Try.func55 rfl rfl (look_penv _) (HS.nil w) ?_
  refine A.norm [(0, (i_ (h : Int)))] [] (by exact ⟨rfl, trivial⟩) rfl ?_
  refine A.seq ?_
  refine A.region (A.goA [.p] [(0, (i_ (h : Int))), (2, (i_ 0))] [] T0 (by kernel_rfl) trivial ?_)
  refine A.tn ?_
  refine A.seq ?_
  refine A.region (A.goA [.p] [(0, (i_ (h : Int))), (2, (i_ 0)), (3, (i_ 0))] [] T0 (by kernel_rfl) trivial ?_)
  refine A.tn ?_
  refine A.seq ?_
  refine A.region (A.goA [.p] [(0, (i_ (h : Int))), (2, (i_ 0)), (3, (i_ 0)), (4, (i_ 1))] [] T0 (by kernel_rfl) trivial ?_)
  refine A.tn ?_
  refine A.seq ?_
  refine A.seq ?_
  refine A.region (A.goA [.p, .p] [(0, (i_ (h : Int))), (2, (i_ 0)), (3, (i_ 0)), (4, (i_ 1)), (6, (i_ (h : Int))), (7, (i_ 0))] [] T0 (by kernel_rfl) trivial ?_)
  refine A.tn ?_
  refine A.block ?_
  refine A.sub [(0, (i_ (h : Int))), (2, (i_ 0)), (3, (i_ (nd 0 : Int))), (4, (i_ 1)), (6, (i_ (h : Int))), (7, (i_ 0))] (by exact ⟨rfl, rfl, (congrArg (fun z_ => some (i_ z_)) (by first | rfl | (simp only [nd]; push_cast; omega) : 0 = (nd 0 : Int))), rfl, rfl, rfl, trivial⟩) ?_
  refine A.sub [(0, (i_ (h : Int))), (2, (i_ 0)), (3, (i_ (nd 0 : Int))), (4, (i_ (nd (0 + 1) : Int))), (6, (i_ (h : Int))), (7, (i_ 0))] (by exact ⟨rfl, rfl, rfl, (congrArg (fun z_ => some (i_ z_)) (by first | rfl | (simp only [nd]; push_cast; omega) : 1 = (nd (0 + 1) : Int))), rfl, rfl, trivial⟩) ?_
  refine A.loop (fun (zz : Nat) => match zz with | k => [(2, (i_ 0)), (6, (i_ (h : Int))), (7, (i_ (k : Int))), (3, (i_ (nd k : Int))), (4, (i_ (nd (k + 1) : Int)))]) (fun (zz : Nat) => match zz with | k => []) (fun (zz : Nat) => match zz with | k => (k ≤ h)) (fun (zz : Nat) => match zz with | k => h - k) (0 : Nat) (by first | assumption | omega | (simp_all; done) | (simp_all; omega) | grind) ?_ ?_
  · exact A.hereK [] (by exact ⟨rfl, rfl, rfl, rfl, rfl, trivial⟩) (by kernel_rfl)
  · rintro k hk
    have hk : k ≤ h := hk
    have h1_ := nd_lt k; have h2_ := nd_lt (k + 1); have h3_ := Nat.pow_le_pow_right (n := 2) (by decide) (show k + 1 ≤ 41 by omega); have h4_ := Nat.pow_le_pow_right (n := 2) (by decide) (show k ≤ 41 by omega)
    refine A.norm [(2, (i_ 0)), (6, (i_ (h : Int))), (7, (i_ (k : Int))), (3, (i_ (nd k : Int))), (4, (i_ (nd (k + 1) : Int)))] [] (by exact ⟨rfl, rfl, rfl, rfl, rfl, trivial⟩) rfl ?_
    refine A.seq ?_
    refine A.region (A.goA [.p] [(2, (i_ 0)), (6, (i_ (h : Int))), (7, (i_ (k : Int))), (3, (i_ (nd k : Int))), (4, (i_ (nd (k + 1) : Int))), (8, (b_ (decide ((k : Int) < (h : Int)))))] [] T0 (by kernel_rfl) trivial ?_)
    refine A.tn ?_
    refine A.seq ?_
    refine A.cond (E := decide ((k : Int) < (h : Int))) rfl (fun e1 => ?_) (fun e1 => ?_)
    · skip
      have p1 := of_decide_eq_true e1
      refine A.skip ?_
      refine A.tn ?_
      refine A.seq ?_
      refine A.block ?_
      refine A.seq ?_
      refine A.region (A.goA [.p, .p, .w ((nd k : Int) + (nd (k + 1) : Int)), .w (((nd k : Int) + (nd (k + 1) : Int)) + 1), .p] [(2, (i_ 0)), (6, (i_ (h : Int))), (7, (i_ (k : Int))), (3, (i_ (nd k : Int))), (4, (i_ (nd (k + 1) : Int))), (8, (b_ (decide ((k : Int) < (h : Int))))), (5, (i_ (((nd k : Int) + (nd (k + 1) : Int)) + 1)))] [] (fun κ => (IntKind.i64.wrap ((nd k : Int) + (nd (k + 1) : Int)) = ((nd k : Int) + (nd (k + 1) : Int))) ∧ (IntKind.i64.wrap (((nd k : Int) + (nd (k + 1) : Int)) + 1) = (((nd k : Int) + (nd (k + 1) : Int)) + 1)) ∧ True) (by kernel_rfl) ⟨(wrap_i64 (e := (nd k : Int) + (nd (k + 1) : Int)) (by constructor <;> omega)), (wrap_i64 (e := ((nd k : Int) + (nd (k + 1) : Int)) + 1) (by constructor <;> omega)), trivial⟩ ?_)
      refine A.tn ?_
      refine A.seq ?_
      refine A.region (A.goA [.p, .p] [(2, (i_ 0)), (6, (i_ (h : Int))), (7, (i_ (k : Int))), (3, (i_ (nd (k + 1) : Int))), (4, (i_ (nd (k + 1) : Int))), (8, (b_ (decide ((k : Int) < (h : Int))))), (5, (i_ (((nd k : Int) + (nd (k + 1) : Int)) + 1)))] [] T0 (by kernel_rfl) trivial ?_)
      refine A.tn ?_
      refine A.region (A.goA [.p, .p] [(2, (i_ 0)), (6, (i_ (h : Int))), (7, (i_ (k : Int))), (3, (i_ (nd (k + 1) : Int))), (4, (i_ (((nd k : Int) + (nd (k + 1) : Int)) + 1))), (8, (b_ (decide ((k : Int) < (h : Int))))), (5, (i_ (((nd k : Int) + (nd (k + 1) : Int)) + 1)))] [] T0 (by kernel_rfl) trivial ?_)
      refine A.bn ?_
      refine A.tn ?_
      refine A.region (A.goA [.w ((k : Int) + 1), .p] [(2, (i_ 0)), (6, (i_ (h : Int))), (7, (i_ ((k : Int) + 1))), (3, (i_ (nd (k + 1) : Int))), (4, (i_ (((nd k : Int) + (nd (k + 1) : Int)) + 1))), (8, (b_ (decide ((k : Int) < (h : Int))))), (5, (i_ (((nd k : Int) + (nd (k + 1) : Int)) + 1)))] [] (fun κ => (IntKind.i64.wrap ((k : Int) + 1) = ((k : Int) + 1)) ∧ True) (by kernel_rfl) ⟨(wrap_i64 (e := (k : Int) + 1) (by constructor <;> omega)), trivial⟩ ?_)
      refine A.tn ?_
      refine A.sub [(2, (i_ 0)), (6, (i_ (h : Int))), (7, (i_ ((k : Int) + 1))), (3, (i_ (nd (k + 1) : Int))), (4, (i_ (nd ((k + 1) + 1) : Int))), (8, (b_ (decide ((k : Int) < (h : Int))))), (5, (i_ (((nd k : Int) + (nd (k + 1) : Int)) + 1)))] (by exact ⟨rfl, rfl, rfl, rfl, (congrArg (fun z_ => some (i_ z_)) (by first | rfl | (simp only [nd]; push_cast; omega) : ((nd k : Int) + (nd (k + 1) : Int)) + 1 = (nd ((k + 1) + 1) : Int))), rfl, rfl, trivial⟩) ?_
      refine A.next (k + 1) (by first | assumption | omega | (simp_all; done) | (simp_all; omega) | grind) (by first | omega | (simp; omega) | (simp_all; omega)) ?_
      exact A.hereK [] (by exact ⟨rfl, rfl, rfl, rfl, rfl, trivial⟩) (by kernel_rfl)
    · skip
      have p1 := of_decide_eq_false e1
      refine A.exit ?_
      refine A.te ?_
      refine A.te ?_
      refine A.bh ?_
      refine A.tn ?_
      refine A.seq ?_
      refine A.region (A.goA [.p, .p] [(2, (i_ (nd k : Int))), (6, (i_ (h : Int))), (7, (i_ (k : Int))), (3, (i_ (nd k : Int))), (4, (i_ (nd (k + 1) : Int))), (8, (b_ (decide ((k : Int) < (h : Int)))))] [] T0 (by kernel_rfl) trivial ?_)
      refine A.tn ?_
      refine A.ret ?_
      refine A.postQ [(i_ (nd k : Int))] (fun aa ww rr ss => ⟨rv_tmp rr rfl, trivial⟩) ?_
      show ((i_ (nd k : Int)) : Value) = (i_ (nd h : Int))
      rw [show h = k by omega]

theorem needs_int (h : Int) (h0 : 0 ≤ h ∧ h ≤ 40) (w : World) : Calls Try.prog 55 #[(i_ h)] w fun e w' => e = .returned (i_ (nd h.toNat : Int)) ∧ Fr [] w w' := by
  have := needs_spec h.toNat (by omega) w
  rw [show ((h.toNat : Nat) : Int) = h by omega] at this; exact this
end Go.Proofs.Ytlkclhdhfamkdaa
