/- What the functions of this layer do, proved operation by operation, for all arguments, under the conditions that each theorem states. -/
import Derived.Test.YtlkclhdhfamkdaaProg
import Derived.Test.YtlkclhdhfamkdaaAvlA
namespace Go.Proofs.Ytlkclhdhfamkdaa
open Go V
set_option linter.unusedVariables false
set_option linter.unusedSimpArgs false
structure AAct where
  kd : Int
  ak : Int
  ai : Int
  av : Int
  aw : Int
  tk : Int
  deriving Inhabited, DecidableEq
def encAAct (x : AAct) : List Value := [(i_ x.kd), (u_ x.ak), (i_ x.ai), (u_ x.av), (i_ x.aw), (u_ x.tk)]
theorem encAAct_len (x : AAct) : (encAAct x).length = 6 := rfl
theorem encAAct_one (x : AAct) : (encAAct x).all Value.oneCell' = true := rfl
def AActOk (x : AAct) : Prop := ((-9223372036854775808) ≤ x.kd ∧ x.kd ≤ 9223372036854775807) ∧ (0 ≤ x.ak ∧ x.ak ≤ 18446744073709551615) ∧ ((-9223372036854775808) ≤ x.ai ∧ x.ai ≤ 9223372036854775807) ∧ (0 ≤ x.av ∧ x.av ≤ 18446744073709551615) ∧ ((-9223372036854775808) ≤ x.aw ∧ x.aw ≤ 9223372036854775807) ∧ (0 ≤ x.tk ∧ x.tk ≤ 18446744073709551615)
def ksAAct : List FK := [.int .i64, .int .u64, .int .i64, .int .u64, .int .i64, .int .u64]
theorem openAAct (cs : List Value) (h : FitsL ksAAct cs) : ∃ x, cs = encAAct x ∧ AActOk x := by
  unfold ksAAct at h
  obtain ⟨v0, cs0, rfl, h0, g0⟩ := fitsL_cons h
  obtain ⟨a0, rfl, r0⟩ := fit_i64 h0
  obtain ⟨v1, cs1, rfl, h1, g1⟩ := fitsL_cons g0
  obtain ⟨a1, rfl, r1⟩ := fit_u64 h1
  obtain ⟨v2, cs2, rfl, h2, g2⟩ := fitsL_cons g1
  obtain ⟨a2, rfl, r2⟩ := fit_i64 h2
  obtain ⟨v3, cs3, rfl, h3, g3⟩ := fitsL_cons g2
  obtain ⟨a3, rfl, r3⟩ := fit_u64 h3
  obtain ⟨v4, cs4, rfl, h4, g4⟩ := fitsL_cons g3
  obtain ⟨a4, rfl, r4⟩ := fit_i64 h4
  obtain ⟨v5, cs5, rfl, h5, g5⟩ := fitsL_cons g4
  obtain ⟨a5, rfl, r5⟩ := fit_u64 h5
  obtain rfl := fitsL_nil g5
  exact ⟨⟨a0, a1, a2, a3, a4, a5⟩, rfl, r0, r1, r2, r3, r4, r5⟩

set_option maxHeartbeats 4000000 in
set_option maxRecDepth 100000 in
theorem avlNil_walk (x : AAct) (w : World) :
    Calls Try.prog 5 #[(.agg #[(i_ x.kd), (u_ x.ak), (i_ x.ai), (u_ x.av), (i_ x.aw), (u_ x.tk)])] w fun e w' => e = .returned (b_ true) ∧ Fr [] w w' := by
  refine calls_of (args := [(.agg #[(i_ x.kd), (u_ x.ak), (i_ x.ai), (u_ x.av), (i_ x.aw), (u_ x.tk)])]) (penv [(.agg #[(i_ x.kd), (u_ x.ak), (i_ x.ai), (u_ x.av), (i_ x.aw), (u_ x.tk)])]) [] [] Try.func5 rfl rfl (look_penv _) (HS.nil w) ?_
  refine A.norm [(0, (.agg #[(i_ x.kd), (u_ x.ak), (i_ x.ai), (u_ x.av), (i_ x.aw), (u_ x.tk)]))] [] (by exact ⟨rfl, trivial⟩) rfl ?_
  refine A.seq ?_
  refine A.region (A.goA1 [.al, .p] [0, 1, 2] (fun b1 => [(0, (.agg #[(i_ x.kd), (u_ x.ak), (i_ x.ai), (u_ x.av), (i_ x.aw), (u_ x.tk)])), (1, (p_ b1)), (2, (b_ false))]) (fun b1 => [blk b1 [(i_ x.kd), (u_ x.ak), (i_ x.ai), (u_ x.av), (i_ x.aw), (u_ x.tk)] 30]) (fun b1 => []) (fun _ => T0) (fun _ => by kernel_rfl) (fun b1 => trivial) ?_)
  intro b1
  refine A.tn ?_
  refine A.seq ?_
  refine A.region (A.goA [.p] [(0, (.agg #[(i_ x.kd), (u_ x.ak), (i_ x.ai), (u_ x.av), (i_ x.aw), (u_ x.tk)])), (1, (p_ b1)), (2, (b_ false)), (3, n_)] [] T0 (by kernel_rfl) trivial ?_)
  refine A.tn ?_
  refine A.seq ?_
  refine A.region (A.goA1 [.p, .p, .ld 0, .cq (.tuple #[(.agg #[(u_ 0), (i_ 0)]), (i_ 7)]), .p, .p, .p, .al, .st 1, .p] [0, 1, 2, 3, 4, 5] (fun b2 => [(0, (.agg #[(i_ x.kd), (u_ x.ak), (i_ x.ai), (u_ x.av), (i_ x.aw), (u_ x.tk)])), (1, (p_ b1)), (2, (b_ false)), (3, n_), (4, (p_ b2)), (5, (i_ 7))]) (fun b2 => [blk b1 [(i_ x.kd), (u_ x.ak), (i_ x.ai), (u_ x.av), (i_ x.aw), (u_ x.tk)] 30, blk b2 [(u_ 0), (i_ 0)] 28]) (fun b2 => [b1, b2]) (fun _ => (fun κ => κ.call 23 [n_, (.agg #[(u_ x.ak), (i_ x.ai)])] (.tuple #[(.agg #[(u_ 0), (i_ 0)]), (i_ 7)]) ∧ True)) (fun _ => by kernel_rfl) (fun b2 => ⟨(fun ww ss => find_nil x.ak x.ai ww), trivial⟩) ?_)
  intro b2
  refine A.tn ?_
  refine A.seq ?_
  refine A.region (A.goA1 [.p, .cq (.tuple #[(.agg #[(u_ 0), (i_ 0), (u_ 0), (i_ 0)]), (b_ false)]), .p, .p, .p, .al, .st 2, .p] [0, 1, 2, 3, 4, 5, 6, 7] (fun b3 => [(0, (.agg #[(i_ x.kd), (u_ x.ak), (i_ x.ai), (u_ x.av), (i_ x.aw), (u_ x.tk)])), (1, (p_ b1)), (2, (b_ false)), (3, n_), (4, (p_ b2)), (5, (i_ 7)), (6, (p_ b3)), (7, (b_ false))]) (fun b3 => [blk b1 [(i_ x.kd), (u_ x.ak), (i_ x.ai), (u_ x.av), (i_ x.aw), (u_ x.tk)] 30, blk b2 [(u_ 0), (i_ 0)] 28, blk b3 [(u_ 0), (i_ 0), (u_ 0), (i_ 0)] 36]) (fun b3 => [b3]) (fun _ => (fun κ => κ.call 24 [n_] (.tuple #[(.agg #[(u_ 0), (i_ 0), (u_ 0), (i_ 0)]), (b_ false)]) ∧ True)) (fun _ => by kernel_rfl) (fun b3 => ⟨(fun ww ss => least_nil ww), trivial⟩) ?_)
  intro b3
  refine A.tn ?_
  refine A.seq ?_
  refine A.region (A.goA1 [.p, .p, .ld 0, .cq (.tuple #[(.agg #[(u_ 0), (i_ 0), (u_ 0), (i_ 0)]), (b_ false)]), .p, .p, .p, .al, .st 3, .p] [0, 1, 2, 3, 4, 5, 6, 7, 8, 9] (fun b4 => [(0, (.agg #[(i_ x.kd), (u_ x.ak), (i_ x.ai), (u_ x.av), (i_ x.aw), (u_ x.tk)])), (1, (p_ b1)), (2, (b_ false)), (3, n_), (4, (p_ b2)), (5, (i_ 7)), (6, (p_ b3)), (7, (b_ false)), (8, (p_ b4)), (9, (b_ false))]) (fun b4 => [blk b1 [(i_ x.kd), (u_ x.ak), (i_ x.ai), (u_ x.av), (i_ x.aw), (u_ x.tk)] 30, blk b2 [(u_ 0), (i_ 0)] 28, blk b3 [(u_ 0), (i_ 0), (u_ 0), (i_ 0)] 36, blk b4 [(u_ 0), (i_ 0), (u_ 0), (i_ 0)] 36]) (fun b4 => [b1, b4]) (fun _ => (fun κ => κ.call 14 [n_, (u_ x.tk)] (.tuple #[(.agg #[(u_ 0), (i_ 0), (u_ 0), (i_ 0)]), (b_ false)]) ∧ True)) (fun _ => by kernel_rfl) (fun b4 => ⟨(fun ww ss => below_nil x.tk ww), trivial⟩) ?_)
  intro b4
  refine A.tn ?_
  refine A.seq ?_
  refine A.region (A.goA1 [.p, .p, .ld 0, .cq (.tuple #[(.agg #[(u_ 0), (i_ 0), (u_ 0), (i_ 0)]), (b_ false)]), .p, .p, .p, .al, .st 4, .p] [0, 1, 2, 3, 4, 5, 6, 7, 8, 9, 10, 11] (fun b5 => [(0, (.agg #[(i_ x.kd), (u_ x.ak), (i_ x.ai), (u_ x.av), (i_ x.aw), (u_ x.tk)])), (1, (p_ b1)), (2, (b_ false)), (3, n_), (4, (p_ b2)), (5, (i_ 7)), (6, (p_ b3)), (7, (b_ false)), (8, (p_ b4)), (9, (b_ false)), (10, (p_ b5)), (11, (b_ false))]) (fun b5 => [blk b1 [(i_ x.kd), (u_ x.ak), (i_ x.ai), (u_ x.av), (i_ x.aw), (u_ x.tk)] 30, blk b2 [(u_ 0), (i_ 0)] 28, blk b3 [(u_ 0), (i_ 0), (u_ 0), (i_ 0)] 36, blk b4 [(u_ 0), (i_ 0), (u_ 0), (i_ 0)] 36, blk b5 [(u_ 0), (i_ 0), (u_ 0), (i_ 0)] 36]) (fun b5 => [b1, b5]) (fun _ => (fun κ => κ.call 15 [n_, (u_ x.tk)] (.tuple #[(.agg #[(u_ 0), (i_ 0), (u_ 0), (i_ 0)]), (b_ false)]) ∧ True)) (fun _ => by kernel_rfl) (fun b5 => ⟨(fun ww ss => first_nil x.tk ww), trivial⟩) ?_)
  intro b5
  refine A.tn ?_
  refine A.seq ?_
  refine A.region (A.goA1 [.p, .al, .st 5] [0, 1, 2, 3, 4, 5, 6, 7, 8, 9, 10, 11, 12] (fun b6 => [(0, (.agg #[(i_ x.kd), (u_ x.ak), (i_ x.ai), (u_ x.av), (i_ x.aw), (u_ x.tk)])), (1, (p_ b1)), (2, (b_ false)), (3, n_), (4, (p_ b2)), (5, (i_ 7)), (6, (p_ b3)), (7, (b_ false)), (8, (p_ b4)), (9, (b_ false)), (10, (p_ b5)), (11, (b_ false)), (12, (p_ b6))]) (fun b6 => [blk b1 [(i_ x.kd), (u_ x.ak), (i_ x.ai), (u_ x.av), (i_ x.aw), (u_ x.tk)] 30, blk b2 [(u_ 0), (i_ 0)] 28, blk b3 [(u_ 0), (i_ 0), (u_ 0), (i_ 0)] 36, blk b4 [(u_ 0), (i_ 0), (u_ 0), (i_ 0)] 36, blk b5 [(u_ 0), (i_ 0), (u_ 0), (i_ 0)] 36, blk b6 [(u_ 0), (i_ 0), (u_ 0), (i_ 0)] 36]) (fun b6 => [b6]) (fun _ => T0) (fun _ => by kernel_rfl) (fun b6 => trivial) ?_)
  intro b6
  refine A.tn ?_
  refine A.seq ?_
  refine A.region (A.goA [.ld 1, .p, .eq, .p, .p, .p, .p, .p, .ld 2, .ld 5, .eq, .p, .p, .ld 3, .ld 5, .eq, .p, .p, .ld 4, .ld 5, .eq, .p, .p, .p, .p, .p, .p, .p, .p, .p, .p, .p, .p, .p, .p, .p, .p, .ld 0, .p, .ld 0, .cq (i_ 7), .p, .p, .p, .p, .p, .ld 0, .cq (i_ 7), .p, .p, .p, .p, .cq (i_ 0), .p, .p, .p, .p, .cq (i_ 0), .p, .p, .p, .p, .cq e_, .p, .p, .p, .p, .cq (b_ true), .p, .p] [(0, (.agg #[(i_ x.kd), (u_ x.ak), (i_ x.ai), (u_ x.av), (i_ x.aw), (u_ x.tk)])), (1, (p_ b1)), (2, (b_ true)), (3, n_), (4, (p_ b2)), (5, (i_ 7)), (6, (p_ b3)), (7, (b_ false)), (8, (p_ b4)), (9, (b_ false)), (10, (p_ b5)), (11, (b_ false)), (12, (p_ b6))] [b2, b3, b6, b4, b6, b5, b6, b1, b1, b1] (fun κ => κ.call 11 [n_, (.agg #[(u_ x.ak), (i_ x.ai)]), (.agg #[(u_ x.av), (i_ x.aw)])] (i_ 7) ∧ κ.call 13 [n_, (.agg #[(u_ x.ak), (i_ x.ai)])] (i_ 7) ∧ κ.call 25 [n_] (i_ 0) ∧ κ.call 26 [n_] (i_ 0) ∧ κ.call 16 [n_] e_ ∧ κ.call 9 [] (b_ true) ∧ True) (by kernel_rfl) ⟨(fun ww ss => insert_nil x.ak x.ai x.av x.aw ww), (fun ww ss => delete_nil x.ak x.ai ww), (fun ww ss => len_nil ww), (fun ww ss => height_nil ww), (fun ww ss => items_nil ww), (fun ww ss => three_spec ww), trivial⟩ ?_)
  refine A.tn ?_
  refine A.ret ?_
  refine A.postQ [(b_ true)] (fun aa ww rr ss => ⟨rv_tmp rr rfl, trivial⟩) ?_
  rfl

set_option maxHeartbeats 4000000 in
set_option maxRecDepth 100000 in
theorem avlActs_walk (A0 : Option Addr) (l : List AAct) (c0 : Nat) (w : World) (r0 : arrAt w A0 (V.flat encAAct l)) :
    Calls Try.prog 4 #[(.slice A0 l.length c0)] w fun e w' => e = .returned (b_ true) ∧ Fr [] w w' := by
  refine calls_of (args := [(.slice A0 l.length c0)]) (penv [(.slice A0 l.length c0)]) [] [] Try.func4 rfl rfl (look_penv _) (HS.nil w) ?_
  refine A.norm [(0, (.slice A0 l.length c0))] [] (by exact ⟨rfl, trivial⟩) rfl ?_
  refine A.seq ?_
  refine A.region (A.goA [.p] [(0, (.slice A0 l.length c0)), (2, (b_ false))] [] T0 (by kernel_rfl) trivial ?_)
  refine A.tn ?_
  refine A.seq ?_
  refine A.seq ?_
  refine A.region (A.goA [.p, .p, .p] [(0, (.slice A0 l.length c0)), (2, (b_ false)), (12, (b_ (decide ((l.length : Int) > 80))))] [] T0 (by kernel_rfl) trivial ?_)
  refine A.tn ?_
  refine A.cond (E := decide ((l.length : Int) > 80)) rfl (fun e1 => ?_) (fun e1 => ?_)
  · skip
    have p1 := of_decide_eq_true e1
    refine A.seq ?_
    refine A.region (A.goA [.cq (b_ true), .p] [(0, (.slice A0 l.length c0)), (2, (b_ true)), (12, (b_ (decide ((l.length : Int) > 80))))] [] (fun κ => κ.call 9 [] (b_ true) ∧ True) (by kernel_rfl) ⟨(fun ww ss => three_spec ww), trivial⟩ ?_)
    refine A.tn ?_
    refine A.ret ?_
    refine A.tr ?_
    refine A.postQ [(b_ true)] (fun aa ww rr ss => ⟨rv_tmp rr rfl, trivial⟩) ?_
    rfl
  · skip
    have p1 := of_decide_eq_false e1
    refine A.skip ?_
    refine A.tn ?_
    refine A.seq ?_
    refine A.region ?_
    refine A.cons (A.callT (some 14) [] [] ((fun bt1 => (p_ bt1))) ((fun bt1 => True)) ((fun bt1 => [blk bt1 [(.pointer (T.ptr T.nil))] 90, treeI 95 T.nil])) (fun bt1 => [blk bt1 [(.pointer (T.ptr T.nil))] 90, treeI 95 T.nil]) (by kernel_rfl) rfl rfl (fun ww ss hh => new_spec ww hh) (fun _ => rfl) ?_)
    rintro bt1 -
    refine A.goA [.p] [(0, (.slice A0 l.length c0)), (2, (b_ false)), (12, (b_ (decide ((l.length : Int) > 80)))), (3, (p_ bt1))] [] T0 (by kernel_rfl) trivial ?_
    refine A.tn ?_
    refine A.seq ?_
    refine A.region (A.goA [.p] [(0, (.slice A0 l.length c0)), (2, (b_ false)), (12, (b_ (decide ((l.length : Int) > 80)))), (3, (p_ bt1)), (4, e_)] [] T0 (by kernel_rfl) trivial ?_)
    refine A.tn ?_
    refine A.seq ?_
    refine A.seq ?_
    refine A.region (A.goA [.p, .p, .p] [(0, (.slice A0 l.length c0)), (2, (b_ false)), (12, (b_ (decide ((l.length : Int) > 80)))), (3, (p_ bt1)), (4, e_), (15, (.slice A0 l.length c0)), (16, (i_ (l.length : Int))), (17, (i_ 0))] [] T0 (by kernel_rfl) trivial ?_)
    refine A.tn ?_
    refine A.block ?_
    refine A.ownNil 49 4 [blk bt1 [(.pointer (T.ptr T.nil))] 90, treeI 95 T.nil, sl none (([] : List It).length) 0 49 4 (V.flat encIt ([] : List It))] rfl ?_
    refine A.setH [blk bt1 [(.pointer (T.ptr T.nil))] 90, treeI 95 T.nil, sl none ((T.toL T.nil).length) 0 49 4 (V.flat encIt (T.toL T.nil))] (cc rfl (cc rfl (cc (slC (by first | rfl | omega | (simp; done) | grind : ([] : List It) = (T.toL T.nil))) rfl))) ?_
    refine A.sub [(0, (.slice A0 l.length c0)), (2, (b_ false)), (12, (b_ (decide ((l.length : Int) > 80)))), (3, (p_ bt1)), (4, (.slice none ((T.toL T.nil).length) 0)), (15, (.slice A0 l.length c0)), (16, (i_ (l.length : Int))), (17, (i_ 0))] (by exact ⟨rfl, rfl, rfl, rfl, (congrArg (fun z_ : List It => some (Value.slice none z_.length 0)) (by first | rfl | omega | (simp; done) | grind : ([] : List It) = (T.toL T.nil))), rfl, rfl, rfl, trivial⟩) ?_
    refine A.loop (fun (zz : Nat × T × (Option Addr) × Nat) => match zz with | (k, t, ao, co) => [(3, (p_ bt1)), (15, (.slice A0 l.length c0)), (16, (i_ (l.length : Int))), (17, (i_ (k : Int))), (4, (.slice ao ((T.toL t).length) co))]) (fun (zz : Nat × T × (Option Addr) × Nat) => match zz with | (k, t, ao, co) => [blk bt1 [(.pointer (T.ptr t))] 90, treeI 95 t, sl ao ((T.toL t).length) co 49 4 (V.flat encIt (T.toL t))]) (fun (zz : Nat × T × (Option Addr) × Nat) => match zz with | (k, t, ao, co) => (k ≤ l.length) ∧ (WF t) ∧ ((T.toL t).length ≤ k)) (fun (zz : Nat × T × (Option Addr) × Nat) => match zz with | (k, t, ao, co) => l.length - k) (0, T.nil, none, 0) ⟨(by first | assumption | omega | (simp_all; done) | (simp_all; omega) | grind), (by exact wf_nil), (by simp [T.toL])⟩ ?_ ?_
    · exact A.hereK [0, 0, 0] (by exact ⟨rfl, rfl, rfl, rfl, rfl, trivial⟩) (by kernel_rfl)
    · rintro ⟨k, t, ao, co⟩ ⟨hk, hW, hC⟩
      have hCn := hW.cnt
      refine A.norm [(3, (p_ bt1)), (15, (.slice A0 l.length c0)), (16, (i_ (l.length : Int))), (17, (i_ (k : Int))), (4, (.slice ao ((T.toL t).length) co))] [blk bt1 [(.pointer (T.ptr t))] 90, treeI 95 t, sl ao ((T.toL t).length) co 49 4 (V.flat encIt (T.toL t))] (by exact ⟨rfl, rfl, rfl, rfl, rfl, trivial⟩) rfl ?_
      refine A.seq ?_
      refine A.region (A.goA [.p] [(3, (p_ bt1)), (15, (.slice A0 l.length c0)), (16, (i_ (l.length : Int))), (17, (i_ (k : Int))), (4, (.slice ao ((T.toL t).length) co)), (18, (b_ (decide ((k : Int) < (l.length : Int)))))] [] T0 (by kernel_rfl) trivial ?_)
      refine A.tn ?_
      refine A.seq ?_
      refine A.cond (E := decide ((k : Int) < (l.length : Int))) rfl (fun e3 => ?_) (fun e3 => ?_)
      · skip
        have p3 := of_decide_eq_true e3
        refine A.skip ?_
        refine A.tn ?_
        refine A.seq ?_
        refine A.block ?_
        refine A.seq ?_
        refine A.region (A.goP [.ix] [(3, (p_ bt1)), (15, (.slice A0 l.length c0)), (16, (i_ (l.length : Int))), (17, (i_ (k : Int))), (4, (.slice ao ((T.toL t).length) co)), (18, (b_ (decide ((k : Int) < (l.length : Int))))), (19, (.pointer (some ((at0 A0).add (k * 6)))))] [] (fun κ => κ.ix A0 l.length (k : Int) ∧ True) (by kernel_rfl) ⟨(ixOf encAAct_len (by decide) (rd_old r0 (by simp [feet])) (by first | omega | (simp; done))), trivial⟩ ?_)
        obtain ⟨x3, hx3⟩ : ∃ x, (l)[k]? = some x := ⟨_, List.getElem?_eq_getElem (by omega)⟩
        refine A.goA1 [.rd [(i_ x3.kd), (u_ x3.ak), (i_ x3.ai), (u_ x3.av), (i_ x3.aw), (u_ x3.tk)], .al, .st 3] [3, 15, 16, 17, 4, 18, 6] (fun b4 => [(3, (p_ bt1)), (15, (.slice A0 l.length c0)), (16, (i_ (l.length : Int))), (17, (i_ (k : Int))), (4, (.slice ao ((T.toL t).length) co)), (18, (b_ (decide ((k : Int) < (l.length : Int))))), (6, (p_ b4))]) (fun b4 => [blk bt1 [(.pointer (T.ptr t))] 90, treeI 95 t, sl ao ((T.toL t).length) co 49 4 (V.flat encIt (T.toL t)), blk b4 [(i_ x3.kd), (u_ x3.ak), (i_ x3.ai), (u_ x3.av), (i_ x3.aw), (u_ x3.tk)] 30]) (fun b4 => [b4]) (fun _ => (fun κ => κ.rd ((at0 A0).add (k * 6)) [(i_ x3.kd), (u_ x3.ak), (i_ x3.ai), (u_ x3.av), (i_ x3.aw), (u_ x3.tk)] ∧ True)) (fun _ => by kernel_rfl) (fun b4 => ⟨(reads_at0 (vs := [(i_ x3.kd), (u_ x3.ak), (i_ x3.ai), (u_ x3.av), (i_ x3.aw), (u_ x3.tk)]) encAAct_len (rd_old r0 (by simp [feet])) hx3 (by simp) rfl), trivial⟩) ?_
        intro b4
        refine A.tn ?_
        refine A.seq ?_
        refine A.region (A.goA [.p, .p, .ld 3, .cq (.agg #[(u_ x3.ak), (i_ x3.ai)]), .cq (i_ (refFind x3.ak x3.ai (T.toL t))), .p, .p] [(3, (p_ bt1)), (15, (.slice A0 l.length c0)), (16, (i_ (l.length : Int))), (17, (i_ (k : Int))), (4, (.slice ao ((T.toL t).length) co)), (18, (b_ (decide ((k : Int) < (l.length : Int))))), (6, (p_ b4)), (7, (b_ (decide ((refFind x3.ak x3.ai (T.toL t)) ≥ 0))))] [b4] (fun κ => κ.call 18 [(.agg #[(u_ x3.ak), (i_ x3.ai)])] (.agg #[(u_ x3.ak), (i_ x3.ai)]) ∧ κ.call 17 [(.slice ao ((T.toL t).length) co), (.agg #[(u_ x3.ak), (i_ x3.ai)])] (i_ (refFind x3.ak x3.ai (T.toL t))) ∧ True) (by kernel_rfl) ⟨(fun ww ss => ref_spec x3.ak x3.ai ww), (fun ww ss => rfind_spec ao (T.toL t) co x3.ak x3.ai (by first | assumption | omega | exact findT_ne (by assumption) (by assumption) | exact findT_eq (by assumption) | exact fun y hy he => hc ⟨y, hy, he⟩) ww ((rd_sl (i := 2) rfl) ww ss)), trivial⟩ ?_)
        refine A.tn ?_
        refine A.seq ?_
        refine A.seq ?_
        refine A.region (A.goA [.p, .ld 3, .p] [(3, (p_ bt1)), (15, (.slice A0 l.length c0)), (16, (i_ (l.length : Int))), (17, (i_ (k : Int))), (4, (.slice ao ((T.toL t).length) co)), (18, (b_ (decide ((k : Int) < (l.length : Int))))), (6, (p_ b4)), (7, (b_ (decide ((refFind x3.ak x3.ai (T.toL t)) ≥ 0)))), (29, (b_ (x3.kd == 0)))] [b4] T0 (by kernel_rfl) trivial ?_)
        refine A.tn ?_
        refine A.cond (E := x3.kd == 0) rfl (fun e4 => ?_) (fun e4 => ?_)
        · skip
          have p4 := e4; try simp only [decide_eq_true_eq, decide_eq_false_iff_not, beq_iff_eq, beq_eq_false_iff_ne, bne_iff_ne, bne_eq_false_iff_eq, ne_eq, Bool.and_eq_true, Bool.or_eq_true, Bool.or_eq_false_iff, Bool.not_eq_true', Bool.not_eq_false', Int.not_lt, Int.not_le, gt_iff_lt, ge_iff_le, Classical.not_not] at p4
          refine A.seq ?_
          by_cases hc : ∃ y ∈ T.toL t, y.ka = x3.ak ∧ y.ki = x3.ai
          · skip
            refine A.sub [(3, (p_ bt1)), (15, (.slice A0 l.length c0)), (16, (i_ (l.length : Int))), (17, (i_ (k : Int))), (4, (.slice ao ((T.toL t).length) co)), (18, (b_ (decide ((k : Int) < (l.length : Int))))), (6, (p_ b4)), (7, (b_ true)), (29, (b_ (x3.kd == 0)))] (by exact ⟨rfl, rfl, rfl, rfl, rfl, rfl, rfl, (congrArg (fun z_ => some (b_ z_)) (by first | exact decide_eq_true (refFind_pos.2 hc) | exact decide_eq_false (fun h => hc (refFind_pos.1 h)) : decide ((refFind x3.ak x3.ai (T.toL t)) ≥ 0) = true)), rfl, trivial⟩) ?_
            refine A.region (A.goP [.p, .p, .ld 3] [(3, (p_ bt1)), (15, (.slice A0 l.length c0)), (16, (i_ (l.length : Int))), (17, (i_ (k : Int))), (4, (.slice ao ((T.toL t).length) co)), (18, (b_ (decide ((k : Int) < (l.length : Int))))), (6, (p_ b4)), (7, (b_ true)), (29, (b_ (x3.kd == 0))), (30, (p_ bt1)), (32, (.agg #[(u_ x3.ak), (i_ x3.ai)]))] [b4] T0 (by kernel_rfl) trivial ?_)
            refine A.cons (A.callT (some 33) [(p_ bt1), (.agg #[(u_ x3.ak), (i_ x3.ai)])] [0, 0] ((fun zt5 => (i_ 0))) ((fun zt5 => WF zt5 ∧ T.toL zt5 = delL x3.ak x3.ai t.toL)) ((fun zt5 => [blk bt1 [(.pointer (T.ptr zt5))] 90, treeI 95 zt5])) (fun zt5 => [blk bt1 [(.pointer (T.ptr zt5))] 90, treeI 95 zt5, sl ao ((T.toL t).length) co 49 4 (V.flat encIt (T.toL t)), blk b4 [(i_ x3.kd), (u_ x3.ak), (i_ x3.ai), (u_ x3.av), (i_ x3.aw), (u_ x3.tk)] 30]) (by kernel_rfl) rfl rfl (fun ww ss hh => delete_ok bt1 t x3.ak x3.ai (by first | assumption | omega | exact findT_ne (by assumption) (by assumption) | exact findT_eq (by assumption)) (by first | assumption | omega | exact findT_ne (by assumption) (by assumption) | exact findT_eq (by assumption) | exact fun y hy he => hc ⟨y, hy, he⟩) (by first | assumption | omega | exact findT_ne (by assumption) (by assumption) | exact findT_eq (by assumption)) ww hh) (fun _ => rfl) ?_)
            rintro zt5 hz5
            obtain ⟨hz5W, hz5L⟩ := id hz5
            refine A.goA [.p] [(3, (p_ bt1)), (15, (.slice A0 l.length c0)), (16, (i_ (l.length : Int))), (17, (i_ (k : Int))), (4, (.slice ao ((T.toL t).length) co)), (18, (b_ (decide ((k : Int) < (l.length : Int))))), (6, (p_ b4)), (7, (b_ true)), (29, (b_ (x3.kd == 0))), (8, (i_ 0))] [] T0 (by kernel_rfl) trivial ?_
            refine A.tn ?_
            refine A.seq ?_
            refine A.seq ?_
            refine A.region (A.goA [.p, .p, .p, .eq, .p, .p, .p, .p, .sk, .sk, .p, .p] [(3, (p_ bt1)), (15, (.slice A0 l.length c0)), (16, (i_ (l.length : Int))), (17, (i_ (k : Int))), (4, (.slice ao ((T.toL t).length) co)), (18, (b_ (decide ((k : Int) < (l.length : Int))))), (6, (p_ b4)), (7, (b_ true)), (29, (b_ (x3.kd == 0))), (8, (i_ 0)), (45, (b_ false))] [] T0 (by kernel_rfl) trivial ?_)
            refine A.tn ?_
            refine A.cond_f rfl ?_
            refine A.skip ?_
            refine A.tn ?_
            refine A.region (A.goP [.p, .p, .ld 3, .cq (.agg #[(u_ x3.ak), (i_ x3.ai)])] [(3, (p_ bt1)), (15, (.slice A0 l.length c0)), (16, (i_ (l.length : Int))), (17, (i_ (k : Int))), (4, (.slice ao ((T.toL t).length) co)), (18, (b_ (decide ((k : Int) < (l.length : Int))))), (6, (p_ b4)), (7, (b_ true)), (29, (b_ (x3.kd == 0))), (8, (i_ 0)), (45, (b_ false)), (46, (.slice ao ((T.toL t).length) co)), (49, (.agg #[(u_ x3.ak), (i_ x3.ai)]))] [b4] (fun κ => κ.call 18 [(.agg #[(u_ x3.ak), (i_ x3.ai)])] (.agg #[(u_ x3.ak), (i_ x3.ai)]) ∧ True) (by kernel_rfl) ⟨(fun ww ss => ref_spec x3.ak x3.ai ww), trivial⟩ ?_)
            refine A.cons (A.callT (some 50) [(.slice ao ((T.toL t).length) co), (.agg #[(u_ x3.ak), (i_ x3.ai)])] [] ((fun zz => match zz with | (al'6, cl'7) => (.slice al'6 ((delL x3.ak x3.ai (T.toL t)).length) cl'7))) ((fun zz => match zz with | (al'6, cl'7) => True)) ((fun zz => match zz with | (al'6, cl'7) => [sl al'6 ((delL x3.ak x3.ai (T.toL t)).length) cl'7 49 4 (V.flat encIt (delL x3.ak x3.ai (T.toL t)))])) (fun zz => match zz with | (al'6, cl'7) => [sl al'6 ((delL x3.ak x3.ai (T.toL t)).length) cl'7 49 4 (V.flat encIt (delL x3.ak x3.ai (T.toL t))), blk bt1 [(.pointer (T.ptr zt5))] 90, treeI 95 zt5, sl ao ((T.toL t).length) co 49 4 (V.flat encIt (T.toL t)), blk b4 [(i_ x3.kd), (u_ x3.ak), (i_ x3.ai), (u_ x3.av), (i_ x3.aw), (u_ x3.tk)] 30]) (by kernel_rfl) rfl rfl (fun ww ss hh => rwithout_spec ao (T.toL t) co x3.ak x3.ai (by first | assumption | omega | exact findT_ne (by assumption) (by assumption) | exact findT_eq (by assumption) | exact fun y hy he => hc ⟨y, hy, he⟩) ww ((rd_sl (i := 2) rfl) ww ss) hh) (fun _ => rfl) ?_)
            rintro ⟨al'6, cl'7⟩ -
            refine A.goA [.p] [(3, (p_ bt1)), (15, (.slice A0 l.length c0)), (16, (i_ (l.length : Int))), (17, (i_ (k : Int))), (4, (.slice al'6 ((delL x3.ak x3.ai (T.toL t)).length) cl'7)), (18, (b_ (decide ((k : Int) < (l.length : Int))))), (6, (p_ b4)), (7, (b_ true)), (29, (b_ (x3.kd == 0))), (8, (i_ 0)), (45, (b_ false))] [] T0 (by kernel_rfl) trivial ?_
            refine A.tn ?_
            refine A.seq ?_
            have hcv9 : (delL x3.ak x3.ai (T.toL t)) = (T.toL zt5) := by first | rfl | (symm; assumption) | exact delL_none (fun y hy he => hc ⟨y, hy, he⟩)
            refine A.setH [sl al'6 ((T.toL zt5).length) cl'7 49 4 (V.flat encIt (T.toL zt5)), blk bt1 [(.pointer (T.ptr zt5))] 90, treeI 95 zt5, sl ao ((T.toL t).length) co 49 4 (V.flat encIt (T.toL t)), blk b4 [(i_ x3.kd), (u_ x3.ak), (i_ x3.ai), (u_ x3.av), (i_ x3.aw), (u_ x3.tk)] 30] (cc (slC hcv9) rfl) ?_
            refine A.sub [(3, (p_ bt1)), (15, (.slice A0 l.length c0)), (16, (i_ (l.length : Int))), (17, (i_ (k : Int))), (4, (.slice al'6 ((T.toL zt5).length) cl'7)), (18, (b_ (decide ((k : Int) < (l.length : Int))))), (6, (p_ b4)), (7, (b_ true)), (29, (b_ (x3.kd == 0))), (8, (i_ 0)), (45, (b_ false))] (by exact ⟨rfl, rfl, rfl, rfl, (congrArg (fun z_ : List It => some (Value.slice al'6 z_.length cl'7)) hcv9), rfl, rfl, rfl, rfl, rfl, rfl, trivial⟩) ?_
            have hlen_ : (T.toL zt5).length ≤ k + 1 := by first | omega | (have h1_ := congrArg List.length (by assumption : T.toL zt5 = insL _ _); rw [insL_len] at h1_; omega) | (have h1_ := congrArg List.length (by assumption : T.toL zt5 = delL _ _ _); have h2_ := delL_len (a := x3.ak) (i := x3.ai) (T.toL t); omega)
            refine A.region (A.goP [.p, .p] [(3, (p_ bt1)), (15, (.slice A0 l.length c0)), (16, (i_ (l.length : Int))), (17, (i_ (k : Int))), (4, (.slice al'6 ((T.toL zt5).length) cl'7)), (18, (b_ (decide ((k : Int) < (l.length : Int))))), (6, (p_ b4)), (7, (b_ true)), (29, (b_ (x3.kd == 0))), (8, (i_ 0)), (45, (b_ false)), (80, (p_ bt1)), (81, (.slice al'6 ((T.toL zt5).length) cl'7))] [] T0 (by kernel_rfl) trivial ?_)
            refine A.cons (A.callT (some 82) [(p_ bt1), (.slice al'6 ((T.toL zt5).length) cl'7)] [1, 1, 0] ((fun _ => (b_ true))) ((fun _ => True)) ((fun _ => [blk bt1 [(.pointer (T.ptr zt5))] 90, treeI 95 zt5, sl al'6 ((T.toL zt5).length) cl'7 49 4 (V.flat encIt (T.toL zt5))])) (fun _ => [blk bt1 [(.pointer (T.ptr zt5))] 90, treeI 95 zt5, sl al'6 ((T.toL zt5).length) cl'7 49 4 (V.flat encIt (T.toL zt5)), sl ao ((T.toL t).length) co 49 4 (V.flat encIt (T.toL t)), blk b4 [(i_ x3.kd), (u_ x3.ak), (i_ x3.ai), (u_ x3.av), (i_ x3.aw), (u_ x3.tk)] 30]) (by kernel_rfl) rfl rfl (fun ww ss hh => same_spec bt1 zt5 al'6 cl'7 (by first | assumption | omega | exact findT_ne (by assumption) (by assumption) | exact findT_eq (by assumption)) (by first | assumption | omega | exact findT_ne (by assumption) (by assumption) | exact findT_eq (by assumption) | exact fun y hy he => hc ⟨y, hy, he⟩) ww hh) (fun _ => rfl) ?_)
            rintro ⟨⟩ -
            refine A.goA [.p, .p, .p, .p, .p, .ld 4, .cq (b_ true), .p, .p] [(3, (p_ bt1)), (15, (.slice A0 l.length c0)), (16, (i_ (l.length : Int))), (17, (i_ (k : Int))), (4, (.slice al'6 ((T.toL zt5).length) cl'7)), (18, (b_ (decide ((k : Int) < (l.length : Int))))), (6, (p_ b4)), (7, (b_ true)), (29, (b_ (x3.kd == 0))), (8, (i_ 0)), (45, (b_ false)), (91, (b_ false))] [b4] (fun κ => κ.call 22 [(p_ bt1), (.slice al'6 ((T.toL zt5).length) cl'7), (u_ x3.tk)] (b_ true) ∧ True) (by kernel_rfl) ⟨(fun ww ss => asked_spec bt1 zt5 al'6 cl'7 x3.tk (by first | assumption | omega | exact findT_ne (by assumption) (by assumption) | exact findT_eq (by assumption)) (by first | assumption | omega | exact findT_ne (by assumption) (by assumption) | exact findT_eq (by assumption) | exact fun y hy he => hc ⟨y, hy, he⟩) ww (ss.mem (i := 0) rfl) (ss.mem (i := 1) rfl) ((rd_sl (i := 2) rfl) ww ss)), trivial⟩ ?_
            refine A.tn ?_
            refine A.cond_f rfl ?_
            refine A.skip ?_
            refine A.bn ?_
            refine A.tn ?_
            refine A.region (A.goA [.w ((k : Int) + 1), .p] [(3, (p_ bt1)), (15, (.slice A0 l.length c0)), (16, (i_ (l.length : Int))), (17, (i_ ((k : Int) + 1))), (4, (.slice al'6 ((T.toL zt5).length) cl'7)), (18, (b_ (decide ((k : Int) < (l.length : Int))))), (6, (p_ b4)), (7, (b_ true)), (29, (b_ (x3.kd == 0))), (8, (i_ 0)), (45, (b_ false)), (91, (b_ false))] [] (fun κ => (IntKind.i64.wrap ((k : Int) + 1) = ((k : Int) + 1)) ∧ True) (by kernel_rfl) ⟨(wrap_i64 (e := (k : Int) + 1) (by constructor <;> omega)), trivial⟩ ?_)
            refine A.tn ?_
            refine A.next (k + 1, zt5, al'6, cl'7) ⟨(by first | assumption | omega | (simp_all; done) | (simp_all; omega) | grind), (by assumption), (by omega)⟩ (by first | omega | (simp; omega) | (simp_all; omega)) ?_
            exact A.hereK [0, 0, 0] (by exact ⟨rfl, rfl, rfl, rfl, rfl, trivial⟩) (by kernel_rfl)
          · skip
            refine A.sub [(3, (p_ bt1)), (15, (.slice A0 l.length c0)), (16, (i_ (l.length : Int))), (17, (i_ (k : Int))), (4, (.slice ao ((T.toL t).length) co)), (18, (b_ (decide ((k : Int) < (l.length : Int))))), (6, (p_ b4)), (7, (b_ false)), (29, (b_ (x3.kd == 0)))] (by exact ⟨rfl, rfl, rfl, rfl, rfl, rfl, rfl, (congrArg (fun z_ => some (b_ z_)) (by first | exact decide_eq_true (refFind_pos.2 hc) | exact decide_eq_false (fun h => hc (refFind_pos.1 h)) : decide ((refFind x3.ak x3.ai (T.toL t)) ≥ 0) = false)), rfl, trivial⟩) ?_
            refine A.region (A.goA [.p, .p, .ld 3, .cq (i_ 6), .p] [(3, (p_ bt1)), (15, (.slice A0 l.length c0)), (16, (i_ (l.length : Int))), (17, (i_ (k : Int))), (4, (.slice ao ((T.toL t).length) co)), (18, (b_ (decide ((k : Int) < (l.length : Int))))), (6, (p_ b4)), (7, (b_ false)), (29, (b_ (x3.kd == 0))), (8, (i_ 6))] [b4] (fun κ => κ.call 13 [(p_ bt1), (.agg #[(u_ x3.ak), (i_ x3.ai)])] (i_ 6) ∧ True) (by kernel_rfl) ⟨(fun ww ss => delete_none bt1 t x3.ak x3.ai (by first | assumption | omega | exact findT_ne (by assumption) (by assumption) | exact findT_eq (by assumption)) ww (ss.mem (i := 0) rfl) (ss.mem (i := 1) rfl)), trivial⟩ ?_)
            refine A.tn ?_
            refine A.seq ?_
            refine A.seq ?_
            refine A.region (A.goA [.p, .p, .p, .eq, .p, .p, .p, .p, .p, .p, .p, .p] [(3, (p_ bt1)), (15, (.slice A0 l.length c0)), (16, (i_ (l.length : Int))), (17, (i_ (k : Int))), (4, (.slice ao ((T.toL t).length) co)), (18, (b_ (decide ((k : Int) < (l.length : Int))))), (6, (p_ b4)), (7, (b_ false)), (29, (b_ (x3.kd == 0))), (8, (i_ 6)), (45, (b_ false))] [] T0 (by kernel_rfl) trivial ?_)
            refine A.tn ?_
            refine A.cond_f rfl ?_
            refine A.skip ?_
            refine A.tn ?_
            refine A.region (A.goP [.p, .p, .ld 3, .cq (.agg #[(u_ x3.ak), (i_ x3.ai)])] [(3, (p_ bt1)), (15, (.slice A0 l.length c0)), (16, (i_ (l.length : Int))), (17, (i_ (k : Int))), (4, (.slice ao ((T.toL t).length) co)), (18, (b_ (decide ((k : Int) < (l.length : Int))))), (6, (p_ b4)), (7, (b_ false)), (29, (b_ (x3.kd == 0))), (8, (i_ 6)), (45, (b_ false)), (46, (.slice ao ((T.toL t).length) co)), (49, (.agg #[(u_ x3.ak), (i_ x3.ai)]))] [b4] (fun κ => κ.call 18 [(.agg #[(u_ x3.ak), (i_ x3.ai)])] (.agg #[(u_ x3.ak), (i_ x3.ai)]) ∧ True) (by kernel_rfl) ⟨(fun ww ss => ref_spec x3.ak x3.ai ww), trivial⟩ ?_)
            refine A.cons (A.callT (some 50) [(.slice ao ((T.toL t).length) co), (.agg #[(u_ x3.ak), (i_ x3.ai)])] [] ((fun zz => match zz with | (al'10, cl'11) => (.slice al'10 ((delL x3.ak x3.ai (T.toL t)).length) cl'11))) ((fun zz => match zz with | (al'10, cl'11) => True)) ((fun zz => match zz with | (al'10, cl'11) => [sl al'10 ((delL x3.ak x3.ai (T.toL t)).length) cl'11 49 4 (V.flat encIt (delL x3.ak x3.ai (T.toL t)))])) (fun zz => match zz with | (al'10, cl'11) => [sl al'10 ((delL x3.ak x3.ai (T.toL t)).length) cl'11 49 4 (V.flat encIt (delL x3.ak x3.ai (T.toL t))), blk bt1 [(.pointer (T.ptr t))] 90, treeI 95 t, sl ao ((T.toL t).length) co 49 4 (V.flat encIt (T.toL t)), blk b4 [(i_ x3.kd), (u_ x3.ak), (i_ x3.ai), (u_ x3.av), (i_ x3.aw), (u_ x3.tk)] 30]) (by kernel_rfl) rfl rfl (fun ww ss hh => rwithout_spec ao (T.toL t) co x3.ak x3.ai (by first | assumption | omega | exact findT_ne (by assumption) (by assumption) | exact findT_eq (by assumption) | exact fun y hy he => hc ⟨y, hy, he⟩) ww ((rd_sl (i := 2) rfl) ww ss) hh) (fun _ => rfl) ?_)
            rintro ⟨al'10, cl'11⟩ -
            refine A.goA [.p] [(3, (p_ bt1)), (15, (.slice A0 l.length c0)), (16, (i_ (l.length : Int))), (17, (i_ (k : Int))), (4, (.slice al'10 ((delL x3.ak x3.ai (T.toL t)).length) cl'11)), (18, (b_ (decide ((k : Int) < (l.length : Int))))), (6, (p_ b4)), (7, (b_ false)), (29, (b_ (x3.kd == 0))), (8, (i_ 6)), (45, (b_ false))] [] T0 (by kernel_rfl) trivial ?_
            refine A.tn ?_
            refine A.seq ?_
            have hcv13 : (delL x3.ak x3.ai (T.toL t)) = (T.toL t) := by first | rfl | (symm; assumption) | exact delL_none (fun y hy he => hc ⟨y, hy, he⟩)
            refine A.setH [sl al'10 ((T.toL t).length) cl'11 49 4 (V.flat encIt (T.toL t)), blk bt1 [(.pointer (T.ptr t))] 90, treeI 95 t, sl ao ((T.toL t).length) co 49 4 (V.flat encIt (T.toL t)), blk b4 [(i_ x3.kd), (u_ x3.ak), (i_ x3.ai), (u_ x3.av), (i_ x3.aw), (u_ x3.tk)] 30] (cc (slC hcv13) rfl) ?_
            refine A.sub [(3, (p_ bt1)), (15, (.slice A0 l.length c0)), (16, (i_ (l.length : Int))), (17, (i_ (k : Int))), (4, (.slice al'10 ((T.toL t).length) cl'11)), (18, (b_ (decide ((k : Int) < (l.length : Int))))), (6, (p_ b4)), (7, (b_ false)), (29, (b_ (x3.kd == 0))), (8, (i_ 6)), (45, (b_ false))] (by exact ⟨rfl, rfl, rfl, rfl, (congrArg (fun z_ : List It => some (Value.slice al'10 z_.length cl'11)) hcv13), rfl, rfl, rfl, rfl, rfl, rfl, trivial⟩) ?_
            refine A.region (A.goP [.p, .p] [(3, (p_ bt1)), (15, (.slice A0 l.length c0)), (16, (i_ (l.length : Int))), (17, (i_ (k : Int))), (4, (.slice al'10 ((T.toL t).length) cl'11)), (18, (b_ (decide ((k : Int) < (l.length : Int))))), (6, (p_ b4)), (7, (b_ false)), (29, (b_ (x3.kd == 0))), (8, (i_ 6)), (45, (b_ false)), (80, (p_ bt1)), (81, (.slice al'10 ((T.toL t).length) cl'11))] [] T0 (by kernel_rfl) trivial ?_)
            refine A.cons (A.callT (some 82) [(p_ bt1), (.slice al'10 ((T.toL t).length) cl'11)] [1, 1, 0] ((fun _ => (b_ true))) ((fun _ => True)) ((fun _ => [blk bt1 [(.pointer (T.ptr t))] 90, treeI 95 t, sl al'10 ((T.toL t).length) cl'11 49 4 (V.flat encIt (T.toL t))])) (fun _ => [blk bt1 [(.pointer (T.ptr t))] 90, treeI 95 t, sl al'10 ((T.toL t).length) cl'11 49 4 (V.flat encIt (T.toL t)), sl ao ((T.toL t).length) co 49 4 (V.flat encIt (T.toL t)), blk b4 [(i_ x3.kd), (u_ x3.ak), (i_ x3.ai), (u_ x3.av), (i_ x3.aw), (u_ x3.tk)] 30]) (by kernel_rfl) rfl rfl (fun ww ss hh => same_spec bt1 t al'10 cl'11 (by first | assumption | omega | exact findT_ne (by assumption) (by assumption) | exact findT_eq (by assumption)) (by first | assumption | omega | exact findT_ne (by assumption) (by assumption) | exact findT_eq (by assumption) | exact fun y hy he => hc ⟨y, hy, he⟩) ww hh) (fun _ => rfl) ?_)
            rintro ⟨⟩ -
            refine A.goA [.p, .p, .p, .p, .p, .ld 4, .cq (b_ true), .p, .p] [(3, (p_ bt1)), (15, (.slice A0 l.length c0)), (16, (i_ (l.length : Int))), (17, (i_ (k : Int))), (4, (.slice al'10 ((T.toL t).length) cl'11)), (18, (b_ (decide ((k : Int) < (l.length : Int))))), (6, (p_ b4)), (7, (b_ false)), (29, (b_ (x3.kd == 0))), (8, (i_ 6)), (45, (b_ false)), (91, (b_ false))] [b4] (fun κ => κ.call 22 [(p_ bt1), (.slice al'10 ((T.toL t).length) cl'11), (u_ x3.tk)] (b_ true) ∧ True) (by kernel_rfl) ⟨(fun ww ss => asked_spec bt1 t al'10 cl'11 x3.tk (by first | assumption | omega | exact findT_ne (by assumption) (by assumption) | exact findT_eq (by assumption)) (by first | assumption | omega | exact findT_ne (by assumption) (by assumption) | exact findT_eq (by assumption) | exact fun y hy he => hc ⟨y, hy, he⟩) ww (ss.mem (i := 0) rfl) (ss.mem (i := 1) rfl) ((rd_sl (i := 2) rfl) ww ss)), trivial⟩ ?_
            refine A.tn ?_
            refine A.cond_f rfl ?_
            refine A.skip ?_
            refine A.bn ?_
            refine A.tn ?_
            refine A.region (A.goA [.w ((k : Int) + 1), .p] [(3, (p_ bt1)), (15, (.slice A0 l.length c0)), (16, (i_ (l.length : Int))), (17, (i_ ((k : Int) + 1))), (4, (.slice al'10 ((T.toL t).length) cl'11)), (18, (b_ (decide ((k : Int) < (l.length : Int))))), (6, (p_ b4)), (7, (b_ false)), (29, (b_ (x3.kd == 0))), (8, (i_ 6)), (45, (b_ false)), (91, (b_ false))] [] (fun κ => (IntKind.i64.wrap ((k : Int) + 1) = ((k : Int) + 1)) ∧ True) (by kernel_rfl) ⟨(wrap_i64 (e := (k : Int) + 1) (by constructor <;> omega)), trivial⟩ ?_)
            refine A.tn ?_
            refine A.next (k + 1, t, al'10, cl'11) ⟨(by first | assumption | omega | (simp_all; done) | (simp_all; omega) | grind), (by assumption), (by omega)⟩ (by first | omega | (simp; omega) | (simp_all; omega)) ?_
            exact A.hereK [0, 0, 0] (by exact ⟨rfl, rfl, rfl, rfl, rfl, trivial⟩) (by kernel_rfl)
        · skip
          have p4 := e4; try simp only [decide_eq_true_eq, decide_eq_false_iff_not, beq_iff_eq, beq_eq_false_iff_ne, bne_iff_ne, bne_eq_false_iff_eq, ne_eq, Bool.and_eq_true, Bool.or_eq_true, Bool.or_eq_false_iff, Bool.not_eq_true', Bool.not_eq_false', Int.not_lt, Int.not_le, gt_iff_lt, ge_iff_le, Classical.not_not] at p4
          refine A.seq ?_
          by_cases hc : ∃ y ∈ T.toL t, y.ka = x3.ak ∧ y.ki = x3.ai
          · skip
            refine A.sub [(3, (p_ bt1)), (15, (.slice A0 l.length c0)), (16, (i_ (l.length : Int))), (17, (i_ (k : Int))), (4, (.slice ao ((T.toL t).length) co)), (18, (b_ (decide ((k : Int) < (l.length : Int))))), (6, (p_ b4)), (7, (b_ true)), (29, (b_ (x3.kd == 0)))] (by exact ⟨rfl, rfl, rfl, rfl, rfl, rfl, rfl, (congrArg (fun z_ => some (b_ z_)) (by first | exact decide_eq_true (refFind_pos.2 hc) | exact decide_eq_false (fun h => hc (refFind_pos.1 h)) : decide ((refFind x3.ak x3.ai (T.toL t)) ≥ 0) = true)), rfl, trivial⟩) ?_
            refine A.region (A.goA [.p, .p, .ld 3, .p, .ld 3, .cq (i_ 8), .p] [(3, (p_ bt1)), (15, (.slice A0 l.length c0)), (16, (i_ (l.length : Int))), (17, (i_ (k : Int))), (4, (.slice ao ((T.toL t).length) co)), (18, (b_ (decide ((k : Int) < (l.length : Int))))), (6, (p_ b4)), (7, (b_ true)), (29, (b_ (x3.kd == 0))), (9, (i_ 8))] [b4, b4] (fun κ => κ.call 11 [(p_ bt1), (.agg #[(u_ x3.ak), (i_ x3.ai)]), (.agg #[(u_ x3.av), (i_ x3.aw)])] (i_ 8) ∧ True) (by kernel_rfl) ⟨(fun ww ss => insert_same bt1 t x3.ak x3.ai x3.av x3.aw (by first | assumption | omega | exact findT_ne (by assumption) (by assumption) | exact findT_eq (by assumption)) ww (ss.mem (i := 0) rfl) (ss.mem (i := 1) rfl)), trivial⟩ ?_)
            refine A.tn ?_
            refine A.seq ?_
            refine A.seq ?_
            refine A.region (A.goA [.p, .p, .p, .eq, .p, .p, .p, .p, .sk, .sk, .p, .p] [(3, (p_ bt1)), (15, (.slice A0 l.length c0)), (16, (i_ (l.length : Int))), (17, (i_ (k : Int))), (4, (.slice ao ((T.toL t).length) co)), (18, (b_ (decide ((k : Int) < (l.length : Int))))), (6, (p_ b4)), (7, (b_ true)), (29, (b_ (x3.kd == 0))), (9, (i_ 8)), (68, (b_ false))] [] T0 (by kernel_rfl) trivial ?_)
            refine A.tn ?_
            refine A.cond_f rfl ?_
            refine A.skip ?_
            refine A.tn ?_
            refine A.seq ?_
            refine A.region (A.goA [.p, .p] [(3, (p_ bt1)), (15, (.slice A0 l.length c0)), (16, (i_ (l.length : Int))), (17, (i_ (k : Int))), (4, (.slice ao ((T.toL t).length) co)), (18, (b_ (decide ((k : Int) < (l.length : Int))))), (6, (p_ b4)), (7, (b_ true)), (29, (b_ (x3.kd == 0))), (9, (i_ 8)), (68, (b_ false)), (70, (b_ false))] [] T0 (by kernel_rfl) trivial ?_)
            refine A.tn ?_
            refine A.cond_f rfl ?_
            refine A.skip ?_
            refine A.tn ?_
            refine A.seq ?_
            refine A.region (A.goP [.p, .p] [(3, (p_ bt1)), (15, (.slice A0 l.length c0)), (16, (i_ (l.length : Int))), (17, (i_ (k : Int))), (4, (.slice ao ((T.toL t).length) co)), (18, (b_ (decide ((k : Int) < (l.length : Int))))), (6, (p_ b4)), (7, (b_ true)), (29, (b_ (x3.kd == 0))), (9, (i_ 8)), (68, (b_ false)), (70, (b_ false)), (80, (p_ bt1)), (81, (.slice ao ((T.toL t).length) co))] [] T0 (by kernel_rfl) trivial ?_)
            refine A.cons (A.callT (some 82) [(p_ bt1), (.slice ao ((T.toL t).length) co)] [0, 0, 0] ((fun _ => (b_ true))) ((fun _ => True)) ((fun _ => [blk bt1 [(.pointer (T.ptr t))] 90, treeI 95 t, sl ao ((T.toL t).length) co 49 4 (V.flat encIt (T.toL t))])) (fun _ => [blk bt1 [(.pointer (T.ptr t))] 90, treeI 95 t, sl ao ((T.toL t).length) co 49 4 (V.flat encIt (T.toL t)), blk b4 [(i_ x3.kd), (u_ x3.ak), (i_ x3.ai), (u_ x3.av), (i_ x3.aw), (u_ x3.tk)] 30]) (by kernel_rfl) rfl rfl (fun ww ss hh => same_spec bt1 t ao co (by first | assumption | omega | exact findT_ne (by assumption) (by assumption) | exact findT_eq (by assumption)) (by first | assumption | omega | exact findT_ne (by assumption) (by assumption) | exact findT_eq (by assumption) | exact fun y hy he => hc ⟨y, hy, he⟩) ww hh) (fun _ => rfl) ?_)
            rintro ⟨⟩ -
            refine A.goA [.p, .p, .p, .p, .p, .ld 3, .cq (b_ true), .p, .p] [(3, (p_ bt1)), (15, (.slice A0 l.length c0)), (16, (i_ (l.length : Int))), (17, (i_ (k : Int))), (4, (.slice ao ((T.toL t).length) co)), (18, (b_ (decide ((k : Int) < (l.length : Int))))), (6, (p_ b4)), (7, (b_ true)), (29, (b_ (x3.kd == 0))), (9, (i_ 8)), (68, (b_ false)), (70, (b_ false)), (91, (b_ false))] [b4] (fun κ => κ.call 22 [(p_ bt1), (.slice ao ((T.toL t).length) co), (u_ x3.tk)] (b_ true) ∧ True) (by kernel_rfl) ⟨(fun ww ss => asked_spec bt1 t ao co x3.tk (by first | assumption | omega | exact findT_ne (by assumption) (by assumption) | exact findT_eq (by assumption)) (by first | assumption | omega | exact findT_ne (by assumption) (by assumption) | exact findT_eq (by assumption) | exact fun y hy he => hc ⟨y, hy, he⟩) ww (ss.mem (i := 0) rfl) (ss.mem (i := 1) rfl) ((rd_sl (i := 2) rfl) ww ss)), trivial⟩ ?_
            refine A.tn ?_
            refine A.cond_f rfl ?_
            refine A.skip ?_
            refine A.bn ?_
            refine A.tn ?_
            refine A.region (A.goA [.w ((k : Int) + 1), .p] [(3, (p_ bt1)), (15, (.slice A0 l.length c0)), (16, (i_ (l.length : Int))), (17, (i_ ((k : Int) + 1))), (4, (.slice ao ((T.toL t).length) co)), (18, (b_ (decide ((k : Int) < (l.length : Int))))), (6, (p_ b4)), (7, (b_ true)), (29, (b_ (x3.kd == 0))), (9, (i_ 8)), (68, (b_ false)), (70, (b_ false)), (91, (b_ false))] [] (fun κ => (IntKind.i64.wrap ((k : Int) + 1) = ((k : Int) + 1)) ∧ True) (by kernel_rfl) ⟨(wrap_i64 (e := (k : Int) + 1) (by constructor <;> omega)), trivial⟩ ?_)
            refine A.tn ?_
            refine A.next (k + 1, t, ao, co) ⟨(by first | assumption | omega | (simp_all; done) | (simp_all; omega) | grind), (by assumption), (by omega)⟩ (by first | omega | (simp; omega) | (simp_all; omega)) ?_
            exact A.hereK [0, 0, 0] (by exact ⟨rfl, rfl, rfl, rfl, rfl, trivial⟩) (by kernel_rfl)
          · skip
            refine A.sub [(3, (p_ bt1)), (15, (.slice A0 l.length c0)), (16, (i_ (l.length : Int))), (17, (i_ (k : Int))), (4, (.slice ao ((T.toL t).length) co)), (18, (b_ (decide ((k : Int) < (l.length : Int))))), (6, (p_ b4)), (7, (b_ false)), (29, (b_ (x3.kd == 0)))] (by exact ⟨rfl, rfl, rfl, rfl, rfl, rfl, rfl, (congrArg (fun z_ => some (b_ z_)) (by first | exact decide_eq_true (refFind_pos.2 hc) | exact decide_eq_false (fun h => hc (refFind_pos.1 h)) : decide ((refFind x3.ak x3.ai (T.toL t)) ≥ 0) = false)), rfl, trivial⟩) ?_
            refine A.region (A.goP [.p, .p, .ld 3, .p, .ld 3] [(3, (p_ bt1)), (15, (.slice A0 l.length c0)), (16, (i_ (l.length : Int))), (17, (i_ (k : Int))), (4, (.slice ao ((T.toL t).length) co)), (18, (b_ (decide ((k : Int) < (l.length : Int))))), (6, (p_ b4)), (7, (b_ false)), (29, (b_ (x3.kd == 0))), (51, (p_ bt1)), (53, (.agg #[(u_ x3.ak), (i_ x3.ai)])), (55, (.agg #[(u_ x3.av), (i_ x3.aw)]))] [b4, b4] T0 (by kernel_rfl) trivial ?_)
            refine A.cons (A.callT (some 56) [(p_ bt1), (.agg #[(u_ x3.ak), (i_ x3.ai)]), (.agg #[(u_ x3.av), (i_ x3.aw)])] [0, 0] ((fun zt14 => (i_ 0))) ((fun zt14 => WF zt14 ∧ T.toL zt14 = insL (⟨x3.ak, x3.ai, x3.av, x3.aw⟩ : It) t.toL)) ((fun zt14 => [blk bt1 [(.pointer (T.ptr zt14))] 90, treeI 95 zt14])) (fun zt14 => [blk bt1 [(.pointer (T.ptr zt14))] 90, treeI 95 zt14, sl ao ((T.toL t).length) co 49 4 (V.flat encIt (T.toL t)), blk b4 [(i_ x3.kd), (u_ x3.ak), (i_ x3.ai), (u_ x3.av), (i_ x3.aw), (u_ x3.tk)] 30]) (by kernel_rfl) rfl rfl (fun ww ss hh => insert_new bt1 t x3.ak x3.ai x3.av x3.aw (by first | assumption | omega | exact findT_ne (by assumption) (by assumption) | exact findT_eq (by assumption)) (by first | assumption | omega | exact findT_ne (by assumption) (by assumption) | exact findT_eq (by assumption) | exact fun y hy he => hc ⟨y, hy, he⟩) (by first | assumption | omega | exact findT_ne (by assumption) (by assumption) | exact findT_eq (by assumption)) ww hh) (fun _ => rfl) ?_)
            rintro zt14 hz11
            obtain ⟨hz11W, hz11L⟩ := id hz11
            refine A.goA [.p] [(3, (p_ bt1)), (15, (.slice A0 l.length c0)), (16, (i_ (l.length : Int))), (17, (i_ (k : Int))), (4, (.slice ao ((T.toL t).length) co)), (18, (b_ (decide ((k : Int) < (l.length : Int))))), (6, (p_ b4)), (7, (b_ false)), (29, (b_ (x3.kd == 0))), (9, (i_ 0))] [] T0 (by kernel_rfl) trivial ?_
            refine A.tn ?_
            refine A.seq ?_
            refine A.seq ?_
            refine A.region (A.goA [.p, .p, .p, .eq, .p, .p, .p, .p, .p, .p, .p, .p] [(3, (p_ bt1)), (15, (.slice A0 l.length c0)), (16, (i_ (l.length : Int))), (17, (i_ (k : Int))), (4, (.slice ao ((T.toL t).length) co)), (18, (b_ (decide ((k : Int) < (l.length : Int))))), (6, (p_ b4)), (7, (b_ false)), (29, (b_ (x3.kd == 0))), (9, (i_ 0)), (68, (b_ false))] [] T0 (by kernel_rfl) trivial ?_)
            refine A.tn ?_
            refine A.cond_f rfl ?_
            refine A.skip ?_
            refine A.tn ?_
            refine A.seq ?_
            refine A.region (A.goA [.p, .p] [(3, (p_ bt1)), (15, (.slice A0 l.length c0)), (16, (i_ (l.length : Int))), (17, (i_ (k : Int))), (4, (.slice ao ((T.toL t).length) co)), (18, (b_ (decide ((k : Int) < (l.length : Int))))), (6, (p_ b4)), (7, (b_ false)), (29, (b_ (x3.kd == 0))), (9, (i_ 0)), (68, (b_ false)), (70, (b_ true))] [] T0 (by kernel_rfl) trivial ?_)
            refine A.tn ?_
            refine A.cond_t rfl ?_
            refine A.draw2 [8] 10 (by kernel_rfl) ?_
            refine A.drawP 2 [.p, .p, .ld 3, .cq (.agg #[(u_ x3.ak), (i_ x3.ai)]), .p, .ld 3, .cq (.agg #[(u_ x3.av), (i_ x3.aw)]), .p] [0, 1, 2, 3, 4, 5, 6, 7] [(3, (p_ bt1)), (15, (.slice A0 l.length c0)), (16, (i_ (l.length : Int))), (17, (i_ (k : Int))), (4, (.slice ao ((T.toL t).length) co)), (18, (b_ (decide ((k : Int) < (l.length : Int))))), (6, (p_ b4)), (7, (b_ false)), (29, (b_ (x3.kd == 0))), (9, (i_ 0)), (68, (b_ false)), (70, (b_ true)), (71, (.slice ao ((T.toL t).length) co)), (78, (.agg #[(u_ x3.ak), (i_ x3.ai), (u_ x3.av), (i_ x3.aw)]))] [b4, b4] (fun κ => κ.call 18 [(.agg #[(u_ x3.ak), (i_ x3.ai)])] (.agg #[(u_ x3.ak), (i_ x3.ai)]) ∧ κ.call 18 [(.agg #[(u_ x3.av), (i_ x3.aw)])] (.agg #[(u_ x3.av), (i_ x3.aw)]) ∧ True) (by kernel_rfl) ⟨(fun ww ss => ref_spec x3.ak x3.ai ww), (fun ww ss => ref_spec x3.av x3.aw ww), trivial⟩ ?_
            refine A.only2 8 rfl (by kernel_rfl) (A.callT (some 79) [(.slice ao ((T.toL t).length) co), (.agg #[(u_ x3.ak), (i_ x3.ai), (u_ x3.av), (i_ x3.aw)])] [] ((fun zz => match zz with | (al'15, cl'16) => (.slice al'15 ((insL (⟨x3.ak, x3.ai, x3.av, x3.aw⟩ : It) (T.toL t)).length) cl'16))) ((fun zz => match zz with | (al'15, cl'16) => True)) ((fun zz => match zz with | (al'15, cl'16) => [sl al'15 ((insL (⟨x3.ak, x3.ai, x3.av, x3.aw⟩ : It) (T.toL t)).length) cl'16 49 4 (V.flat encIt (insL (⟨x3.ak, x3.ai, x3.av, x3.aw⟩ : It) (T.toL t)))])) (fun zz => match zz with | (al'15, cl'16) => [sl al'15 ((insL (⟨x3.ak, x3.ai, x3.av, x3.aw⟩ : It) (T.toL t)).length) cl'16 49 4 (V.flat encIt (insL (⟨x3.ak, x3.ai, x3.av, x3.aw⟩ : It) (T.toL t))), blk bt1 [(.pointer (T.ptr zt14))] 90, treeI 95 zt14, sl ao ((T.toL t).length) co 49 4 (V.flat encIt (T.toL t)), blk b4 [(i_ x3.kd), (u_ x3.ak), (i_ x3.ai), (u_ x3.av), (i_ x3.aw), (u_ x3.tk)] 30]) (by kernel_rfl) rfl rfl (fun ww ss hh => rput_spec ao (T.toL t) co (⟨x3.ak, x3.ai, x3.av, x3.aw⟩ : It) (by first | assumption | omega | exact findT_ne (by assumption) (by assumption) | exact findT_eq (by assumption) | exact fun y hy he => hc ⟨y, hy, he⟩) ww ((rd_sl (i := 2) rfl) ww ss) hh) (fun _ => rfl) ?_)
            rintro ⟨al'15, cl'16⟩ -
            refine A.stage ?_
            refine A.drawP 0 [.p] [9] [(3, (p_ bt1)), (15, (.slice A0 l.length c0)), (16, (i_ (l.length : Int))), (17, (i_ (k : Int))), (4, (.slice al'15 ((insL (⟨x3.ak, x3.ai, x3.av, x3.aw⟩ : It) (T.toL t)).length) cl'16)), (18, (b_ (decide ((k : Int) < (l.length : Int))))), (6, (p_ b4)), (7, (b_ false)), (29, (b_ (x3.kd == 0))), (9, (i_ 0)), (68, (b_ false)), (70, (b_ true))] [] T0 (by kernel_rfl) trivial ?_
            refine A.fin2 (by kernel_rfl) ?_
            refine A.tn ?_
            refine A.seq ?_
            have hcv18 : (insL (⟨x3.ak, x3.ai, x3.av, x3.aw⟩ : It) (T.toL t)) = (T.toL zt14) := by first | rfl | (symm; assumption) | exact delL_none (fun y hy he => hc ⟨y, hy, he⟩)
            refine A.setH [sl al'15 ((T.toL zt14).length) cl'16 49 4 (V.flat encIt (T.toL zt14)), blk bt1 [(.pointer (T.ptr zt14))] 90, treeI 95 zt14, sl ao ((T.toL t).length) co 49 4 (V.flat encIt (T.toL t)), blk b4 [(i_ x3.kd), (u_ x3.ak), (i_ x3.ai), (u_ x3.av), (i_ x3.aw), (u_ x3.tk)] 30] (cc (slC hcv18) rfl) ?_
            refine A.sub [(3, (p_ bt1)), (15, (.slice A0 l.length c0)), (16, (i_ (l.length : Int))), (17, (i_ (k : Int))), (4, (.slice al'15 ((T.toL zt14).length) cl'16)), (18, (b_ (decide ((k : Int) < (l.length : Int))))), (6, (p_ b4)), (7, (b_ false)), (29, (b_ (x3.kd == 0))), (9, (i_ 0)), (68, (b_ false)), (70, (b_ true))] (by exact ⟨rfl, rfl, rfl, rfl, (congrArg (fun z_ : List It => some (Value.slice al'15 z_.length cl'16)) hcv18), rfl, rfl, rfl, rfl, rfl, rfl, rfl, trivial⟩) ?_
            have hlen_ : (T.toL zt14).length ≤ k + 1 := by first | omega | (have h1_ := congrArg List.length (by assumption : T.toL zt14 = insL _ _); rw [insL_len] at h1_; omega) | (have h1_ := congrArg List.length (by assumption : T.toL zt14 = delL _ _ _); have h2_ := delL_len (a := x3.ak) (i := x3.ai) (T.toL t); omega)
            refine A.region (A.goP [.p, .p] [(3, (p_ bt1)), (15, (.slice A0 l.length c0)), (16, (i_ (l.length : Int))), (17, (i_ (k : Int))), (4, (.slice al'15 ((T.toL zt14).length) cl'16)), (18, (b_ (decide ((k : Int) < (l.length : Int))))), (6, (p_ b4)), (7, (b_ false)), (29, (b_ (x3.kd == 0))), (9, (i_ 0)), (68, (b_ false)), (70, (b_ true)), (80, (p_ bt1)), (81, (.slice al'15 ((T.toL zt14).length) cl'16))] [] T0 (by kernel_rfl) trivial ?_)
            refine A.cons (A.callT (some 82) [(p_ bt1), (.slice al'15 ((T.toL zt14).length) cl'16)] [1, 1, 0] ((fun _ => (b_ true))) ((fun _ => True)) ((fun _ => [blk bt1 [(.pointer (T.ptr zt14))] 90, treeI 95 zt14, sl al'15 ((T.toL zt14).length) cl'16 49 4 (V.flat encIt (T.toL zt14))])) (fun _ => [blk bt1 [(.pointer (T.ptr zt14))] 90, treeI 95 zt14, sl al'15 ((T.toL zt14).length) cl'16 49 4 (V.flat encIt (T.toL zt14)), sl ao ((T.toL t).length) co 49 4 (V.flat encIt (T.toL t)), blk b4 [(i_ x3.kd), (u_ x3.ak), (i_ x3.ai), (u_ x3.av), (i_ x3.aw), (u_ x3.tk)] 30]) (by kernel_rfl) rfl rfl (fun ww ss hh => same_spec bt1 zt14 al'15 cl'16 (by first | assumption | omega | exact findT_ne (by assumption) (by assumption) | exact findT_eq (by assumption)) (by first | assumption | omega | exact findT_ne (by assumption) (by assumption) | exact findT_eq (by assumption) | exact fun y hy he => hc ⟨y, hy, he⟩) ww hh) (fun _ => rfl) ?_)
            rintro ⟨⟩ -
            refine A.goA [.p, .p, .p, .p, .p, .ld 4, .cq (b_ true), .p, .p] [(3, (p_ bt1)), (15, (.slice A0 l.length c0)), (16, (i_ (l.length : Int))), (17, (i_ (k : Int))), (4, (.slice al'15 ((T.toL zt14).length) cl'16)), (18, (b_ (decide ((k : Int) < (l.length : Int))))), (6, (p_ b4)), (7, (b_ false)), (29, (b_ (x3.kd == 0))), (9, (i_ 0)), (68, (b_ false)), (70, (b_ true)), (91, (b_ false))] [b4] (fun κ => κ.call 22 [(p_ bt1), (.slice al'15 ((T.toL zt14).length) cl'16), (u_ x3.tk)] (b_ true) ∧ True) (by kernel_rfl) ⟨(fun ww ss => asked_spec bt1 zt14 al'15 cl'16 x3.tk (by first | assumption | omega | exact findT_ne (by assumption) (by assumption) | exact findT_eq (by assumption)) (by first | assumption | omega | exact findT_ne (by assumption) (by assumption) | exact findT_eq (by assumption) | exact fun y hy he => hc ⟨y, hy, he⟩) ww (ss.mem (i := 0) rfl) (ss.mem (i := 1) rfl) ((rd_sl (i := 2) rfl) ww ss)), trivial⟩ ?_
            refine A.tn ?_
            refine A.cond_f rfl ?_
            refine A.skip ?_
            refine A.bn ?_
            refine A.tn ?_
            refine A.region (A.goA [.w ((k : Int) + 1), .p] [(3, (p_ bt1)), (15, (.slice A0 l.length c0)), (16, (i_ (l.length : Int))), (17, (i_ ((k : Int) + 1))), (4, (.slice al'15 ((T.toL zt14).length) cl'16)), (18, (b_ (decide ((k : Int) < (l.length : Int))))), (6, (p_ b4)), (7, (b_ false)), (29, (b_ (x3.kd == 0))), (9, (i_ 0)), (68, (b_ false)), (70, (b_ true)), (91, (b_ false))] [] (fun κ => (IntKind.i64.wrap ((k : Int) + 1) = ((k : Int) + 1)) ∧ True) (by kernel_rfl) ⟨(wrap_i64 (e := (k : Int) + 1) (by constructor <;> omega)), trivial⟩ ?_)
            refine A.tn ?_
            refine A.next (k + 1, zt14, al'15, cl'16) ⟨(by first | assumption | omega | (simp_all; done) | (simp_all; omega) | grind), (by assumption), (by omega)⟩ (by first | omega | (simp; omega) | (simp_all; omega)) ?_
            exact A.hereK [0, 0, 0] (by exact ⟨rfl, rfl, rfl, rfl, rfl, trivial⟩) (by kernel_rfl)
      · skip
        have p3 := of_decide_eq_false e3
        refine A.exit ?_
        refine A.te ?_
        refine A.te ?_
        refine A.bh ?_
        refine A.tn ?_
        refine A.seq ?_
        refine A.region (A.goA [.cq (b_ true), .p] [(3, (p_ bt1)), (15, (.slice A0 l.length c0)), (16, (i_ (l.length : Int))), (17, (i_ (k : Int))), (4, (.slice ao ((T.toL t).length) co)), (18, (b_ (decide ((k : Int) < (l.length : Int))))), (2, (b_ true))] [] (fun κ => κ.call 9 [] (b_ true) ∧ True) (by kernel_rfl) ⟨(fun ww ss => three_spec ww), trivial⟩ ?_)
        refine A.tn ?_
        refine A.ret ?_
        refine A.postQ [(b_ true)] (fun aa ww rr ss => ⟨rv_tmp rr rfl, trivial⟩) ?_
        rfl
end Go.Proofs.Ytlkclhdhfamkdaa
