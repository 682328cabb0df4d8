/- What the functions of this layer do, proved operation by operation, for all arguments, under the conditions that each theorem states. -/
import Derived.Test.YtinnnoimmioaiaaProg
import Derived.Test.YtinnnoimmioaiaaL2
namespace Go.Proofs.Ytinnnoimmioaiaa
open Go V
set_option linter.unusedVariables false
set_option linter.unusedSimpArgs false
set_option maxHeartbeats 4000000
set_option maxRecDepth 100000
structure Cv where
  ka : Int
  kb : Int
  kc : Int
  deriving Inhabited, DecidableEq
def encCv (x : Cv) : List Value := [(u_ x.ka), (u_ x.kb), (u_ x.kc)]
theorem encCv_len (x : Cv) : (encCv x).length = 3 := rfl
theorem encCv_one (x : Cv) : (encCv x).all Value.oneCell' = true := rfl
abbrev sCv (A : Option Addr) (xs : List Cv) (c : Nat) : V.Item := sl A xs.length c 43 3 (V.flat encCv xs)
/-- what a curve is, as the program has it, and as the document does -/
def ofC (a b c : Int) : Int := if a = 0 ∧ b = 0 ∧ c = 0 then 1 else if (a > 4294967295 ∨ c > 4294967295) ∨ b > 1048576 then 0 else if b = 0 ∧ a = c then 2 else if b > 0 ∧ a > c then 3 else if (b > 0 ∧ a = 0) ∧ c > 0 then 4 else 0
def ofR (a b c : Int) : Int := if (a > 4294967295 ∨ c > 4294967295) ∨ b > 1048576 then 0 else if (a = 0 ∧ c = 0) ∧ b = 0 then 1 else if b = 0 ∧ a = c then 2 else if b = 0 then 0 else if a > c then 3 else if a = 0 ∧ c > 0 then 4 else 0
theorem ofC_rng (a b c : Int) : 0 ≤ ofC a b c ∧ ofC a b c ≤ 4 := by unfold ofC; grind
theorem ofC_ofR {a b c : Int} (ha : 0 ≤ a) (hb : 0 ≤ b) (hc : 0 ≤ c) : ofC a b c = ofR a b c := by unfold ofC ofR; grind

theorem of_spec (a b c : Int) (w : World) :
    Calls Try.prog 86 #[(.agg #[u_ a, u_ b, u_ c])] w fun e w' => e = .returned (i_ (ofC a b c)) ∧ Fr [] w w' := by
  refine calls_of (args := [(.agg #[u_ a, u_ b, u_ c])]) (penv [(.agg #[u_ a, u_ b, u_ c])]) [] [] Try.func86 rfl rfl (look_penv _) (HS.nil w) ?_
  refine A.sr (A.n1 [.al, .p] [0] (fun b1 => [(1, p_ b1)]) (fun b1 => blk b1 [u_ a, u_ b, u_ c] 43) ?_)
  intro b1
  refine A.tn (A.seq (A.block (A.sr (A.gk [.ld 0, .p, .eq, .p] [] [(3, b_ ((a == 0) && ((b == 0) && (c == 0))))] [b1] T0 trivial ?_))))
  refine A.tn (A.cn ((a == 0) && ((b == 0) && (c == 0))) (fun e1 => ?_) (fun e1 => ?_))
  · have p1 := e1; try simp only [nrm] at p1
    refine A.sr (A.g [.p] [1, 3] [(2, i_ 1)] ?_)
    refine A.tn (A.ret (A.br (A.tr (A.pQ [i_ 1] ?_))))
    show ((i_ 1) : Value) = (i_ (ofC a b c))
    refine congrArg (Value.int .i64) ?_; unfold ofC; grind [imax]
  have p1 := e1; try simp only [nrm] at p1
  refine A.sr (A.gk [.p, .ld 0, .p, .ld 0, .p, .p, .p, .o, .p, .ld 0, .p, .cl, .p] [3] [(7, b_ ((decide ((imax a c) > 4294967295)) || (decide (b > 1048576))))] [b1, b1, b1] T0 trivial ?_)
  refine A.tn (A.cn ((decide ((imax a c) > 4294967295)) || (decide (b > 1048576))) (fun e2 => ?_) (fun e2 => ?_))
  · have p2 := e2; try simp only [nrm] at p2
    refine A.sr (A.g [.p] [1, 7] [(2, i_ 0)] ?_)
    refine A.tn (A.ret (A.br (A.tr (A.pQ [i_ 0] ?_))))
    show ((i_ 0) : Value) = (i_ (ofC a b c))
    refine congrArg (Value.int .i64) ?_; unfold ofC; grind [imax]
  have p2 := e2; try simp only [nrm] at p2
  refine A.sr (A.gk [.p, .ld 0, .p, .p, .o, .p, .ld 0, .p, .ld 0, .p, .cl, .p] [7] [(19, b_ ((b == 0) && (a == c)))] [b1, b1, b1] T0 trivial ?_)
  refine A.tn (A.cn ((b == 0) && (a == c)) (fun e3 => ?_) (fun e3 => ?_))
  · have p3 := e3; try simp only [nrm] at p3
    refine A.sr (A.g [.p] [1, 19] [(2, i_ 2)] ?_)
    refine A.tn (A.ret (A.br (A.tr (A.pQ [i_ 2] ?_))))
    show ((i_ 2) : Value) = (i_ (ofC a b c))
    refine congrArg (Value.int .i64) ?_; unfold ofC; grind [imax]
  have p3 := e3; try simp only [nrm] at p3
  refine A.sr (A.gk [.p, .ld 0, .p, .p, .o, .p, .ld 0, .p, .ld 0, .p, .cl, .p] [19] [(30, b_ ((decide (b > 0)) && (decide (a > c))))] [b1, b1, b1] T0 trivial ?_)
  refine A.tn (A.cn ((decide (b > 0)) && (decide (a > c))) (fun e4 => ?_) (fun e4 => ?_))
  · have p4 := e4; try simp only [nrm] at p4
    refine A.sr (A.g [.p] [1, 30] [(2, i_ 3)] ?_)
    refine A.tn (A.ret (A.br (A.tr (A.pQ [i_ 3] ?_))))
    show ((i_ 3) : Value) = (i_ (ofC a b c))
    refine congrArg (Value.int .i64) ?_; unfold ofC; grind [imax]
  have p4 := e4; try simp only [nrm] at p4
  refine A.sr (A.gk [.p, .ld 0, .p, .p, .o, .p, .ld 0, .p, .cl, .p, .o, .p, .ld 0, .p, .cl, .p] [1, 30] [(41, b_ (((decide (b > 0)) && (a == 0)) && (decide (c > 0))))] [b1, b1, b1] T0 trivial ?_)
  refine A.tn (A.cn (((decide (b > 0)) && (a == 0)) && (decide (c > 0))) (fun e5 => ?_) (fun e5 => ?_))
  · have p5 := e5; try simp only [nrm] at p5
    refine A.sr (A.g [.p] [41] [(2, i_ 4)] ?_)
    refine A.tn (A.ret (A.br (A.tr (A.pQ [i_ 4] ?_))))
    show ((i_ 4) : Value) = (i_ (ofC a b c))
    refine congrArg (Value.int .i64) ?_; unfold ofC; grind [imax]
  have p5 := e5; try simp only [nrm] at p5
  refine A.skip (A.bn (tsr (A.g [.p] [41] [(2, i_ 0)] ?_)))
  refine A.tn (A.ret (A.pQ [i_ 0] ?_))
  show ((i_ 0) : Value) = (i_ (ofC a b c))
  refine congrArg (Value.int .i64) ?_; unfold ofC; grind [imax]

theorem rof_spec (a b c : Int) (w : World) :
    Calls Try.prog 97 #[(.agg #[u_ a, u_ b, u_ c])] w fun e w' => e = .returned (i_ (ofR a b c)) ∧ Fr [] w w' := by
  refine calls_of (args := [(.agg #[u_ a, u_ b, u_ c])]) (penv [(.agg #[u_ a, u_ b, u_ c])]) [] [] Try.func97 rfl rfl (look_penv _) (HS.nil w) ?_
  refine A.sr (A.n1 [.al, .p] [0] (fun b1 => [(1, p_ b1)]) (fun b1 => blk b1 [u_ a, u_ b, u_ c] 43) ?_)
  intro b1
  refine tsr (A.g [.p] [] [(3, u_ 4294967295)] ?_)
  refine A.tn (A.seq (A.sr (A.gk [.p, .ld 0, .p, .p, .p, .o, .p, .ld 0, .p, .p, .cl, .p, .o, .p, .ld 0, .p, .cl] [3] [(18, b_ (((decide (a > 4294967295)) || (decide (c > 4294967295))) || (decide (b > 1048576))))] [b1, b1, b1] T0 trivial ?_)))
  refine A.tn (A.cn (((decide (a > 4294967295)) || (decide (c > 4294967295))) || (decide (b > 1048576))) (fun e1 => ?_) (fun e1 => ?_))
  · have p1 := e1; try simp only [nrm] at p1
    refine A.sr (A.g [.p] [1, 18] [(2, i_ 0)] ?_)
    refine A.tn (A.ret (A.tr (A.pQ [i_ 0] ?_)))
    show ((i_ 0) : Value) = (i_ (ofR a b c))
    refine congrArg (Value.int .i64) ?_; unfold ofR; grind [imax]
  have p1 := e1; try simp only [nrm] at p1
  refine A.skip (A.tn (A.seq (A.sr (A.gk [.p, .ld 0, .p, .p, .o, .p, .ld 0, .p, .cl, .p, .o, .p, .ld 0, .p, .cl] [18] [(31, b_ (((a == 0) && (c == 0)) && (b == 0)))] [b1, b1, b1] T0 trivial ?_))))
  refine A.tn (A.cn (((a == 0) && (c == 0)) && (b == 0)) (fun e2 => ?_) (fun e2 => ?_))
  · have p2 := e2; try simp only [nrm] at p2
    refine A.sr (A.g [.p] [1, 31] [(2, i_ 1)] ?_)
    refine A.tn (A.ret (A.tr (A.pQ [i_ 1] ?_)))
    show ((i_ 1) : Value) = (i_ (ofR a b c))
    refine congrArg (Value.int .i64) ?_; unfold ofR; grind [imax]
  have p2 := e2; try simp only [nrm] at p2
  refine A.skip (A.tn (A.seq (A.sr (A.gk [.p, .ld 0, .p, .p, .o, .p, .ld 0, .p, .ld 0, .p, .cl] [31] [(41, b_ ((b == 0) && (a == c)))] [b1, b1, b1] T0 trivial ?_))))
  refine A.tn (A.cn ((b == 0) && (a == c)) (fun e3 => ?_) (fun e3 => ?_))
  · have p3 := e3; try simp only [nrm] at p3
    refine A.sr (A.g [.p] [1, 41] [(2, i_ 2)] ?_)
    refine A.tn (A.ret (A.tr (A.pQ [i_ 2] ?_)))
    show ((i_ 2) : Value) = (i_ (ofR a b c))
    refine congrArg (Value.int .i64) ?_; unfold ofR; grind [imax]
  have p3 := e3; try simp only [nrm] at p3
  refine A.skip (A.tn (A.seq (A.sr (A.gk [.p, .ld 0, .p] [41] [(44, b_ (b == 0))] [b1] T0 trivial ?_))))
  refine A.tn (A.cn (b == 0) (fun e4 => ?_) (fun e4 => ?_))
  · have p4 := e4; try simp only [nrm] at p4
    refine A.sr (A.g [.p] [1, 44] [(2, i_ 0)] ?_)
    refine A.tn (A.ret (A.tr (A.pQ [i_ 0] ?_)))
    show ((i_ 0) : Value) = (i_ (ofR a b c))
    refine congrArg (Value.int .i64) ?_; unfold ofR; grind [imax]
  have p4 := e4; try simp only [nrm] at p4
  refine A.skip (A.tn (A.seq (A.sr (A.gk [.p, .ld 0, .p, .ld 0, .p] [44] [(49, b_ (decide (a > c)))] [b1, b1] T0 trivial ?_))))
  refine A.tn (A.cn (decide (a > c)) (fun e5 => ?_) (fun e5 => ?_))
  · have p5 := of_decide_eq_true e5
    refine A.sr (A.g [.p] [1, 49] [(2, i_ 3)] ?_)
    refine A.tn (A.ret (A.tr (A.pQ [i_ 3] ?_)))
    show ((i_ 3) : Value) = (i_ (ofR a b c))
    refine congrArg (Value.int .i64) ?_; unfold ofR; grind [imax]
  have p5 := of_decide_eq_false e5
  refine A.skip (A.tn (A.seq (A.sr (A.gk [.p, .ld 0, .p, .p, .o, .p, .ld 0, .p, .cl] [1, 49] [(57, b_ ((a == 0) && (decide (c > 0))))] [b1, b1] T0 trivial ?_))))
  refine A.tn (A.cn ((a == 0) && (decide (c > 0))) (fun e6 => ?_) (fun e6 => ?_))
  · have p6 := e6; try simp only [nrm] at p6
    refine A.sr (A.g [.p] [57] [(2, i_ 4)] ?_)
    refine A.tn (A.ret (A.tr (A.pQ [i_ 4] ?_)))
    show ((i_ 4) : Value) = (i_ (ofR a b c))
    refine congrArg (Value.int .i64) ?_; unfold ofR; grind [imax]
  have p6 := e6; try simp only [nrm] at p6
  refine A.skip (tsr (A.g [.p] [57] [(2, i_ 0)] ?_))
  refine A.tn (A.ret (A.pQ [i_ 0] ?_))
  show ((i_ 0) : Value) = (i_ (ofR a b c))
  refine congrArg (Value.int .i64) ?_; unfold ofR; grind [imax]

theorem cright_spec (a b c : Int) (w : World) :
    Calls Try.prog 85 #[(.agg #[u_ a, u_ b, u_ c])] w fun e w' => e = .returned (b_ (ofC a b c != 0)) ∧ Fr [] w w' := by
  refine calls_of (args := [(.agg #[u_ a, u_ b, u_ c])]) (penv [(.agg #[u_ a, u_ b, u_ c])]) [] [] Try.func85 rfl rfl (look_penv _) (HS.nil w) ?_
  refine A.sr (A.n1 [.al, .p] [0] (fun b1 => [(1, p_ b1)]) (fun b1 => blk b1 [u_ a, u_ b, u_ c] 43) ?_)
  intro b1
  refine tsr (A.gk [.ld 0, .cq (i_ (ofC a b c)), .p, .p] [1] [(2, b_ ((ofC a b c) != 0))] [b1] (fun κ => κ.call 86 [(.agg #[u_ a, u_ b, u_ c])] (i_ (ofC a b c)) ∧ True) ⟨(fun ww ss => of_spec a b c ww), trivial⟩ ?_)
  refine A.tn (A.ret (A.pQ [b_ ((ofC a b c) != 0)] ?_))
  show ((b_ ((ofC a b c) != 0)) : Value) = (b_ (ofC a b c != 0))
  rfl
end Go.Proofs.Ytinnnoimmioaiaa
