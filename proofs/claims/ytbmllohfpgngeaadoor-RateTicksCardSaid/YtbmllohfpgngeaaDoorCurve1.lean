/- What the functions of this layer do, proved operation by operation, for all arguments, under the conditions that each theorem states. -/
import Derived.Test.YtbmllohfpgngeaaDoorProg
import Derived.Test.YtbmllohfpgngeaaDoorVq
namespace Go.Proofs.YtbmllohfpgngeaaDoor
open Go V
set_option linter.unusedVariables false
set_option linter.unusedSimpArgs false
structure Cv where
  ka : Int
  kb : Int
  kc : Int
  deriving Inhabited, DecidableEq
def encCv (x : Cv) : List Value := [(u_ x.ka), (u_ x.kb), (u_ x.kc)]
theorem encCv_len (x : Cv) : (encCv x).length = 3 := rfl
theorem encCv_one (x : Cv) : (encCv x).all Value.oneCell' = true := rfl
abbrev sCv (A : Option Addr) (xs : List Cv) (c : Nat) : V.Item := sl A xs.length c 44 3 (V.flat encCv xs)
/-- what a curve is, as the program has it, and as the document does -/
def ofC (a b c : Int) : Int := if a = 0 ∧ b = 0 ∧ c = 0 then 1 else if (a > 4294967295 ∨ c > 4294967295) ∨ b > 1048576 then 0 else if b = 0 ∧ a = c then 2 else if b > 0 ∧ a > c then 3 else if (b > 0 ∧ a = 0) ∧ c > 0 then 4 else 0
def ofR (a b c : Int) : Int := if (a > 4294967295 ∨ c > 4294967295) ∨ b > 1048576 then 0 else if (a = 0 ∧ c = 0) ∧ b = 0 then 1 else if b = 0 ∧ a = c then 2 else if b = 0 then 0 else if a > c then 3 else if a = 0 ∧ c > 0 then 4 else 0
theorem ofC_rng (a b c : Int) : 0 ≤ ofC a b c ∧ ofC a b c ≤ 4 := by unfold ofC; grind
theorem ofC_ofR {a b c : Int} (ha : 0 ≤ a) (hb : 0 ≤ b) (hc : 0 ≤ c) : ofC a b c = ofR a b c := by unfold ofC ofR; grind

set_option maxHeartbeats 4000000 in
set_option maxRecDepth 100000 in
theorem of_spec (a b c : Int) (w : World) :
    Calls Tryd.prog 63 #[(.agg #[u_ a, u_ b, u_ c])] w fun e w' => e = .returned (i_ (ofC a b c)) ∧ Fr [] w w' := by
  refine calls_of (args := [(.agg #[u_ a, u_ b, u_ c])]) (penv [(.agg #[u_ a, u_ b, u_ c])]) [] [] Tryd.func63 rfl rfl (look_penv _) (HS.nil w) ?_
  refine A.norm [(0, (.agg #[u_ a, u_ b, u_ c]))] [] (by exact ⟨rfl, trivial⟩) rfl ?_
  refine A.seq (A.region (A.goA1 [.al, .p] [0, 1, 2] (fun b1 => [(0, (.agg #[u_ a, u_ b, u_ c])), (1, p_ b1), (2, i_ 0)]) (fun b1 => [blk b1 [u_ a, u_ b, u_ c] 44]) (fun b1 => []) (fun _ => T0) (fun _ => by kernel_rfl) (fun b1 => trivial) ?_))
  intro b1
  refine A.tn (A.seq (A.block (A.seq (A.region (A.goA [.ld 0, .p, .eq, .p] [(0, (.agg #[u_ a, u_ b, u_ c])), (1, p_ b1), (2, i_ 0), (3, b_ ((a == 0) && ((b == 0) && (c == 0))))] [b1] T0 (by kernel_rfl) trivial ?_)))))
  refine A.tn (A.cond (E := (a == 0) && ((b == 0) && (c == 0))) rfl (fun e1 => ?_) (fun e1 => ?_))
  · skip
    have p1 := e1; try simp only [nrm] at p1
    refine A.seq (A.region (A.goA [.p] [(0, (.agg #[u_ a, u_ b, u_ c])), (1, p_ b1), (2, i_ 1), (3, b_ ((a == 0) && ((b == 0) && (c == 0))))] [] T0 (by kernel_rfl) trivial ?_))
    refine A.tn (A.ret (A.br (A.tr (A.postQ [i_ 1] (fun aa ww rr ss => ⟨rv_tmp rr rfl, trivial⟩) ?_))))
    show ((i_ 1) : Value) = (i_ (ofC a b c))
    refine congrArg (Value.int .i64) ?_; unfold ofC; grind [imax]
  · skip
    have p1 := e1; try simp only [nrm] at p1
    refine A.seq (A.region (A.goA [.p, .ld 0, .p, .ld 0, .p, .p, .p, .o, .p, .ld 0, .p, .cl, .p] [(0, (.agg #[u_ a, u_ b, u_ c])), (1, p_ b1), (2, i_ 0), (3, b_ ((a == 0) && ((b == 0) && (c == 0)))), (7, b_ ((decide ((imax a c) > 4294967295)) || (decide (b > 1048576))))] [b1, b1, b1] T0 (by kernel_rfl) trivial ?_))
    refine A.tn (A.cond (E := (decide ((imax a c) > 4294967295)) || (decide (b > 1048576))) rfl (fun e2 => ?_) (fun e2 => ?_))
    · skip
      have p2 := e2; try simp only [nrm] at p2
      refine A.seq (A.region (A.goA [.p] [(0, (.agg #[u_ a, u_ b, u_ c])), (1, p_ b1), (2, i_ 0), (3, b_ ((a == 0) && ((b == 0) && (c == 0)))), (7, b_ ((decide ((imax a c) > 4294967295)) || (decide (b > 1048576))))] [] T0 (by kernel_rfl) trivial ?_))
      refine A.tn (A.ret (A.br (A.tr (A.postQ [i_ 0] (fun aa ww rr ss => ⟨rv_tmp rr rfl, trivial⟩) ?_))))
      show ((i_ 0) : Value) = (i_ (ofC a b c))
      refine congrArg (Value.int .i64) ?_; unfold ofC; grind [imax]
    · skip
      have p2 := e2; try simp only [nrm] at p2
      refine A.seq (A.region (A.goA [.p, .ld 0, .p, .p, .o, .p, .ld 0, .p, .ld 0, .p, .cl, .p] [(0, (.agg #[u_ a, u_ b, u_ c])), (1, p_ b1), (2, i_ 0), (3, b_ ((a == 0) && ((b == 0) && (c == 0)))), (7, b_ ((decide ((imax a c) > 4294967295)) || (decide (b > 1048576)))), (19, b_ ((b == 0) && (a == c)))] [b1, b1, b1] T0 (by kernel_rfl) trivial ?_))
      refine A.tn (A.cond (E := (b == 0) && (a == c)) rfl (fun e3 => ?_) (fun e3 => ?_))
      · skip
        have p3 := e3; try simp only [nrm] at p3
        refine A.seq (A.region (A.goA [.p] [(0, (.agg #[u_ a, u_ b, u_ c])), (1, p_ b1), (2, i_ 2), (3, b_ ((a == 0) && ((b == 0) && (c == 0)))), (7, b_ ((decide ((imax a c) > 4294967295)) || (decide (b > 1048576)))), (19, b_ ((b == 0) && (a == c)))] [] T0 (by kernel_rfl) trivial ?_))
        refine A.tn (A.ret (A.br (A.tr (A.postQ [i_ 2] (fun aa ww rr ss => ⟨rv_tmp rr rfl, trivial⟩) ?_))))
        show ((i_ 2) : Value) = (i_ (ofC a b c))
        refine congrArg (Value.int .i64) ?_; unfold ofC; grind [imax]
      · skip
        have p3 := e3; try simp only [nrm] at p3
        refine A.seq (A.region (A.goA [.p, .ld 0, .p, .p, .o, .p, .ld 0, .p, .ld 0, .p, .cl, .p] [(0, (.agg #[u_ a, u_ b, u_ c])), (1, p_ b1), (2, i_ 0), (3, b_ ((a == 0) && ((b == 0) && (c == 0)))), (7, b_ ((decide ((imax a c) > 4294967295)) || (decide (b > 1048576)))), (19, b_ ((b == 0) && (a == c))), (30, b_ ((decide (b > 0)) && (decide (a > c))))] [b1, b1, b1] T0 (by kernel_rfl) trivial ?_))
        refine A.tn (A.cond (E := (decide (b > 0)) && (decide (a > c))) rfl (fun e4 => ?_) (fun e4 => ?_))
        · skip
          have p4 := e4; try simp only [nrm] at p4
          refine A.seq (A.region (A.goA [.p] [(0, (.agg #[u_ a, u_ b, u_ c])), (1, p_ b1), (2, i_ 3), (3, b_ ((a == 0) && ((b == 0) && (c == 0)))), (7, b_ ((decide ((imax a c) > 4294967295)) || (decide (b > 1048576)))), (19, b_ ((b == 0) && (a == c))), (30, b_ ((decide (b > 0)) && (decide (a > c))))] [] T0 (by kernel_rfl) trivial ?_))
          refine A.tn (A.ret (A.br (A.tr (A.postQ [i_ 3] (fun aa ww rr ss => ⟨rv_tmp rr rfl, trivial⟩) ?_))))
          show ((i_ 3) : Value) = (i_ (ofC a b c))
          refine congrArg (Value.int .i64) ?_; unfold ofC; grind [imax]
        · skip
          have p4 := e4; try simp only [nrm] at p4
          refine A.seq (A.region (A.goA [.p, .ld 0, .p, .p, .o, .p, .ld 0, .p, .cl, .p, .o, .p, .ld 0, .p, .cl, .p] [(0, (.agg #[u_ a, u_ b, u_ c])), (1, p_ b1), (2, i_ 0), (3, b_ ((a == 0) && ((b == 0) && (c == 0)))), (7, b_ ((decide ((imax a c) > 4294967295)) || (decide (b > 1048576)))), (19, b_ ((b == 0) && (a == c))), (30, b_ ((decide (b > 0)) && (decide (a > c)))), (41, b_ (((decide (b > 0)) && (a == 0)) && (decide (c > 0))))] [b1, b1, b1] T0 (by kernel_rfl) trivial ?_))
          refine A.tn (A.cond (E := ((decide (b > 0)) && (a == 0)) && (decide (c > 0))) rfl (fun e5 => ?_) (fun e5 => ?_))
          · skip
            have p5 := e5; try simp only [nrm] at p5
            refine A.seq (A.region (A.goA [.p] [(0, (.agg #[u_ a, u_ b, u_ c])), (1, p_ b1), (2, i_ 4), (3, b_ ((a == 0) && ((b == 0) && (c == 0)))), (7, b_ ((decide ((imax a c) > 4294967295)) || (decide (b > 1048576)))), (19, b_ ((b == 0) && (a == c))), (30, b_ ((decide (b > 0)) && (decide (a > c)))), (41, b_ (((decide (b > 0)) && (a == 0)) && (decide (c > 0))))] [] T0 (by kernel_rfl) trivial ?_))
            refine A.tn (A.ret (A.br (A.tr (A.postQ [i_ 4] (fun aa ww rr ss => ⟨rv_tmp rr rfl, trivial⟩) ?_))))
            show ((i_ 4) : Value) = (i_ (ofC a b c))
            refine congrArg (Value.int .i64) ?_; unfold ofC; grind [imax]
          · skip
            have p5 := e5; try simp only [nrm] at p5
            refine A.skip (A.bn (A.tn (A.seq (A.region (A.goA [.p] [(0, (.agg #[u_ a, u_ b, u_ c])), (1, p_ b1), (2, i_ 0), (3, b_ ((a == 0) && ((b == 0) && (c == 0)))), (7, b_ ((decide ((imax a c) > 4294967295)) || (decide (b > 1048576)))), (19, b_ ((b == 0) && (a == c))), (30, b_ ((decide (b > 0)) && (decide (a > c)))), (41, b_ (((decide (b > 0)) && (a == 0)) && (decide (c > 0))))] [] T0 (by kernel_rfl) trivial ?_)))))
            refine A.tn (A.ret (A.postQ [i_ 0] (fun aa ww rr ss => ⟨rv_tmp rr rfl, trivial⟩) ?_))
            show ((i_ 0) : Value) = (i_ (ofC a b c))
            refine congrArg (Value.int .i64) ?_; unfold ofC; grind [imax]

set_option maxHeartbeats 4000000 in
set_option maxRecDepth 100000 in
theorem rof_spec (a b c : Int) (w : World) :
    Calls Tryd.prog 51 #[(.agg #[u_ a, u_ b, u_ c])] w fun e w' => e = .returned (i_ (ofR a b c)) ∧ Fr [] w w' := by
  refine calls_of (args := [(.agg #[u_ a, u_ b, u_ c])]) (penv [(.agg #[u_ a, u_ b, u_ c])]) [] [] Tryd.func51 rfl rfl (look_penv _) (HS.nil w) ?_
  refine A.norm [(0, (.agg #[u_ a, u_ b, u_ c]))] [] (by exact ⟨rfl, trivial⟩) rfl ?_
  refine A.seq (A.region (A.goA1 [.al, .p] [0, 1, 2] (fun b1 => [(0, (.agg #[u_ a, u_ b, u_ c])), (1, p_ b1), (2, i_ 0)]) (fun b1 => [blk b1 [u_ a, u_ b, u_ c] 44]) (fun b1 => []) (fun _ => T0) (fun _ => by kernel_rfl) (fun b1 => trivial) ?_))
  intro b1
  refine A.tn (A.seq (A.region (A.goA [.p] [(0, (.agg #[u_ a, u_ b, u_ c])), (1, p_ b1), (2, i_ 0), (3, u_ 4294967295)] [] T0 (by kernel_rfl) trivial ?_)))
  refine A.tn (A.seq (A.seq (A.region (A.goA [.p, .ld 0, .p, .p, .p, .o, .p, .ld 0, .p, .p, .cl, .p, .o, .p, .ld 0, .p, .cl] [(0, (.agg #[u_ a, u_ b, u_ c])), (1, p_ b1), (2, i_ 0), (3, u_ 4294967295), (18, b_ (((decide (a > 4294967295)) || (decide (c > 4294967295))) || (decide (b > 1048576))))] [b1, b1, b1] T0 (by kernel_rfl) trivial ?_))))
  refine A.tn (A.cond (E := ((decide (a > 4294967295)) || (decide (c > 4294967295))) || (decide (b > 1048576))) rfl (fun e1 => ?_) (fun e1 => ?_))
  · skip
    have p1 := e1; try simp only [nrm] at p1
    refine A.seq (A.region (A.goA [.p] [(0, (.agg #[u_ a, u_ b, u_ c])), (1, p_ b1), (2, i_ 0), (3, u_ 4294967295), (18, b_ (((decide (a > 4294967295)) || (decide (c > 4294967295))) || (decide (b > 1048576))))] [] T0 (by kernel_rfl) trivial ?_))
    refine A.tn (A.ret (A.tr (A.postQ [i_ 0] (fun aa ww rr ss => ⟨rv_tmp rr rfl, trivial⟩) ?_)))
    show ((i_ 0) : Value) = (i_ (ofR a b c))
    refine congrArg (Value.int .i64) ?_; unfold ofR; grind [imax]
  · skip
    have p1 := e1; try simp only [nrm] at p1
    refine A.skip (A.tn (A.seq (A.seq (A.region (A.goA [.p, .ld 0, .p, .p, .o, .p, .ld 0, .p, .cl, .p, .o, .p, .ld 0, .p, .cl] [(0, (.agg #[u_ a, u_ b, u_ c])), (1, p_ b1), (2, i_ 0), (3, u_ 4294967295), (18, b_ (((decide (a > 4294967295)) || (decide (c > 4294967295))) || (decide (b > 1048576)))), (31, b_ (((a == 0) && (c == 0)) && (b == 0)))] [b1, b1, b1] T0 (by kernel_rfl) trivial ?_)))))
    refine A.tn (A.cond (E := ((a == 0) && (c == 0)) && (b == 0)) rfl (fun e2 => ?_) (fun e2 => ?_))
    · skip
      have p2 := e2; try simp only [nrm] at p2
      refine A.seq (A.region (A.goA [.p] [(0, (.agg #[u_ a, u_ b, u_ c])), (1, p_ b1), (2, i_ 1), (3, u_ 4294967295), (18, b_ (((decide (a > 4294967295)) || (decide (c > 4294967295))) || (decide (b > 1048576)))), (31, b_ (((a == 0) && (c == 0)) && (b == 0)))] [] T0 (by kernel_rfl) trivial ?_))
      refine A.tn (A.ret (A.tr (A.postQ [i_ 1] (fun aa ww rr ss => ⟨rv_tmp rr rfl, trivial⟩) ?_)))
      show ((i_ 1) : Value) = (i_ (ofR a b c))
      refine congrArg (Value.int .i64) ?_; unfold ofR; grind [imax]
    · skip
      have p2 := e2; try simp only [nrm] at p2
      refine A.skip (A.tn (A.seq (A.seq (A.region (A.goA [.p, .ld 0, .p, .p, .o, .p, .ld 0, .p, .ld 0, .p, .cl] [(0, (.agg #[u_ a, u_ b, u_ c])), (1, p_ b1), (2, i_ 0), (3, u_ 4294967295), (18, b_ (((decide (a > 4294967295)) || (decide (c > 4294967295))) || (decide (b > 1048576)))), (31, b_ (((a == 0) && (c == 0)) && (b == 0))), (41, b_ ((b == 0) && (a == c)))] [b1, b1, b1] T0 (by kernel_rfl) trivial ?_)))))
      refine A.tn (A.cond (E := (b == 0) && (a == c)) rfl (fun e3 => ?_) (fun e3 => ?_))
      · skip
        have p3 := e3; try simp only [nrm] at p3
        refine A.seq (A.region (A.goA [.p] [(0, (.agg #[u_ a, u_ b, u_ c])), (1, p_ b1), (2, i_ 2), (3, u_ 4294967295), (18, b_ (((decide (a > 4294967295)) || (decide (c > 4294967295))) || (decide (b > 1048576)))), (31, b_ (((a == 0) && (c == 0)) && (b == 0))), (41, b_ ((b == 0) && (a == c)))] [] T0 (by kernel_rfl) trivial ?_))
        refine A.tn (A.ret (A.tr (A.postQ [i_ 2] (fun aa ww rr ss => ⟨rv_tmp rr rfl, trivial⟩) ?_)))
        show ((i_ 2) : Value) = (i_ (ofR a b c))
        refine congrArg (Value.int .i64) ?_; unfold ofR; grind [imax]
      · skip
        have p3 := e3; try simp only [nrm] at p3
        refine A.skip (A.tn (A.seq (A.seq (A.region (A.goA [.p, .ld 0, .p] [(0, (.agg #[u_ a, u_ b, u_ c])), (1, p_ b1), (2, i_ 0), (3, u_ 4294967295), (18, b_ (((decide (a > 4294967295)) || (decide (c > 4294967295))) || (decide (b > 1048576)))), (31, b_ (((a == 0) && (c == 0)) && (b == 0))), (41, b_ ((b == 0) && (a == c))), (44, b_ (b == 0))] [b1] T0 (by kernel_rfl) trivial ?_)))))
        refine A.tn (A.cond (E := b == 0) rfl (fun e4 => ?_) (fun e4 => ?_))
        · skip
          have p4 := e4; try simp only [nrm] at p4
          refine A.seq (A.region (A.goA [.p] [(0, (.agg #[u_ a, u_ b, u_ c])), (1, p_ b1), (2, i_ 0), (3, u_ 4294967295), (18, b_ (((decide (a > 4294967295)) || (decide (c > 4294967295))) || (decide (b > 1048576)))), (31, b_ (((a == 0) && (c == 0)) && (b == 0))), (41, b_ ((b == 0) && (a == c))), (44, b_ (b == 0))] [] T0 (by kernel_rfl) trivial ?_))
          refine A.tn (A.ret (A.tr (A.postQ [i_ 0] (fun aa ww rr ss => ⟨rv_tmp rr rfl, trivial⟩) ?_)))
          show ((i_ 0) : Value) = (i_ (ofR a b c))
          refine congrArg (Value.int .i64) ?_; unfold ofR; grind [imax]
        · skip
          have p4 := e4; try simp only [nrm] at p4
          refine A.skip (A.tn (A.seq (A.seq (A.region (A.goA [.p, .ld 0, .p, .ld 0, .p] [(0, (.agg #[u_ a, u_ b, u_ c])), (1, p_ b1), (2, i_ 0), (3, u_ 4294967295), (18, b_ (((decide (a > 4294967295)) || (decide (c > 4294967295))) || (decide (b > 1048576)))), (31, b_ (((a == 0) && (c == 0)) && (b == 0))), (41, b_ ((b == 0) && (a == c))), (44, b_ (b == 0)), (49, b_ (decide (a > c)))] [b1, b1] T0 (by kernel_rfl) trivial ?_)))))
          refine A.tn (A.cond (E := decide (a > c)) rfl (fun e5 => ?_) (fun e5 => ?_))
          · skip
            have p5 := of_decide_eq_true e5
            refine A.seq (A.region (A.goA [.p] [(0, (.agg #[u_ a, u_ b, u_ c])), (1, p_ b1), (2, i_ 3), (3, u_ 4294967295), (18, b_ (((decide (a > 4294967295)) || (decide (c > 4294967295))) || (decide (b > 1048576)))), (31, b_ (((a == 0) && (c == 0)) && (b == 0))), (41, b_ ((b == 0) && (a == c))), (44, b_ (b == 0)), (49, b_ (decide (a > c)))] [] T0 (by kernel_rfl) trivial ?_))
            refine A.tn (A.ret (A.tr (A.postQ [i_ 3] (fun aa ww rr ss => ⟨rv_tmp rr rfl, trivial⟩) ?_)))
            show ((i_ 3) : Value) = (i_ (ofR a b c))
            refine congrArg (Value.int .i64) ?_; unfold ofR; grind [imax]
          · skip
            have p5 := of_decide_eq_false e5
            refine A.skip (A.tn (A.seq (A.seq (A.region (A.goA [.p, .ld 0, .p, .p, .o, .p, .ld 0, .p, .cl] [(0, (.agg #[u_ a, u_ b, u_ c])), (1, p_ b1), (2, i_ 0), (3, u_ 4294967295), (18, b_ (((decide (a > 4294967295)) || (decide (c > 4294967295))) || (decide (b > 1048576)))), (31, b_ (((a == 0) && (c == 0)) && (b == 0))), (41, b_ ((b == 0) && (a == c))), (44, b_ (b == 0)), (49, b_ (decide (a > c))), (57, b_ ((a == 0) && (decide (c > 0))))] [b1, b1] T0 (by kernel_rfl) trivial ?_)))))
            refine A.tn (A.cond (E := (a == 0) && (decide (c > 0))) rfl (fun e6 => ?_) (fun e6 => ?_))
            · skip
              have p6 := e6; try simp only [nrm] at p6
              refine A.seq (A.region (A.goA [.p] [(0, (.agg #[u_ a, u_ b, u_ c])), (1, p_ b1), (2, i_ 4), (3, u_ 4294967295), (18, b_ (((decide (a > 4294967295)) || (decide (c > 4294967295))) || (decide (b > 1048576)))), (31, b_ (((a == 0) && (c == 0)) && (b == 0))), (41, b_ ((b == 0) && (a == c))), (44, b_ (b == 0)), (49, b_ (decide (a > c))), (57, b_ ((a == 0) && (decide (c > 0))))] [] T0 (by kernel_rfl) trivial ?_))
              refine A.tn (A.ret (A.tr (A.postQ [i_ 4] (fun aa ww rr ss => ⟨rv_tmp rr rfl, trivial⟩) ?_)))
              show ((i_ 4) : Value) = (i_ (ofR a b c))
              refine congrArg (Value.int .i64) ?_; unfold ofR; grind [imax]
            · skip
              have p6 := e6; try simp only [nrm] at p6
              refine A.skip (A.tn (A.seq (A.region (A.goA [.p] [(0, (.agg #[u_ a, u_ b, u_ c])), (1, p_ b1), (2, i_ 0), (3, u_ 4294967295), (18, b_ (((decide (a > 4294967295)) || (decide (c > 4294967295))) || (decide (b > 1048576)))), (31, b_ (((a == 0) && (c == 0)) && (b == 0))), (41, b_ ((b == 0) && (a == c))), (44, b_ (b == 0)), (49, b_ (decide (a > c))), (57, b_ ((a == 0) && (decide (c > 0))))] [] T0 (by kernel_rfl) trivial ?_))))
              refine A.tn (A.ret (A.postQ [i_ 0] (fun aa ww rr ss => ⟨rv_tmp rr rfl, trivial⟩) ?_))
              show ((i_ 0) : Value) = (i_ (ofR a b c))
              refine congrArg (Value.int .i64) ?_; unfold ofR; grind [imax]

set_option maxHeartbeats 4000000 in
set_option maxRecDepth 100000 in
theorem cright_spec (a b c : Int) (w : World) :
    Calls Tryd.prog 48 #[(.agg #[u_ a, u_ b, u_ c])] w fun e w' => e = .returned (b_ (ofC a b c != 0)) ∧ Fr [] w w' := by
  refine calls_of (args := [(.agg #[u_ a, u_ b, u_ c])]) (penv [(.agg #[u_ a, u_ b, u_ c])]) [] [] Tryd.func48 rfl rfl (look_penv _) (HS.nil w) ?_
  refine A.norm [(0, (.agg #[u_ a, u_ b, u_ c]))] [] (by exact ⟨rfl, trivial⟩) rfl ?_
  refine A.seq (A.region (A.goA1 [.al, .p] [0, 1, 2] (fun b1 => [(0, (.agg #[u_ a, u_ b, u_ c])), (1, p_ b1), (2, b_ false)]) (fun b1 => [blk b1 [u_ a, u_ b, u_ c] 44]) (fun b1 => []) (fun _ => T0) (fun _ => by kernel_rfl) (fun b1 => trivial) ?_))
  intro b1
  refine A.tn (A.seq (A.region (A.goA [.ld 0, .cq (i_ (ofC a b c)), .p, .p] [(0, (.agg #[u_ a, u_ b, u_ c])), (1, p_ b1), (2, b_ ((ofC a b c) != 0))] [b1] (fun κ => κ.call 63 [(.agg #[u_ a, u_ b, u_ c])] (i_ (ofC a b c)) ∧ True) (by kernel_rfl) ⟨(fun ww ss => of_spec a b c ww), trivial⟩ ?_)))
  refine A.tn (A.ret (A.postQ [b_ ((ofC a b c) != 0)] (fun aa ww rr ss => ⟨rv_tmp rr rfl, trivial⟩) ?_))
  show ((b_ ((ofC a b c) != 0)) : Value) = (b_ (ofC a b c != 0))
  first | rfl | simp_all
end Go.Proofs.YtbmllohfpgngeaaDoor
