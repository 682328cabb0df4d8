/- What the functions of this layer do, proved operation by operation, for all arguments, under the conditions that each theorem states. -/
import Derived.Test.YtkfmboicmdnjpaaProg
import Derived.Test.YtkfmboicmdnjpaaPktq1
import Derived.Test.YtkfmboicmdnjpaaVh
namespace Go.Proofs.Ytkfmboicmdnjpaa
open Go V
set_option linter.unusedVariables false
set_option linter.unusedSimpArgs false

def lens (xs : List Pkt) : Int := (xs.map (·.len)).sum
def LenOk (x : Pkt) : Prop := 1 ≤ x.len ∧ x.len ≤ 16384
theorem lens_nil : lens [] = 0 := rfl
theorem lens_cons (x : Pkt) (xs : List Pkt) : lens (x :: xs) = x.len + lens xs := by simp [lens]
theorem lens_snoc (x : Pkt) (xs : List Pkt) : lens (xs ++ [x]) = lens xs + x.len := by simp [lens]
theorem lens_pos : ∀ (xs : List Pkt), (∀ x ∈ xs, LenOk x) → 0 ≤ lens xs ∧ lens xs ≤ 16384 * (xs.length : Int)
  | [], _ => by simp [lens]
  | x :: xs, h => by
    have h1 := lens_pos xs (fun y hy => h y (by simp [hy])); have h2 := h x (by simp)
    rw [lens_cons]; simp [LenOk] at *; omega
def PktOk (x : Pkt) : Prop := (0 ≤ x.id ∧ x.id ≤ 18446744073709551615) ∧ ((-9223372036854775808) ≤ x.len ∧ x.len ≤ 9223372036854775807) ∧ (0 ≤ x.h0 ∧ x.h0 ≤ 65535) ∧ (0 ≤ x.h1 ∧ x.h1 ≤ 65535) ∧ (0 ≤ x.h2 ∧ x.h2 ≤ 65535) ∧ (0 ≤ x.h3 ∧ x.h3 ≤ 65535)
def ksPkt : List FK := [.int .u64, .int .i64, .int .u16, .int .u16, .int .u16, .int .u16]
theorem openPkt (cs : List Value) (h : FitsL ksPkt cs) : ∃ x, cs = encPkt x ∧ PktOk x := by
  unfold ksPkt at h
  obtain ⟨v0, cs0, rfl, h0, g0⟩ := fitsL_cons h
  obtain ⟨a0, rfl, r0⟩ := fit_u64 h0
  obtain ⟨v1, cs1, rfl, h1, g1⟩ := fitsL_cons g0
  obtain ⟨a1, rfl, r1⟩ := fit_i64 h1
  obtain ⟨v2, cs2, rfl, h2, g2⟩ := fitsL_cons g1
  obtain ⟨a2, rfl, r2⟩ := fit_u16 h2
  obtain ⟨v3, cs3, rfl, h3, g3⟩ := fitsL_cons g2
  obtain ⟨a3, rfl, r3⟩ := fit_u16 h3
  obtain ⟨v4, cs4, rfl, h4, g4⟩ := fitsL_cons g3
  obtain ⟨a4, rfl, r4⟩ := fit_u16 h4
  obtain ⟨v5, cs5, rfl, h5, g5⟩ := fitsL_cons g4
  obtain ⟨a5, rfl, r5⟩ := fit_u16 h5
  obtain rfl := fitsL_nil g5
  exact ⟨⟨a0, a1, a2, a3, a4, a5⟩, rfl, r0, r1, r2, r3, r4, r5⟩

set_option maxHeartbeats 8000000 in
set_option maxRecDepth 100000 in
theorem same_spec (A1 A2 : Option Addr) (c1 c2 : Nat) (xs : List Pkt) (w : World) (hb : xs.length ≤ 1000) (h1 : arrAt w A1 (V.flat encPkt xs)) (h2 : arrAt w A2 (V.flat encPkt xs)) :
    Calls Try.prog 45 #[(.slice A1 ((xs).length) c1), (.slice A2 ((xs).length) c2)] w fun e w' => e = .returned (.bool true) ∧ Fr [] w w' := by
  refine calls_of (args := [(.slice A1 ((xs).length) c1), (.slice A2 ((xs).length) c2)]) (penv [(.slice A1 ((xs).length) c1), (.slice A2 ((xs).length) c2)]) [] [] Try.func45 rfl rfl (look_penv _) (HS.nil w) ?_
  refine A.norm [(0, (.slice A1 ((xs).length) c1)), (1, (.slice A2 ((xs).length) c2))] [] (by exact ⟨rfl, rfl, trivial⟩) rfl ?_
  refine A.seq ?_
  refine A.region ?_
  refine A.cons (A.q (some 4) (.bool false) (by kernel_rfl) (qt_assign rfl rfl) ?_)
  refine A.done ?_
  refine A.norm [(0, (.slice A1 ((xs).length) c1)), (1, (.slice A2 ((xs).length) c2)), (4, (.bool false))] [] (by exact ⟨rfl, rfl, rfl, trivial⟩) rfl ?_
  refine A.tn ?_
  refine A.seq ?_
  refine A.seq ?_
  refine A.region ?_
  refine A.cons (A.q (some 7) (.slice A1 ((xs).length) c1) (by kernel_rfl) (qt_move rfl rfl) ?_)
  refine A.cons (A.q (some 8) (.int .i64 ((xs).length : Int)) (by kernel_rfl) (qt_pure (by kernel_rfl) fun _ => by kernel_rfl) ?_)
  refine A.cons (A.q (some 9) (.slice A2 ((xs).length) c2) (by kernel_rfl) (qt_move rfl rfl) ?_)
  refine A.cons (A.q (some 10) (.int .i64 ((xs).length : Int)) (by kernel_rfl) (qt_pure (by kernel_rfl) fun _ => by kernel_rfl) ?_)
  refine A.cons (A.q (some 11) (.bool (((xs).length : Int) != ((xs).length : Int))) (by kernel_rfl) (qt_pure (by kernel_rfl) fun _ => by kernel_rfl) ?_)
  refine A.done ?_
  refine A.norm [(0, (.slice A1 ((xs).length) c1)), (1, (.slice A2 ((xs).length) c2)), (4, (.bool false)), (11, (.bool (((xs).length : Int) != ((xs).length : Int))))] [] (by exact ⟨rfl, rfl, rfl, rfl, trivial⟩) rfl ?_
  refine A.tn ?_
  refine A.cond (E := ((xs).length : Int) != ((xs).length : Int)) rfl (fun e1 => ?_) (fun e1 => ?_)
  · exact absurd e1 (by simp at e1)
  · skip
    have p1 := e1; try simp only [decide_eq_true_eq, decide_eq_false_iff_not, beq_iff_eq, beq_eq_false_iff_ne, bne_iff_ne, bne_eq_false_iff_eq, ne_eq, Bool.and_eq_true, Bool.or_eq_true, Bool.or_eq_false_iff, Bool.not_eq_true', Bool.not_eq_false', Int.not_lt, Int.not_le, gt_iff_lt, ge_iff_le, Classical.not_not] at p1
    refine A.skip ?_
    refine A.tn ?_
    refine A.seq ?_
    refine A.seq ?_
    refine A.region ?_
    refine A.cons (A.q (some 12) (.slice A1 ((xs).length) c1) (by kernel_rfl) (qt_move rfl rfl) ?_)
    refine A.cons (A.q (some 13) (.int .i64 ((xs).length : Int)) (by kernel_rfl) (qt_pure (by kernel_rfl) fun _ => by kernel_rfl) ?_)
    refine A.cons (A.q (some 14) (.int .i64 0) (by kernel_rfl) (qt_move rfl rfl) ?_)
    refine A.done ?_
    refine A.norm [(0, (.slice A1 ((xs).length) c1)), (1, (.slice A2 ((xs).length) c2)), (4, (.bool false)), (11, (.bool (((xs).length : Int) != ((xs).length : Int)))), (12, (.slice A1 ((xs).length) c1)), (13, (.int .i64 ((xs).length : Int))), (14, (.int .i64 0))] [] (by exact ⟨rfl, rfl, rfl, rfl, rfl, rfl, rfl, trivial⟩) rfl ?_
    refine A.tn ?_
    refine A.block ?_
    refine A.loop (fun (x : Nat) => match x with | k => [(1, (.slice A2 ((xs).length) c2)), (12, (.slice A1 ((xs).length) c1)), (13, (.int .i64 ((xs).length : Int))), (14, (.int .i64 (k : Int)))]) (fun (x : Nat) => match x with | k => []) (fun (x : Nat) => match x with | k => k ≤ xs.length) (fun (x : Nat) => match x with | k => xs.length - k) (0 : Nat) (Nat.zero_le _) ?_ ?_
    · exact A.here (by exact ⟨rfl, rfl, rfl, rfl, trivial⟩) (List.Sublist.refl _)
    · rintro k hk
      refine A.norm [(1, (.slice A2 ((xs).length) c2)), (12, (.slice A1 ((xs).length) c1)), (13, (.int .i64 ((xs).length : Int))), (14, (.int .i64 (k : Int)))] [] (by exact ⟨rfl, rfl, rfl, rfl, trivial⟩) rfl ?_
      refine A.seq ?_
      refine A.region ?_
      refine A.cons (A.q (some 15) (.bool (decide ((k : Int) < ((xs).length : Int)))) (by kernel_rfl) (qt_pure (by kernel_rfl) fun _ => by kernel_rfl) ?_)
      refine A.done ?_
      refine A.norm [(1, (.slice A2 ((xs).length) c2)), (12, (.slice A1 ((xs).length) c1)), (13, (.int .i64 ((xs).length : Int))), (14, (.int .i64 (k : Int))), (15, (.bool (decide ((k : Int) < ((xs).length : Int)))))] [] (by exact ⟨rfl, rfl, rfl, rfl, rfl, trivial⟩) rfl ?_
      refine A.tn ?_
      refine A.seq ?_
      refine A.cond (E := decide ((k : Int) < ((xs).length : Int))) rfl (fun e2 => ?_) (fun e2 => ?_)
      · skip
        have p2 := e2; try simp only [decide_eq_true_eq, decide_eq_false_iff_not, beq_iff_eq, beq_eq_false_iff_ne, bne_iff_ne, bne_eq_false_iff_eq, ne_eq, Bool.and_eq_true, Bool.or_eq_true, Bool.or_eq_false_iff, Bool.not_eq_true', Bool.not_eq_false', Int.not_lt, Int.not_le, gt_iff_lt, ge_iff_le, Classical.not_not] at p2
        refine A.skip ?_
        refine A.tn ?_
        refine A.seq ?_
        refine A.block ?_
        refine A.seq ?_
        refine A.region ?_
        refine A.cons (A.q (some 16) (.int .i64 (k : Int)) (by kernel_rfl) (qt_move rfl rfl) ?_)
        refine A.cons (A.q (some 17) (.pointer (some ((at0 A1).add (k * 6)))) (by kernel_rfl) (qt_indexN (el := 74) (enc := encPkt) (xs := xs) (m := k) rfl rfl rfl (by kernel_rfl) (by kernel_rfl) encPkt_len (rd_old h1 (by simp)) (by decide) (by first | omega | (simp; done) | (simp; omega))) ?_)
        obtain ⟨x1, hx1⟩ : ∃ x, (xs)[k]? = some x := ⟨_, List.getElem?_eq_getElem (by omega)⟩
        refine A.cons (A.q (some 18) (.agg #[(.int .u64 x1.id), (.int .i64 x1.len), (.int .u16 x1.h0), (.int .u16 x1.h1), (.int .u16 x1.h2), (.int .u16 x1.h3)]) (by kernel_rfl) (qt_loadN (vs := [(.int .u64 x1.id), (.int .i64 x1.len), (.int .u16 x1.h0), (.int .u16 x1.h1), (.int .u16 x1.h2), (.int .u16 x1.h3)]) rfl rfl (by kernel_rfl) (reads_at0 (vs := [(.int .u64 x1.id), (.int .i64 x1.len), (.int .u16 x1.h0), (.int .u16 x1.h1), (.int .u16 x1.h2), (.int .u16 x1.h3)]) encPkt_len (rd_old h1 (by simp)) hx1 (by simp) rfl)) ?_)
        refine A.cons (A.alloc 6 [(.int .u64 0), (.int .i64 0), (.int .u16 0), (.int .u16 0), (.int .u16 0), (.int .u16 0)] (by kernel_rfl) rfl (by kernel_rfl) (fun b2 => [blk b2 [(.int .u64 0), (.int .i64 0), (.int .u16 0), (.int .u16 0), (.int .u16 0), (.int .u16 0)] 74]) (fun _ => rfl) ?_)
        intro b2
        refine A.cons (A.q (some 5) (.int .i64 (k : Int)) (by kernel_rfl) (qt_assign rfl rfl) ?_)
        refine A.cons (A.store 0 (vs := [(.int .u64 x1.id), (.int .i64 x1.len), (.int .u16 x1.h0), (.int .u16 x1.h1), (.int .u16 x1.h2), (.int .u16 x1.h3)]) [blk b2 [(.int .u64 x1.id), (.int .i64 x1.len), (.int .u16 x1.h0), (.int .u16 x1.h1), (.int .u16 x1.h2), (.int .u16 x1.h3)] 74] (by kernel_rfl) rfl rfl rfl rfl (by kernel_rfl) rfl rfl (by kernel_rfl) rfl ?_)
        refine A.done ?_
        refine A.norm [(1, (.slice A2 ((xs).length) c2)), (12, (.slice A1 ((xs).length) c1)), (13, (.int .i64 ((xs).length : Int))), (14, (.int .i64 (k : Int))), (15, (.bool (decide ((k : Int) < ((xs).length : Int))))), (6, (.pointer (some ⟨b2, 0, none⟩))), (5, (.int .i64 (k : Int)))] [blk b2 [(.int .u64 x1.id), (.int .i64 x1.len), (.int .u16 x1.h0), (.int .u16 x1.h1), (.int .u16 x1.h2), (.int .u16 x1.h3)] 74] (by exact ⟨rfl, rfl, rfl, rfl, rfl, rfl, rfl, trivial⟩) rfl ?_
        refine A.tn ?_
        refine A.seq ?_
        refine A.draw [blk b2 [(.int .u64 x1.id), (.int .i64 x1.len), (.int .u16 x1.h0), (.int .u16 x1.h1), (.int .u16 x1.h2), (.int .u16 x1.h3)] 74] (by kernel_rfl) ?_
        refine A.take 0 (some 19) (.agg #[(.int .u64 x1.id), (.int .i64 x1.len), (.int .u16 x1.h0), (.int .u16 x1.h1), (.int .u16 x1.h2), (.int .u16 x1.h3)]) rfl (by kernel_rfl) (by kernel_rfl) (List.Sublist.refl _) (qt_loadN (vs := [(.int .u64 x1.id), (.int .i64 x1.len), (.int .u16 x1.h0), (.int .u16 x1.h1), (.int .u16 x1.h2), (.int .u16 x1.h3)]) rfl rfl (by kernel_rfl) (reads_blk (i := 0) rfl rfl)) ?_
        refine A.take 1 (some 20) (.slice A2 ((xs).length) c2) rfl (by kernel_rfl) (by kernel_rfl) (List.Sublist.refl _) (qt_move rfl rfl) ?_
        refine A.take 2 (some 21) (.int .i64 (k : Int)) rfl (by kernel_rfl) (by kernel_rfl) (List.Sublist.refl _) (qt_move rfl rfl) ?_
        refine A.take 3 (some 22) (.pointer (some ((at0 A2).add (k * 6)))) rfl (by kernel_rfl) (by kernel_rfl) (List.Sublist.refl _) (qt_indexN (el := 74) (enc := encPkt) (xs := xs) (m := k) rfl rfl rfl (by kernel_rfl) (by kernel_rfl) encPkt_len (rd_old h2 (by simp)) (by decide) (by first | omega | (simp; done) | (simp; omega))) ?_
        refine A.take 4 (some 23) (.agg #[(.int .u64 x1.id), (.int .i64 x1.len), (.int .u16 x1.h0), (.int .u16 x1.h1), (.int .u16 x1.h2), (.int .u16 x1.h3)]) rfl (by kernel_rfl) (by kernel_rfl) (List.Sublist.refl _) (qt_loadN (vs := [(.int .u64 x1.id), (.int .i64 x1.len), (.int .u16 x1.h0), (.int .u16 x1.h1), (.int .u16 x1.h2), (.int .u16 x1.h3)]) rfl rfl (by kernel_rfl) (reads_at0 (vs := [(.int .u64 x1.id), (.int .i64 x1.len), (.int .u16 x1.h0), (.int .u16 x1.h1), (.int .u16 x1.h2), (.int .u16 x1.h3)]) encPkt_len (rd_old h2 (by simp)) hx1 (by simp) rfl)) ?_
        refine A.take 5 (some 24) (.bool (!((x1.id == x1.id) && ((x1.len == x1.len) && ((x1.h0 == x1.h0) && ((x1.h1 == x1.h1) && ((x1.h2 == x1.h2) && (x1.h3 == x1.h3)))))))) rfl (by kernel_rfl) (by kernel_rfl) (List.Sublist.refl _) (qt_neqA (b := (x1.id == x1.id) && ((x1.len == x1.len) && ((x1.h0 == x1.h0) && ((x1.h1 == x1.h1) && ((x1.h2 == x1.h2) && (x1.h3 == x1.h3)))))) rfl rfl rfl (by kernel_rfl) (by kernel_rfl)) ?_
        refine A.fin (by kernel_rfl) ?_
        refine A.norm [(1, (.slice A2 ((xs).length) c2)), (12, (.slice A1 ((xs).length) c1)), (13, (.int .i64 ((xs).length : Int))), (14, (.int .i64 (k : Int))), (15, (.bool (decide ((k : Int) < ((xs).length : Int))))), (6, (.pointer (some ⟨b2, 0, none⟩))), (5, (.int .i64 (k : Int))), (24, (.bool (!((x1.id == x1.id) && ((x1.len == x1.len) && ((x1.h0 == x1.h0) && ((x1.h1 == x1.h1) && ((x1.h2 == x1.h2) && (x1.h3 == x1.h3)))))))))] [blk b2 [(.int .u64 x1.id), (.int .i64 x1.len), (.int .u16 x1.h0), (.int .u16 x1.h1), (.int .u16 x1.h2), (.int .u16 x1.h3)] 74] (by exact ⟨rfl, rfl, rfl, rfl, rfl, rfl, rfl, rfl, trivial⟩) rfl ?_
        refine A.tn ?_
        refine A.cond (E := !((x1.id == x1.id) && ((x1.len == x1.len) && ((x1.h0 == x1.h0) && ((x1.h1 == x1.h1) && ((x1.h2 == x1.h2) && (x1.h3 == x1.h3))))))) rfl (fun e3 => ?_) (fun e3 => ?_)
        · exact absurd e3 (by simp at e3)
        · skip
          have p3 := e3; try simp only [decide_eq_true_eq, decide_eq_false_iff_not, beq_iff_eq, beq_eq_false_iff_ne, bne_iff_ne, bne_eq_false_iff_eq, ne_eq, Bool.and_eq_true, Bool.or_eq_true, Bool.or_eq_false_iff, Bool.not_eq_true', Bool.not_eq_false', Int.not_lt, Int.not_le, gt_iff_lt, ge_iff_le, Classical.not_not] at p3
          refine A.skip ?_
          refine A.bn ?_
          refine A.tn ?_
          refine A.region ?_
          refine A.cons (A.q (some 25) (.int .i64 ((k : Int) + 1)) (by kernel_rfl) (qt_as (congrArg (Value.int .i64) (wrap_i64 (e := (k : Int) + 1) (by constructor <;> omega))) (qt_pure (v := .int .i64 (IntKind.i64.wrap ((k : Int) + 1))) (by kernel_rfl) fun _ => by kernel_rfl)) ?_)
          refine A.cons (A.q (some 14) (.int .i64 ((k : Int) + 1)) (by kernel_rfl) (qt_move rfl rfl) ?_)
          refine A.done ?_
          refine A.norm [(1, (.slice A2 ((xs).length) c2)), (12, (.slice A1 ((xs).length) c1)), (13, (.int .i64 ((xs).length : Int))), (14, (.int .i64 ((k : Int) + 1))), (15, (.bool (decide ((k : Int) < ((xs).length : Int))))), (6, (.pointer (some ⟨b2, 0, none⟩))), (5, (.int .i64 (k : Int))), (24, (.bool (!((x1.id == x1.id) && ((x1.len == x1.len) && ((x1.h0 == x1.h0) && ((x1.h1 == x1.h1) && ((x1.h2 == x1.h2) && (x1.h3 == x1.h3)))))))))] [blk b2 [(.int .u64 x1.id), (.int .i64 x1.len), (.int .u16 x1.h0), (.int .u16 x1.h1), (.int .u16 x1.h2), (.int .u16 x1.h3)] 74] (by exact ⟨rfl, rfl, rfl, rfl, rfl, rfl, rfl, rfl, trivial⟩) rfl ?_
          refine A.tn ?_
          refine A.next (k + 1) (by omega) (by simp only []; omega) ?_
          exact A.here (by exact ⟨rfl, rfl, rfl, rfl, trivial⟩) (List.Sublist.cons _ (List.Sublist.slnil))
      · skip
        have p2 := e2; try simp only [decide_eq_true_eq, decide_eq_false_iff_not, beq_iff_eq, beq_eq_false_iff_ne, bne_iff_ne, bne_eq_false_iff_eq, ne_eq, Bool.and_eq_true, Bool.or_eq_true, Bool.or_eq_false_iff, Bool.not_eq_true', Bool.not_eq_false', Int.not_lt, Int.not_le, gt_iff_lt, ge_iff_le, Classical.not_not] at p2
        refine A.exit ?_
        refine A.te ?_
        refine A.te ?_
        refine A.bh ?_
        refine A.tn ?_
        refine A.seq ?_
        refine A.region ?_
        refine A.cons (A.q (some 4) (.bool true) (by kernel_rfl) (qt_assign rfl rfl) ?_)
        refine A.done ?_
        refine A.norm [(1, (.slice A2 ((xs).length) c2)), (12, (.slice A1 ((xs).length) c1)), (13, (.int .i64 ((xs).length : Int))), (14, (.int .i64 (k : Int))), (15, (.bool (decide ((k : Int) < ((xs).length : Int))))), (4, (.bool true))] [] (by exact ⟨rfl, rfl, rfl, rfl, rfl, rfl, trivial⟩) rfl ?_
        refine A.tn ?_
        refine A.ret ?_
        refine A.post [(.bool true)] (fun a w r s => ⟨rv_tmp r rfl, trivial⟩) (fun w1 s => ?_)
        exact ⟨rfl, s.fr⟩

theorem same_spec2 (A1 A2 : Option Addr) (c1 c2 : Nat) (xs ys : List Pkt) (w : World) (hb : xs.length ≤ 1000) (h1 : arrAt w A1 (V.flat encPkt xs)) (h2 : arrAt w A2 (V.flat encPkt ys)) (h : xs = ys) :
    Calls Try.prog 45 #[(.slice A1 (xs.length) c1), (.slice A2 (ys.length) c2)] w fun e w' => e = .returned (.bool true) ∧ Fr [] w w' := by
  subst h; exact same_spec A1 A2 c1 c2 xs w hb h1 h2

set_option maxHeartbeats 8000000 in
set_option maxRecDepth 100000 in
theorem pktqOrder_bad (n m : Int) (A0 : Option Addr) (c0 : Nat) (l : List Pkt) (w : World) (hb : 100 < l.length ∨ n < 1 ∨ 64 < n ∨ m < 1 ∨ 1048576 < m) :
    Calls Try.prog 11 #[(.int .i64 n), (.int .i64 m), (.slice A0 ((l).length) c0)] w fun e w' => e = .returned (.bool true) ∧ Fr [] w w' := by
  refine calls_of (args := [(.int .i64 n), (.int .i64 m), (.slice A0 ((l).length) c0)]) (penv [(.int .i64 n), (.int .i64 m), (.slice A0 ((l).length) c0)]) [] [] Try.func11 rfl rfl (look_penv _) (HS.nil w) ?_
  refine A.norm [(0, (.int .i64 n)), (1, (.int .i64 m)), (2, (.slice A0 ((l).length) c0))] [] (by exact ⟨rfl, rfl, rfl, trivial⟩) rfl ?_
  refine A.seq ?_
  refine A.region ?_
  refine A.cons (A.q (some 6) (.bool false) (by kernel_rfl) (qt_assign rfl rfl) ?_)
  refine A.done ?_
  refine A.norm [(0, (.int .i64 n)), (1, (.int .i64 m)), (2, (.slice A0 ((l).length) c0)), (6, (.bool false))] [] (by exact ⟨rfl, rfl, rfl, rfl, trivial⟩) rfl ?_
  refine A.tn ?_
  refine A.seq ?_
  refine A.seq ?_
  refine A.cutR (fun _ : Unit => [(0, (.int .i64 n)), (1, (.int .i64 m)), (2, (.slice A0 ((l).length) c0)), (6, (.bool false)), (35, (.bool ((decide (((l).length : Int) > 100)) || ((decide (n < 1)) || ((decide (n > 64)) || ((decide (m < 1)) || (decide (m > 1048576))))))))]) (fun _ => []) (fun _ => True) ?_ (fun _ _ => ?_)
  · skip
    refine A.region ?_
    refine A.cons (A.q (some 17) (.slice A0 ((l).length) c0) (by kernel_rfl) (qt_move rfl rfl) ?_)
    refine A.cons (A.q (some 18) (.int .i64 ((l).length : Int)) (by kernel_rfl) (qt_pure (by kernel_rfl) fun _ => by kernel_rfl) ?_)
    refine A.cons (A.q (some 19) (.bool (decide (((l).length : Int) > 100))) (by kernel_rfl) (qt_pure (by kernel_rfl) fun _ => by kernel_rfl) ?_)
    refine A.cons (A.q (some 20) (.bool (decide (((l).length : Int) > 100))) (by kernel_rfl) (qt_move rfl rfl) ?_)
    refine A.bool (decide (((l).length : Int) > 100)) (fun e1 => ?_) (fun e1 => ?_)
    · skip
      refine A.sub [(0, (.int .i64 n)), (1, (.int .i64 m)), (2, (.slice A0 ((l).length) c0)), (6, (.bool false)), (17, (.slice A0 ((l).length) c0)), (18, (.int .i64 ((l).length : Int))), (19, (.bool true)), (20, (.bool true))] (by exact ⟨rfl, rfl, rfl, rfl, rfl, rfl, (congrArg (fun z => some (Value.bool z)) e1), (congrArg (fun z => some (Value.bool z)) e1), trivial⟩) ?_
      refine A.cons (A.jump (some 21) rfl rfl (by intro x hx; cases hx; rfl) ?_)
      refine A.cons (A.jump (some 22) rfl rfl (by intro x hx; cases hx; rfl) ?_)
      refine A.cons (A.q (some 23) (.bool true) (by kernel_rfl) (qt_pure (by kernel_rfl) fun _ => by kernel_rfl) ?_)
      refine A.cons (A.q (some 24) (.bool true) (by kernel_rfl) (qt_move rfl rfl) ?_)
      refine A.cons (A.jump (some 25) rfl rfl (by intro x hx; cases hx; rfl) ?_)
      refine A.cons (A.jump (some 26) rfl rfl (by intro x hx; cases hx; rfl) ?_)
      refine A.cons (A.q (some 27) (.bool true) (by kernel_rfl) (qt_pure (by kernel_rfl) fun _ => by kernel_rfl) ?_)
      refine A.cons (A.q (some 28) (.bool true) (by kernel_rfl) (qt_move rfl rfl) ?_)
      refine A.cons (A.jump (some 29) rfl rfl (by intro x hx; cases hx; rfl) ?_)
      refine A.cons (A.jump (some 30) rfl rfl (by intro x hx; cases hx; rfl) ?_)
      refine A.cons (A.q (some 31) (.bool true) (by kernel_rfl) (qt_pure (by kernel_rfl) fun _ => by kernel_rfl) ?_)
      refine A.cons (A.q (some 32) (.bool true) (by kernel_rfl) (qt_move rfl rfl) ?_)
      refine A.cons (A.jump (some 33) rfl rfl (by intro x hx; cases hx; rfl) ?_)
      refine A.cons (A.jump (some 34) rfl rfl (by intro x hx; cases hx; rfl) ?_)
      refine A.cons (A.q (some 35) (.bool true) (by kernel_rfl) (qt_pure (by kernel_rfl) fun _ => by kernel_rfl) ?_)
      refine A.done ?_
      exact A.meet () trivial (A.here (by exact ⟨rfl, rfl, rfl, rfl, (by rw [e1]; rfl), trivial⟩) (List.Sublist.refl _))
    · skip
      refine A.sub [(0, (.int .i64 n)), (1, (.int .i64 m)), (2, (.slice A0 ((l).length) c0)), (6, (.bool false)), (17, (.slice A0 ((l).length) c0)), (18, (.int .i64 ((l).length : Int))), (19, (.bool false)), (20, (.bool false))] (by exact ⟨rfl, rfl, rfl, rfl, rfl, rfl, (congrArg (fun z => some (Value.bool z)) e1), (congrArg (fun z => some (Value.bool z)) e1), trivial⟩) ?_
      refine A.cons (A.q (some 21) (.int .i64 n) (by kernel_rfl) (qt_move rfl rfl) ?_)
      refine A.cons (A.q (some 22) (.bool (decide (n < 1))) (by kernel_rfl) (qt_pure (by kernel_rfl) fun _ => by kernel_rfl) ?_)
      refine A.cons (A.q (some 23) (.bool (decide (n < 1))) (by kernel_rfl) (qt_pure (by kernel_rfl) fun _ => by kernel_rfl) ?_)
      refine A.cons (A.q (some 24) (.bool (decide (n < 1))) (by kernel_rfl) (qt_move rfl rfl) ?_)
      refine A.bool (decide (n < 1)) (fun e2 => ?_) (fun e2 => ?_)
      · skip
        refine A.sub [(0, (.int .i64 n)), (1, (.int .i64 m)), (2, (.slice A0 ((l).length) c0)), (6, (.bool false)), (17, (.slice A0 ((l).length) c0)), (18, (.int .i64 ((l).length : Int))), (19, (.bool false)), (20, (.bool false)), (21, (.int .i64 n)), (22, (.bool true)), (23, (.bool true)), (24, (.bool true))] (by exact ⟨rfl, rfl, rfl, rfl, rfl, rfl, rfl, rfl, rfl, (congrArg (fun z => some (Value.bool z)) e2), (congrArg (fun z => some (Value.bool z)) e2), (congrArg (fun z => some (Value.bool z)) e2), trivial⟩) ?_
        refine A.cons (A.jump (some 25) rfl rfl (by intro x hx; cases hx; rfl) ?_)
        refine A.cons (A.jump (some 26) rfl rfl (by intro x hx; cases hx; rfl) ?_)
        refine A.cons (A.q (some 27) (.bool true) (by kernel_rfl) (qt_pure (by kernel_rfl) fun _ => by kernel_rfl) ?_)
        refine A.cons (A.q (some 28) (.bool true) (by kernel_rfl) (qt_move rfl rfl) ?_)
        refine A.cons (A.jump (some 29) rfl rfl (by intro x hx; cases hx; rfl) ?_)
        refine A.cons (A.jump (some 30) rfl rfl (by intro x hx; cases hx; rfl) ?_)
        refine A.cons (A.q (some 31) (.bool true) (by kernel_rfl) (qt_pure (by kernel_rfl) fun _ => by kernel_rfl) ?_)
        refine A.cons (A.q (some 32) (.bool true) (by kernel_rfl) (qt_move rfl rfl) ?_)
        refine A.cons (A.jump (some 33) rfl rfl (by intro x hx; cases hx; rfl) ?_)
        refine A.cons (A.jump (some 34) rfl rfl (by intro x hx; cases hx; rfl) ?_)
        refine A.cons (A.q (some 35) (.bool true) (by kernel_rfl) (qt_pure (by kernel_rfl) fun _ => by kernel_rfl) ?_)
        refine A.done ?_
        exact A.meet () trivial (A.here (by exact ⟨rfl, rfl, rfl, rfl, (by rw [e1, e2]; rfl), trivial⟩) (List.Sublist.refl _))
      · skip
        refine A.sub [(0, (.int .i64 n)), (1, (.int .i64 m)), (2, (.slice A0 ((l).length) c0)), (6, (.bool false)), (17, (.slice A0 ((l).length) c0)), (18, (.int .i64 ((l).length : Int))), (19, (.bool false)), (20, (.bool false)), (21, (.int .i64 n)), (22, (.bool false)), (23, (.bool false)), (24, (.bool false))] (by exact ⟨rfl, rfl, rfl, rfl, rfl, rfl, rfl, rfl, rfl, (congrArg (fun z => some (Value.bool z)) e2), (congrArg (fun z => some (Value.bool z)) e2), (congrArg (fun z => some (Value.bool z)) e2), trivial⟩) ?_
        refine A.cons (A.q (some 25) (.int .i64 n) (by kernel_rfl) (qt_move rfl rfl) ?_)
        refine A.cons (A.q (some 26) (.bool (decide (n > 64))) (by kernel_rfl) (qt_pure (by kernel_rfl) fun _ => by kernel_rfl) ?_)
        refine A.cons (A.q (some 27) (.bool (decide (n > 64))) (by kernel_rfl) (qt_pure (by kernel_rfl) fun _ => by kernel_rfl) ?_)
        refine A.cons (A.q (some 28) (.bool (decide (n > 64))) (by kernel_rfl) (qt_move rfl rfl) ?_)
        refine A.bool (decide (n > 64)) (fun e3 => ?_) (fun e3 => ?_)
        · skip
          refine A.sub [(0, (.int .i64 n)), (1, (.int .i64 m)), (2, (.slice A0 ((l).length) c0)), (6, (.bool false)), (17, (.slice A0 ((l).length) c0)), (18, (.int .i64 ((l).length : Int))), (19, (.bool false)), (20, (.bool false)), (21, (.int .i64 n)), (22, (.bool false)), (23, (.bool false)), (24, (.bool false)), (25, (.int .i64 n)), (26, (.bool true)), (27, (.bool true)), (28, (.bool true))] (by exact ⟨rfl, rfl, rfl, rfl, rfl, rfl, rfl, rfl, rfl, rfl, rfl, rfl, rfl, (congrArg (fun z => some (Value.bool z)) e3), (congrArg (fun z => some (Value.bool z)) e3), (congrArg (fun z => some (Value.bool z)) e3), trivial⟩) ?_
          refine A.cons (A.jump (some 29) rfl rfl (by intro x hx; cases hx; rfl) ?_)
          refine A.cons (A.jump (some 30) rfl rfl (by intro x hx; cases hx; rfl) ?_)
          refine A.cons (A.q (some 31) (.bool true) (by kernel_rfl) (qt_pure (by kernel_rfl) fun _ => by kernel_rfl) ?_)
          refine A.cons (A.q (some 32) (.bool true) (by kernel_rfl) (qt_move rfl rfl) ?_)
          refine A.cons (A.jump (some 33) rfl rfl (by intro x hx; cases hx; rfl) ?_)
          refine A.cons (A.jump (some 34) rfl rfl (by intro x hx; cases hx; rfl) ?_)
          refine A.cons (A.q (some 35) (.bool true) (by kernel_rfl) (qt_pure (by kernel_rfl) fun _ => by kernel_rfl) ?_)
          refine A.done ?_
          exact A.meet () trivial (A.here (by exact ⟨rfl, rfl, rfl, rfl, (by rw [e1, e2, e3]; rfl), trivial⟩) (List.Sublist.refl _))
        · skip
          refine A.sub [(0, (.int .i64 n)), (1, (.int .i64 m)), (2, (.slice A0 ((l).length) c0)), (6, (.bool false)), (17, (.slice A0 ((l).length) c0)), (18, (.int .i64 ((l).length : Int))), (19, (.bool false)), (20, (.bool false)), (21, (.int .i64 n)), (22, (.bool false)), (23, (.bool false)), (24, (.bool false)), (25, (.int .i64 n)), (26, (.bool false)), (27, (.bool false)), (28, (.bool false))] (by exact ⟨rfl, rfl, rfl, rfl, rfl, rfl, rfl, rfl, rfl, rfl, rfl, rfl, rfl, (congrArg (fun z => some (Value.bool z)) e3), (congrArg (fun z => some (Value.bool z)) e3), (congrArg (fun z => some (Value.bool z)) e3), trivial⟩) ?_
          refine A.cons (A.q (some 29) (.int .i64 m) (by kernel_rfl) (qt_move rfl rfl) ?_)
          refine A.cons (A.q (some 30) (.bool (decide (m < 1))) (by kernel_rfl) (qt_pure (by kernel_rfl) fun _ => by kernel_rfl) ?_)
          refine A.cons (A.q (some 31) (.bool (decide (m < 1))) (by kernel_rfl) (qt_pure (by kernel_rfl) fun _ => by kernel_rfl) ?_)
          refine A.cons (A.q (some 32) (.bool (decide (m < 1))) (by kernel_rfl) (qt_move rfl rfl) ?_)
          refine A.bool (decide (m < 1)) (fun e4 => ?_) (fun e4 => ?_)
          · skip
            refine A.sub [(0, (.int .i64 n)), (1, (.int .i64 m)), (2, (.slice A0 ((l).length) c0)), (6, (.bool false)), (17, (.slice A0 ((l).length) c0)), (18, (.int .i64 ((l).length : Int))), (19, (.bool false)), (20, (.bool false)), (21, (.int .i64 n)), (22, (.bool false)), (23, (.bool false)), (24, (.bool false)), (25, (.int .i64 n)), (26, (.bool false)), (27, (.bool false)), (28, (.bool false)), (29, (.int .i64 m)), (30, (.bool true)), (31, (.bool true)), (32, (.bool true))] (by exact ⟨rfl, rfl, rfl, rfl, rfl, rfl, rfl, rfl, rfl, rfl, rfl, rfl, rfl, rfl, rfl, rfl, rfl, (congrArg (fun z => some (Value.bool z)) e4), (congrArg (fun z => some (Value.bool z)) e4), (congrArg (fun z => some (Value.bool z)) e4), trivial⟩) ?_
            refine A.cons (A.jump (some 33) rfl rfl (by intro x hx; cases hx; rfl) ?_)
            refine A.cons (A.jump (some 34) rfl rfl (by intro x hx; cases hx; rfl) ?_)
            refine A.cons (A.q (some 35) (.bool true) (by kernel_rfl) (qt_pure (by kernel_rfl) fun _ => by kernel_rfl) ?_)
            refine A.done ?_
            exact A.meet () trivial (A.here (by exact ⟨rfl, rfl, rfl, rfl, (by rw [e1, e2, e3, e4]; rfl), trivial⟩) (List.Sublist.refl _))
          · skip
            refine A.sub [(0, (.int .i64 n)), (1, (.int .i64 m)), (2, (.slice A0 ((l).length) c0)), (6, (.bool false)), (17, (.slice A0 ((l).length) c0)), (18, (.int .i64 ((l).length : Int))), (19, (.bool false)), (20, (.bool false)), (21, (.int .i64 n)), (22, (.bool false)), (23, (.bool false)), (24, (.bool false)), (25, (.int .i64 n)), (26, (.bool false)), (27, (.bool false)), (28, (.bool false)), (29, (.int .i64 m)), (30, (.bool false)), (31, (.bool false)), (32, (.bool false))] (by exact ⟨rfl, rfl, rfl, rfl, rfl, rfl, rfl, rfl, rfl, rfl, rfl, rfl, rfl, rfl, rfl, rfl, rfl, (congrArg (fun z => some (Value.bool z)) e4), (congrArg (fun z => some (Value.bool z)) e4), (congrArg (fun z => some (Value.bool z)) e4), trivial⟩) ?_
            refine A.cons (A.q (some 33) (.int .i64 m) (by kernel_rfl) (qt_move rfl rfl) ?_)
            refine A.cons (A.q (some 34) (.bool (decide (m > 1048576))) (by kernel_rfl) (qt_pure (by kernel_rfl) fun _ => by kernel_rfl) ?_)
            refine A.cons (A.q (some 35) (.bool (decide (m > 1048576))) (by kernel_rfl) (qt_pure (by kernel_rfl) fun _ => by kernel_rfl) ?_)
            refine A.done ?_
            exact A.meet () trivial (A.here (by exact ⟨rfl, rfl, rfl, rfl, (by rw [e1, e2, e3, e4]; rfl), trivial⟩) (List.Sublist.refl _))
  · skip
    refine A.tn ?_
    refine A.cond (E := (decide (((l).length : Int) > 100)) || ((decide (n < 1)) || ((decide (n > 64)) || ((decide (m < 1)) || (decide (m > 1048576)))))) rfl (fun e5 => ?_) (fun e5 => ?_)
    · skip
      have p5 := e5; try simp only [decide_eq_true_eq, decide_eq_false_iff_not, beq_iff_eq, beq_eq_false_iff_ne, bne_iff_ne, bne_eq_false_iff_eq, ne_eq, Bool.and_eq_true, Bool.or_eq_true, Bool.or_eq_false_iff, Bool.not_eq_true', Bool.not_eq_false', Int.not_lt, Int.not_le, gt_iff_lt, ge_iff_le, Classical.not_not] at p5
      refine A.seq ?_
      refine A.region ?_
      refine A.cons (A.q (some 36) (.bool true) (by kernel_rfl) (qt_call [] rfl (by kernel_rfl) rfl (fun w _ => hundred_spec  w)) ?_)
      refine A.cons (A.q (some 6) (.bool true) (by kernel_rfl) (qt_assign rfl rfl) ?_)
      refine A.done ?_
      refine A.norm [(0, (.int .i64 n)), (1, (.int .i64 m)), (2, (.slice A0 ((l).length) c0)), (6, (.bool true)), (35, (.bool ((decide (((l).length : Int) > 100)) || ((decide (n < 1)) || ((decide (n > 64)) || ((decide (m < 1)) || (decide (m > 1048576))))))))] [] (by exact ⟨rfl, rfl, rfl, rfl, rfl, trivial⟩) rfl ?_
      refine A.tn ?_
      refine A.ret ?_
      refine A.tr ?_
      refine A.post [(.bool true)] (fun a w r s => ⟨rv_tmp r rfl, trivial⟩) (fun w1 s => ?_)
      exact ⟨rfl, s.fr⟩
    · exact absurd e5 (by first | (simp; done) | (simp; omega) | omega | grind)

set_option maxHeartbeats 8000000 in
set_option maxRecDepth 100000 in
theorem pktqOrder_ok (r : Nat) (m : Int) (A0 : Option Addr) (c0 : Nat) (l : List Pkt) (w : World) (hl0 : l.length ≤ 100) (h1 : 1 ≤ r) (h2 : r ≤ 64) (h3 : 1 ≤ m) (h4 : m ≤ 1048576) (hl : arrAt w A0 (V.flat encPkt l)) :
    Calls Try.prog 11 #[(.int .i64 (r : Int)), (.int .i64 m), (.slice A0 ((l).length) c0)] w fun e w' => e = .returned (.bool true) ∧ Fr [] w w' := by
  refine calls_of (args := [(.int .i64 (r : Int)), (.int .i64 m), (.slice A0 ((l).length) c0)]) (penv [(.int .i64 (r : Int)), (.int .i64 m), (.slice A0 ((l).length) c0)]) [] [] Try.func11 rfl rfl (look_penv _) (HS.nil w) ?_
  refine A.norm [(0, (.int .i64 (r : Int))), (1, (.int .i64 m)), (2, (.slice A0 ((l).length) c0))] [] (by exact ⟨rfl, rfl, rfl, trivial⟩) rfl ?_
  refine A.seq ?_
  refine A.region ?_
  refine A.cons (A.q (some 6) (.bool false) (by kernel_rfl) (qt_assign rfl rfl) ?_)
  refine A.done ?_
  refine A.norm [(0, (.int .i64 (r : Int))), (1, (.int .i64 m)), (2, (.slice A0 ((l).length) c0)), (6, (.bool false))] [] (by exact ⟨rfl, rfl, rfl, rfl, trivial⟩) rfl ?_
  refine A.tn ?_
  refine A.seq ?_
  refine A.seq ?_
  refine A.cutR (fun _ : Unit => [(0, (.int .i64 (r : Int))), (1, (.int .i64 m)), (2, (.slice A0 ((l).length) c0)), (6, (.bool false)), (35, (.bool ((decide (((l).length : Int) > 100)) || ((decide ((r : Int) < 1)) || ((decide ((r : Int) > 64)) || ((decide (m < 1)) || (decide (m > 1048576))))))))]) (fun _ => []) (fun _ => True) ?_ (fun _ _ => ?_)
  · skip
    refine A.region ?_
    refine A.cons (A.q (some 17) (.slice A0 ((l).length) c0) (by kernel_rfl) (qt_move rfl rfl) ?_)
    refine A.cons (A.q (some 18) (.int .i64 ((l).length : Int)) (by kernel_rfl) (qt_pure (by kernel_rfl) fun _ => by kernel_rfl) ?_)
    refine A.cons (A.q (some 19) (.bool (decide (((l).length : Int) > 100))) (by kernel_rfl) (qt_pure (by kernel_rfl) fun _ => by kernel_rfl) ?_)
    refine A.cons (A.q (some 20) (.bool (decide (((l).length : Int) > 100))) (by kernel_rfl) (qt_move rfl rfl) ?_)
    refine A.bool (decide (((l).length : Int) > 100)) (fun e1 => ?_) (fun e1 => ?_)
    · skip
      refine A.sub [(0, (.int .i64 (r : Int))), (1, (.int .i64 m)), (2, (.slice A0 ((l).length) c0)), (6, (.bool false)), (17, (.slice A0 ((l).length) c0)), (18, (.int .i64 ((l).length : Int))), (19, (.bool true)), (20, (.bool true))] (by exact ⟨rfl, rfl, rfl, rfl, rfl, rfl, (congrArg (fun z => some (Value.bool z)) e1), (congrArg (fun z => some (Value.bool z)) e1), trivial⟩) ?_
      refine A.cons (A.jump (some 21) rfl rfl (by intro x hx; cases hx; rfl) ?_)
      refine A.cons (A.jump (some 22) rfl rfl (by intro x hx; cases hx; rfl) ?_)
      refine A.cons (A.q (some 23) (.bool true) (by kernel_rfl) (qt_pure (by kernel_rfl) fun _ => by kernel_rfl) ?_)
      refine A.cons (A.q (some 24) (.bool true) (by kernel_rfl) (qt_move rfl rfl) ?_)
      refine A.cons (A.jump (some 25) rfl rfl (by intro x hx; cases hx; rfl) ?_)
      refine A.cons (A.jump (some 26) rfl rfl (by intro x hx; cases hx; rfl) ?_)
      refine A.cons (A.q (some 27) (.bool true) (by kernel_rfl) (qt_pure (by kernel_rfl) fun _ => by kernel_rfl) ?_)
      refine A.cons (A.q (some 28) (.bool true) (by kernel_rfl) (qt_move rfl rfl) ?_)
      refine A.cons (A.jump (some 29) rfl rfl (by intro x hx; cases hx; rfl) ?_)
      refine A.cons (A.jump (some 30) rfl rfl (by intro x hx; cases hx; rfl) ?_)
      refine A.cons (A.q (some 31) (.bool true) (by kernel_rfl) (qt_pure (by kernel_rfl) fun _ => by kernel_rfl) ?_)
      refine A.cons (A.q (some 32) (.bool true) (by kernel_rfl) (qt_move rfl rfl) ?_)
      refine A.cons (A.jump (some 33) rfl rfl (by intro x hx; cases hx; rfl) ?_)
      refine A.cons (A.jump (some 34) rfl rfl (by intro x hx; cases hx; rfl) ?_)
      refine A.cons (A.q (some 35) (.bool true) (by kernel_rfl) (qt_pure (by kernel_rfl) fun _ => by kernel_rfl) ?_)
      refine A.done ?_
      exact A.meet () trivial (A.here (by exact ⟨rfl, rfl, rfl, rfl, (by rw [e1]; rfl), trivial⟩) (List.Sublist.refl _))
    · skip
      refine A.sub [(0, (.int .i64 (r : Int))), (1, (.int .i64 m)), (2, (.slice A0 ((l).length) c0)), (6, (.bool false)), (17, (.slice A0 ((l).length) c0)), (18, (.int .i64 ((l).length : Int))), (19, (.bool false)), (20, (.bool false))] (by exact ⟨rfl, rfl, rfl, rfl, rfl, rfl, (congrArg (fun z => some (Value.bool z)) e1), (congrArg (fun z => some (Value.bool z)) e1), trivial⟩) ?_
      refine A.cons (A.q (some 21) (.int .i64 (r : Int)) (by kernel_rfl) (qt_move rfl rfl) ?_)
      refine A.cons (A.q (some 22) (.bool (decide ((r : Int) < 1))) (by kernel_rfl) (qt_pure (by kernel_rfl) fun _ => by kernel_rfl) ?_)
      refine A.cons (A.q (some 23) (.bool (decide ((r : Int) < 1))) (by kernel_rfl) (qt_pure (by kernel_rfl) fun _ => by kernel_rfl) ?_)
      refine A.cons (A.q (some 24) (.bool (decide ((r : Int) < 1))) (by kernel_rfl) (qt_move rfl rfl) ?_)
      refine A.bool (decide ((r : Int) < 1)) (fun e2 => ?_) (fun e2 => ?_)
      · skip
        refine A.sub [(0, (.int .i64 (r : Int))), (1, (.int .i64 m)), (2, (.slice A0 ((l).length) c0)), (6, (.bool false)), (17, (.slice A0 ((l).length) c0)), (18, (.int .i64 ((l).length : Int))), (19, (.bool false)), (20, (.bool false)), (21, (.int .i64 (r : Int))), (22, (.bool true)), (23, (.bool true)), (24, (.bool true))] (by exact ⟨rfl, rfl, rfl, rfl, rfl, rfl, rfl, rfl, rfl, (congrArg (fun z => some (Value.bool z)) e2), (congrArg (fun z => some (Value.bool z)) e2), (congrArg (fun z => some (Value.bool z)) e2), trivial⟩) ?_
        refine A.cons (A.jump (some 25) rfl rfl (by intro x hx; cases hx; rfl) ?_)
        refine A.cons (A.jump (some 26) rfl rfl (by intro x hx; cases hx; rfl) ?_)
        refine A.cons (A.q (some 27) (.bool true) (by kernel_rfl) (qt_pure (by kernel_rfl) fun _ => by kernel_rfl) ?_)
        refine A.cons (A.q (some 28) (.bool true) (by kernel_rfl) (qt_move rfl rfl) ?_)
        refine A.cons (A.jump (some 29) rfl rfl (by intro x hx; cases hx; rfl) ?_)
        refine A.cons (A.jump (some 30) rfl rfl (by intro x hx; cases hx; rfl) ?_)
        refine A.cons (A.q (some 31) (.bool true) (by kernel_rfl) (qt_pure (by kernel_rfl) fun _ => by kernel_rfl) ?_)
        refine A.cons (A.q (some 32) (.bool true) (by kernel_rfl) (qt_move rfl rfl) ?_)
        refine A.cons (A.jump (some 33) rfl rfl (by intro x hx; cases hx; rfl) ?_)
        refine A.cons (A.jump (some 34) rfl rfl (by intro x hx; cases hx; rfl) ?_)
        refine A.cons (A.q (some 35) (.bool true) (by kernel_rfl) (qt_pure (by kernel_rfl) fun _ => by kernel_rfl) ?_)
        refine A.done ?_
        exact A.meet () trivial (A.here (by exact ⟨rfl, rfl, rfl, rfl, (by rw [e1, e2]; rfl), trivial⟩) (List.Sublist.refl _))
      · skip
        refine A.sub [(0, (.int .i64 (r : Int))), (1, (.int .i64 m)), (2, (.slice A0 ((l).length) c0)), (6, (.bool false)), (17, (.slice A0 ((l).length) c0)), (18, (.int .i64 ((l).length : Int))), (19, (.bool false)), (20, (.bool false)), (21, (.int .i64 (r : Int))), (22, (.bool false)), (23, (.bool false)), (24, (.bool false))] (by exact ⟨rfl, rfl, rfl, rfl, rfl, rfl, rfl, rfl, rfl, (congrArg (fun z => some (Value.bool z)) e2), (congrArg (fun z => some (Value.bool z)) e2), (congrArg (fun z => some (Value.bool z)) e2), trivial⟩) ?_
        refine A.cons (A.q (some 25) (.int .i64 (r : Int)) (by kernel_rfl) (qt_move rfl rfl) ?_)
        refine A.cons (A.q (some 26) (.bool (decide ((r : Int) > 64))) (by kernel_rfl) (qt_pure (by kernel_rfl) fun _ => by kernel_rfl) ?_)
        refine A.cons (A.q (some 27) (.bool (decide ((r : Int) > 64))) (by kernel_rfl) (qt_pure (by kernel_rfl) fun _ => by kernel_rfl) ?_)
        refine A.cons (A.q (some 28) (.bool (decide ((r : Int) > 64))) (by kernel_rfl) (qt_move rfl rfl) ?_)
        refine A.bool (decide ((r : Int) > 64)) (fun e3 => ?_) (fun e3 => ?_)
        · skip
          refine A.sub [(0, (.int .i64 (r : Int))), (1, (.int .i64 m)), (2, (.slice A0 ((l).length) c0)), (6, (.bool false)), (17, (.slice A0 ((l).length) c0)), (18, (.int .i64 ((l).length : Int))), (19, (.bool false)), (20, (.bool false)), (21, (.int .i64 (r : Int))), (22, (.bool false)), (23, (.bool false)), (24, (.bool false)), (25, (.int .i64 (r : Int))), (26, (.bool true)), (27, (.bool true)), (28, (.bool true))] (by exact ⟨rfl, rfl, rfl, rfl, rfl, rfl, rfl, rfl, rfl, rfl, rfl, rfl, rfl, (congrArg (fun z => some (Value.bool z)) e3), (congrArg (fun z => some (Value.bool z)) e3), (congrArg (fun z => some (Value.bool z)) e3), trivial⟩) ?_
          refine A.cons (A.jump (some 29) rfl rfl (by intro x hx; cases hx; rfl) ?_)
          refine A.cons (A.jump (some 30) rfl rfl (by intro x hx; cases hx; rfl) ?_)
          refine A.cons (A.q (some 31) (.bool true) (by kernel_rfl) (qt_pure (by kernel_rfl) fun _ => by kernel_rfl) ?_)
          refine A.cons (A.q (some 32) (.bool true) (by kernel_rfl) (qt_move rfl rfl) ?_)
          refine A.cons (A.jump (some 33) rfl rfl (by intro x hx; cases hx; rfl) ?_)
          refine A.cons (A.jump (some 34) rfl rfl (by intro x hx; cases hx; rfl) ?_)
          refine A.cons (A.q (some 35) (.bool true) (by kernel_rfl) (qt_pure (by kernel_rfl) fun _ => by kernel_rfl) ?_)
          refine A.done ?_
          exact A.meet () trivial (A.here (by exact ⟨rfl, rfl, rfl, rfl, (by rw [e1, e2, e3]; rfl), trivial⟩) (List.Sublist.refl _))
        · skip
          refine A.sub [(0, (.int .i64 (r : Int))), (1, (.int .i64 m)), (2, (.slice A0 ((l).length) c0)), (6, (.bool false)), (17, (.slice A0 ((l).length) c0)), (18, (.int .i64 ((l).length : Int))), (19, (.bool false)), (20, (.bool false)), (21, (.int .i64 (r : Int))), (22, (.bool false)), (23, (.bool false)), (24, (.bool false)), (25, (.int .i64 (r : Int))), (26, (.bool false)), (27, (.bool false)), (28, (.bool false))] (by exact ⟨rfl, rfl, rfl, rfl, rfl, rfl, rfl, rfl, rfl, rfl, rfl, rfl, rfl, (congrArg (fun z => some (Value.bool z)) e3), (congrArg (fun z => some (Value.bool z)) e3), (congrArg (fun z => some (Value.bool z)) e3), trivial⟩) ?_
          refine A.cons (A.q (some 29) (.int .i64 m) (by kernel_rfl) (qt_move rfl rfl) ?_)
          refine A.cons (A.q (some 30) (.bool (decide (m < 1))) (by kernel_rfl) (qt_pure (by kernel_rfl) fun _ => by kernel_rfl) ?_)
          refine A.cons (A.q (some 31) (.bool (decide (m < 1))) (by kernel_rfl) (qt_pure (by kernel_rfl) fun _ => by kernel_rfl) ?_)
          refine A.cons (A.q (some 32) (.bool (decide (m < 1))) (by kernel_rfl) (qt_move rfl rfl) ?_)
          refine A.bool (decide (m < 1)) (fun e4 => ?_) (fun e4 => ?_)
          · skip
            refine A.sub [(0, (.int .i64 (r : Int))), (1, (.int .i64 m)), (2, (.slice A0 ((l).length) c0)), (6, (.bool false)), (17, (.slice A0 ((l).length) c0)), (18, (.int .i64 ((l).length : Int))), (19, (.bool false)), (20, (.bool false)), (21, (.int .i64 (r : Int))), (22, (.bool false)), (23, (.bool false)), (24, (.bool false)), (25, (.int .i64 (r : Int))), (26, (.bool false)), (27, (.bool false)), (28, (.bool false)), (29, (.int .i64 m)), (30, (.bool true)), (31, (.bool true)), (32, (.bool true))] (by exact ⟨rfl, rfl, rfl, rfl, rfl, rfl, rfl, rfl, rfl, rfl, rfl, rfl, rfl, rfl, rfl, rfl, rfl, (congrArg (fun z => some (Value.bool z)) e4), (congrArg (fun z => some (Value.bool z)) e4), (congrArg (fun z => some (Value.bool z)) e4), trivial⟩) ?_
            refine A.cons (A.jump (some 33) rfl rfl (by intro x hx; cases hx; rfl) ?_)
            refine A.cons (A.jump (some 34) rfl rfl (by intro x hx; cases hx; rfl) ?_)
            refine A.cons (A.q (some 35) (.bool true) (by kernel_rfl) (qt_pure (by kernel_rfl) fun _ => by kernel_rfl) ?_)
            refine A.done ?_
            exact A.meet () trivial (A.here (by exact ⟨rfl, rfl, rfl, rfl, (by rw [e1, e2, e3, e4]; rfl), trivial⟩) (List.Sublist.refl _))
          · skip
            refine A.sub [(0, (.int .i64 (r : Int))), (1, (.int .i64 m)), (2, (.slice A0 ((l).length) c0)), (6, (.bool false)), (17, (.slice A0 ((l).length) c0)), (18, (.int .i64 ((l).length : Int))), (19, (.bool false)), (20, (.bool false)), (21, (.int .i64 (r : Int))), (22, (.bool false)), (23, (.bool false)), (24, (.bool false)), (25, (.int .i64 (r : Int))), (26, (.bool false)), (27, (.bool false)), (28, (.bool false)), (29, (.int .i64 m)), (30, (.bool false)), (31, (.bool false)), (32, (.bool false))] (by exact ⟨rfl, rfl, rfl, rfl, rfl, rfl, rfl, rfl, rfl, rfl, rfl, rfl, rfl, rfl, rfl, rfl, rfl, (congrArg (fun z => some (Value.bool z)) e4), (congrArg (fun z => some (Value.bool z)) e4), (congrArg (fun z => some (Value.bool z)) e4), trivial⟩) ?_
            refine A.cons (A.q (some 33) (.int .i64 m) (by kernel_rfl) (qt_move rfl rfl) ?_)
            refine A.cons (A.q (some 34) (.bool (decide (m > 1048576))) (by kernel_rfl) (qt_pure (by kernel_rfl) fun _ => by kernel_rfl) ?_)
            refine A.cons (A.q (some 35) (.bool (decide (m > 1048576))) (by kernel_rfl) (qt_pure (by kernel_rfl) fun _ => by kernel_rfl) ?_)
            refine A.done ?_
            exact A.meet () trivial (A.here (by exact ⟨rfl, rfl, rfl, rfl, (by rw [e1, e2, e3, e4]; rfl), trivial⟩) (List.Sublist.refl _))
  · skip
    refine A.tn ?_
    refine A.cond (E := (decide (((l).length : Int) > 100)) || ((decide ((r : Int) < 1)) || ((decide ((r : Int) > 64)) || ((decide (m < 1)) || (decide (m > 1048576)))))) rfl (fun e5 => ?_) (fun e5 => ?_)
    · exact absurd e5 (by first | (simp; done) | (simp; omega) | omega | grind)
    · skip
      have p5 := e5; try simp only [decide_eq_true_eq, decide_eq_false_iff_not, beq_iff_eq, beq_eq_false_iff_ne, bne_iff_ne, bne_eq_false_iff_eq, ne_eq, Bool.and_eq_true, Bool.or_eq_true, Bool.or_eq_false_iff, Bool.not_eq_true', Bool.not_eq_false', Int.not_lt, Int.not_le, gt_iff_lt, ge_iff_le, Classical.not_not] at p5
      refine A.skip ?_
      refine A.tn ?_
      refine A.seq ?_
      refine A.region ?_
      refine A.cons (A.q (some 38) (.int .i64 (r : Int)) (by kernel_rfl) (qt_move rfl rfl) ?_)
      refine A.cons (A.q (some 39) (.int .i64 m) (by kernel_rfl) (qt_move rfl rfl) ?_)
      refine A.cons (A.inl (some 40) [(.int .i64 (r : Int)), (.int .i64 m)] [(0, (.int .i64 (r : Int))), (1, (.int .i64 m))] (by kernel_rfl) rfl (by kernel_rfl) rfl Try.func42 rfl rfl rfl ?_)
      refine A.seq ?_
      refine A.region ?_
      refine A.cons (A.q (some 4) (.pointer none) (by kernel_rfl) (qt_assign rfl rfl) ?_)
      refine A.cons (A.q (some 5) (.int .i64 0) (by kernel_rfl) (qt_assign rfl rfl) ?_)
      refine A.done ?_
      refine A.norm [(0, (.int .i64 (r : Int))), (1, (.int .i64 m)), (4, (.pointer none)), (5, (.int .i64 0))] [] (by exact ⟨rfl, rfl, rfl, rfl, trivial⟩) rfl ?_
      refine A.tn ?_
      refine A.seq ?_
      refine A.region ?_
      refine A.cons (A.q (some 9) (.int .i64 (r : Int)) (by kernel_rfl) (qt_move rfl rfl) ?_)
      refine A.cons (A.call (some 10) [(.int .i64 (r : Int))] (fun x : Nat × Nat => (.tuple #[(.pointer (some ⟨x.1, 0, none⟩)), (.int .i64 0)])) (fun _ => True) (fun x => [ringI encPkt 118 74 x.1 x.2 r ([] : List Pkt)]) (by kernel_rfl) rfl (by kernel_rfl) rfl (fun w s => (ringP_new_ok r w (by omega) (by omega)).mono fun e w1 ⟨b, s1, he, hr, hf, n1, n2⟩ => ⟨(b, s1), he, trivial, s.add hf hr (by have := hr.bounds.2.2.2; simpa [ringI] using this) (by intro x hx; simp [ringI] at hx; rcases hx with rfl | rfl <;> assumption)⟩) ?_)
      rintro ⟨rb1, rs1⟩ -
      refine A.cons (A.q (some 8) (.tuple #[(.pointer (some ⟨rb1, 0, none⟩)), (.int .i64 0)]) (by kernel_rfl) (qt_move rfl rfl) ?_)
      refine A.cons (A.q (some 11) (.pointer (some ⟨rb1, 0, none⟩)) (by kernel_rfl) (qt_pure (by kernel_rfl) fun _ => by kernel_rfl) ?_)
      refine A.cons (A.q (some 12) (.int .i64 0) (by kernel_rfl) (qt_pure (by kernel_rfl) fun _ => by kernel_rfl) ?_)
      refine A.cons (A.q (some 6) (.pointer (some ⟨rb1, 0, none⟩)) (by kernel_rfl) (qt_assign rfl rfl) ?_)
      refine A.cons (A.q (some 7) (.int .i64 0) (by kernel_rfl) (qt_assign rfl rfl) ?_)
      refine A.done ?_
      refine A.norm [(0, (.int .i64 (r : Int))), (1, (.int .i64 m)), (4, (.pointer none)), (5, (.int .i64 0)), (6, (.pointer (some ⟨rb1, 0, none⟩))), (7, (.int .i64 0))] [ringI encPkt 118 74 rb1 rs1 r ([] : List Pkt)] (by exact ⟨rfl, rfl, rfl, rfl, rfl, rfl, trivial⟩) rfl ?_
      refine A.tn ?_
      refine A.seq ?_
      refine A.seq ?_
      refine A.cutR (fun _ : Unit => [(0, (.int .i64 (r : Int))), (1, (.int .i64 m)), (4, (.pointer none)), (5, (.int .i64 0)), (6, (.pointer (some ⟨rb1, 0, none⟩))), (7, (.int .i64 0)), (22, (.bool ((decide (m < 1)) || (decide (m > 1048576)))))]) (fun _ => [ringI encPkt 118 74 rb1 rs1 r ([] : List Pkt)]) (fun _ => True) ?_ (fun _ _ => ?_)
      · skip
        refine A.region ?_
        refine A.cons (A.q (some 13) (.int .i64 0) (by kernel_rfl) (qt_move rfl rfl) ?_)
        refine A.cons (A.q (some 14) (.bool false) (by kernel_rfl) (qt_pure (by kernel_rfl) fun _ => by kernel_rfl) ?_)
        refine A.cons (A.q (some 15) (.bool false) (by kernel_rfl) (qt_move rfl rfl) ?_)
        refine A.cons (A.q (some 16) (.int .i64 m) (by kernel_rfl) (qt_move rfl rfl) ?_)
        refine A.cons (A.q (some 17) (.bool (decide (m < 1))) (by kernel_rfl) (qt_pure (by kernel_rfl) fun _ => by kernel_rfl) ?_)
        refine A.cons (A.q (some 18) (.bool (decide (m < 1))) (by kernel_rfl) (qt_pure (by kernel_rfl) fun _ => by kernel_rfl) ?_)
        refine A.cons (A.q (some 19) (.bool (decide (m < 1))) (by kernel_rfl) (qt_move rfl rfl) ?_)
        refine A.bool (decide (m < 1)) (fun e6 => ?_) (fun e6 => ?_)
        · skip
          refine A.sub [(0, (.int .i64 (r : Int))), (1, (.int .i64 m)), (4, (.pointer none)), (5, (.int .i64 0)), (6, (.pointer (some ⟨rb1, 0, none⟩))), (7, (.int .i64 0)), (13, (.int .i64 0)), (14, (.bool false)), (15, (.bool false)), (16, (.int .i64 m)), (17, (.bool true)), (18, (.bool true)), (19, (.bool true))] (by exact ⟨rfl, rfl, rfl, rfl, rfl, rfl, rfl, rfl, rfl, rfl, (congrArg (fun z => some (Value.bool z)) e6), (congrArg (fun z => some (Value.bool z)) e6), (congrArg (fun z => some (Value.bool z)) e6), trivial⟩) ?_
          refine A.cons (A.jump (some 20) rfl rfl (by intro x hx; cases hx; rfl) ?_)
          refine A.cons (A.jump (some 21) rfl rfl (by intro x hx; cases hx; rfl) ?_)
          refine A.cons (A.q (some 22) (.bool true) (by kernel_rfl) (qt_pure (by kernel_rfl) fun _ => by kernel_rfl) ?_)
          refine A.done ?_
          exact A.meet () trivial (A.here (by exact ⟨rfl, rfl, rfl, rfl, rfl, rfl, (by rw [e6]; rfl), trivial⟩) (List.Sublist.refl _))
        · skip
          refine A.sub [(0, (.int .i64 (r : Int))), (1, (.int .i64 m)), (4, (.pointer none)), (5, (.int .i64 0)), (6, (.pointer (some ⟨rb1, 0, none⟩))), (7, (.int .i64 0)), (13, (.int .i64 0)), (14, (.bool false)), (15, (.bool false)), (16, (.int .i64 m)), (17, (.bool false)), (18, (.bool false)), (19, (.bool false))] (by exact ⟨rfl, rfl, rfl, rfl, rfl, rfl, rfl, rfl, rfl, rfl, (congrArg (fun z => some (Value.bool z)) e6), (congrArg (fun z => some (Value.bool z)) e6), (congrArg (fun z => some (Value.bool z)) e6), trivial⟩) ?_
          refine A.cons (A.q (some 20) (.int .i64 m) (by kernel_rfl) (qt_move rfl rfl) ?_)
          refine A.cons (A.q (some 21) (.bool (decide (m > 1048576))) (by kernel_rfl) (qt_pure (by kernel_rfl) fun _ => by kernel_rfl) ?_)
          refine A.cons (A.q (some 22) (.bool (decide (m > 1048576))) (by kernel_rfl) (qt_pure (by kernel_rfl) fun _ => by kernel_rfl) ?_)
          refine A.done ?_
          exact A.meet () trivial (A.here (by exact ⟨rfl, rfl, rfl, rfl, rfl, rfl, (by rw [e6]; rfl), trivial⟩) (List.Sublist.refl _))
      · skip
        refine A.tn ?_
        refine A.cond (E := (decide (m < 1)) || (decide (m > 1048576))) rfl (fun e7 => ?_) (fun e7 => ?_)
        · exact absurd e7 (by first | (simp; done) | (simp; omega) | omega | grind)
        · skip
          have p7 := e7; try simp only [decide_eq_true_eq, decide_eq_false_iff_not, beq_iff_eq, beq_eq_false_iff_ne, bne_iff_ne, bne_eq_false_iff_eq, ne_eq, Bool.and_eq_true, Bool.or_eq_true, Bool.or_eq_false_iff, Bool.not_eq_true', Bool.not_eq_false', Int.not_lt, Int.not_le, gt_iff_lt, ge_iff_le, Classical.not_not] at p7
          refine A.skip ?_
          refine A.tn ?_
          refine A.seq ?_
          refine A.region ?_
          refine A.cons (A.q (some 23) (.pointer (some ⟨rb1, 0, none⟩)) (by kernel_rfl) (qt_move rfl rfl) ?_)
          refine A.cons (A.q (some 24) (.int .i64 m) (by kernel_rfl) (qt_move rfl rfl) ?_)
          refine A.cons (A.q (some 25) (.agg #[(.pointer (some ⟨rb1, 0, none⟩)), (.int .i64 m), (.int .i64 0), (.int .u64 0), (.int .u64 0), (.int .u64 0), (.int .u64 0), (.int .u64 0), (.int .u64 0)]) (by kernel_rfl) (qt_pure (by kernel_rfl) fun _ => by kernel_rfl) ?_)
          refine A.cons (A.box 26 [(.pointer (some ⟨rb1, 0, none⟩)), (.int .i64 m), (.int .i64 0), (.int .u64 0), (.int .u64 0), (.int .u64 0), (.int .u64 0), (.int .u64 0), (.int .u64 0)] (by kernel_rfl) rfl rfl rfl (fun b2 => [ringI encPkt 118 74 rb1 rs1 r ([] : List Pkt), blk b2 [(.pointer (some ⟨rb1, 0, none⟩)), (.int .i64 m), (.int .i64 0), (.int .u64 0), (.int .u64 0), (.int .u64 0), (.int .u64 0), (.int .u64 0), (.int .u64 0)] 112]) (fun _ => rfl) ?_)
          intro b2
          refine A.cons (A.q (some 4) (.pointer (some ⟨b2, 0, none⟩)) (by kernel_rfl) (qt_assign rfl rfl) ?_)
          refine A.cons (A.q (some 5) (.int .i64 0) (by kernel_rfl) (qt_assign rfl rfl) ?_)
          refine A.done ?_
          refine A.norm [(0, (.int .i64 (r : Int))), (1, (.int .i64 m)), (4, (.pointer (some ⟨b2, 0, none⟩))), (5, (.int .i64 0)), (6, (.pointer (some ⟨rb1, 0, none⟩))), (7, (.int .i64 0)), (22, (.bool ((decide (m < 1)) || (decide (m > 1048576)))))] [ringI encPkt 118 74 rb1 rs1 r ([] : List Pkt), blk b2 [(.pointer (some ⟨rb1, 0, none⟩)), (.int .i64 m), (.int .i64 0), (.int .u64 0), (.int .u64 0), (.int .u64 0), (.int .u64 0), (.int .u64 0), (.int .u64 0)] 112] (by exact ⟨rfl, rfl, rfl, rfl, rfl, rfl, rfl, trivial⟩) rfl ?_
          refine A.tn ?_
          refine A.ret ?_
          refine A.post [(.pointer (some ⟨b2, 0, none⟩)), (.int .i64 0)] (fun a w r s => ⟨rv_tmp r rfl, rv_tmp r rfl, trivial⟩) (A.back (by kernel_rfl) ?_)
          refine A.cons (A.q (some 37) (.tuple #[(.pointer (some ⟨b2, 0, none⟩)), (.int .i64 0)]) (by kernel_rfl) (qt_move rfl rfl) ?_)
          refine A.cons (A.q (some 41) (.pointer (some ⟨b2, 0, none⟩)) (by kernel_rfl) (qt_pure (by kernel_rfl) fun _ => by kernel_rfl) ?_)
          refine A.cons (A.q (some 42) (.int .i64 0) (by kernel_rfl) (qt_pure (by kernel_rfl) fun _ => by kernel_rfl) ?_)
          refine A.cons (A.q (some 7) (.pointer (some ⟨b2, 0, none⟩)) (by kernel_rfl) (qt_assign rfl rfl) ?_)
          refine A.cons (A.q (some 8) (.int .i64 0) (by kernel_rfl) (qt_assign rfl rfl) ?_)
          refine A.done ?_
          refine A.norm [(0, (.int .i64 (r : Int))), (1, (.int .i64 m)), (2, (.slice A0 ((l).length) c0)), (6, (.bool false)), (35, (.bool ((decide (((l).length : Int) > 100)) || ((decide ((r : Int) < 1)) || ((decide ((r : Int) > 64)) || ((decide (m < 1)) || (decide (m > 1048576)))))))), (7, (.pointer (some ⟨b2, 0, none⟩))), (8, (.int .i64 0))] [ringI encPkt 118 74 rb1 rs1 r ([] : List Pkt), blk b2 [(.pointer (some ⟨rb1, 0, none⟩)), (.int .i64 m), (.int .i64 0), (.int .u64 0), (.int .u64 0), (.int .u64 0), (.int .u64 0), (.int .u64 0), (.int .u64 0)] 112] (by exact ⟨rfl, rfl, rfl, rfl, rfl, rfl, rfl, trivial⟩) rfl ?_
          refine A.tn ?_
          refine A.seq ?_
          refine A.region ?_
          refine A.cons (A.q (some 9) (.slice none 0 0) (by kernel_rfl) (qt_assign rfl rfl) ?_)
          refine A.cons (A.q (some 10) (.slice none 0 0) (by kernel_rfl) (qt_assign rfl rfl) ?_)
          refine A.done ?_
          refine A.norm [(0, (.int .i64 (r : Int))), (1, (.int .i64 m)), (2, (.slice A0 ((l).length) c0)), (6, (.bool false)), (35, (.bool ((decide (((l).length : Int) > 100)) || ((decide ((r : Int) < 1)) || ((decide ((r : Int) > 64)) || ((decide (m < 1)) || (decide (m > 1048576)))))))), (7, (.pointer (some ⟨b2, 0, none⟩))), (8, (.int .i64 0)), (9, (.slice none 0 0)), (10, (.slice none 0 0))] [ringI encPkt 118 74 rb1 rs1 r ([] : List Pkt), blk b2 [(.pointer (some ⟨rb1, 0, none⟩)), (.int .i64 m), (.int .i64 0), (.int .u64 0), (.int .u64 0), (.int .u64 0), (.int .u64 0), (.int .u64 0), (.int .u64 0)] 112] (by exact ⟨rfl, rfl, rfl, rfl, rfl, rfl, rfl, rfl, rfl, trivial⟩) rfl ?_
          refine A.tn ?_
          refine A.seq ?_
          refine A.seq ?_
          refine A.region ?_
          refine A.cons (A.q (some 43) (.slice A0 ((l).length) c0) (by kernel_rfl) (qt_move rfl rfl) ?_)
          refine A.cons (A.q (some 44) (.int .i64 ((l).length : Int)) (by kernel_rfl) (qt_pure (by kernel_rfl) fun _ => by kernel_rfl) ?_)
          refine A.cons (A.q (some 45) (.int .i64 0) (by kernel_rfl) (qt_move rfl rfl) ?_)
          refine A.done ?_
          refine A.norm [(0, (.int .i64 (r : Int))), (1, (.int .i64 m)), (2, (.slice A0 ((l).length) c0)), (6, (.bool false)), (35, (.bool ((decide (((l).length : Int) > 100)) || ((decide ((r : Int) < 1)) || ((decide ((r : Int) > 64)) || ((decide (m < 1)) || (decide (m > 1048576)))))))), (7, (.pointer (some ⟨b2, 0, none⟩))), (8, (.int .i64 0)), (9, (.slice none 0 0)), (10, (.slice none 0 0)), (43, (.slice A0 ((l).length) c0)), (44, (.int .i64 ((l).length : Int))), (45, (.int .i64 0))] [ringI encPkt 118 74 rb1 rs1 r ([] : List Pkt), blk b2 [(.pointer (some ⟨rb1, 0, none⟩)), (.int .i64 m), (.int .i64 0), (.int .u64 0), (.int .u64 0), (.int .u64 0), (.int .u64 0), (.int .u64 0), (.int .u64 0)] 112] (by exact ⟨rfl, rfl, rfl, rfl, rfl, rfl, rfl, rfl, rfl, rfl, rfl, rfl, trivial⟩) rfl ?_
          refine A.tn ?_
          refine A.block ?_
          refine A.ownNil 74 6 [ringI encPkt 118 74 rb1 rs1 r ([] : List Pkt), blk b2 [(.pointer (some ⟨rb1, 0, none⟩)), (.int .i64 m), (.int .i64 0), (.int .u64 0), (.int .u64 0), (.int .u64 0), (.int .u64 0), (.int .u64 0), (.int .u64 0)] 112, sl none (([] : List Pkt)).length 0 74 6 (V.flat encPkt ([] : List Pkt))] rfl ?_
          refine A.ownNil 74 6 [ringI encPkt 118 74 rb1 rs1 r ([] : List Pkt), blk b2 [(.pointer (some ⟨rb1, 0, none⟩)), (.int .i64 m), (.int .i64 0), (.int .u64 0), (.int .u64 0), (.int .u64 0), (.int .u64 0), (.int .u64 0), (.int .u64 0)] 112, sl none (([] : List Pkt)).length 0 74 6 (V.flat encPkt ([] : List Pkt)), sl none (([] : List Pkt)).length 0 74 6 (V.flat encPkt ([] : List Pkt))] rfl ?_
          refine A.loop (fun (x : Nat × (List Pkt) × (Option Addr) × Nat × Int × Int × Int × Int × Int × Int × Int) => match x with | (k, q, Ai, ci0, u, ci, co, cd, bi, bo, bd) => [(6, (.bool false)), (7, (.pointer (some ⟨b2, 0, none⟩))), (8, (.int .i64 0)), (43, (.slice A0 ((l).length) c0)), (44, (.int .i64 ((l).length : Int))), (45, (.int .i64 (k : Int))), (9, (.slice Ai ((q).length) ci0)), (10, (.slice none ((([] : List Pkt)).length) 0))]) (fun (x : Nat × (List Pkt) × (Option Addr) × Nat × Int × Int × Int × Int × Int × Int × Int) => match x with | (k, q, Ai, ci0, u, ci, co, cd, bi, bo, bd) => [ringI encPkt 118 74 rb1 rs1 r q, blk b2 [(.pointer (some ⟨rb1, 0, none⟩)), (.int .i64 m), (.int .i64 u), (.int .u64 ci), (.int .u64 co), (.int .u64 cd), (.int .u64 bi), (.int .u64 bo), (.int .u64 bd)] 112, sl Ai (q).length ci0 74 6 (V.flat encPkt q), sl none (([] : List Pkt)).length 0 74 6 (V.flat encPkt ([] : List Pkt))]) (fun (x : Nat × (List Pkt) × (Option Addr) × Nat × Int × Int × Int × Int × Int × Int × Int) => match x with | (k, q, Ai, ci0, u, ci, co, cd, bi, bo, bd) => k ≤ l.length ∧ q.length ≤ r ∧ u = lens q ∧ u ≤ (m : Int) ∧ ∀ x ∈ q, LenOk x) (fun (x : Nat × (List Pkt) × (Option Addr) × Nat × Int × Int × Int × Int × Int × Int × Int) => match x with | (k, q, Ai, ci0, u, ci, co, cd, bi, bo, bd) => l.length - k) (0, [], none, 0, 0, 0, 0, 0, 0, 0, 0) (⟨Nat.zero_le _, by simp, rfl, by omega, by simp⟩) ?_ ?_
          · exact A.here (by exact ⟨rfl, rfl, rfl, rfl, rfl, rfl, rfl, rfl, trivial⟩) (List.Sublist.refl _)
          · rintro ⟨k, q, Ai, ci0, u, ci, co, cd, bi, bo, bd⟩ ⟨hk, hq, hu, hm, hv⟩
            have hp := lens_pos q hv; rw [← hu] at hp
            refine A.norm [(6, (.bool false)), (7, (.pointer (some ⟨b2, 0, none⟩))), (8, (.int .i64 0)), (43, (.slice A0 ((l).length) c0)), (44, (.int .i64 ((l).length : Int))), (45, (.int .i64 (k : Int))), (9, (.slice Ai ((q).length) ci0)), (10, (.slice none ((([] : List Pkt)).length) 0))] [ringI encPkt 118 74 rb1 rs1 r q, blk b2 [(.pointer (some ⟨rb1, 0, none⟩)), (.int .i64 m), (.int .i64 u), (.int .u64 ci), (.int .u64 co), (.int .u64 cd), (.int .u64 bi), (.int .u64 bo), (.int .u64 bd)] 112, sl Ai (q).length ci0 74 6 (V.flat encPkt q), sl none (([] : List Pkt)).length 0 74 6 (V.flat encPkt ([] : List Pkt))] (by exact ⟨rfl, rfl, rfl, rfl, rfl, rfl, rfl, rfl, trivial⟩) rfl ?_
            refine A.seq ?_
            refine A.region ?_
            refine A.cons (A.q (some 46) (.bool (decide ((k : Int) < ((l).length : Int)))) (by kernel_rfl) (qt_pure (by kernel_rfl) fun _ => by kernel_rfl) ?_)
            refine A.done ?_
            refine A.norm [(6, (.bool false)), (7, (.pointer (some ⟨b2, 0, none⟩))), (8, (.int .i64 0)), (43, (.slice A0 ((l).length) c0)), (44, (.int .i64 ((l).length : Int))), (45, (.int .i64 (k : Int))), (9, (.slice Ai ((q).length) ci0)), (10, (.slice none ((([] : List Pkt)).length) 0)), (46, (.bool (decide ((k : Int) < ((l).length : Int)))))] [ringI encPkt 118 74 rb1 rs1 r q, blk b2 [(.pointer (some ⟨rb1, 0, none⟩)), (.int .i64 m), (.int .i64 u), (.int .u64 ci), (.int .u64 co), (.int .u64 cd), (.int .u64 bi), (.int .u64 bo), (.int .u64 bd)] 112, sl Ai (q).length ci0 74 6 (V.flat encPkt q), sl none (([] : List Pkt)).length 0 74 6 (V.flat encPkt ([] : List Pkt))] (by exact ⟨rfl, rfl, rfl, rfl, rfl, rfl, rfl, rfl, rfl, trivial⟩) rfl ?_
            refine A.tn ?_
            refine A.seq ?_
            refine A.cond (E := decide ((k : Int) < ((l).length : Int))) rfl (fun e8 => ?_) (fun e8 => ?_)
            · skip
              have p8 := e8; try simp only [decide_eq_true_eq, decide_eq_false_iff_not, beq_iff_eq, beq_eq_false_iff_ne, bne_iff_ne, bne_eq_false_iff_eq, ne_eq, Bool.and_eq_true, Bool.or_eq_true, Bool.or_eq_false_iff, Bool.not_eq_true', Bool.not_eq_false', Int.not_lt, Int.not_le, gt_iff_lt, ge_iff_le, Classical.not_not] at p8
              refine A.skip ?_
              refine A.tn ?_
              refine A.seq ?_
              refine A.block ?_
              refine A.seq ?_
              refine A.region ?_
              refine A.cons (A.q (some 47) (.pointer (some ((at0 A0).add (k * 6)))) (by kernel_rfl) (qt_indexN (el := 74) (enc := encPkt) (xs := l) (m := k) rfl rfl rfl (by kernel_rfl) (by kernel_rfl) encPkt_len (rd_old hl (by simp)) (by decide) (by first | omega | (simp; done) | (simp; omega))) ?_)
              obtain ⟨x3, hx3⟩ : ∃ x, (l)[k]? = some x := ⟨_, List.getElem?_eq_getElem (by omega)⟩
              refine A.cons (A.q (some 48) (.agg #[(.int .u64 x3.id), (.int .i64 x3.len), (.int .u16 x3.h0), (.int .u16 x3.h1), (.int .u16 x3.h2), (.int .u16 x3.h3)]) (by kernel_rfl) (qt_loadN (vs := [(.int .u64 x3.id), (.int .i64 x3.len), (.int .u16 x3.h0), (.int .u16 x3.h1), (.int .u16 x3.h2), (.int .u16 x3.h3)]) rfl rfl (by kernel_rfl) (reads_at0 (vs := [(.int .u64 x3.id), (.int .i64 x3.len), (.int .u16 x3.h0), (.int .u16 x3.h1), (.int .u16 x3.h2), (.int .u16 x3.h3)]) encPkt_len (rd_old hl (by simp)) hx3 (by simp) rfl)) ?_)
              refine A.cons (A.alloc 12 [(.int .u64 0), (.int .i64 0), (.int .u16 0), (.int .u16 0), (.int .u16 0), (.int .u16 0)] (by kernel_rfl) rfl (by kernel_rfl) (fun b4 => [ringI encPkt 118 74 rb1 rs1 r q, blk b2 [(.pointer (some ⟨rb1, 0, none⟩)), (.int .i64 m), (.int .i64 u), (.int .u64 ci), (.int .u64 co), (.int .u64 cd), (.int .u64 bi), (.int .u64 bo), (.int .u64 bd)] 112, sl Ai (q).length ci0 74 6 (V.flat encPkt q), sl none (([] : List Pkt)).length 0 74 6 (V.flat encPkt ([] : List Pkt)), blk b4 [(.int .u64 0), (.int .i64 0), (.int .u16 0), (.int .u16 0), (.int .u16 0), (.int .u16 0)] 74]) (fun _ => rfl) ?_)
              intro b4
              refine A.cons (A.store 4 (vs := [(.int .u64 x3.id), (.int .i64 x3.len), (.int .u16 x3.h0), (.int .u16 x3.h1), (.int .u16 x3.h2), (.int .u16 x3.h3)]) [ringI encPkt 118 74 rb1 rs1 r q, blk b2 [(.pointer (some ⟨rb1, 0, none⟩)), (.int .i64 m), (.int .i64 u), (.int .u64 ci), (.int .u64 co), (.int .u64 cd), (.int .u64 bi), (.int .u64 bo), (.int .u64 bd)] 112, sl Ai (q).length ci0 74 6 (V.flat encPkt q), sl none (([] : List Pkt)).length 0 74 6 (V.flat encPkt ([] : List Pkt)), blk b4 [(.int .u64 x3.id), (.int .i64 x3.len), (.int .u16 x3.h0), (.int .u16 x3.h1), (.int .u16 x3.h2), (.int .u16 x3.h3)] 74] (by kernel_rfl) rfl rfl rfl rfl (by kernel_rfl) rfl rfl (by kernel_rfl) rfl ?_)
              refine A.done ?_
              refine A.norm [(6, (.bool false)), (7, (.pointer (some ⟨b2, 0, none⟩))), (8, (.int .i64 0)), (43, (.slice A0 ((l).length) c0)), (44, (.int .i64 ((l).length : Int))), (45, (.int .i64 (k : Int))), (9, (.slice Ai ((q).length) ci0)), (10, (.slice none ((([] : List Pkt)).length) 0)), (46, (.bool (decide ((k : Int) < ((l).length : Int))))), (12, (.pointer (some ⟨b4, 0, none⟩)))] [ringI encPkt 118 74 rb1 rs1 r q, blk b2 [(.pointer (some ⟨rb1, 0, none⟩)), (.int .i64 m), (.int .i64 u), (.int .u64 ci), (.int .u64 co), (.int .u64 cd), (.int .u64 bi), (.int .u64 bo), (.int .u64 bd)] 112, sl Ai (q).length ci0 74 6 (V.flat encPkt q), sl none (([] : List Pkt)).length 0 74 6 (V.flat encPkt ([] : List Pkt)), blk b4 [(.int .u64 x3.id), (.int .i64 x3.len), (.int .u16 x3.h0), (.int .u16 x3.h1), (.int .u16 x3.h2), (.int .u16 x3.h3)] 74] (by exact ⟨rfl, rfl, rfl, rfl, rfl, rfl, rfl, rfl, rfl, rfl, trivial⟩) rfl ?_
              refine A.tn ?_
              refine A.seq ?_
              refine A.region ?_
              refine A.cons (A.q (some 49) (.pointer (some ⟨b2, 0, none⟩)) (by kernel_rfl) (qt_move rfl rfl) ?_)
              refine A.cons (A.q (some 50) (.agg #[(.int .u64 x3.id), (.int .i64 x3.len), (.int .u16 x3.h0), (.int .u16 x3.h1), (.int .u16 x3.h2), (.int .u16 x3.h3)]) (by kernel_rfl) (qt_loadN (vs := [(.int .u64 x3.id), (.int .i64 x3.len), (.int .u16 x3.h0), (.int .u16 x3.h1), (.int .u16 x3.h2), (.int .u16 x3.h3)]) rfl rfl (by kernel_rfl) (reads_blk (i := 4) rfl rfl)) ?_)
              refine A.cons (A.inl (some 51) [(.pointer (some ⟨b2, 0, none⟩)), (.agg #[(.int .u64 x3.id), (.int .i64 x3.len), (.int .u16 x3.h0), (.int .u16 x3.h1), (.int .u16 x3.h2), (.int .u16 x3.h3)])] [(0, (.pointer (some ⟨b2, 0, none⟩))), (1, (.agg #[(.int .u64 x3.id), (.int .i64 x3.len), (.int .u16 x3.h0), (.int .u16 x3.h1), (.int .u16 x3.h2), (.int .u16 x3.h3)]))] (by kernel_rfl) rfl (by kernel_rfl) rfl Try.func43 rfl rfl rfl ?_)
              refine A.seq ?_
              refine A.region ?_
              refine A.cons (A.box 3 [(.int .u64 x3.id), (.int .i64 x3.len), (.int .u16 x3.h0), (.int .u16 x3.h1), (.int .u16 x3.h2), (.int .u16 x3.h3)] (by kernel_rfl) rfl rfl rfl (fun b5 => [ringI encPkt 118 74 rb1 rs1 r q, blk b2 [(.pointer (some ⟨rb1, 0, none⟩)), (.int .i64 m), (.int .i64 u), (.int .u64 ci), (.int .u64 co), (.int .u64 cd), (.int .u64 bi), (.int .u64 bo), (.int .u64 bd)] 112, sl Ai (q).length ci0 74 6 (V.flat encPkt q), sl none (([] : List Pkt)).length 0 74 6 (V.flat encPkt ([] : List Pkt)), blk b4 [(.int .u64 x3.id), (.int .i64 x3.len), (.int .u16 x3.h0), (.int .u16 x3.h1), (.int .u16 x3.h2), (.int .u16 x3.h3)] 74, blk b5 [(.int .u64 x3.id), (.int .i64 x3.len), (.int .u16 x3.h0), (.int .u16 x3.h1), (.int .u16 x3.h2), (.int .u16 x3.h3)] 74]) (fun _ => rfl) ?_)
              intro b5
              refine A.cons (A.q (some 4) (.int .i64 0) (by kernel_rfl) (qt_assign rfl rfl) ?_)
              refine A.done ?_
              refine A.norm [(0, (.pointer (some ⟨b2, 0, none⟩))), (1, (.agg #[(.int .u64 x3.id), (.int .i64 x3.len), (.int .u16 x3.h0), (.int .u16 x3.h1), (.int .u16 x3.h2), (.int .u16 x3.h3)])), (3, (.pointer (some ⟨b5, 0, none⟩))), (4, (.int .i64 0))] [ringI encPkt 118 74 rb1 rs1 r q, blk b2 [(.pointer (some ⟨rb1, 0, none⟩)), (.int .i64 m), (.int .i64 u), (.int .u64 ci), (.int .u64 co), (.int .u64 cd), (.int .u64 bi), (.int .u64 bo), (.int .u64 bd)] 112, sl Ai (q).length ci0 74 6 (V.flat encPkt q), sl none (([] : List Pkt)).length 0 74 6 (V.flat encPkt ([] : List Pkt)), blk b4 [(.int .u64 x3.id), (.int .i64 x3.len), (.int .u16 x3.h0), (.int .u16 x3.h1), (.int .u16 x3.h2), (.int .u16 x3.h3)] 74, blk b5 [(.int .u64 x3.id), (.int .i64 x3.len), (.int .u16 x3.h0), (.int .u16 x3.h1), (.int .u16 x3.h2), (.int .u16 x3.h3)] 74] (by exact ⟨rfl, rfl, rfl, rfl, trivial⟩) rfl ?_
              refine A.tn ?_
              refine A.seq ?_
              refine A.block ?_
              refine A.seq ?_
              refine A.region ?_
              refine A.cons (A.q (some 6) (.pointer (some ⟨b2, 0, none⟩)) (by kernel_rfl) (qt_move rfl rfl) ?_)
              refine A.cons (A.q (some 7) (.bool false) (by kernel_rfl) (qt_pure (by kernel_rfl) fun _ => by kernel_rfl) ?_)
              refine A.cons (A.q (some 5) (.bool false) (by kernel_rfl) (qt_assign rfl rfl) ?_)
              refine A.done ?_
              refine A.norm [(0, (.pointer (some ⟨b2, 0, none⟩))), (1, (.agg #[(.int .u64 x3.id), (.int .i64 x3.len), (.int .u16 x3.h0), (.int .u16 x3.h1), (.int .u16 x3.h2), (.int .u16 x3.h3)])), (3, (.pointer (some ⟨b5, 0, none⟩))), (4, (.int .i64 0)), (5, (.bool false))] [ringI encPkt 118 74 rb1 rs1 r q, blk b2 [(.pointer (some ⟨rb1, 0, none⟩)), (.int .i64 m), (.int .i64 u), (.int .u64 ci), (.int .u64 co), (.int .u64 cd), (.int .u64 bi), (.int .u64 bo), (.int .u64 bd)] 112, sl Ai (q).length ci0 74 6 (V.flat encPkt q), sl none (([] : List Pkt)).length 0 74 6 (V.flat encPkt ([] : List Pkt)), blk b4 [(.int .u64 x3.id), (.int .i64 x3.len), (.int .u16 x3.h0), (.int .u16 x3.h1), (.int .u16 x3.h2), (.int .u16 x3.h3)] 74, blk b5 [(.int .u64 x3.id), (.int .i64 x3.len), (.int .u16 x3.h0), (.int .u16 x3.h1), (.int .u16 x3.h2), (.int .u16 x3.h3)] 74] (by exact ⟨rfl, rfl, rfl, rfl, rfl, trivial⟩) rfl ?_
              refine A.tn ?_
              refine A.cond_f rfl ?_
              refine A.seq ?_
              refine A.cutR (fun _ : Unit => [(0, (.pointer (some ⟨b2, 0, none⟩))), (1, (.agg #[(.int .u64 x3.id), (.int .i64 x3.len), (.int .u16 x3.h0), (.int .u16 x3.h1), (.int .u16 x3.h2), (.int .u16 x3.h3)])), (3, (.pointer (some ⟨b5, 0, none⟩))), (4, (.int .i64 0)), (5, (.bool false)), (8, (.bool ((decide (x3.len < 1)) || (decide (x3.len > 16384)))))]) (fun _ => [ringI encPkt 118 74 rb1 rs1 r q, blk b2 [(.pointer (some ⟨rb1, 0, none⟩)), (.int .i64 m), (.int .i64 u), (.int .u64 ci), (.int .u64 co), (.int .u64 cd), (.int .u64 bi), (.int .u64 bo), (.int .u64 bd)] 112, sl Ai (q).length ci0 74 6 (V.flat encPkt q), sl none (([] : List Pkt)).length 0 74 6 (V.flat encPkt ([] : List Pkt)), blk b4 [(.int .u64 x3.id), (.int .i64 x3.len), (.int .u16 x3.h0), (.int .u16 x3.h1), (.int .u16 x3.h2), (.int .u16 x3.h3)] 74, blk b5 [(.int .u64 x3.id), (.int .i64 x3.len), (.int .u16 x3.h0), (.int .u16 x3.h1), (.int .u16 x3.h2), (.int .u16 x3.h3)] 74]) (fun _ => True) ?_ (fun _ _ => ?_)
              · skip
                refine A.region ?_
                refine A.cons (A.q (some 9) (.pointer (some ⟨b5, 1, none⟩)) (by kernel_rfl) (qt_pure (by kernel_rfl) fun _ => by kernel_rfl) ?_)
                refine A.cons (A.q (some 10) (.int .i64 x3.len) (by kernel_rfl) (qt_load1 rfl rfl (by kernel_rfl) (reads_blk (i := 5) rfl rfl)) ?_)
                refine A.cons (A.q (some 11) (.bool (decide (x3.len < 1))) (by kernel_rfl) (qt_pure (by kernel_rfl) fun _ => by kernel_rfl) ?_)
                refine A.cons (A.q (some 12) (.bool (decide (x3.len < 1))) (by kernel_rfl) (qt_move rfl rfl) ?_)
                refine A.bool (decide (x3.len < 1)) (fun e9 => ?_) (fun e9 => ?_)
                · skip
                  refine A.sub [(0, (.pointer (some ⟨b2, 0, none⟩))), (1, (.agg #[(.int .u64 x3.id), (.int .i64 x3.len), (.int .u16 x3.h0), (.int .u16 x3.h1), (.int .u16 x3.h2), (.int .u16 x3.h3)])), (3, (.pointer (some ⟨b5, 0, none⟩))), (4, (.int .i64 0)), (5, (.bool false)), (9, (.pointer (some ⟨b5, 1, none⟩))), (10, (.int .i64 x3.len)), (11, (.bool true)), (12, (.bool true))] (by exact ⟨rfl, rfl, rfl, rfl, rfl, rfl, rfl, (congrArg (fun z => some (Value.bool z)) e9), (congrArg (fun z => some (Value.bool z)) e9), trivial⟩) ?_
                  refine A.cons (A.jump (some 13) rfl rfl (by intro x hx; cases hx; rfl) ?_)
                  refine A.cons (A.jump (some 14) rfl rfl (by intro x hx; cases hx; rfl) ?_)
                  refine A.cons (A.jump (some 15) rfl rfl (by intro x hx; cases hx; rfl) ?_)
                  refine A.cons (A.q (some 16) (.bool true) (by kernel_rfl) (qt_pure (by kernel_rfl) fun _ => by kernel_rfl) ?_)
                  refine A.cons (A.q (some 8) (.bool true) (by kernel_rfl) (qt_assign rfl rfl) ?_)
                  refine A.done ?_
                  exact A.meet () trivial (A.here (by exact ⟨rfl, rfl, rfl, rfl, rfl, (by rw [e9]; rfl), trivial⟩) (List.Sublist.refl _))
                · skip
                  refine A.sub [(0, (.pointer (some ⟨b2, 0, none⟩))), (1, (.agg #[(.int .u64 x3.id), (.int .i64 x3.len), (.int .u16 x3.h0), (.int .u16 x3.h1), (.int .u16 x3.h2), (.int .u16 x3.h3)])), (3, (.pointer (some ⟨b5, 0, none⟩))), (4, (.int .i64 0)), (5, (.bool false)), (9, (.pointer (some ⟨b5, 1, none⟩))), (10, (.int .i64 x3.len)), (11, (.bool false)), (12, (.bool false))] (by exact ⟨rfl, rfl, rfl, rfl, rfl, rfl, rfl, (congrArg (fun z => some (Value.bool z)) e9), (congrArg (fun z => some (Value.bool z)) e9), trivial⟩) ?_
                  refine A.cons (A.q (some 13) (.pointer (some ⟨b5, 1, none⟩)) (by kernel_rfl) (qt_pure (by kernel_rfl) fun _ => by kernel_rfl) ?_)
                  refine A.cons (A.q (some 14) (.int .i64 x3.len) (by kernel_rfl) (qt_load1 rfl rfl (by kernel_rfl) (reads_blk (i := 5) rfl rfl)) ?_)
                  refine A.cons (A.q (some 15) (.bool (decide (x3.len > 16384))) (by kernel_rfl) (qt_pure (by kernel_rfl) fun _ => by kernel_rfl) ?_)
                  refine A.cons (A.q (some 16) (.bool (decide (x3.len > 16384))) (by kernel_rfl) (qt_pure (by kernel_rfl) fun _ => by kernel_rfl) ?_)
                  refine A.cons (A.q (some 8) (.bool (decide (x3.len > 16384))) (by kernel_rfl) (qt_assign rfl rfl) ?_)
                  refine A.done ?_
                  exact A.meet () trivial (A.here (by exact ⟨rfl, rfl, rfl, rfl, rfl, (by rw [e9]; rfl), trivial⟩) (List.Sublist.refl _))
              · skip
                refine A.tn ?_
                refine A.cond (E := (decide (x3.len < 1)) || (decide (x3.len > 16384))) rfl (fun e10 => ?_) (fun e10 => ?_)
                · skip
                  have p10 := e10; try simp only [decide_eq_true_eq, decide_eq_false_iff_not, beq_iff_eq, beq_eq_false_iff_ne, bne_iff_ne, bne_eq_false_iff_eq, ne_eq, Bool.and_eq_true, Bool.or_eq_true, Bool.or_eq_false_iff, Bool.not_eq_true', Bool.not_eq_false', Int.not_lt, Int.not_le, gt_iff_lt, ge_iff_le, Classical.not_not] at p10
                  refine A.seq ?_
                  refine A.region ?_
                  refine A.cons (A.q (some 4) (.int .i64 26) (by kernel_rfl) (qt_assign rfl rfl) ?_)
                  refine A.done ?_
                  refine A.norm [(0, (.pointer (some ⟨b2, 0, none⟩))), (1, (.agg #[(.int .u64 x3.id), (.int .i64 x3.len), (.int .u16 x3.h0), (.int .u16 x3.h1), (.int .u16 x3.h2), (.int .u16 x3.h3)])), (3, (.pointer (some ⟨b5, 0, none⟩))), (4, (.int .i64 26)), (5, (.bool false)), (8, (.bool ((decide (x3.len < 1)) || (decide (x3.len > 16384)))))] [ringI encPkt 118 74 rb1 rs1 r q, blk b2 [(.pointer (some ⟨rb1, 0, none⟩)), (.int .i64 m), (.int .i64 u), (.int .u64 ci), (.int .u64 co), (.int .u64 cd), (.int .u64 bi), (.int .u64 bo), (.int .u64 bd)] 112, sl Ai (q).length ci0 74 6 (V.flat encPkt q), sl none (([] : List Pkt)).length 0 74 6 (V.flat encPkt ([] : List Pkt)), blk b4 [(.int .u64 x3.id), (.int .i64 x3.len), (.int .u16 x3.h0), (.int .u16 x3.h1), (.int .u16 x3.h2), (.int .u16 x3.h3)] 74, blk b5 [(.int .u64 x3.id), (.int .i64 x3.len), (.int .u16 x3.h0), (.int .u16 x3.h1), (.int .u16 x3.h2), (.int .u16 x3.h3)] 74] (by exact ⟨rfl, rfl, rfl, rfl, rfl, rfl, trivial⟩) rfl ?_
                  refine A.tn ?_
                  refine A.ret ?_
                  refine A.br ?_
                  refine A.tr ?_
                  refine A.post [(.int .i64 26)] (fun a w r s => ⟨rv_tmp r rfl, trivial⟩) (A.back (by kernel_rfl) ?_)
                  refine A.items [ringI encPkt 118 74 rb1 rs1 r q, blk b2 [(.pointer (some ⟨rb1, 0, none⟩)), (.int .i64 m), (.int .i64 u), (.int .u64 ci), (.int .u64 co), (.int .u64 cd), (.int .u64 bi), (.int .u64 bo), (.int .u64 bd)] 112, sl Ai (q).length ci0 74 6 (V.flat encPkt q), sl none (([] : List Pkt)).length 0 74 6 (V.flat encPkt ([] : List Pkt)), blk b4 [(.int .u64 x3.id), (.int .i64 x3.len), (.int .u16 x3.h0), (.int .u16 x3.h1), (.int .u16 x3.h2), (.int .u16 x3.h3)] 74] (List.Sublist.cons_cons _ (List.Sublist.cons_cons _ (List.Sublist.cons_cons _ (List.Sublist.cons_cons _ (List.Sublist.cons_cons _ (List.Sublist.cons _ (List.Sublist.slnil))))))) ?_
                  refine A.cons (A.q (some 52) (.bool false) (by kernel_rfl) (qt_pure (by kernel_rfl) fun _ => by kernel_rfl) ?_)
                  refine A.done ?_
                  refine A.norm [(6, (.bool false)), (7, (.pointer (some ⟨b2, 0, none⟩))), (8, (.int .i64 0)), (43, (.slice A0 ((l).length) c0)), (44, (.int .i64 ((l).length : Int))), (45, (.int .i64 (k : Int))), (9, (.slice Ai ((q).length) ci0)), (10, (.slice none ((([] : List Pkt)).length) 0)), (46, (.bool (decide ((k : Int) < ((l).length : Int))))), (12, (.pointer (some ⟨b4, 0, none⟩))), (52, (.bool false))] [ringI encPkt 118 74 rb1 rs1 r q, blk b2 [(.pointer (some ⟨rb1, 0, none⟩)), (.int .i64 m), (.int .i64 u), (.int .u64 ci), (.int .u64 co), (.int .u64 cd), (.int .u64 bi), (.int .u64 bo), (.int .u64 bd)] 112, sl Ai (q).length ci0 74 6 (V.flat encPkt q), sl none (([] : List Pkt)).length 0 74 6 (V.flat encPkt ([] : List Pkt)), blk b4 [(.int .u64 x3.id), (.int .i64 x3.len), (.int .u16 x3.h0), (.int .u16 x3.h1), (.int .u16 x3.h2), (.int .u16 x3.h3)] 74] (by exact ⟨rfl, rfl, rfl, rfl, rfl, rfl, rfl, rfl, rfl, rfl, rfl, trivial⟩) rfl ?_
                  refine A.tn ?_
                  refine A.cond_f rfl ?_
                  refine A.skip ?_
                  refine A.bn ?_
                  refine A.tn ?_
                  refine A.region ?_
                  refine A.cons (A.q (some 57) (.int .i64 ((k : Int) + 1)) (by kernel_rfl) (qt_as (congrArg (Value.int .i64) (wrap_i64 (e := (k : Int) + 1) (by simp at *; constructor <;> omega))) (qt_pure (v := .int .i64 (IntKind.i64.wrap ((k : Int) + 1))) (by kernel_rfl) fun _ => by kernel_rfl)) ?_)
                  refine A.cons (A.q (some 45) (.int .i64 ((k : Int) + 1)) (by kernel_rfl) (qt_move rfl rfl) ?_)
                  refine A.done ?_
                  refine A.norm [(6, (.bool false)), (7, (.pointer (some ⟨b2, 0, none⟩))), (8, (.int .i64 0)), (43, (.slice A0 ((l).length) c0)), (44, (.int .i64 ((l).length : Int))), (45, (.int .i64 ((k : Int) + 1))), (9, (.slice Ai ((q).length) ci0)), (10, (.slice none ((([] : List Pkt)).length) 0)), (46, (.bool (decide ((k : Int) < ((l).length : Int))))), (12, (.pointer (some ⟨b4, 0, none⟩))), (52, (.bool false))] [ringI encPkt 118 74 rb1 rs1 r q, blk b2 [(.pointer (some ⟨rb1, 0, none⟩)), (.int .i64 m), (.int .i64 u), (.int .u64 ci), (.int .u64 co), (.int .u64 cd), (.int .u64 bi), (.int .u64 bo), (.int .u64 bd)] 112, sl Ai (q).length ci0 74 6 (V.flat encPkt q), sl none (([] : List Pkt)).length 0 74 6 (V.flat encPkt ([] : List Pkt)), blk b4 [(.int .u64 x3.id), (.int .i64 x3.len), (.int .u16 x3.h0), (.int .u16 x3.h1), (.int .u16 x3.h2), (.int .u16 x3.h3)] 74] (by exact ⟨rfl, rfl, rfl, rfl, rfl, rfl, rfl, rfl, rfl, rfl, rfl, trivial⟩) rfl ?_
                  refine A.tn ?_
                  refine A.next (k + 1, q, Ai, ci0, u, ci, co, cd, bi, bo, bd) (⟨by omega, hq, hu, hm, hv⟩) (by simp only []; omega) ?_
                  exact A.here (by exact ⟨rfl, rfl, rfl, rfl, rfl, rfl, rfl, rfl, trivial⟩) (List.Sublist.cons_cons _ (List.Sublist.cons_cons _ (List.Sublist.cons_cons _ (List.Sublist.cons_cons _ (List.Sublist.cons _ (List.Sublist.slnil))))))
                · skip
                  have p10 := e10; try simp only [decide_eq_true_eq, decide_eq_false_iff_not, beq_iff_eq, beq_eq_false_iff_ne, bne_iff_ne, bne_eq_false_iff_eq, ne_eq, Bool.and_eq_true, Bool.or_eq_true, Bool.or_eq_false_iff, Bool.not_eq_true', Bool.not_eq_false', Int.not_lt, Int.not_le, gt_iff_lt, ge_iff_le, Classical.not_not] at p10
                  refine A.seq ?_
                  refine A.draw [blk b2 [(.pointer (some ⟨rb1, 0, none⟩)), (.int .i64 m), (.int .i64 u), (.int .u64 ci), (.int .u64 co), (.int .u64 cd), (.int .u64 bi), (.int .u64 bo), (.int .u64 bd)] 112, sl Ai (q).length ci0 74 6 (V.flat encPkt q), sl none (([] : List Pkt)).length 0 74 6 (V.flat encPkt ([] : List Pkt)), blk b4 [(.int .u64 x3.id), (.int .i64 x3.len), (.int .u16 x3.h0), (.int .u16 x3.h1), (.int .u16 x3.h2), (.int .u16 x3.h3)] 74, blk b5 [(.int .u64 x3.id), (.int .i64 x3.len), (.int .u16 x3.h0), (.int .u16 x3.h1), (.int .u16 x3.h2), (.int .u16 x3.h3)] 74] (by kernel_rfl) ?_
                  refine A.take 0 (some 18) (.pointer (some ⟨b5, 1, none⟩)) rfl (by kernel_rfl) (by kernel_rfl) (List.Sublist.cons _ (List.Sublist.cons_cons _ (List.Sublist.cons_cons _ (List.Sublist.cons_cons _ (List.Sublist.cons_cons _ (List.Sublist.cons_cons _ (List.Sublist.slnil))))))) (qt_pure (by kernel_rfl) fun _ => by kernel_rfl) ?_
                  refine A.take 1 (some 19) (.int .i64 x3.len) rfl (by kernel_rfl) (by kernel_rfl) (List.Sublist.cons _ (List.Sublist.cons_cons _ (List.Sublist.cons_cons _ (List.Sublist.cons_cons _ (List.Sublist.cons_cons _ (List.Sublist.cons_cons _ (List.Sublist.slnil))))))) (qt_load1 rfl rfl (by kernel_rfl) (reads_blk (i := 4) rfl rfl)) ?_
                  refine A.take 2 (some 20) (.pointer (some ⟨b2, 0, none⟩)) rfl (by kernel_rfl) (by kernel_rfl) (List.Sublist.cons _ (List.Sublist.cons_cons _ (List.Sublist.cons_cons _ (List.Sublist.cons_cons _ (List.Sublist.cons_cons _ (List.Sublist.cons_cons _ (List.Sublist.slnil))))))) (qt_move rfl rfl) ?_
                  refine A.take 3 (some 21) (.pointer (some ⟨b2, 0, none⟩)) rfl (by kernel_rfl) (by kernel_rfl) (List.Sublist.cons _ (List.Sublist.cons_cons _ (List.Sublist.cons_cons _ (List.Sublist.cons_cons _ (List.Sublist.cons_cons _ (List.Sublist.cons_cons _ (List.Sublist.slnil))))))) (qt_pure (by kernel_rfl) fun _ => by kernel_rfl) ?_
                  refine A.take 4 (some 22) (.pointer (some ⟨b2, 1, none⟩)) rfl (by kernel_rfl) (by kernel_rfl) (List.Sublist.cons _ (List.Sublist.cons_cons _ (List.Sublist.cons_cons _ (List.Sublist.cons_cons _ (List.Sublist.cons_cons _ (List.Sublist.cons_cons _ (List.Sublist.slnil))))))) (qt_pure (by kernel_rfl) fun _ => by kernel_rfl) ?_
                  refine A.take 5 (some 23) (.int .i64 m) rfl (by kernel_rfl) (by kernel_rfl) (List.Sublist.cons _ (List.Sublist.cons_cons _ (List.Sublist.cons_cons _ (List.Sublist.cons_cons _ (List.Sublist.cons_cons _ (List.Sublist.cons_cons _ (List.Sublist.slnil))))))) (qt_load1 rfl rfl (by kernel_rfl) (reads_blk (i := 0) rfl rfl)) ?_
                  refine A.take 6 (some 24) (.pointer (some ⟨b2, 0, none⟩)) rfl (by kernel_rfl) (by kernel_rfl) (List.Sublist.cons _ (List.Sublist.cons_cons _ (List.Sublist.cons_cons _ (List.Sublist.cons_cons _ (List.Sublist.cons_cons _ (List.Sublist.cons_cons _ (List.Sublist.slnil))))))) (qt_move rfl rfl) ?_
                  refine A.take 7 (some 25) (.pointer (some ⟨b2, 0, none⟩)) rfl (by kernel_rfl) (by kernel_rfl) (List.Sublist.cons _ (List.Sublist.cons_cons _ (List.Sublist.cons_cons _ (List.Sublist.cons_cons _ (List.Sublist.cons_cons _ (List.Sublist.cons_cons _ (List.Sublist.slnil))))))) (qt_pure (by kernel_rfl) fun _ => by kernel_rfl) ?_
                  refine A.take 8 (some 26) (.pointer (some ⟨b2, 2, none⟩)) rfl (by kernel_rfl) (by kernel_rfl) (List.Sublist.cons _ (List.Sublist.cons_cons _ (List.Sublist.cons_cons _ (List.Sublist.cons_cons _ (List.Sublist.cons_cons _ (List.Sublist.cons_cons _ (List.Sublist.slnil))))))) (qt_pure (by kernel_rfl) fun _ => by kernel_rfl) ?_
                  refine A.take 9 (some 27) (.int .i64 u) rfl (by kernel_rfl) (by kernel_rfl) (List.Sublist.cons _ (List.Sublist.cons_cons _ (List.Sublist.cons_cons _ (List.Sublist.cons_cons _ (List.Sublist.cons_cons _ (List.Sublist.cons_cons _ (List.Sublist.slnil))))))) (qt_load1 rfl rfl (by kernel_rfl) (reads_blk (i := 0) rfl rfl)) ?_
                  refine A.take 10 (some 28) (.int .i64 (m - u)) rfl (by kernel_rfl) (by kernel_rfl) (List.Sublist.cons _ (List.Sublist.cons_cons _ (List.Sublist.cons_cons _ (List.Sublist.cons_cons _ (List.Sublist.cons_cons _ (List.Sublist.cons_cons _ (List.Sublist.slnil))))))) (qt_as (congrArg (Value.int .i64) (wrap_i64 (e := m - u) (by simp at *; constructor <;> omega))) (qt_pure (v := .int .i64 (IntKind.i64.wrap (m - u))) (by kernel_rfl) fun _ => by kernel_rfl)) ?_
                  refine A.take 11 (some 29) (.bool (decide (x3.len > (m - u)))) rfl (by kernel_rfl) (by kernel_rfl) (List.Sublist.cons _ (List.Sublist.cons_cons _ (List.Sublist.cons_cons _ (List.Sublist.cons_cons _ (List.Sublist.cons_cons _ (List.Sublist.cons_cons _ (List.Sublist.slnil))))))) (qt_pure (by kernel_rfl) fun _ => by kernel_rfl) ?_
                  refine A.take 12 (some 30) (.bool (decide (x3.len > (m - u)))) rfl (by kernel_rfl) (by kernel_rfl) (List.Sublist.cons _ (List.Sublist.cons_cons _ (List.Sublist.cons_cons _ (List.Sublist.cons_cons _ (List.Sublist.cons_cons _ (List.Sublist.cons_cons _ (List.Sublist.slnil))))))) (qt_move rfl rfl) ?_
                  refine A.bool (decide (x3.len > (m - u))) (fun e11 => ?_) (fun e11 => ?_)
                  · skip
                    refine A.sub [(0, (.pointer (some ⟨b2, 0, none⟩))), (1, (.agg #[(.int .u64 x3.id), (.int .i64 x3.len), (.int .u16 x3.h0), (.int .u16 x3.h1), (.int .u16 x3.h2), (.int .u16 x3.h3)])), (3, (.pointer (some ⟨b5, 0, none⟩))), (4, (.int .i64 0)), (5, (.bool false)), (8, (.bool ((decide (x3.len < 1)) || (decide (x3.len > 16384))))), (18, (.pointer (some ⟨b5, 1, none⟩))), (19, (.int .i64 x3.len)), (20, (.pointer (some ⟨b2, 0, none⟩))), (21, (.pointer (some ⟨b2, 0, none⟩))), (22, (.pointer (some ⟨b2, 1, none⟩))), (23, (.int .i64 m)), (24, (.pointer (some ⟨b2, 0, none⟩))), (25, (.pointer (some ⟨b2, 0, none⟩))), (26, (.pointer (some ⟨b2, 2, none⟩))), (27, (.int .i64 u)), (28, (.int .i64 (m - u))), (29, (.bool true)), (30, (.bool true))] (by exact ⟨rfl, rfl, rfl, rfl, rfl, rfl, rfl, rfl, rfl, rfl, rfl, rfl, rfl, rfl, rfl, rfl, rfl, (congrArg (fun z => some (Value.bool z)) e11), (congrArg (fun z => some (Value.bool z)) e11), trivial⟩) ?_
                    refine A.takeJ 13 (some 31) rfl (by kernel_rfl) rfl rfl (by intro x hx; cases hx; rfl) (List.Sublist.cons _ (List.Sublist.cons_cons _ (List.Sublist.cons_cons _ (List.Sublist.cons_cons _ (List.Sublist.cons_cons _ (List.Sublist.cons_cons _ (List.Sublist.slnil))))))) ?_
                    refine A.takeJ 14 (some 32) rfl (by kernel_rfl) rfl rfl (by intro x hx; cases hx; rfl) (List.Sublist.cons _ (List.Sublist.cons_cons _ (List.Sublist.cons_cons _ (List.Sublist.cons_cons _ (List.Sublist.cons_cons _ (List.Sublist.cons_cons _ (List.Sublist.slnil))))))) ?_
                    refine A.takeJ 15 (some 33) rfl (by kernel_rfl) rfl rfl (by intro x hx; cases hx; rfl) (List.Sublist.cons _ (List.Sublist.cons_cons _ (List.Sublist.cons_cons _ (List.Sublist.cons_cons _ (List.Sublist.cons_cons _ (List.Sublist.cons_cons _ (List.Sublist.slnil))))))) ?_
                    refine A.takeJ 16 (some 34) rfl (by kernel_rfl) rfl rfl (by intro x hx; cases hx; rfl) (List.Sublist.cons _ (List.Sublist.cons_cons _ (List.Sublist.cons_cons _ (List.Sublist.cons_cons _ (List.Sublist.cons_cons _ (List.Sublist.cons_cons _ (List.Sublist.slnil))))))) ?_
                    refine A.takeJ 17 (some 35) rfl (by kernel_rfl) rfl rfl (by intro x hx; cases hx; rfl) (List.Sublist.cons _ (List.Sublist.cons_cons _ (List.Sublist.cons_cons _ (List.Sublist.cons_cons _ (List.Sublist.cons_cons _ (List.Sublist.cons_cons _ (List.Sublist.slnil))))))) ?_
                    refine A.takeJ 18 (some 36) rfl (by kernel_rfl) rfl rfl (by intro x hx; cases hx; rfl) (List.Sublist.cons _ (List.Sublist.cons_cons _ (List.Sublist.cons_cons _ (List.Sublist.cons_cons _ (List.Sublist.cons_cons _ (List.Sublist.cons_cons _ (List.Sublist.slnil))))))) ?_
                    refine A.takeJ 19 (some 37) rfl (by kernel_rfl) rfl rfl (by intro x hx; cases hx; rfl) (List.Sublist.cons _ (List.Sublist.cons_cons _ (List.Sublist.cons_cons _ (List.Sublist.cons_cons _ (List.Sublist.cons_cons _ (List.Sublist.cons_cons _ (List.Sublist.slnil))))))) ?_
                    refine A.take 20 (some 38) (.bool true) rfl (by kernel_rfl) (by kernel_rfl) (List.Sublist.cons _ (List.Sublist.cons_cons _ (List.Sublist.cons_cons _ (List.Sublist.cons_cons _ (List.Sublist.cons_cons _ (List.Sublist.cons_cons _ (List.Sublist.slnil))))))) (qt_pure (by kernel_rfl) fun _ => by kernel_rfl) ?_
                    refine A.take 21 (some 17) (.bool true) rfl (by kernel_rfl) (by kernel_rfl) (List.Sublist.cons _ (List.Sublist.cons_cons _ (List.Sublist.cons_cons _ (List.Sublist.cons_cons _ (List.Sublist.cons_cons _ (List.Sublist.cons_cons _ (List.Sublist.slnil))))))) (qt_assign rfl rfl) ?_
                    refine A.fin (by kernel_rfl) ?_
                    refine A.norm [(0, (.pointer (some ⟨b2, 0, none⟩))), (1, (.agg #[(.int .u64 x3.id), (.int .i64 x3.len), (.int .u16 x3.h0), (.int .u16 x3.h1), (.int .u16 x3.h2), (.int .u16 x3.h3)])), (3, (.pointer (some ⟨b5, 0, none⟩))), (4, (.int .i64 0)), (5, (.bool false)), (8, (.bool ((decide (x3.len < 1)) || (decide (x3.len > 16384))))), (17, (.bool true))] [ringI encPkt 118 74 rb1 rs1 r q, blk b2 [(.pointer (some ⟨rb1, 0, none⟩)), (.int .i64 m), (.int .i64 u), (.int .u64 ci), (.int .u64 co), (.int .u64 cd), (.int .u64 bi), (.int .u64 bo), (.int .u64 bd)] 112, sl Ai (q).length ci0 74 6 (V.flat encPkt q), sl none (([] : List Pkt)).length 0 74 6 (V.flat encPkt ([] : List Pkt)), blk b4 [(.int .u64 x3.id), (.int .i64 x3.len), (.int .u16 x3.h0), (.int .u16 x3.h1), (.int .u16 x3.h2), (.int .u16 x3.h3)] 74, blk b5 [(.int .u64 x3.id), (.int .i64 x3.len), (.int .u16 x3.h0), (.int .u16 x3.h1), (.int .u16 x3.h2), (.int .u16 x3.h3)] 74] (by exact ⟨rfl, rfl, rfl, rfl, rfl, rfl, rfl, trivial⟩) rfl ?_
                    refine A.tn ?_
                    refine A.cond_t rfl ?_
                    refine A.seq ?_
                    refine A.region ?_
                    refine A.cons (A.q (some 39) (.pointer (some ⟨b2, 0, none⟩)) (by kernel_rfl) (qt_move rfl rfl) ?_)
                    refine A.cons (A.q (some 40) (.pointer (some ⟨b2, 0, none⟩)) (by kernel_rfl) (qt_pure (by kernel_rfl) fun _ => by kernel_rfl) ?_)
                    refine A.cons (A.q (some 41) (.pointer (some ⟨b2, 3, none⟩)) (by kernel_rfl) (qt_pure (by kernel_rfl) fun _ => by kernel_rfl) ?_)
                    refine A.cons (A.q (some 42) (.pointer (some ⟨b2, 5, none⟩)) (by kernel_rfl) (qt_pure (by kernel_rfl) fun _ => by kernel_rfl) ?_)
                    refine A.cons (A.q (some 43) (.int .u64 cd) (by kernel_rfl) (qt_load1 rfl rfl (by kernel_rfl) (reads_blk (i := 1) rfl rfl)) ?_)
                    refine A.cons (A.q (some 44) (.int .u64 (IntKind.u64.wrap (cd + 1))) (by kernel_rfl) (qt_pure (by kernel_rfl) fun _ => by kernel_rfl) ?_)
                    refine A.cons (A.q (some 45) (.pointer (some ⟨b2, 0, none⟩)) (by kernel_rfl) (qt_pure (by kernel_rfl) fun _ => by kernel_rfl) ?_)
                    refine A.cons (A.q (some 46) (.pointer (some ⟨b2, 3, none⟩)) (by kernel_rfl) (qt_pure (by kernel_rfl) fun _ => by kernel_rfl) ?_)
                    refine A.cons (A.q (some 47) (.pointer (some ⟨b2, 5, none⟩)) (by kernel_rfl) (qt_pure (by kernel_rfl) fun _ => by kernel_rfl) ?_)
                    refine A.cons (A.store 1 (vs := [(.int .u64 (IntKind.u64.wrap (cd + 1)))]) [ringI encPkt 118 74 rb1 rs1 r q, blk b2 [(.pointer (some ⟨rb1, 0, none⟩)), (.int .i64 m), (.int .i64 u), (.int .u64 ci), (.int .u64 co), (.int .u64 (IntKind.u64.wrap (cd + 1))), (.int .u64 bi), (.int .u64 bo), (.int .u64 bd)] 112, sl Ai (q).length ci0 74 6 (V.flat encPkt q), sl none (([] : List Pkt)).length 0 74 6 (V.flat encPkt ([] : List Pkt)), blk b4 [(.int .u64 x3.id), (.int .i64 x3.len), (.int .u16 x3.h0), (.int .u16 x3.h1), (.int .u16 x3.h2), (.int .u16 x3.h3)] 74, blk b5 [(.int .u64 x3.id), (.int .i64 x3.len), (.int .u16 x3.h0), (.int .u16 x3.h1), (.int .u16 x3.h2), (.int .u16 x3.h3)] 74] (by kernel_rfl) rfl rfl rfl rfl (by kernel_rfl) rfl rfl (by kernel_rfl) rfl ?_)
                    refine A.done ?_
                    refine A.norm [(0, (.pointer (some ⟨b2, 0, none⟩))), (1, (.agg #[(.int .u64 x3.id), (.int .i64 x3.len), (.int .u16 x3.h0), (.int .u16 x3.h1), (.int .u16 x3.h2), (.int .u16 x3.h3)])), (3, (.pointer (some ⟨b5, 0, none⟩))), (4, (.int .i64 0)), (5, (.bool false)), (8, (.bool ((decide (x3.len < 1)) || (decide (x3.len > 16384))))), (17, (.bool true))] [ringI encPkt 118 74 rb1 rs1 r q, blk b2 [(.pointer (some ⟨rb1, 0, none⟩)), (.int .i64 m), (.int .i64 u), (.int .u64 ci), (.int .u64 co), (.int .u64 (IntKind.u64.wrap (cd + 1))), (.int .u64 bi), (.int .u64 bo), (.int .u64 bd)] 112, sl Ai (q).length ci0 74 6 (V.flat encPkt q), sl none (([] : List Pkt)).length 0 74 6 (V.flat encPkt ([] : List Pkt)), blk b4 [(.int .u64 x3.id), (.int .i64 x3.len), (.int .u16 x3.h0), (.int .u16 x3.h1), (.int .u16 x3.h2), (.int .u16 x3.h3)] 74, blk b5 [(.int .u64 x3.id), (.int .i64 x3.len), (.int .u16 x3.h0), (.int .u16 x3.h1), (.int .u16 x3.h2), (.int .u16 x3.h3)] 74] (by exact ⟨rfl, rfl, rfl, rfl, rfl, rfl, rfl, trivial⟩) rfl ?_
                    refine A.tn ?_
                    refine A.seq ?_
                    refine A.draw [ringI encPkt 118 74 rb1 rs1 r q, sl Ai (q).length ci0 74 6 (V.flat encPkt q), sl none (([] : List Pkt)).length 0 74 6 (V.flat encPkt ([] : List Pkt)), blk b4 [(.int .u64 x3.id), (.int .i64 x3.len), (.int .u16 x3.h0), (.int .u16 x3.h1), (.int .u16 x3.h2), (.int .u16 x3.h3)] 74, blk b5 [(.int .u64 x3.id), (.int .i64 x3.len), (.int .u16 x3.h0), (.int .u16 x3.h1), (.int .u16 x3.h2), (.int .u16 x3.h3)] 74] (by kernel_rfl) ?_
                    refine A.take 0 (some 48) (.pointer (some ⟨b2, 0, none⟩)) rfl (by kernel_rfl) (by kernel_rfl) (List.Sublist.cons_cons _ (List.Sublist.cons _ (List.Sublist.cons_cons _ (List.Sublist.cons_cons _ (List.Sublist.cons_cons _ (List.Sublist.cons_cons _ (List.Sublist.slnil))))))) (qt_move rfl rfl) ?_
                    refine A.take 1 (some 49) (.pointer (some ⟨b2, 0, none⟩)) rfl (by kernel_rfl) (by kernel_rfl) (List.Sublist.cons_cons _ (List.Sublist.cons _ (List.Sublist.cons_cons _ (List.Sublist.cons_cons _ (List.Sublist.cons_cons _ (List.Sublist.cons_cons _ (List.Sublist.slnil))))))) (qt_pure (by kernel_rfl) fun _ => by kernel_rfl) ?_
                    refine A.take 2 (some 50) (.pointer (some ⟨b2, 3, none⟩)) rfl (by kernel_rfl) (by kernel_rfl) (List.Sublist.cons_cons _ (List.Sublist.cons _ (List.Sublist.cons_cons _ (List.Sublist.cons_cons _ (List.Sublist.cons_cons _ (List.Sublist.cons_cons _ (List.Sublist.slnil))))))) (qt_pure (by kernel_rfl) fun _ => by kernel_rfl) ?_
                    refine A.take 3 (some 51) (.pointer (some ⟨b2, 8, none⟩)) rfl (by kernel_rfl) (by kernel_rfl) (List.Sublist.cons_cons _ (List.Sublist.cons _ (List.Sublist.cons_cons _ (List.Sublist.cons_cons _ (List.Sublist.cons_cons _ (List.Sublist.cons_cons _ (List.Sublist.slnil))))))) (qt_pure (by kernel_rfl) fun _ => by kernel_rfl) ?_
                    refine A.take 5 (some 53) (.pointer (some ⟨b5, 1, none⟩)) rfl (by kernel_rfl) (by kernel_rfl) (List.Sublist.cons_cons _ (List.Sublist.cons _ (List.Sublist.cons_cons _ (List.Sublist.cons_cons _ (List.Sublist.cons_cons _ (List.Sublist.cons_cons _ (List.Sublist.slnil))))))) (qt_pure (by kernel_rfl) fun _ => by kernel_rfl) ?_
                    refine A.take 6 (some 54) (.int .i64 x3.len) rfl (by kernel_rfl) (by kernel_rfl) (List.Sublist.cons_cons _ (List.Sublist.cons _ (List.Sublist.cons_cons _ (List.Sublist.cons_cons _ (List.Sublist.cons_cons _ (List.Sublist.cons_cons _ (List.Sublist.slnil))))))) (qt_load1 rfl rfl (by kernel_rfl) (reads_blk (i := 4) rfl rfl)) ?_
                    refine A.take 7 (some 55) (.int .u64 (IntKind.u64.wrap (x3.len))) rfl (by kernel_rfl) (by kernel_rfl) (List.Sublist.cons_cons _ (List.Sublist.cons _ (List.Sublist.cons_cons _ (List.Sublist.cons_cons _ (List.Sublist.cons_cons _ (List.Sublist.cons_cons _ (List.Sublist.slnil))))))) (qt_pure (by kernel_rfl) fun _ => by kernel_rfl) ?_
                    refine A.only 4 rfl (by kernel_rfl) (A.q (some 52) (.int .u64 bd) (by kernel_rfl) (qt_load1 rfl rfl (by kernel_rfl) (reads_blk (i := 1) rfl rfl)) ?_)
                    refine A.and (List.Sublist.cons_cons _ (List.Sublist.cons _ (List.Sublist.cons_cons _ (List.Sublist.cons_cons _ (List.Sublist.cons_cons _ (List.Sublist.cons_cons _ (List.Sublist.slnil))))))) ?_
                    refine A.take 8 (some 56) (.int .u64 (IntKind.u64.wrap (bd + (IntKind.u64.wrap (x3.len))))) rfl (by kernel_rfl) (by kernel_rfl) (List.Sublist.cons_cons _ (List.Sublist.cons _ (List.Sublist.cons_cons _ (List.Sublist.cons_cons _ (List.Sublist.cons_cons _ (List.Sublist.cons_cons _ (List.Sublist.slnil))))))) (qt_pure (by kernel_rfl) fun _ => by kernel_rfl) ?_
                    refine A.take 9 (some 57) (.pointer (some ⟨b2, 0, none⟩)) rfl (by kernel_rfl) (by kernel_rfl) (List.Sublist.cons_cons _ (List.Sublist.cons _ (List.Sublist.cons_cons _ (List.Sublist.cons_cons _ (List.Sublist.cons_cons _ (List.Sublist.cons_cons _ (List.Sublist.slnil))))))) (qt_pure (by kernel_rfl) fun _ => by kernel_rfl) ?_
                    refine A.take 10 (some 58) (.pointer (some ⟨b2, 3, none⟩)) rfl (by kernel_rfl) (by kernel_rfl) (List.Sublist.cons_cons _ (List.Sublist.cons _ (List.Sublist.cons_cons _ (List.Sublist.cons_cons _ (List.Sublist.cons_cons _ (List.Sublist.cons_cons _ (List.Sublist.slnil))))))) (qt_pure (by kernel_rfl) fun _ => by kernel_rfl) ?_
                    refine A.take 11 (some 59) (.pointer (some ⟨b2, 8, none⟩)) rfl (by kernel_rfl) (by kernel_rfl) (List.Sublist.cons_cons _ (List.Sublist.cons _ (List.Sublist.cons_cons _ (List.Sublist.cons_cons _ (List.Sublist.cons_cons _ (List.Sublist.cons_cons _ (List.Sublist.slnil))))))) (qt_pure (by kernel_rfl) fun _ => by kernel_rfl) ?_
                    refine A.only 12 rfl (by kernel_rfl) (A.store 1 (vs := [(.int .u64 (IntKind.u64.wrap (bd + (IntKind.u64.wrap (x3.len)))))]) [ringI encPkt 118 74 rb1 rs1 r q, blk b2 [(.pointer (some ⟨rb1, 0, none⟩)), (.int .i64 m), (.int .i64 u), (.int .u64 ci), (.int .u64 co), (.int .u64 (IntKind.u64.wrap (cd + 1))), (.int .u64 bi), (.int .u64 bo), (.int .u64 (IntKind.u64.wrap (bd + (IntKind.u64.wrap (x3.len)))))] 112, sl Ai (q).length ci0 74 6 (V.flat encPkt q), sl none (([] : List Pkt)).length 0 74 6 (V.flat encPkt ([] : List Pkt)), blk b4 [(.int .u64 x3.id), (.int .i64 x3.len), (.int .u16 x3.h0), (.int .u16 x3.h1), (.int .u16 x3.h2), (.int .u16 x3.h3)] 74, blk b5 [(.int .u64 x3.id), (.int .i64 x3.len), (.int .u16 x3.h0), (.int .u16 x3.h1), (.int .u16 x3.h2), (.int .u16 x3.h3)] 74] (by kernel_rfl) rfl rfl rfl rfl (by kernel_rfl) rfl rfl (by kernel_rfl) rfl ?_)
                    refine A.and (List.Sublist.cons_cons _ (List.Sublist.cons _ (List.Sublist.cons_cons _ (List.Sublist.cons_cons _ (List.Sublist.cons_cons _ (List.Sublist.cons_cons _ (List.Sublist.slnil))))))) ?_
                    refine A.fin (by kernel_rfl) ?_
                    refine A.norm [(0, (.pointer (some ⟨b2, 0, none⟩))), (1, (.agg #[(.int .u64 x3.id), (.int .i64 x3.len), (.int .u16 x3.h0), (.int .u16 x3.h1), (.int .u16 x3.h2), (.int .u16 x3.h3)])), (3, (.pointer (some ⟨b5, 0, none⟩))), (4, (.int .i64 0)), (5, (.bool false)), (8, (.bool ((decide (x3.len < 1)) || (decide (x3.len > 16384))))), (17, (.bool true))] [ringI encPkt 118 74 rb1 rs1 r q, blk b2 [(.pointer (some ⟨rb1, 0, none⟩)), (.int .i64 m), (.int .i64 u), (.int .u64 ci), (.int .u64 co), (.int .u64 (IntKind.u64.wrap (cd + 1))), (.int .u64 bi), (.int .u64 bo), (.int .u64 (IntKind.u64.wrap (bd + (IntKind.u64.wrap (x3.len)))))] 112, sl Ai (q).length ci0 74 6 (V.flat encPkt q), sl none (([] : List Pkt)).length 0 74 6 (V.flat encPkt ([] : List Pkt)), blk b4 [(.int .u64 x3.id), (.int .i64 x3.len), (.int .u16 x3.h0), (.int .u16 x3.h1), (.int .u16 x3.h2), (.int .u16 x3.h3)] 74, blk b5 [(.int .u64 x3.id), (.int .i64 x3.len), (.int .u16 x3.h0), (.int .u16 x3.h1), (.int .u16 x3.h2), (.int .u16 x3.h3)] 74] (by exact ⟨rfl, rfl, rfl, rfl, rfl, rfl, rfl, trivial⟩) rfl ?_
                    refine A.tn ?_
                    refine A.seq ?_
                    refine A.region ?_
                    refine A.cons (A.q (some 4) (.int .i64 30) (by kernel_rfl) (qt_assign rfl rfl) ?_)
                    refine A.done ?_
                    refine A.norm [(0, (.pointer (some ⟨b2, 0, none⟩))), (1, (.agg #[(.int .u64 x3.id), (.int .i64 x3.len), (.int .u16 x3.h0), (.int .u16 x3.h1), (.int .u16 x3.h2), (.int .u16 x3.h3)])), (3, (.pointer (some ⟨b5, 0, none⟩))), (4, (.int .i64 30)), (5, (.bool false)), (8, (.bool ((decide (x3.len < 1)) || (decide (x3.len > 16384))))), (17, (.bool true))] [ringI encPkt 118 74 rb1 rs1 r q, blk b2 [(.pointer (some ⟨rb1, 0, none⟩)), (.int .i64 m), (.int .i64 u), (.int .u64 ci), (.int .u64 co), (.int .u64 (IntKind.u64.wrap (cd + 1))), (.int .u64 bi), (.int .u64 bo), (.int .u64 (IntKind.u64.wrap (bd + (IntKind.u64.wrap (x3.len)))))] 112, sl Ai (q).length ci0 74 6 (V.flat encPkt q), sl none (([] : List Pkt)).length 0 74 6 (V.flat encPkt ([] : List Pkt)), blk b4 [(.int .u64 x3.id), (.int .i64 x3.len), (.int .u16 x3.h0), (.int .u16 x3.h1), (.int .u16 x3.h2), (.int .u16 x3.h3)] 74, blk b5 [(.int .u64 x3.id), (.int .i64 x3.len), (.int .u16 x3.h0), (.int .u16 x3.h1), (.int .u16 x3.h2), (.int .u16 x3.h3)] 74] (by exact ⟨rfl, rfl, rfl, rfl, rfl, rfl, rfl, trivial⟩) rfl ?_
                    refine A.tn ?_
                    refine A.ret ?_
                    refine A.br ?_
                    refine A.tr ?_
                    refine A.post [(.int .i64 30)] (fun a w r s => ⟨rv_tmp r rfl, trivial⟩) (A.back (by kernel_rfl) ?_)
                    refine A.items [ringI encPkt 118 74 rb1 rs1 r q, blk b2 [(.pointer (some ⟨rb1, 0, none⟩)), (.int .i64 m), (.int .i64 u), (.int .u64 ci), (.int .u64 co), (.int .u64 (IntKind.u64.wrap (cd + 1))), (.int .u64 bi), (.int .u64 bo), (.int .u64 (IntKind.u64.wrap (bd + (IntKind.u64.wrap (x3.len)))))] 112, sl Ai (q).length ci0 74 6 (V.flat encPkt q), sl none (([] : List Pkt)).length 0 74 6 (V.flat encPkt ([] : List Pkt)), blk b4 [(.int .u64 x3.id), (.int .i64 x3.len), (.int .u16 x3.h0), (.int .u16 x3.h1), (.int .u16 x3.h2), (.int .u16 x3.h3)] 74] (List.Sublist.cons_cons _ (List.Sublist.cons_cons _ (List.Sublist.cons_cons _ (List.Sublist.cons_cons _ (List.Sublist.cons_cons _ (List.Sublist.cons _ (List.Sublist.slnil))))))) ?_
                    refine A.cons (A.q (some 52) (.bool false) (by kernel_rfl) (qt_pure (by kernel_rfl) fun _ => by kernel_rfl) ?_)
                    refine A.done ?_
                    refine A.norm [(6, (.bool false)), (7, (.pointer (some ⟨b2, 0, none⟩))), (8, (.int .i64 0)), (43, (.slice A0 ((l).length) c0)), (44, (.int .i64 ((l).length : Int))), (45, (.int .i64 (k : Int))), (9, (.slice Ai ((q).length) ci0)), (10, (.slice none ((([] : List Pkt)).length) 0)), (46, (.bool (decide ((k : Int) < ((l).length : Int))))), (12, (.pointer (some ⟨b4, 0, none⟩))), (52, (.bool false))] [ringI encPkt 118 74 rb1 rs1 r q, blk b2 [(.pointer (some ⟨rb1, 0, none⟩)), (.int .i64 m), (.int .i64 u), (.int .u64 ci), (.int .u64 co), (.int .u64 (IntKind.u64.wrap (cd + 1))), (.int .u64 bi), (.int .u64 bo), (.int .u64 (IntKind.u64.wrap (bd + (IntKind.u64.wrap (x3.len)))))] 112, sl Ai (q).length ci0 74 6 (V.flat encPkt q), sl none (([] : List Pkt)).length 0 74 6 (V.flat encPkt ([] : List Pkt)), blk b4 [(.int .u64 x3.id), (.int .i64 x3.len), (.int .u16 x3.h0), (.int .u16 x3.h1), (.int .u16 x3.h2), (.int .u16 x3.h3)] 74] (by exact ⟨rfl, rfl, rfl, rfl, rfl, rfl, rfl, rfl, rfl, rfl, rfl, trivial⟩) rfl ?_
                    refine A.tn ?_
                    refine A.cond_f rfl ?_
                    refine A.skip ?_
                    refine A.bn ?_
                    refine A.tn ?_
                    refine A.region ?_
                    refine A.cons (A.q (some 57) (.int .i64 ((k : Int) + 1)) (by kernel_rfl) (qt_as (congrArg (Value.int .i64) (wrap_i64 (e := (k : Int) + 1) (by simp at *; constructor <;> omega))) (qt_pure (v := .int .i64 (IntKind.i64.wrap ((k : Int) + 1))) (by kernel_rfl) fun _ => by kernel_rfl)) ?_)
                    refine A.cons (A.q (some 45) (.int .i64 ((k : Int) + 1)) (by kernel_rfl) (qt_move rfl rfl) ?_)
                    refine A.done ?_
                    refine A.norm [(6, (.bool false)), (7, (.pointer (some ⟨b2, 0, none⟩))), (8, (.int .i64 0)), (43, (.slice A0 ((l).length) c0)), (44, (.int .i64 ((l).length : Int))), (45, (.int .i64 ((k : Int) + 1))), (9, (.slice Ai ((q).length) ci0)), (10, (.slice none ((([] : List Pkt)).length) 0)), (46, (.bool (decide ((k : Int) < ((l).length : Int))))), (12, (.pointer (some ⟨b4, 0, none⟩))), (52, (.bool false))] [ringI encPkt 118 74 rb1 rs1 r q, blk b2 [(.pointer (some ⟨rb1, 0, none⟩)), (.int .i64 m), (.int .i64 u), (.int .u64 ci), (.int .u64 co), (.int .u64 (IntKind.u64.wrap (cd + 1))), (.int .u64 bi), (.int .u64 bo), (.int .u64 (IntKind.u64.wrap (bd + (IntKind.u64.wrap (x3.len)))))] 112, sl Ai (q).length ci0 74 6 (V.flat encPkt q), sl none (([] : List Pkt)).length 0 74 6 (V.flat encPkt ([] : List Pkt)), blk b4 [(.int .u64 x3.id), (.int .i64 x3.len), (.int .u16 x3.h0), (.int .u16 x3.h1), (.int .u16 x3.h2), (.int .u16 x3.h3)] 74] (by exact ⟨rfl, rfl, rfl, rfl, rfl, rfl, rfl, rfl, rfl, rfl, rfl, trivial⟩) rfl ?_
                    refine A.tn ?_
                    refine A.next (k + 1, q, Ai, ci0, u, ci, co, IntKind.u64.wrap (cd + 1), bi, bo, IntKind.u64.wrap (bd + (IntKind.u64.wrap (x3.len)))) (⟨by omega, hq, hu, hm, hv⟩) (by simp only []; omega) ?_
                    exact A.here (by exact ⟨rfl, rfl, rfl, rfl, rfl, rfl, rfl, rfl, trivial⟩) (List.Sublist.cons_cons _ (List.Sublist.cons_cons _ (List.Sublist.cons_cons _ (List.Sublist.cons_cons _ (List.Sublist.cons _ (List.Sublist.slnil))))))
                  · skip
                    refine A.sub [(0, (.pointer (some ⟨b2, 0, none⟩))), (1, (.agg #[(.int .u64 x3.id), (.int .i64 x3.len), (.int .u16 x3.h0), (.int .u16 x3.h1), (.int .u16 x3.h2), (.int .u16 x3.h3)])), (3, (.pointer (some ⟨b5, 0, none⟩))), (4, (.int .i64 0)), (5, (.bool false)), (8, (.bool ((decide (x3.len < 1)) || (decide (x3.len > 16384))))), (18, (.pointer (some ⟨b5, 1, none⟩))), (19, (.int .i64 x3.len)), (20, (.pointer (some ⟨b2, 0, none⟩))), (21, (.pointer (some ⟨b2, 0, none⟩))), (22, (.pointer (some ⟨b2, 1, none⟩))), (23, (.int .i64 m)), (24, (.pointer (some ⟨b2, 0, none⟩))), (25, (.pointer (some ⟨b2, 0, none⟩))), (26, (.pointer (some ⟨b2, 2, none⟩))), (27, (.int .i64 u)), (28, (.int .i64 (m - u))), (29, (.bool false)), (30, (.bool false))] (by exact ⟨rfl, rfl, rfl, rfl, rfl, rfl, rfl, rfl, rfl, rfl, rfl, rfl, rfl, rfl, rfl, rfl, rfl, (congrArg (fun z => some (Value.bool z)) e11), (congrArg (fun z => some (Value.bool z)) e11), trivial⟩) ?_
                    refine A.take 13 (some 31) (.pointer (some ⟨b2, 0, none⟩)) rfl (by kernel_rfl) (by kernel_rfl) (List.Sublist.cons _ (List.Sublist.cons_cons _ (List.Sublist.cons_cons _ (List.Sublist.cons_cons _ (List.Sublist.cons_cons _ (List.Sublist.cons_cons _ (List.Sublist.slnil))))))) (qt_move rfl rfl) ?_
                    refine A.take 14 (some 32) (.pointer (some ⟨b2, 0, none⟩)) rfl (by kernel_rfl) (by kernel_rfl) (List.Sublist.cons _ (List.Sublist.cons_cons _ (List.Sublist.cons_cons _ (List.Sublist.cons_cons _ (List.Sublist.cons_cons _ (List.Sublist.cons_cons _ (List.Sublist.slnil))))))) (qt_pure (by kernel_rfl) fun _ => by kernel_rfl) ?_
                    refine A.take 15 (some 33) (.pointer (some ⟨b2, 0, none⟩)) rfl (by kernel_rfl) (by kernel_rfl) (List.Sublist.cons _ (List.Sublist.cons_cons _ (List.Sublist.cons_cons _ (List.Sublist.cons_cons _ (List.Sublist.cons_cons _ (List.Sublist.cons_cons _ (List.Sublist.slnil))))))) (qt_pure (by kernel_rfl) fun _ => by kernel_rfl) ?_
                    refine A.take 16 (some 34) (.pointer (some ⟨rb1, 0, none⟩)) rfl (by kernel_rfl) (by kernel_rfl) (List.Sublist.cons _ (List.Sublist.cons_cons _ (List.Sublist.cons_cons _ (List.Sublist.cons_cons _ (List.Sublist.cons_cons _ (List.Sublist.cons_cons _ (List.Sublist.slnil))))))) (qt_load1 rfl rfl (by kernel_rfl) (reads_blk (i := 0) rfl rfl)) ?_
                    refine A.take 17 (some 35) (.agg #[(.int .u64 x3.id), (.int .i64 x3.len), (.int .u16 x3.h0), (.int .u16 x3.h1), (.int .u16 x3.h2), (.int .u16 x3.h3)]) rfl (by kernel_rfl) (by kernel_rfl) (List.Sublist.cons _ (List.Sublist.cons_cons _ (List.Sublist.cons_cons _ (List.Sublist.cons_cons _ (List.Sublist.cons_cons _ (List.Sublist.cons_cons _ (List.Sublist.slnil))))))) (qt_loadN (vs := [(.int .u64 x3.id), (.int .i64 x3.len), (.int .u16 x3.h0), (.int .u16 x3.h1), (.int .u16 x3.h2), (.int .u16 x3.h3)]) rfl rfl (by kernel_rfl) (reads_blk (i := 4) rfl rfl)) ?_
                    refine A.bool (decide (q.length < r)) (fun e12 => ?_) (fun e12 => ?_)
                    · skip
                      refine A.sub [(0, (.pointer (some ⟨b2, 0, none⟩))), (1, (.agg #[(.int .u64 x3.id), (.int .i64 x3.len), (.int .u16 x3.h0), (.int .u16 x3.h1), (.int .u16 x3.h2), (.int .u16 x3.h3)])), (3, (.pointer (some ⟨b5, 0, none⟩))), (4, (.int .i64 0)), (5, (.bool false)), (8, (.bool ((decide (x3.len < 1)) || (decide (x3.len > 16384))))), (18, (.pointer (some ⟨b5, 1, none⟩))), (19, (.int .i64 x3.len)), (20, (.pointer (some ⟨b2, 0, none⟩))), (21, (.pointer (some ⟨b2, 0, none⟩))), (22, (.pointer (some ⟨b2, 1, none⟩))), (23, (.int .i64 m)), (24, (.pointer (some ⟨b2, 0, none⟩))), (25, (.pointer (some ⟨b2, 0, none⟩))), (26, (.pointer (some ⟨b2, 2, none⟩))), (27, (.int .i64 u)), (28, (.int .i64 (m - u))), (29, (.bool false)), (30, (.bool false)), (31, (.pointer (some ⟨b2, 0, none⟩))), (32, (.pointer (some ⟨b2, 0, none⟩))), (33, (.pointer (some ⟨b2, 0, none⟩))), (34, (.pointer (some ⟨rb1, 0, none⟩))), (35, (.agg #[(.int .u64 x3.id), (.int .i64 x3.len), (.int .u16 x3.h0), (.int .u16 x3.h1), (.int .u16 x3.h2), (.int .u16 x3.h3)]))] (by exact ⟨rfl, rfl, rfl, rfl, rfl, rfl, rfl, rfl, rfl, rfl, rfl, rfl, rfl, rfl, rfl, rfl, rfl, rfl, rfl, rfl, rfl, rfl, rfl, rfl, trivial⟩) ?_
                      refine A.only 18 rfl (by kernel_rfl) (A.call (some 36) [(.pointer (some ⟨rb1, 0, none⟩)), (.agg #[(.int .u64 x3.id), (.int .i64 x3.len), (.int .u16 x3.h0), (.int .u16 x3.h1), (.int .u16 x3.h2), (.int .u16 x3.h3)])] (fun _ : Unit => (.int .i64 0)) (fun _ => True) (fun _ => [ringI encPkt 118 74 rb1 rs1 r (q ++ [x3]), blk b2 [(.pointer (some ⟨rb1, 0, none⟩)), (.int .i64 m), (.int .i64 u), (.int .u64 ci), (.int .u64 co), (.int .u64 cd), (.int .u64 bi), (.int .u64 bo), (.int .u64 bd)] 112, sl Ai (q).length ci0 74 6 (V.flat encPkt q), sl none (([] : List Pkt)).length 0 74 6 (V.flat encPkt ([] : List Pkt)), blk b4 [(.int .u64 x3.id), (.int .i64 x3.len), (.int .u16 x3.h0), (.int .u16 x3.h1), (.int .u16 x3.h2), (.int .u16 x3.h3)] 74, blk b5 [(.int .u64 x3.id), (.int .i64 x3.len), (.int .u16 x3.h0), (.int .u16 x3.h1), (.int .u16 x3.h2), (.int .u16 x3.h3)] 74]) (by kernel_rfl) rfl (by kernel_rfl) rfl (fun w s => (ringP_push rb1 rs1 r q x3 w (s.mem (i := 0) rfl) (by simp at *; omega)).mono fun e w1 ⟨he, hr, hf⟩ => ⟨(), he, trivial, s.turn (i := 0) rfl hf hr (by have := (s.mem (i := 0) rfl : RingH _ _ _ _ _ _ _ _).bounds.2.2.2; simpa [ringI] using this) (fun _ h => .inl h)⟩) (fun _ _ => ?_))
                      refine A.and (List.Sublist.cons _ (List.Sublist.cons_cons _ (List.Sublist.cons_cons _ (List.Sublist.cons_cons _ (List.Sublist.cons_cons _ (List.Sublist.cons_cons _ (List.Sublist.slnil))))))) ?_
                      refine A.take 19 (some 37) (.bool false) rfl (by kernel_rfl) (by kernel_rfl) (List.Sublist.cons _ (List.Sublist.cons_cons _ (List.Sublist.cons_cons _ (List.Sublist.cons_cons _ (List.Sublist.cons_cons _ (List.Sublist.cons_cons _ (List.Sublist.slnil))))))) (qt_pure (by kernel_rfl) fun _ => by kernel_rfl) ?_
                      refine A.take 20 (some 38) (.bool false) rfl (by kernel_rfl) (by kernel_rfl) (List.Sublist.cons _ (List.Sublist.cons_cons _ (List.Sublist.cons_cons _ (List.Sublist.cons_cons _ (List.Sublist.cons_cons _ (List.Sublist.cons_cons _ (List.Sublist.slnil))))))) (qt_pure (by kernel_rfl) fun _ => by kernel_rfl) ?_
                      refine A.take 21 (some 17) (.bool false) rfl (by kernel_rfl) (by kernel_rfl) (List.Sublist.cons _ (List.Sublist.cons_cons _ (List.Sublist.cons_cons _ (List.Sublist.cons_cons _ (List.Sublist.cons_cons _ (List.Sublist.cons_cons _ (List.Sublist.slnil))))))) (qt_assign rfl rfl) ?_
                      refine A.fin (by kernel_rfl) ?_
                      refine A.norm [(0, (.pointer (some ⟨b2, 0, none⟩))), (1, (.agg #[(.int .u64 x3.id), (.int .i64 x3.len), (.int .u16 x3.h0), (.int .u16 x3.h1), (.int .u16 x3.h2), (.int .u16 x3.h3)])), (3, (.pointer (some ⟨b5, 0, none⟩))), (4, (.int .i64 0)), (5, (.bool false)), (8, (.bool ((decide (x3.len < 1)) || (decide (x3.len > 16384))))), (17, (.bool false))] [ringI encPkt 118 74 rb1 rs1 r (q ++ [x3]), blk b2 [(.pointer (some ⟨rb1, 0, none⟩)), (.int .i64 m), (.int .i64 u), (.int .u64 ci), (.int .u64 co), (.int .u64 cd), (.int .u64 bi), (.int .u64 bo), (.int .u64 bd)] 112, sl Ai (q).length ci0 74 6 (V.flat encPkt q), sl none (([] : List Pkt)).length 0 74 6 (V.flat encPkt ([] : List Pkt)), blk b4 [(.int .u64 x3.id), (.int .i64 x3.len), (.int .u16 x3.h0), (.int .u16 x3.h1), (.int .u16 x3.h2), (.int .u16 x3.h3)] 74, blk b5 [(.int .u64 x3.id), (.int .i64 x3.len), (.int .u16 x3.h0), (.int .u16 x3.h1), (.int .u16 x3.h2), (.int .u16 x3.h3)] 74] (by exact ⟨rfl, rfl, rfl, rfl, rfl, rfl, rfl, trivial⟩) rfl ?_
                      refine A.tn ?_
                      refine A.cond_f rfl ?_
                      refine A.skip ?_
                      refine A.bn ?_
                      refine A.tn ?_
                      refine A.seq ?_
                      refine A.draw [ringI encPkt 118 74 rb1 rs1 r (q ++ [x3]), sl Ai (q).length ci0 74 6 (V.flat encPkt q), sl none (([] : List Pkt)).length 0 74 6 (V.flat encPkt ([] : List Pkt)), blk b4 [(.int .u64 x3.id), (.int .i64 x3.len), (.int .u16 x3.h0), (.int .u16 x3.h1), (.int .u16 x3.h2), (.int .u16 x3.h3)] 74, blk b5 [(.int .u64 x3.id), (.int .i64 x3.len), (.int .u16 x3.h0), (.int .u16 x3.h1), (.int .u16 x3.h2), (.int .u16 x3.h3)] 74] (by kernel_rfl) ?_
                      refine A.take 0 (some 60) (.pointer (some ⟨b2, 0, none⟩)) rfl (by kernel_rfl) (by kernel_rfl) (List.Sublist.cons_cons _ (List.Sublist.cons _ (List.Sublist.cons_cons _ (List.Sublist.cons_cons _ (List.Sublist.cons_cons _ (List.Sublist.cons_cons _ (List.Sublist.slnil))))))) (qt_move rfl rfl) ?_
                      refine A.take 1 (some 61) (.pointer (some ⟨b2, 0, none⟩)) rfl (by kernel_rfl) (by kernel_rfl) (List.Sublist.cons_cons _ (List.Sublist.cons _ (List.Sublist.cons_cons _ (List.Sublist.cons_cons _ (List.Sublist.cons_cons _ (List.Sublist.cons_cons _ (List.Sublist.slnil))))))) (qt_pure (by kernel_rfl) fun _ => by kernel_rfl) ?_
                      refine A.take 2 (some 62) (.pointer (some ⟨b2, 2, none⟩)) rfl (by kernel_rfl) (by kernel_rfl) (List.Sublist.cons_cons _ (List.Sublist.cons _ (List.Sublist.cons_cons _ (List.Sublist.cons_cons _ (List.Sublist.cons_cons _ (List.Sublist.cons_cons _ (List.Sublist.slnil))))))) (qt_pure (by kernel_rfl) fun _ => by kernel_rfl) ?_
                      refine A.take 4 (some 64) (.pointer (some ⟨b5, 1, none⟩)) rfl (by kernel_rfl) (by kernel_rfl) (List.Sublist.cons_cons _ (List.Sublist.cons _ (List.Sublist.cons_cons _ (List.Sublist.cons_cons _ (List.Sublist.cons_cons _ (List.Sublist.cons_cons _ (List.Sublist.slnil))))))) (qt_pure (by kernel_rfl) fun _ => by kernel_rfl) ?_
                      refine A.take 5 (some 65) (.int .i64 x3.len) rfl (by kernel_rfl) (by kernel_rfl) (List.Sublist.cons_cons _ (List.Sublist.cons _ (List.Sublist.cons_cons _ (List.Sublist.cons_cons _ (List.Sublist.cons_cons _ (List.Sublist.cons_cons _ (List.Sublist.slnil))))))) (qt_load1 rfl rfl (by kernel_rfl) (reads_blk (i := 4) rfl rfl)) ?_
                      refine A.only 3 rfl (by kernel_rfl) (A.q (some 63) (.int .i64 u) (by kernel_rfl) (qt_load1 rfl rfl (by kernel_rfl) (reads_blk (i := 1) rfl rfl)) ?_)
                      refine A.and (List.Sublist.cons_cons _ (List.Sublist.cons _ (List.Sublist.cons_cons _ (List.Sublist.cons_cons _ (List.Sublist.cons_cons _ (List.Sublist.cons_cons _ (List.Sublist.slnil))))))) ?_
                      refine A.take 6 (some 66) (.int .i64 (u + x3.len)) rfl (by kernel_rfl) (by kernel_rfl) (List.Sublist.cons_cons _ (List.Sublist.cons _ (List.Sublist.cons_cons _ (List.Sublist.cons_cons _ (List.Sublist.cons_cons _ (List.Sublist.cons_cons _ (List.Sublist.slnil))))))) (qt_as (congrArg (Value.int .i64) (wrap_i64 (e := u + x3.len) (by simp at *; constructor <;> omega))) (qt_pure (v := .int .i64 (IntKind.i64.wrap (u + x3.len))) (by kernel_rfl) fun _ => by kernel_rfl)) ?_
                      refine A.take 7 (some 67) (.pointer (some ⟨b2, 0, none⟩)) rfl (by kernel_rfl) (by kernel_rfl) (List.Sublist.cons_cons _ (List.Sublist.cons _ (List.Sublist.cons_cons _ (List.Sublist.cons_cons _ (List.Sublist.cons_cons _ (List.Sublist.cons_cons _ (List.Sublist.slnil))))))) (qt_pure (by kernel_rfl) fun _ => by kernel_rfl) ?_
                      refine A.take 8 (some 68) (.pointer (some ⟨b2, 2, none⟩)) rfl (by kernel_rfl) (by kernel_rfl) (List.Sublist.cons_cons _ (List.Sublist.cons _ (List.Sublist.cons_cons _ (List.Sublist.cons_cons _ (List.Sublist.cons_cons _ (List.Sublist.cons_cons _ (List.Sublist.slnil))))))) (qt_pure (by kernel_rfl) fun _ => by kernel_rfl) ?_
                      refine A.only 9 rfl (by kernel_rfl) (A.store 1 (vs := [(.int .i64 (u + x3.len))]) [ringI encPkt 118 74 rb1 rs1 r (q ++ [x3]), blk b2 [(.pointer (some ⟨rb1, 0, none⟩)), (.int .i64 m), (.int .i64 (u + x3.len)), (.int .u64 ci), (.int .u64 co), (.int .u64 cd), (.int .u64 bi), (.int .u64 bo), (.int .u64 bd)] 112, sl Ai (q).length ci0 74 6 (V.flat encPkt q), sl none (([] : List Pkt)).length 0 74 6 (V.flat encPkt ([] : List Pkt)), blk b4 [(.int .u64 x3.id), (.int .i64 x3.len), (.int .u16 x3.h0), (.int .u16 x3.h1), (.int .u16 x3.h2), (.int .u16 x3.h3)] 74, blk b5 [(.int .u64 x3.id), (.int .i64 x3.len), (.int .u16 x3.h0), (.int .u16 x3.h1), (.int .u16 x3.h2), (.int .u16 x3.h3)] 74] (by kernel_rfl) rfl rfl rfl rfl (by kernel_rfl) rfl rfl (by kernel_rfl) rfl ?_)
                      refine A.and (List.Sublist.cons_cons _ (List.Sublist.cons _ (List.Sublist.cons_cons _ (List.Sublist.cons_cons _ (List.Sublist.cons_cons _ (List.Sublist.cons_cons _ (List.Sublist.slnil))))))) ?_
                      refine A.fin (by kernel_rfl) ?_
                      refine A.norm [(0, (.pointer (some ⟨b2, 0, none⟩))), (1, (.agg #[(.int .u64 x3.id), (.int .i64 x3.len), (.int .u16 x3.h0), (.int .u16 x3.h1), (.int .u16 x3.h2), (.int .u16 x3.h3)])), (3, (.pointer (some ⟨b5, 0, none⟩))), (4, (.int .i64 0)), (5, (.bool false)), (8, (.bool ((decide (x3.len < 1)) || (decide (x3.len > 16384))))), (17, (.bool false))] [ringI encPkt 118 74 rb1 rs1 r (q ++ [x3]), blk b2 [(.pointer (some ⟨rb1, 0, none⟩)), (.int .i64 m), (.int .i64 (u + x3.len)), (.int .u64 ci), (.int .u64 co), (.int .u64 cd), (.int .u64 bi), (.int .u64 bo), (.int .u64 bd)] 112, sl Ai (q).length ci0 74 6 (V.flat encPkt q), sl none (([] : List Pkt)).length 0 74 6 (V.flat encPkt ([] : List Pkt)), blk b4 [(.int .u64 x3.id), (.int .i64 x3.len), (.int .u16 x3.h0), (.int .u16 x3.h1), (.int .u16 x3.h2), (.int .u16 x3.h3)] 74, blk b5 [(.int .u64 x3.id), (.int .i64 x3.len), (.int .u16 x3.h0), (.int .u16 x3.h1), (.int .u16 x3.h2), (.int .u16 x3.h3)] 74] (by exact ⟨rfl, rfl, rfl, rfl, rfl, rfl, rfl, trivial⟩) rfl ?_
                      refine A.tn ?_
                      refine A.seq ?_
                      refine A.region ?_
                      refine A.cons (A.q (some 69) (.pointer (some ⟨b2, 0, none⟩)) (by kernel_rfl) (qt_move rfl rfl) ?_)
                      refine A.cons (A.q (some 70) (.pointer (some ⟨b2, 0, none⟩)) (by kernel_rfl) (qt_pure (by kernel_rfl) fun _ => by kernel_rfl) ?_)
                      refine A.cons (A.q (some 71) (.pointer (some ⟨b2, 3, none⟩)) (by kernel_rfl) (qt_pure (by kernel_rfl) fun _ => by kernel_rfl) ?_)
                      refine A.cons (A.q (some 72) (.pointer (some ⟨b2, 3, none⟩)) (by kernel_rfl) (qt_pure (by kernel_rfl) fun _ => by kernel_rfl) ?_)
                      refine A.cons (A.q (some 73) (.int .u64 ci) (by kernel_rfl) (qt_load1 rfl rfl (by kernel_rfl) (reads_blk (i := 1) rfl rfl)) ?_)
                      refine A.cons (A.q (some 74) (.int .u64 (IntKind.u64.wrap (ci + 1))) (by kernel_rfl) (qt_pure (by kernel_rfl) fun _ => by kernel_rfl) ?_)
                      refine A.cons (A.q (some 75) (.pointer (some ⟨b2, 0, none⟩)) (by kernel_rfl) (qt_pure (by kernel_rfl) fun _ => by kernel_rfl) ?_)
                      refine A.cons (A.q (some 76) (.pointer (some ⟨b2, 3, none⟩)) (by kernel_rfl) (qt_pure (by kernel_rfl) fun _ => by kernel_rfl) ?_)
                      refine A.cons (A.q (some 77) (.pointer (some ⟨b2, 3, none⟩)) (by kernel_rfl) (qt_pure (by kernel_rfl) fun _ => by kernel_rfl) ?_)
                      refine A.cons (A.store 1 (vs := [(.int .u64 (IntKind.u64.wrap (ci + 1)))]) [ringI encPkt 118 74 rb1 rs1 r (q ++ [x3]), blk b2 [(.pointer (some ⟨rb1, 0, none⟩)), (.int .i64 m), (.int .i64 (u + x3.len)), (.int .u64 (IntKind.u64.wrap (ci + 1))), (.int .u64 co), (.int .u64 cd), (.int .u64 bi), (.int .u64 bo), (.int .u64 bd)] 112, sl Ai (q).length ci0 74 6 (V.flat encPkt q), sl none (([] : List Pkt)).length 0 74 6 (V.flat encPkt ([] : List Pkt)), blk b4 [(.int .u64 x3.id), (.int .i64 x3.len), (.int .u16 x3.h0), (.int .u16 x3.h1), (.int .u16 x3.h2), (.int .u16 x3.h3)] 74, blk b5 [(.int .u64 x3.id), (.int .i64 x3.len), (.int .u16 x3.h0), (.int .u16 x3.h1), (.int .u16 x3.h2), (.int .u16 x3.h3)] 74] (by kernel_rfl) rfl rfl rfl rfl (by kernel_rfl) rfl rfl (by kernel_rfl) rfl ?_)
                      refine A.done ?_
                      refine A.norm [(0, (.pointer (some ⟨b2, 0, none⟩))), (1, (.agg #[(.int .u64 x3.id), (.int .i64 x3.len), (.int .u16 x3.h0), (.int .u16 x3.h1), (.int .u16 x3.h2), (.int .u16 x3.h3)])), (3, (.pointer (some ⟨b5, 0, none⟩))), (4, (.int .i64 0)), (5, (.bool false)), (8, (.bool ((decide (x3.len < 1)) || (decide (x3.len > 16384))))), (17, (.bool false))] [ringI encPkt 118 74 rb1 rs1 r (q ++ [x3]), blk b2 [(.pointer (some ⟨rb1, 0, none⟩)), (.int .i64 m), (.int .i64 (u + x3.len)), (.int .u64 (IntKind.u64.wrap (ci + 1))), (.int .u64 co), (.int .u64 cd), (.int .u64 bi), (.int .u64 bo), (.int .u64 bd)] 112, sl Ai (q).length ci0 74 6 (V.flat encPkt q), sl none (([] : List Pkt)).length 0 74 6 (V.flat encPkt ([] : List Pkt)), blk b4 [(.int .u64 x3.id), (.int .i64 x3.len), (.int .u16 x3.h0), (.int .u16 x3.h1), (.int .u16 x3.h2), (.int .u16 x3.h3)] 74, blk b5 [(.int .u64 x3.id), (.int .i64 x3.len), (.int .u16 x3.h0), (.int .u16 x3.h1), (.int .u16 x3.h2), (.int .u16 x3.h3)] 74] (by exact ⟨rfl, rfl, rfl, rfl, rfl, rfl, rfl, trivial⟩) rfl ?_
                      refine A.tn ?_
                      refine A.seq ?_
                      refine A.draw [ringI encPkt 118 74 rb1 rs1 r (q ++ [x3]), sl Ai (q).length ci0 74 6 (V.flat encPkt q), sl none (([] : List Pkt)).length 0 74 6 (V.flat encPkt ([] : List Pkt)), blk b4 [(.int .u64 x3.id), (.int .i64 x3.len), (.int .u16 x3.h0), (.int .u16 x3.h1), (.int .u16 x3.h2), (.int .u16 x3.h3)] 74, blk b5 [(.int .u64 x3.id), (.int .i64 x3.len), (.int .u16 x3.h0), (.int .u16 x3.h1), (.int .u16 x3.h2), (.int .u16 x3.h3)] 74] (by kernel_rfl) ?_
                      refine A.take 0 (some 78) (.pointer (some ⟨b2, 0, none⟩)) rfl (by kernel_rfl) (by kernel_rfl) (List.Sublist.cons_cons _ (List.Sublist.cons _ (List.Sublist.cons_cons _ (List.Sublist.cons_cons _ (List.Sublist.cons_cons _ (List.Sublist.cons_cons _ (List.Sublist.slnil))))))) (qt_move rfl rfl) ?_
                      refine A.take 1 (some 79) (.pointer (some ⟨b2, 0, none⟩)) rfl (by kernel_rfl) (by kernel_rfl) (List.Sublist.cons_cons _ (List.Sublist.cons _ (List.Sublist.cons_cons _ (List.Sublist.cons_cons _ (List.Sublist.cons_cons _ (List.Sublist.cons_cons _ (List.Sublist.slnil))))))) (qt_pure (by kernel_rfl) fun _ => by kernel_rfl) ?_
                      refine A.take 2 (some 80) (.pointer (some ⟨b2, 3, none⟩)) rfl (by kernel_rfl) (by kernel_rfl) (List.Sublist.cons_cons _ (List.Sublist.cons _ (List.Sublist.cons_cons _ (List.Sublist.cons_cons _ (List.Sublist.cons_cons _ (List.Sublist.cons_cons _ (List.Sublist.slnil))))))) (qt_pure (by kernel_rfl) fun _ => by kernel_rfl) ?_
                      refine A.take 3 (some 81) (.pointer (some ⟨b2, 6, none⟩)) rfl (by kernel_rfl) (by kernel_rfl) (List.Sublist.cons_cons _ (List.Sublist.cons _ (List.Sublist.cons_cons _ (List.Sublist.cons_cons _ (List.Sublist.cons_cons _ (List.Sublist.cons_cons _ (List.Sublist.slnil))))))) (qt_pure (by kernel_rfl) fun _ => by kernel_rfl) ?_
                      refine A.take 5 (some 83) (.pointer (some ⟨b5, 1, none⟩)) rfl (by kernel_rfl) (by kernel_rfl) (List.Sublist.cons_cons _ (List.Sublist.cons _ (List.Sublist.cons_cons _ (List.Sublist.cons_cons _ (List.Sublist.cons_cons _ (List.Sublist.cons_cons _ (List.Sublist.slnil))))))) (qt_pure (by kernel_rfl) fun _ => by kernel_rfl) ?_
                      refine A.take 6 (some 84) (.int .i64 x3.len) rfl (by kernel_rfl) (by kernel_rfl) (List.Sublist.cons_cons _ (List.Sublist.cons _ (List.Sublist.cons_cons _ (List.Sublist.cons_cons _ (List.Sublist.cons_cons _ (List.Sublist.cons_cons _ (List.Sublist.slnil))))))) (qt_load1 rfl rfl (by kernel_rfl) (reads_blk (i := 4) rfl rfl)) ?_
                      refine A.take 7 (some 85) (.int .u64 (IntKind.u64.wrap (x3.len))) rfl (by kernel_rfl) (by kernel_rfl) (List.Sublist.cons_cons _ (List.Sublist.cons _ (List.Sublist.cons_cons _ (List.Sublist.cons_cons _ (List.Sublist.cons_cons _ (List.Sublist.cons_cons _ (List.Sublist.slnil))))))) (qt_pure (by kernel_rfl) fun _ => by kernel_rfl) ?_
                      refine A.only 4 rfl (by kernel_rfl) (A.q (some 82) (.int .u64 bi) (by kernel_rfl) (qt_load1 rfl rfl (by kernel_rfl) (reads_blk (i := 1) rfl rfl)) ?_)
                      refine A.and (List.Sublist.cons_cons _ (List.Sublist.cons _ (List.Sublist.cons_cons _ (List.Sublist.cons_cons _ (List.Sublist.cons_cons _ (List.Sublist.cons_cons _ (List.Sublist.slnil))))))) ?_
                      refine A.take 8 (some 86) (.int .u64 (IntKind.u64.wrap (bi + (IntKind.u64.wrap (x3.len))))) rfl (by kernel_rfl) (by kernel_rfl) (List.Sublist.cons_cons _ (List.Sublist.cons _ (List.Sublist.cons_cons _ (List.Sublist.cons_cons _ (List.Sublist.cons_cons _ (List.Sublist.cons_cons _ (List.Sublist.slnil))))))) (qt_pure (by kernel_rfl) fun _ => by kernel_rfl) ?_
                      refine A.take 9 (some 87) (.pointer (some ⟨b2, 0, none⟩)) rfl (by kernel_rfl) (by kernel_rfl) (List.Sublist.cons_cons _ (List.Sublist.cons _ (List.Sublist.cons_cons _ (List.Sublist.cons_cons _ (List.Sublist.cons_cons _ (List.Sublist.cons_cons _ (List.Sublist.slnil))))))) (qt_pure (by kernel_rfl) fun _ => by kernel_rfl) ?_
                      refine A.take 10 (some 88) (.pointer (some ⟨b2, 3, none⟩)) rfl (by kernel_rfl) (by kernel_rfl) (List.Sublist.cons_cons _ (List.Sublist.cons _ (List.Sublist.cons_cons _ (List.Sublist.cons_cons _ (List.Sublist.cons_cons _ (List.Sublist.cons_cons _ (List.Sublist.slnil))))))) (qt_pure (by kernel_rfl) fun _ => by kernel_rfl) ?_
                      refine A.take 11 (some 89) (.pointer (some ⟨b2, 6, none⟩)) rfl (by kernel_rfl) (by kernel_rfl) (List.Sublist.cons_cons _ (List.Sublist.cons _ (List.Sublist.cons_cons _ (List.Sublist.cons_cons _ (List.Sublist.cons_cons _ (List.Sublist.cons_cons _ (List.Sublist.slnil))))))) (qt_pure (by kernel_rfl) fun _ => by kernel_rfl) ?_
                      refine A.only 12 rfl (by kernel_rfl) (A.store 1 (vs := [(.int .u64 (IntKind.u64.wrap (bi + (IntKind.u64.wrap (x3.len)))))]) [ringI encPkt 118 74 rb1 rs1 r (q ++ [x3]), blk b2 [(.pointer (some ⟨rb1, 0, none⟩)), (.int .i64 m), (.int .i64 (u + x3.len)), (.int .u64 (IntKind.u64.wrap (ci + 1))), (.int .u64 co), (.int .u64 cd), (.int .u64 (IntKind.u64.wrap (bi + (IntKind.u64.wrap (x3.len))))), (.int .u64 bo), (.int .u64 bd)] 112, sl Ai (q).length ci0 74 6 (V.flat encPkt q), sl none (([] : List Pkt)).length 0 74 6 (V.flat encPkt ([] : List Pkt)), blk b4 [(.int .u64 x3.id), (.int .i64 x3.len), (.int .u16 x3.h0), (.int .u16 x3.h1), (.int .u16 x3.h2), (.int .u16 x3.h3)] 74, blk b5 [(.int .u64 x3.id), (.int .i64 x3.len), (.int .u16 x3.h0), (.int .u16 x3.h1), (.int .u16 x3.h2), (.int .u16 x3.h3)] 74] (by kernel_rfl) rfl rfl rfl rfl (by kernel_rfl) rfl rfl (by kernel_rfl) rfl ?_)
                      refine A.and (List.Sublist.cons_cons _ (List.Sublist.cons _ (List.Sublist.cons_cons _ (List.Sublist.cons_cons _ (List.Sublist.cons_cons _ (List.Sublist.cons_cons _ (List.Sublist.slnil))))))) ?_
                      refine A.fin (by kernel_rfl) ?_
                      refine A.norm [(0, (.pointer (some ⟨b2, 0, none⟩))), (1, (.agg #[(.int .u64 x3.id), (.int .i64 x3.len), (.int .u16 x3.h0), (.int .u16 x3.h1), (.int .u16 x3.h2), (.int .u16 x3.h3)])), (3, (.pointer (some ⟨b5, 0, none⟩))), (4, (.int .i64 0)), (5, (.bool false)), (8, (.bool ((decide (x3.len < 1)) || (decide (x3.len > 16384))))), (17, (.bool false))] [ringI encPkt 118 74 rb1 rs1 r (q ++ [x3]), blk b2 [(.pointer (some ⟨rb1, 0, none⟩)), (.int .i64 m), (.int .i64 (u + x3.len)), (.int .u64 (IntKind.u64.wrap (ci + 1))), (.int .u64 co), (.int .u64 cd), (.int .u64 (IntKind.u64.wrap (bi + (IntKind.u64.wrap (x3.len))))), (.int .u64 bo), (.int .u64 bd)] 112, sl Ai (q).length ci0 74 6 (V.flat encPkt q), sl none (([] : List Pkt)).length 0 74 6 (V.flat encPkt ([] : List Pkt)), blk b4 [(.int .u64 x3.id), (.int .i64 x3.len), (.int .u16 x3.h0), (.int .u16 x3.h1), (.int .u16 x3.h2), (.int .u16 x3.h3)] 74, blk b5 [(.int .u64 x3.id), (.int .i64 x3.len), (.int .u16 x3.h0), (.int .u16 x3.h1), (.int .u16 x3.h2), (.int .u16 x3.h3)] 74] (by exact ⟨rfl, rfl, rfl, rfl, rfl, rfl, rfl, trivial⟩) rfl ?_
                      refine A.tn ?_
                      refine A.seq ?_
                      refine A.region ?_
                      refine A.cons (A.q (some 4) (.int .i64 0) (by kernel_rfl) (qt_assign rfl rfl) ?_)
                      refine A.done ?_
                      refine A.norm [(0, (.pointer (some ⟨b2, 0, none⟩))), (1, (.agg #[(.int .u64 x3.id), (.int .i64 x3.len), (.int .u16 x3.h0), (.int .u16 x3.h1), (.int .u16 x3.h2), (.int .u16 x3.h3)])), (3, (.pointer (some ⟨b5, 0, none⟩))), (4, (.int .i64 0)), (5, (.bool false)), (8, (.bool ((decide (x3.len < 1)) || (decide (x3.len > 16384))))), (17, (.bool false))] [ringI encPkt 118 74 rb1 rs1 r (q ++ [x3]), blk b2 [(.pointer (some ⟨rb1, 0, none⟩)), (.int .i64 m), (.int .i64 (u + x3.len)), (.int .u64 (IntKind.u64.wrap (ci + 1))), (.int .u64 co), (.int .u64 cd), (.int .u64 (IntKind.u64.wrap (bi + (IntKind.u64.wrap (x3.len))))), (.int .u64 bo), (.int .u64 bd)] 112, sl Ai (q).length ci0 74 6 (V.flat encPkt q), sl none (([] : List Pkt)).length 0 74 6 (V.flat encPkt ([] : List Pkt)), blk b4 [(.int .u64 x3.id), (.int .i64 x3.len), (.int .u16 x3.h0), (.int .u16 x3.h1), (.int .u16 x3.h2), (.int .u16 x3.h3)] 74, blk b5 [(.int .u64 x3.id), (.int .i64 x3.len), (.int .u16 x3.h0), (.int .u16 x3.h1), (.int .u16 x3.h2), (.int .u16 x3.h3)] 74] (by exact ⟨rfl, rfl, rfl, rfl, rfl, rfl, rfl, trivial⟩) rfl ?_
                      refine A.tn ?_
                      refine A.ret ?_
                      refine A.post [(.int .i64 0)] (fun a w r s => ⟨rv_tmp r rfl, trivial⟩) (A.back (by kernel_rfl) ?_)
                      refine A.items [ringI encPkt 118 74 rb1 rs1 r (q ++ [x3]), blk b2 [(.pointer (some ⟨rb1, 0, none⟩)), (.int .i64 m), (.int .i64 (u + x3.len)), (.int .u64 (IntKind.u64.wrap (ci + 1))), (.int .u64 co), (.int .u64 cd), (.int .u64 (IntKind.u64.wrap (bi + (IntKind.u64.wrap (x3.len))))), (.int .u64 bo), (.int .u64 bd)] 112, sl Ai (q).length ci0 74 6 (V.flat encPkt q), sl none (([] : List Pkt)).length 0 74 6 (V.flat encPkt ([] : List Pkt)), blk b4 [(.int .u64 x3.id), (.int .i64 x3.len), (.int .u16 x3.h0), (.int .u16 x3.h1), (.int .u16 x3.h2), (.int .u16 x3.h3)] 74] (List.Sublist.cons_cons _ (List.Sublist.cons_cons _ (List.Sublist.cons_cons _ (List.Sublist.cons_cons _ (List.Sublist.cons_cons _ (List.Sublist.cons _ (List.Sublist.slnil))))))) ?_
                      refine A.cons (A.q (some 52) (.bool true) (by kernel_rfl) (qt_pure (by kernel_rfl) fun _ => by kernel_rfl) ?_)
                      refine A.done ?_
                      refine A.norm [(6, (.bool false)), (7, (.pointer (some ⟨b2, 0, none⟩))), (8, (.int .i64 0)), (43, (.slice A0 ((l).length) c0)), (44, (.int .i64 ((l).length : Int))), (45, (.int .i64 (k : Int))), (9, (.slice Ai ((q).length) ci0)), (10, (.slice none ((([] : List Pkt)).length) 0)), (46, (.bool (decide ((k : Int) < ((l).length : Int))))), (12, (.pointer (some ⟨b4, 0, none⟩))), (52, (.bool true))] [ringI encPkt 118 74 rb1 rs1 r (q ++ [x3]), blk b2 [(.pointer (some ⟨rb1, 0, none⟩)), (.int .i64 m), (.int .i64 (u + x3.len)), (.int .u64 (IntKind.u64.wrap (ci + 1))), (.int .u64 co), (.int .u64 cd), (.int .u64 (IntKind.u64.wrap (bi + (IntKind.u64.wrap (x3.len))))), (.int .u64 bo), (.int .u64 bd)] 112, sl Ai (q).length ci0 74 6 (V.flat encPkt q), sl none (([] : List Pkt)).length 0 74 6 (V.flat encPkt ([] : List Pkt)), blk b4 [(.int .u64 x3.id), (.int .i64 x3.len), (.int .u16 x3.h0), (.int .u16 x3.h1), (.int .u16 x3.h2), (.int .u16 x3.h3)] 74] (by exact ⟨rfl, rfl, rfl, rfl, rfl, rfl, rfl, rfl, rfl, rfl, rfl, trivial⟩) rfl ?_
                      refine A.tn ?_
                      refine A.cond_t rfl ?_
                      refine A.region ?_
                      refine A.cons (A.q (some 53) (.slice Ai ((q).length) ci0) (by kernel_rfl) (qt_move rfl rfl) ?_)
                      refine A.cons (A.q (some 54) (.agg #[(.int .u64 x3.id), (.int .i64 x3.len), (.int .u16 x3.h0), (.int .u16 x3.h1), (.int .u16 x3.h2), (.int .u16 x3.h3)]) (by kernel_rfl) (qt_loadN (vs := [(.int .u64 x3.id), (.int .i64 x3.len), (.int .u16 x3.h0), (.int .u16 x3.h1), (.int .u16 x3.h2), (.int .u16 x3.h3)]) rfl rfl (by kernel_rfl) (reads_blk (i := 4) rfl rfl)) ?_)
                      refine A.cons (A.buildSlice 55 (e := 74) [(.int .u64 x3.id), (.int .i64 x3.len), (.int .u16 x3.h0), (.int .u16 x3.h1), (.int .u16 x3.h2), (.int .u16 x3.h3)] (by kernel_rfl) rfl (fun _ => by kernel_rfl) (fun b6 => [ringI encPkt 118 74 rb1 rs1 r (q ++ [x3]), blk b2 [(.pointer (some ⟨rb1, 0, none⟩)), (.int .i64 m), (.int .i64 (u + x3.len)), (.int .u64 (IntKind.u64.wrap (ci + 1))), (.int .u64 co), (.int .u64 cd), (.int .u64 (IntKind.u64.wrap (bi + (IntKind.u64.wrap (x3.len))))), (.int .u64 bo), (.int .u64 bd)] 112, sl Ai (q).length ci0 74 6 (V.flat encPkt q), sl none (([] : List Pkt)).length 0 74 6 (V.flat encPkt ([] : List Pkt)), blk b4 [(.int .u64 x3.id), (.int .i64 x3.len), (.int .u16 x3.h0), (.int .u16 x3.h1), (.int .u16 x3.h2), (.int .u16 x3.h3)] 74, blk b6 [(.int .u64 x3.id), (.int .i64 x3.len), (.int .u16 x3.h0), (.int .u16 x3.h1), (.int .u16 x3.h2), (.int .u16 x3.h3)] 74]) (fun _ => rfl) ?_)
                      intro b6
                      refine A.cons (A.appendC (enc := encPkt) (xs := q) [x3] 2 56 (e := 74) (z := (.agg #[(.int .u64 0), (.int .i64 0), (.int .u16 0), (.int .u16 0), (.int .u16 0), (.int .u16 0)])) (sz := 6) (by_ := 24) (by kernel_rfl) rfl rfl rfl (by kernel_rfl) (by kernel_rfl) (by rfl) (by decide) encPkt_len encPkt_one rfl (rd_blk (i := 5) rfl) (by first | omega | (simp; done) | (simp; omega)) (fun A7 c7 => [ringI encPkt 118 74 rb1 rs1 r (q ++ [x3]), blk b2 [(.pointer (some ⟨rb1, 0, none⟩)), (.int .i64 m), (.int .i64 (u + x3.len)), (.int .u64 (IntKind.u64.wrap (ci + 1))), (.int .u64 co), (.int .u64 cd), (.int .u64 (IntKind.u64.wrap (bi + (IntKind.u64.wrap (x3.len))))), (.int .u64 bo), (.int .u64 bd)] 112, sl A7 (q ++ ([x3])).length c7 74 6 (V.flat encPkt (q ++ ([x3]))), sl none (([] : List Pkt)).length 0 74 6 (V.flat encPkt ([] : List Pkt)), blk b4 [(.int .u64 x3.id), (.int .i64 x3.len), (.int .u16 x3.h0), (.int .u16 x3.h1), (.int .u16 x3.h2), (.int .u16 x3.h3)] 74, blk b6 [(.int .u64 x3.id), (.int .i64 x3.len), (.int .u16 x3.h0), (.int .u16 x3.h1), (.int .u16 x3.h2), (.int .u16 x3.h3)] 74]) (fun _ _ => rfl) ?_)
                      intro A7 c7
                      refine A.cons (A.q (some 9) (.slice A7 ((q ++ ([x3])).length) c7) (by kernel_rfl) (qt_assign rfl rfl) ?_)
                      refine A.done ?_
                      refine A.norm [(6, (.bool false)), (7, (.pointer (some ⟨b2, 0, none⟩))), (8, (.int .i64 0)), (43, (.slice A0 ((l).length) c0)), (44, (.int .i64 ((l).length : Int))), (45, (.int .i64 (k : Int))), (9, (.slice A7 ((q ++ ([x3])).length) c7)), (10, (.slice none ((([] : List Pkt)).length) 0)), (46, (.bool (decide ((k : Int) < ((l).length : Int))))), (12, (.pointer (some ⟨b4, 0, none⟩))), (52, (.bool true))] [ringI encPkt 118 74 rb1 rs1 r (q ++ [x3]), blk b2 [(.pointer (some ⟨rb1, 0, none⟩)), (.int .i64 m), (.int .i64 (u + x3.len)), (.int .u64 (IntKind.u64.wrap (ci + 1))), (.int .u64 co), (.int .u64 cd), (.int .u64 (IntKind.u64.wrap (bi + (IntKind.u64.wrap (x3.len))))), (.int .u64 bo), (.int .u64 bd)] 112, sl A7 (q ++ ([x3])).length c7 74 6 (V.flat encPkt (q ++ ([x3]))), sl none (([] : List Pkt)).length 0 74 6 (V.flat encPkt ([] : List Pkt)), blk b4 [(.int .u64 x3.id), (.int .i64 x3.len), (.int .u16 x3.h0), (.int .u16 x3.h1), (.int .u16 x3.h2), (.int .u16 x3.h3)] 74, blk b6 [(.int .u64 x3.id), (.int .i64 x3.len), (.int .u16 x3.h0), (.int .u16 x3.h1), (.int .u16 x3.h2), (.int .u16 x3.h3)] 74] (by exact ⟨rfl, rfl, rfl, rfl, rfl, rfl, rfl, rfl, rfl, rfl, rfl, trivial⟩) rfl ?_
                      refine A.bn ?_
                      refine A.tn ?_
                      refine A.region ?_
                      refine A.cons (A.q (some 57) (.int .i64 ((k : Int) + 1)) (by kernel_rfl) (qt_as (congrArg (Value.int .i64) (wrap_i64 (e := (k : Int) + 1) (by simp at *; constructor <;> omega))) (qt_pure (v := .int .i64 (IntKind.i64.wrap ((k : Int) + 1))) (by kernel_rfl) fun _ => by kernel_rfl)) ?_)
                      refine A.cons (A.q (some 45) (.int .i64 ((k : Int) + 1)) (by kernel_rfl) (qt_move rfl rfl) ?_)
                      refine A.done ?_
                      refine A.norm [(6, (.bool false)), (7, (.pointer (some ⟨b2, 0, none⟩))), (8, (.int .i64 0)), (43, (.slice A0 ((l).length) c0)), (44, (.int .i64 ((l).length : Int))), (45, (.int .i64 ((k : Int) + 1))), (9, (.slice A7 ((q ++ ([x3])).length) c7)), (10, (.slice none ((([] : List Pkt)).length) 0)), (46, (.bool (decide ((k : Int) < ((l).length : Int))))), (12, (.pointer (some ⟨b4, 0, none⟩))), (52, (.bool true))] [ringI encPkt 118 74 rb1 rs1 r (q ++ [x3]), blk b2 [(.pointer (some ⟨rb1, 0, none⟩)), (.int .i64 m), (.int .i64 (u + x3.len)), (.int .u64 (IntKind.u64.wrap (ci + 1))), (.int .u64 co), (.int .u64 cd), (.int .u64 (IntKind.u64.wrap (bi + (IntKind.u64.wrap (x3.len))))), (.int .u64 bo), (.int .u64 bd)] 112, sl A7 (q ++ ([x3])).length c7 74 6 (V.flat encPkt (q ++ ([x3]))), sl none (([] : List Pkt)).length 0 74 6 (V.flat encPkt ([] : List Pkt)), blk b4 [(.int .u64 x3.id), (.int .i64 x3.len), (.int .u16 x3.h0), (.int .u16 x3.h1), (.int .u16 x3.h2), (.int .u16 x3.h3)] 74, blk b6 [(.int .u64 x3.id), (.int .i64 x3.len), (.int .u16 x3.h0), (.int .u16 x3.h1), (.int .u16 x3.h2), (.int .u16 x3.h3)] 74] (by exact ⟨rfl, rfl, rfl, rfl, rfl, rfl, rfl, rfl, rfl, rfl, rfl, trivial⟩) rfl ?_
                      refine A.tn ?_
                      refine A.next (k + 1, q ++ [x3], A7, c7, u + x3.len, IntKind.u64.wrap (ci + 1), co, cd, IntKind.u64.wrap (bi + (IntKind.u64.wrap (x3.len))), bo, bd) (⟨by omega, by simp at *; omega, by rw [lens_snoc, hu], by simp at *; omega, fun z hz => by rcases List.mem_append.1 hz with hz | hz; exact hv z hz; (simp at hz; subst hz; exact ⟨by simp at *; omega, by simp at *; omega⟩)⟩) (by simp only []; omega) ?_
                      exact A.here (by exact ⟨rfl, rfl, rfl, rfl, rfl, rfl, rfl, rfl, trivial⟩) (List.Sublist.cons_cons _ (List.Sublist.cons_cons _ (List.Sublist.cons_cons _ (List.Sublist.cons_cons _ (List.Sublist.cons _ (List.Sublist.cons _ (List.Sublist.slnil)))))))
                    · skip
                      refine A.sub [(0, (.pointer (some ⟨b2, 0, none⟩))), (1, (.agg #[(.int .u64 x3.id), (.int .i64 x3.len), (.int .u16 x3.h0), (.int .u16 x3.h1), (.int .u16 x3.h2), (.int .u16 x3.h3)])), (3, (.pointer (some ⟨b5, 0, none⟩))), (4, (.int .i64 0)), (5, (.bool false)), (8, (.bool ((decide (x3.len < 1)) || (decide (x3.len > 16384))))), (18, (.pointer (some ⟨b5, 1, none⟩))), (19, (.int .i64 x3.len)), (20, (.pointer (some ⟨b2, 0, none⟩))), (21, (.pointer (some ⟨b2, 0, none⟩))), (22, (.pointer (some ⟨b2, 1, none⟩))), (23, (.int .i64 m)), (24, (.pointer (some ⟨b2, 0, none⟩))), (25, (.pointer (some ⟨b2, 0, none⟩))), (26, (.pointer (some ⟨b2, 2, none⟩))), (27, (.int .i64 u)), (28, (.int .i64 (m - u))), (29, (.bool false)), (30, (.bool false)), (31, (.pointer (some ⟨b2, 0, none⟩))), (32, (.pointer (some ⟨b2, 0, none⟩))), (33, (.pointer (some ⟨b2, 0, none⟩))), (34, (.pointer (some ⟨rb1, 0, none⟩))), (35, (.agg #[(.int .u64 x3.id), (.int .i64 x3.len), (.int .u16 x3.h0), (.int .u16 x3.h1), (.int .u16 x3.h2), (.int .u16 x3.h3)]))] (by exact ⟨rfl, rfl, rfl, rfl, rfl, rfl, rfl, rfl, rfl, rfl, rfl, rfl, rfl, rfl, rfl, rfl, rfl, rfl, rfl, rfl, rfl, rfl, rfl, rfl, trivial⟩) ?_
                      refine A.only 18 rfl (by kernel_rfl) (A.q (some 36) (.int .i64 5) (by kernel_rfl) (qt_call [(.pointer (some ⟨rb1, 0, none⟩)), (.agg #[(.int .u64 x3.id), (.int .i64 x3.len), (.int .u16 x3.h0), (.int .u16 x3.h1), (.int .u16 x3.h2), (.int .u16 x3.h3)])] rfl (by kernel_rfl) rfl (fun w s => ringP_pushFull rb1 rs1 r q x3 w (s.mem (i := 0) rfl) (by simp at e12; first | omega | (have := s.mem (i := 0) rfl; have := this.bounds; omega)))) ?_)
                      refine A.and (List.Sublist.cons _ (List.Sublist.cons_cons _ (List.Sublist.cons_cons _ (List.Sublist.cons_cons _ (List.Sublist.cons_cons _ (List.Sublist.cons_cons _ (List.Sublist.slnil))))))) ?_
                      refine A.take 19 (some 37) (.bool true) rfl (by kernel_rfl) (by kernel_rfl) (List.Sublist.cons _ (List.Sublist.cons_cons _ (List.Sublist.cons_cons _ (List.Sublist.cons_cons _ (List.Sublist.cons_cons _ (List.Sublist.cons_cons _ (List.Sublist.slnil))))))) (qt_pure (by kernel_rfl) fun _ => by kernel_rfl) ?_
                      refine A.take 20 (some 38) (.bool true) rfl (by kernel_rfl) (by kernel_rfl) (List.Sublist.cons _ (List.Sublist.cons_cons _ (List.Sublist.cons_cons _ (List.Sublist.cons_cons _ (List.Sublist.cons_cons _ (List.Sublist.cons_cons _ (List.Sublist.slnil))))))) (qt_pure (by kernel_rfl) fun _ => by kernel_rfl) ?_
                      refine A.take 21 (some 17) (.bool true) rfl (by kernel_rfl) (by kernel_rfl) (List.Sublist.cons _ (List.Sublist.cons_cons _ (List.Sublist.cons_cons _ (List.Sublist.cons_cons _ (List.Sublist.cons_cons _ (List.Sublist.cons_cons _ (List.Sublist.slnil))))))) (qt_assign rfl rfl) ?_
                      refine A.fin (by kernel_rfl) ?_
                      refine A.norm [(0, (.pointer (some ⟨b2, 0, none⟩))), (1, (.agg #[(.int .u64 x3.id), (.int .i64 x3.len), (.int .u16 x3.h0), (.int .u16 x3.h1), (.int .u16 x3.h2), (.int .u16 x3.h3)])), (3, (.pointer (some ⟨b5, 0, none⟩))), (4, (.int .i64 0)), (5, (.bool false)), (8, (.bool ((decide (x3.len < 1)) || (decide (x3.len > 16384))))), (17, (.bool true))] [ringI encPkt 118 74 rb1 rs1 r q, blk b2 [(.pointer (some ⟨rb1, 0, none⟩)), (.int .i64 m), (.int .i64 u), (.int .u64 ci), (.int .u64 co), (.int .u64 cd), (.int .u64 bi), (.int .u64 bo), (.int .u64 bd)] 112, sl Ai (q).length ci0 74 6 (V.flat encPkt q), sl none (([] : List Pkt)).length 0 74 6 (V.flat encPkt ([] : List Pkt)), blk b4 [(.int .u64 x3.id), (.int .i64 x3.len), (.int .u16 x3.h0), (.int .u16 x3.h1), (.int .u16 x3.h2), (.int .u16 x3.h3)] 74, blk b5 [(.int .u64 x3.id), (.int .i64 x3.len), (.int .u16 x3.h0), (.int .u16 x3.h1), (.int .u16 x3.h2), (.int .u16 x3.h3)] 74] (by exact ⟨rfl, rfl, rfl, rfl, rfl, rfl, rfl, trivial⟩) rfl ?_
                      refine A.tn ?_
                      refine A.cond_t rfl ?_
                      refine A.seq ?_
                      refine A.region ?_
                      refine A.cons (A.q (some 39) (.pointer (some ⟨b2, 0, none⟩)) (by kernel_rfl) (qt_move rfl rfl) ?_)
                      refine A.cons (A.q (some 40) (.pointer (some ⟨b2, 0, none⟩)) (by kernel_rfl) (qt_pure (by kernel_rfl) fun _ => by kernel_rfl) ?_)
                      refine A.cons (A.q (some 41) (.pointer (some ⟨b2, 3, none⟩)) (by kernel_rfl) (qt_pure (by kernel_rfl) fun _ => by kernel_rfl) ?_)
                      refine A.cons (A.q (some 42) (.pointer (some ⟨b2, 5, none⟩)) (by kernel_rfl) (qt_pure (by kernel_rfl) fun _ => by kernel_rfl) ?_)
                      refine A.cons (A.q (some 43) (.int .u64 cd) (by kernel_rfl) (qt_load1 rfl rfl (by kernel_rfl) (reads_blk (i := 1) rfl rfl)) ?_)
                      refine A.cons (A.q (some 44) (.int .u64 (IntKind.u64.wrap (cd + 1))) (by kernel_rfl) (qt_pure (by kernel_rfl) fun _ => by kernel_rfl) ?_)
                      refine A.cons (A.q (some 45) (.pointer (some ⟨b2, 0, none⟩)) (by kernel_rfl) (qt_pure (by kernel_rfl) fun _ => by kernel_rfl) ?_)
                      refine A.cons (A.q (some 46) (.pointer (some ⟨b2, 3, none⟩)) (by kernel_rfl) (qt_pure (by kernel_rfl) fun _ => by kernel_rfl) ?_)
                      refine A.cons (A.q (some 47) (.pointer (some ⟨b2, 5, none⟩)) (by kernel_rfl) (qt_pure (by kernel_rfl) fun _ => by kernel_rfl) ?_)
                      refine A.cons (A.store 1 (vs := [(.int .u64 (IntKind.u64.wrap (cd + 1)))]) [ringI encPkt 118 74 rb1 rs1 r q, blk b2 [(.pointer (some ⟨rb1, 0, none⟩)), (.int .i64 m), (.int .i64 u), (.int .u64 ci), (.int .u64 co), (.int .u64 (IntKind.u64.wrap (cd + 1))), (.int .u64 bi), (.int .u64 bo), (.int .u64 bd)] 112, sl Ai (q).length ci0 74 6 (V.flat encPkt q), sl none (([] : List Pkt)).length 0 74 6 (V.flat encPkt ([] : List Pkt)), blk b4 [(.int .u64 x3.id), (.int .i64 x3.len), (.int .u16 x3.h0), (.int .u16 x3.h1), (.int .u16 x3.h2), (.int .u16 x3.h3)] 74, blk b5 [(.int .u64 x3.id), (.int .i64 x3.len), (.int .u16 x3.h0), (.int .u16 x3.h1), (.int .u16 x3.h2), (.int .u16 x3.h3)] 74] (by kernel_rfl) rfl rfl rfl rfl (by kernel_rfl) rfl rfl (by kernel_rfl) rfl ?_)
                      refine A.done ?_
                      refine A.norm [(0, (.pointer (some ⟨b2, 0, none⟩))), (1, (.agg #[(.int .u64 x3.id), (.int .i64 x3.len), (.int .u16 x3.h0), (.int .u16 x3.h1), (.int .u16 x3.h2), (.int .u16 x3.h3)])), (3, (.pointer (some ⟨b5, 0, none⟩))), (4, (.int .i64 0)), (5, (.bool false)), (8, (.bool ((decide (x3.len < 1)) || (decide (x3.len > 16384))))), (17, (.bool true))] [ringI encPkt 118 74 rb1 rs1 r q, blk b2 [(.pointer (some ⟨rb1, 0, none⟩)), (.int .i64 m), (.int .i64 u), (.int .u64 ci), (.int .u64 co), (.int .u64 (IntKind.u64.wrap (cd + 1))), (.int .u64 bi), (.int .u64 bo), (.int .u64 bd)] 112, sl Ai (q).length ci0 74 6 (V.flat encPkt q), sl none (([] : List Pkt)).length 0 74 6 (V.flat encPkt ([] : List Pkt)), blk b4 [(.int .u64 x3.id), (.int .i64 x3.len), (.int .u16 x3.h0), (.int .u16 x3.h1), (.int .u16 x3.h2), (.int .u16 x3.h3)] 74, blk b5 [(.int .u64 x3.id), (.int .i64 x3.len), (.int .u16 x3.h0), (.int .u16 x3.h1), (.int .u16 x3.h2), (.int .u16 x3.h3)] 74] (by exact ⟨rfl, rfl, rfl, rfl, rfl, rfl, rfl, trivial⟩) rfl ?_
                      refine A.tn ?_
                      refine A.seq ?_
                      refine A.draw [ringI encPkt 118 74 rb1 rs1 r q, sl Ai (q).length ci0 74 6 (V.flat encPkt q), sl none (([] : List Pkt)).length 0 74 6 (V.flat encPkt ([] : List Pkt)), blk b4 [(.int .u64 x3.id), (.int .i64 x3.len), (.int .u16 x3.h0), (.int .u16 x3.h1), (.int .u16 x3.h2), (.int .u16 x3.h3)] 74, blk b5 [(.int .u64 x3.id), (.int .i64 x3.len), (.int .u16 x3.h0), (.int .u16 x3.h1), (.int .u16 x3.h2), (.int .u16 x3.h3)] 74] (by kernel_rfl) ?_
                      refine A.take 0 (some 48) (.pointer (some ⟨b2, 0, none⟩)) rfl (by kernel_rfl) (by kernel_rfl) (List.Sublist.cons_cons _ (List.Sublist.cons _ (List.Sublist.cons_cons _ (List.Sublist.cons_cons _ (List.Sublist.cons_cons _ (List.Sublist.cons_cons _ (List.Sublist.slnil))))))) (qt_move rfl rfl) ?_
                      refine A.take 1 (some 49) (.pointer (some ⟨b2, 0, none⟩)) rfl (by kernel_rfl) (by kernel_rfl) (List.Sublist.cons_cons _ (List.Sublist.cons _ (List.Sublist.cons_cons _ (List.Sublist.cons_cons _ (List.Sublist.cons_cons _ (List.Sublist.cons_cons _ (List.Sublist.slnil))))))) (qt_pure (by kernel_rfl) fun _ => by kernel_rfl) ?_
                      refine A.take 2 (some 50) (.pointer (some ⟨b2, 3, none⟩)) rfl (by kernel_rfl) (by kernel_rfl) (List.Sublist.cons_cons _ (List.Sublist.cons _ (List.Sublist.cons_cons _ (List.Sublist.cons_cons _ (List.Sublist.cons_cons _ (List.Sublist.cons_cons _ (List.Sublist.slnil))))))) (qt_pure (by kernel_rfl) fun _ => by kernel_rfl) ?_
                      refine A.take 3 (some 51) (.pointer (some ⟨b2, 8, none⟩)) rfl (by kernel_rfl) (by kernel_rfl) (List.Sublist.cons_cons _ (List.Sublist.cons _ (List.Sublist.cons_cons _ (List.Sublist.cons_cons _ (List.Sublist.cons_cons _ (List.Sublist.cons_cons _ (List.Sublist.slnil))))))) (qt_pure (by kernel_rfl) fun _ => by kernel_rfl) ?_
                      refine A.take 5 (some 53) (.pointer (some ⟨b5, 1, none⟩)) rfl (by kernel_rfl) (by kernel_rfl) (List.Sublist.cons_cons _ (List.Sublist.cons _ (List.Sublist.cons_cons _ (List.Sublist.cons_cons _ (List.Sublist.cons_cons _ (List.Sublist.cons_cons _ (List.Sublist.slnil))))))) (qt_pure (by kernel_rfl) fun _ => by kernel_rfl) ?_
                      refine A.take 6 (some 54) (.int .i64 x3.len) rfl (by kernel_rfl) (by kernel_rfl) (List.Sublist.cons_cons _ (List.Sublist.cons _ (List.Sublist.cons_cons _ (List.Sublist.cons_cons _ (List.Sublist.cons_cons _ (List.Sublist.cons_cons _ (List.Sublist.slnil))))))) (qt_load1 rfl rfl (by kernel_rfl) (reads_blk (i := 4) rfl rfl)) ?_
                      refine A.take 7 (some 55) (.int .u64 (IntKind.u64.wrap (x3.len))) rfl (by kernel_rfl) (by kernel_rfl) (List.Sublist.cons_cons _ (List.Sublist.cons _ (List.Sublist.cons_cons _ (List.Sublist.cons_cons _ (List.Sublist.cons_cons _ (List.Sublist.cons_cons _ (List.Sublist.slnil))))))) (qt_pure (by kernel_rfl) fun _ => by kernel_rfl) ?_
                      refine A.only 4 rfl (by kernel_rfl) (A.q (some 52) (.int .u64 bd) (by kernel_rfl) (qt_load1 rfl rfl (by kernel_rfl) (reads_blk (i := 1) rfl rfl)) ?_)
                      refine A.and (List.Sublist.cons_cons _ (List.Sublist.cons _ (List.Sublist.cons_cons _ (List.Sublist.cons_cons _ (List.Sublist.cons_cons _ (List.Sublist.cons_cons _ (List.Sublist.slnil))))))) ?_
                      refine A.take 8 (some 56) (.int .u64 (IntKind.u64.wrap (bd + (IntKind.u64.wrap (x3.len))))) rfl (by kernel_rfl) (by kernel_rfl) (List.Sublist.cons_cons _ (List.Sublist.cons _ (List.Sublist.cons_cons _ (List.Sublist.cons_cons _ (List.Sublist.cons_cons _ (List.Sublist.cons_cons _ (List.Sublist.slnil))))))) (qt_pure (by kernel_rfl) fun _ => by kernel_rfl) ?_
                      refine A.take 9 (some 57) (.pointer (some ⟨b2, 0, none⟩)) rfl (by kernel_rfl) (by kernel_rfl) (List.Sublist.cons_cons _ (List.Sublist.cons _ (List.Sublist.cons_cons _ (List.Sublist.cons_cons _ (List.Sublist.cons_cons _ (List.Sublist.cons_cons _ (List.Sublist.slnil))))))) (qt_pure (by kernel_rfl) fun _ => by kernel_rfl) ?_
                      refine A.take 10 (some 58) (.pointer (some ⟨b2, 3, none⟩)) rfl (by kernel_rfl) (by kernel_rfl) (List.Sublist.cons_cons _ (List.Sublist.cons _ (List.Sublist.cons_cons _ (List.Sublist.cons_cons _ (List.Sublist.cons_cons _ (List.Sublist.cons_cons _ (List.Sublist.slnil))))))) (qt_pure (by kernel_rfl) fun _ => by kernel_rfl) ?_
                      refine A.take 11 (some 59) (.pointer (some ⟨b2, 8, none⟩)) rfl (by kernel_rfl) (by kernel_rfl) (List.Sublist.cons_cons _ (List.Sublist.cons _ (List.Sublist.cons_cons _ (List.Sublist.cons_cons _ (List.Sublist.cons_cons _ (List.Sublist.cons_cons _ (List.Sublist.slnil))))))) (qt_pure (by kernel_rfl) fun _ => by kernel_rfl) ?_
                      refine A.only 12 rfl (by kernel_rfl) (A.store 1 (vs := [(.int .u64 (IntKind.u64.wrap (bd + (IntKind.u64.wrap (x3.len)))))]) [ringI encPkt 118 74 rb1 rs1 r q, blk b2 [(.pointer (some ⟨rb1, 0, none⟩)), (.int .i64 m), (.int .i64 u), (.int .u64 ci), (.int .u64 co), (.int .u64 (IntKind.u64.wrap (cd + 1))), (.int .u64 bi), (.int .u64 bo), (.int .u64 (IntKind.u64.wrap (bd + (IntKind.u64.wrap (x3.len)))))] 112, sl Ai (q).length ci0 74 6 (V.flat encPkt q), sl none (([] : List Pkt)).length 0 74 6 (V.flat encPkt ([] : List Pkt)), blk b4 [(.int .u64 x3.id), (.int .i64 x3.len), (.int .u16 x3.h0), (.int .u16 x3.h1), (.int .u16 x3.h2), (.int .u16 x3.h3)] 74, blk b5 [(.int .u64 x3.id), (.int .i64 x3.len), (.int .u16 x3.h0), (.int .u16 x3.h1), (.int .u16 x3.h2), (.int .u16 x3.h3)] 74] (by kernel_rfl) rfl rfl rfl rfl (by kernel_rfl) rfl rfl (by kernel_rfl) rfl ?_)
                      refine A.and (List.Sublist.cons_cons _ (List.Sublist.cons _ (List.Sublist.cons_cons _ (List.Sublist.cons_cons _ (List.Sublist.cons_cons _ (List.Sublist.cons_cons _ (List.Sublist.slnil))))))) ?_
                      refine A.fin (by kernel_rfl) ?_
                      refine A.norm [(0, (.pointer (some ⟨b2, 0, none⟩))), (1, (.agg #[(.int .u64 x3.id), (.int .i64 x3.len), (.int .u16 x3.h0), (.int .u16 x3.h1), (.int .u16 x3.h2), (.int .u16 x3.h3)])), (3, (.pointer (some ⟨b5, 0, none⟩))), (4, (.int .i64 0)), (5, (.bool false)), (8, (.bool ((decide (x3.len < 1)) || (decide (x3.len > 16384))))), (17, (.bool true))] [ringI encPkt 118 74 rb1 rs1 r q, blk b2 [(.pointer (some ⟨rb1, 0, none⟩)), (.int .i64 m), (.int .i64 u), (.int .u64 ci), (.int .u64 co), (.int .u64 (IntKind.u64.wrap (cd + 1))), (.int .u64 bi), (.int .u64 bo), (.int .u64 (IntKind.u64.wrap (bd + (IntKind.u64.wrap (x3.len)))))] 112, sl Ai (q).length ci0 74 6 (V.flat encPkt q), sl none (([] : List Pkt)).length 0 74 6 (V.flat encPkt ([] : List Pkt)), blk b4 [(.int .u64 x3.id), (.int .i64 x3.len), (.int .u16 x3.h0), (.int .u16 x3.h1), (.int .u16 x3.h2), (.int .u16 x3.h3)] 74, blk b5 [(.int .u64 x3.id), (.int .i64 x3.len), (.int .u16 x3.h0), (.int .u16 x3.h1), (.int .u16 x3.h2), (.int .u16 x3.h3)] 74] (by exact ⟨rfl, rfl, rfl, rfl, rfl, rfl, rfl, trivial⟩) rfl ?_
                      refine A.tn ?_
                      refine A.seq ?_
                      refine A.region ?_
                      refine A.cons (A.q (some 4) (.int .i64 30) (by kernel_rfl) (qt_assign rfl rfl) ?_)
                      refine A.done ?_
                      refine A.norm [(0, (.pointer (some ⟨b2, 0, none⟩))), (1, (.agg #[(.int .u64 x3.id), (.int .i64 x3.len), (.int .u16 x3.h0), (.int .u16 x3.h1), (.int .u16 x3.h2), (.int .u16 x3.h3)])), (3, (.pointer (some ⟨b5, 0, none⟩))), (4, (.int .i64 30)), (5, (.bool false)), (8, (.bool ((decide (x3.len < 1)) || (decide (x3.len > 16384))))), (17, (.bool true))] [ringI encPkt 118 74 rb1 rs1 r q, blk b2 [(.pointer (some ⟨rb1, 0, none⟩)), (.int .i64 m), (.int .i64 u), (.int .u64 ci), (.int .u64 co), (.int .u64 (IntKind.u64.wrap (cd + 1))), (.int .u64 bi), (.int .u64 bo), (.int .u64 (IntKind.u64.wrap (bd + (IntKind.u64.wrap (x3.len)))))] 112, sl Ai (q).length ci0 74 6 (V.flat encPkt q), sl none (([] : List Pkt)).length 0 74 6 (V.flat encPkt ([] : List Pkt)), blk b4 [(.int .u64 x3.id), (.int .i64 x3.len), (.int .u16 x3.h0), (.int .u16 x3.h1), (.int .u16 x3.h2), (.int .u16 x3.h3)] 74, blk b5 [(.int .u64 x3.id), (.int .i64 x3.len), (.int .u16 x3.h0), (.int .u16 x3.h1), (.int .u16 x3.h2), (.int .u16 x3.h3)] 74] (by exact ⟨rfl, rfl, rfl, rfl, rfl, rfl, rfl, trivial⟩) rfl ?_
                      refine A.tn ?_
                      refine A.ret ?_
                      refine A.br ?_
                      refine A.tr ?_
                      refine A.post [(.int .i64 30)] (fun a w r s => ⟨rv_tmp r rfl, trivial⟩) (A.back (by kernel_rfl) ?_)
                      refine A.items [ringI encPkt 118 74 rb1 rs1 r q, blk b2 [(.pointer (some ⟨rb1, 0, none⟩)), (.int .i64 m), (.int .i64 u), (.int .u64 ci), (.int .u64 co), (.int .u64 (IntKind.u64.wrap (cd + 1))), (.int .u64 bi), (.int .u64 bo), (.int .u64 (IntKind.u64.wrap (bd + (IntKind.u64.wrap (x3.len)))))] 112, sl Ai (q).length ci0 74 6 (V.flat encPkt q), sl none (([] : List Pkt)).length 0 74 6 (V.flat encPkt ([] : List Pkt)), blk b4 [(.int .u64 x3.id), (.int .i64 x3.len), (.int .u16 x3.h0), (.int .u16 x3.h1), (.int .u16 x3.h2), (.int .u16 x3.h3)] 74] (List.Sublist.cons_cons _ (List.Sublist.cons_cons _ (List.Sublist.cons_cons _ (List.Sublist.cons_cons _ (List.Sublist.cons_cons _ (List.Sublist.cons _ (List.Sublist.slnil))))))) ?_
                      refine A.cons (A.q (some 52) (.bool false) (by kernel_rfl) (qt_pure (by kernel_rfl) fun _ => by kernel_rfl) ?_)
                      refine A.done ?_
                      refine A.norm [(6, (.bool false)), (7, (.pointer (some ⟨b2, 0, none⟩))), (8, (.int .i64 0)), (43, (.slice A0 ((l).length) c0)), (44, (.int .i64 ((l).length : Int))), (45, (.int .i64 (k : Int))), (9, (.slice Ai ((q).length) ci0)), (10, (.slice none ((([] : List Pkt)).length) 0)), (46, (.bool (decide ((k : Int) < ((l).length : Int))))), (12, (.pointer (some ⟨b4, 0, none⟩))), (52, (.bool false))] [ringI encPkt 118 74 rb1 rs1 r q, blk b2 [(.pointer (some ⟨rb1, 0, none⟩)), (.int .i64 m), (.int .i64 u), (.int .u64 ci), (.int .u64 co), (.int .u64 (IntKind.u64.wrap (cd + 1))), (.int .u64 bi), (.int .u64 bo), (.int .u64 (IntKind.u64.wrap (bd + (IntKind.u64.wrap (x3.len)))))] 112, sl Ai (q).length ci0 74 6 (V.flat encPkt q), sl none (([] : List Pkt)).length 0 74 6 (V.flat encPkt ([] : List Pkt)), blk b4 [(.int .u64 x3.id), (.int .i64 x3.len), (.int .u16 x3.h0), (.int .u16 x3.h1), (.int .u16 x3.h2), (.int .u16 x3.h3)] 74] (by exact ⟨rfl, rfl, rfl, rfl, rfl, rfl, rfl, rfl, rfl, rfl, rfl, trivial⟩) rfl ?_
                      refine A.tn ?_
                      refine A.cond_f rfl ?_
                      refine A.skip ?_
                      refine A.bn ?_
                      refine A.tn ?_
                      refine A.region ?_
                      refine A.cons (A.q (some 57) (.int .i64 ((k : Int) + 1)) (by kernel_rfl) (qt_as (congrArg (Value.int .i64) (wrap_i64 (e := (k : Int) + 1) (by simp at *; constructor <;> omega))) (qt_pure (v := .int .i64 (IntKind.i64.wrap ((k : Int) + 1))) (by kernel_rfl) fun _ => by kernel_rfl)) ?_)
                      refine A.cons (A.q (some 45) (.int .i64 ((k : Int) + 1)) (by kernel_rfl) (qt_move rfl rfl) ?_)
                      refine A.done ?_
                      refine A.norm [(6, (.bool false)), (7, (.pointer (some ⟨b2, 0, none⟩))), (8, (.int .i64 0)), (43, (.slice A0 ((l).length) c0)), (44, (.int .i64 ((l).length : Int))), (45, (.int .i64 ((k : Int) + 1))), (9, (.slice Ai ((q).length) ci0)), (10, (.slice none ((([] : List Pkt)).length) 0)), (46, (.bool (decide ((k : Int) < ((l).length : Int))))), (12, (.pointer (some ⟨b4, 0, none⟩))), (52, (.bool false))] [ringI encPkt 118 74 rb1 rs1 r q, blk b2 [(.pointer (some ⟨rb1, 0, none⟩)), (.int .i64 m), (.int .i64 u), (.int .u64 ci), (.int .u64 co), (.int .u64 (IntKind.u64.wrap (cd + 1))), (.int .u64 bi), (.int .u64 bo), (.int .u64 (IntKind.u64.wrap (bd + (IntKind.u64.wrap (x3.len)))))] 112, sl Ai (q).length ci0 74 6 (V.flat encPkt q), sl none (([] : List Pkt)).length 0 74 6 (V.flat encPkt ([] : List Pkt)), blk b4 [(.int .u64 x3.id), (.int .i64 x3.len), (.int .u16 x3.h0), (.int .u16 x3.h1), (.int .u16 x3.h2), (.int .u16 x3.h3)] 74] (by exact ⟨rfl, rfl, rfl, rfl, rfl, rfl, rfl, rfl, rfl, rfl, rfl, trivial⟩) rfl ?_
                      refine A.tn ?_
                      refine A.next (k + 1, q, Ai, ci0, u, ci, co, IntKind.u64.wrap (cd + 1), bi, bo, IntKind.u64.wrap (bd + (IntKind.u64.wrap (x3.len)))) (⟨by omega, hq, hu, hm, hv⟩) (by simp only []; omega) ?_
                      exact A.here (by exact ⟨rfl, rfl, rfl, rfl, rfl, rfl, rfl, rfl, trivial⟩) (List.Sublist.cons_cons _ (List.Sublist.cons_cons _ (List.Sublist.cons_cons _ (List.Sublist.cons_cons _ (List.Sublist.cons _ (List.Sublist.slnil))))))
            · skip
              have p8 := e8; try simp only [decide_eq_true_eq, decide_eq_false_iff_not, beq_iff_eq, beq_eq_false_iff_ne, bne_iff_ne, bne_eq_false_iff_eq, ne_eq, Bool.and_eq_true, Bool.or_eq_true, Bool.or_eq_false_iff, Bool.not_eq_true', Bool.not_eq_false', Int.not_lt, Int.not_le, gt_iff_lt, ge_iff_le, Classical.not_not] at p8
              refine A.exit ?_
              refine A.te ?_
              refine A.te ?_
              refine A.bh ?_
              refine A.tn ?_
              refine A.seq ?_
              refine A.seq ?_
              refine A.region ?_
              refine A.cons (A.q (some 58) (.slice Ai ((q).length) ci0) (by kernel_rfl) (qt_move rfl rfl) ?_)
              refine A.cons (A.q (some 59) (.int .i64 ((q).length : Int)) (by kernel_rfl) (qt_pure (by kernel_rfl) fun _ => by kernel_rfl) ?_)
              refine A.cons (A.q (some 60) (.int .i64 0) (by kernel_rfl) (qt_move rfl rfl) ?_)
              refine A.done ?_
              refine A.norm [(6, (.bool false)), (7, (.pointer (some ⟨b2, 0, none⟩))), (8, (.int .i64 0)), (43, (.slice A0 ((l).length) c0)), (44, (.int .i64 ((l).length : Int))), (45, (.int .i64 (k : Int))), (9, (.slice Ai ((q).length) ci0)), (10, (.slice none ((([] : List Pkt)).length) 0)), (46, (.bool (decide ((k : Int) < ((l).length : Int))))), (59, (.int .i64 ((q).length : Int))), (60, (.int .i64 0))] [ringI encPkt 118 74 rb1 rs1 r q, blk b2 [(.pointer (some ⟨rb1, 0, none⟩)), (.int .i64 m), (.int .i64 u), (.int .u64 ci), (.int .u64 co), (.int .u64 cd), (.int .u64 bi), (.int .u64 bo), (.int .u64 bd)] 112, sl Ai (q).length ci0 74 6 (V.flat encPkt q), sl none (([] : List Pkt)).length 0 74 6 (V.flat encPkt ([] : List Pkt))] (by exact ⟨rfl, rfl, rfl, rfl, rfl, rfl, rfl, rfl, rfl, rfl, rfl, trivial⟩) rfl ?_
              refine A.tn ?_
              refine A.block ?_
              refine A.loop (fun (x : Nat × (List Pkt) × (List Pkt) × (Option Addr) × Nat × Int × Int × Int × Int × Int × Int × Int) => match x with | (j, ys, t, Ao, cp, u2, ci2, co2, cd2, bi2, bo2, bd2) => [(7, (.pointer (some ⟨b2, 0, none⟩))), (8, (.int .i64 0)), (9, (.slice Ai ((q).length) ci0)), (59, (.int .i64 ((q).length : Int))), (60, (.int .i64 (j : Int))), (10, (.slice Ao ((ys).length) cp))]) (fun (x : Nat × (List Pkt) × (List Pkt) × (Option Addr) × Nat × Int × Int × Int × Int × Int × Int × Int) => match x with | (j, ys, t, Ao, cp, u2, ci2, co2, cd2, bi2, bo2, bd2) => [ringI encPkt 118 74 rb1 rs1 r t, blk b2 [(.pointer (some ⟨rb1, 0, none⟩)), (.int .i64 m), (.int .i64 u2), (.int .u64 ci2), (.int .u64 co2), (.int .u64 cd2), (.int .u64 bi2), (.int .u64 bo2), (.int .u64 bd2)] 112, sl Ai (q).length ci0 74 6 (V.flat encPkt q), sl Ao (ys).length cp 74 6 (V.flat encPkt ys)]) (fun (x : Nat × (List Pkt) × (List Pkt) × (Option Addr) × Nat × Int × Int × Int × Int × Int × Int × Int) => match x with | (j, ys, t, Ao, cp, u2, ci2, co2, cd2, bi2, bo2, bd2) => ys.length = j ∧ q = ys ++ t ∧ u2 = lens t ∧ (∀ x ∈ t, LenOk x) ∧ j ≤ q.length) (fun (x : Nat × (List Pkt) × (List Pkt) × (Option Addr) × Nat × Int × Int × Int × Int × Int × Int × Int) => match x with | (j, ys, t, Ao, cp, u2, ci2, co2, cd2, bi2, bo2, bd2) => q.length - j) (0, [], q, none, 0, u, ci, co, cd, bi, bo, bd) (⟨rfl, rfl, hu, hv, Nat.zero_le _⟩) ?_ ?_
              · exact A.here (by exact ⟨rfl, rfl, rfl, rfl, rfl, rfl, trivial⟩) (List.Sublist.refl _)
              · rintro ⟨j, ys, t, Ao, cp, u2, ci2, co2, cd2, bi2, bo2, bd2⟩ ⟨hj1, hj2, hu2, hv2, hj⟩
                have hp2 := lens_pos t hv2; rw [← hu2] at hp2
                have hjl : ys.length + t.length = q.length := by rw [hj2]; simp
                refine A.norm [(7, (.pointer (some ⟨b2, 0, none⟩))), (8, (.int .i64 0)), (9, (.slice Ai ((q).length) ci0)), (59, (.int .i64 ((q).length : Int))), (60, (.int .i64 (j : Int))), (10, (.slice Ao ((ys).length) cp))] [ringI encPkt 118 74 rb1 rs1 r t, blk b2 [(.pointer (some ⟨rb1, 0, none⟩)), (.int .i64 m), (.int .i64 u2), (.int .u64 ci2), (.int .u64 co2), (.int .u64 cd2), (.int .u64 bi2), (.int .u64 bo2), (.int .u64 bd2)] 112, sl Ai (q).length ci0 74 6 (V.flat encPkt q), sl Ao (ys).length cp 74 6 (V.flat encPkt ys)] (by exact ⟨rfl, rfl, rfl, rfl, rfl, rfl, trivial⟩) rfl ?_
                refine A.seq ?_
                refine A.region ?_
                refine A.cons (A.q (some 61) (.bool (decide ((j : Int) < ((q).length : Int)))) (by kernel_rfl) (qt_pure (by kernel_rfl) fun _ => by kernel_rfl) ?_)
                refine A.done ?_
                refine A.norm [(7, (.pointer (some ⟨b2, 0, none⟩))), (8, (.int .i64 0)), (9, (.slice Ai ((q).length) ci0)), (59, (.int .i64 ((q).length : Int))), (60, (.int .i64 (j : Int))), (10, (.slice Ao ((ys).length) cp)), (61, (.bool (decide ((j : Int) < ((q).length : Int)))))] [ringI encPkt 118 74 rb1 rs1 r t, blk b2 [(.pointer (some ⟨rb1, 0, none⟩)), (.int .i64 m), (.int .i64 u2), (.int .u64 ci2), (.int .u64 co2), (.int .u64 cd2), (.int .u64 bi2), (.int .u64 bo2), (.int .u64 bd2)] 112, sl Ai (q).length ci0 74 6 (V.flat encPkt q), sl Ao (ys).length cp 74 6 (V.flat encPkt ys)] (by exact ⟨rfl, rfl, rfl, rfl, rfl, rfl, rfl, trivial⟩) rfl ?_
                refine A.tn ?_
                refine A.seq ?_
                refine A.cond (E := decide ((j : Int) < ((q).length : Int))) rfl (fun e13 => ?_) (fun e13 => ?_)
                · skip
                  have p13 := e13; try simp only [decide_eq_true_eq, decide_eq_false_iff_not, beq_iff_eq, beq_eq_false_iff_ne, bne_iff_ne, bne_eq_false_iff_eq, ne_eq, Bool.and_eq_true, Bool.or_eq_true, Bool.or_eq_false_iff, Bool.not_eq_true', Bool.not_eq_false', Int.not_lt, Int.not_le, gt_iff_lt, ge_iff_le, Classical.not_not] at p13
                  refine A.skip ?_
                  refine A.tn ?_
                  refine A.seq ?_
                  refine A.block ?_
                  refine A.seq ?_
                  refine A.region ?_
                  refine A.cons (A.q (some 63) (.pointer (some ⟨b2, 0, none⟩)) (by kernel_rfl) (qt_move rfl rfl) ?_)
                  refine A.cons (A.inl (some 64) [(.pointer (some ⟨b2, 0, none⟩))] [(0, (.pointer (some ⟨b2, 0, none⟩)))] (by kernel_rfl) rfl (by kernel_rfl) rfl Try.func44 rfl rfl rfl ?_)
                  refine A.seq ?_
                  refine A.region ?_
                  refine A.cons (A.alloc 2 [(.int .u64 0), (.int .i64 0), (.int .u16 0), (.int .u16 0), (.int .u16 0), (.int .u16 0)] (by kernel_rfl) rfl (by kernel_rfl) (fun b8 => [ringI encPkt 118 74 rb1 rs1 r t, blk b2 [(.pointer (some ⟨rb1, 0, none⟩)), (.int .i64 m), (.int .i64 u2), (.int .u64 ci2), (.int .u64 co2), (.int .u64 cd2), (.int .u64 bi2), (.int .u64 bo2), (.int .u64 bd2)] 112, sl Ai (q).length ci0 74 6 (V.flat encPkt q), sl Ao (ys).length cp 74 6 (V.flat encPkt ys), blk b8 [(.int .u64 0), (.int .i64 0), (.int .u16 0), (.int .u16 0), (.int .u16 0), (.int .u16 0)] 74]) (fun _ => rfl) ?_)
                  intro b8
                  refine A.cons (A.q (some 3) (.int .i64 0) (by kernel_rfl) (qt_assign rfl rfl) ?_)
                  refine A.done ?_
                  refine A.norm [(0, (.pointer (some ⟨b2, 0, none⟩))), (2, (.pointer (some ⟨b8, 0, none⟩))), (3, (.int .i64 0))] [ringI encPkt 118 74 rb1 rs1 r t, blk b2 [(.pointer (some ⟨rb1, 0, none⟩)), (.int .i64 m), (.int .i64 u2), (.int .u64 ci2), (.int .u64 co2), (.int .u64 cd2), (.int .u64 bi2), (.int .u64 bo2), (.int .u64 bd2)] 112, sl Ai (q).length ci0 74 6 (V.flat encPkt q), sl Ao (ys).length cp 74 6 (V.flat encPkt ys), blk b8 [(.int .u64 0), (.int .i64 0), (.int .u16 0), (.int .u16 0), (.int .u16 0), (.int .u16 0)] 74] (by exact ⟨rfl, rfl, rfl, trivial⟩) rfl ?_
                  refine A.tn ?_
                  refine A.seq ?_
                  refine A.seq ?_
                  refine A.region ?_
                  refine A.cons (A.q (some 6) (.pointer (some ⟨b2, 0, none⟩)) (by kernel_rfl) (qt_move rfl rfl) ?_)
                  refine A.cons (A.q (some 7) (.bool false) (by kernel_rfl) (qt_pure (by kernel_rfl) fun _ => by kernel_rfl) ?_)
                  refine A.done ?_
                  refine A.norm [(0, (.pointer (some ⟨b2, 0, none⟩))), (2, (.pointer (some ⟨b8, 0, none⟩))), (3, (.int .i64 0)), (7, (.bool false))] [ringI encPkt 118 74 rb1 rs1 r t, blk b2 [(.pointer (some ⟨rb1, 0, none⟩)), (.int .i64 m), (.int .i64 u2), (.int .u64 ci2), (.int .u64 co2), (.int .u64 cd2), (.int .u64 bi2), (.int .u64 bo2), (.int .u64 bd2)] 112, sl Ai (q).length ci0 74 6 (V.flat encPkt q), sl Ao (ys).length cp 74 6 (V.flat encPkt ys), blk b8 [(.int .u64 0), (.int .i64 0), (.int .u16 0), (.int .u16 0), (.int .u16 0), (.int .u16 0)] 74] (by exact ⟨rfl, rfl, rfl, rfl, trivial⟩) rfl ?_
                  refine A.tn ?_
                  refine A.cond_f rfl ?_
                  refine A.skip ?_
                  refine A.tn ?_
                  refine A.seq ?_
                  refine A.region ?_
                  refine A.cons (A.q (some 10) (.pointer (some ⟨b2, 0, none⟩)) (by kernel_rfl) (qt_move rfl rfl) ?_)
                  refine A.cons (A.q (some 11) (.pointer (some ⟨b2, 0, none⟩)) (by kernel_rfl) (qt_pure (by kernel_rfl) fun _ => by kernel_rfl) ?_)
                  refine A.cons (A.q (some 12) (.pointer (some ⟨b2, 0, none⟩)) (by kernel_rfl) (qt_pure (by kernel_rfl) fun _ => by kernel_rfl) ?_)
                  refine A.cons (A.q (some 13) (.pointer (some ⟨rb1, 0, none⟩)) (by kernel_rfl) (qt_load1 rfl rfl (by kernel_rfl) (reads_blk (i := 1) rfl rfl)) ?_)
                  rcases t with _ | ⟨y9, q9⟩
                  · skip
                    simp at *; omega
                  · skip
                    have hv3 : ∀ x ∈ q9, LenOk x := fun x hx => hv2 x (by simp [hx])
                    have hv4 : LenOk y9 := hv2 y9 (by simp)
                    have hp3 := lens_pos q9 hv3; have hu3 := hu2; rw [lens_cons] at hu3; simp only [LenOk] at hv4; simp only [List.length_cons] at hjl
                    refine A.cons (A.call (some 14) [(.pointer (some ⟨rb1, 0, none⟩))] (fun _ : Unit => (.tuple #[(.agg #[(.int .u64 y9.id), (.int .i64 y9.len), (.int .u16 y9.h0), (.int .u16 y9.h1), (.int .u16 y9.h2), (.int .u16 y9.h3)]), (.int .i64 0)])) (fun _ => True) (fun _ => [ringI encPkt 118 74 rb1 rs1 r q9, blk b2 [(.pointer (some ⟨rb1, 0, none⟩)), (.int .i64 m), (.int .i64 u2), (.int .u64 ci2), (.int .u64 co2), (.int .u64 cd2), (.int .u64 bi2), (.int .u64 bo2), (.int .u64 bd2)] 112, sl Ai (q).length ci0 74 6 (V.flat encPkt q), sl Ao (ys).length cp 74 6 (V.flat encPkt ys), blk b8 [(.int .u64 0), (.int .i64 0), (.int .u16 0), (.int .u16 0), (.int .u16 0), (.int .u16 0)] 74]) (by kernel_rfl) rfl (by kernel_rfl) rfl (fun w s => (ringP_pop rb1 rs1 r q9 y9 w (s.mem (i := 0) rfl)).mono fun e w1 ⟨he, hr, hf⟩ => ⟨(), he, trivial, s.turn (i := 0) rfl hf hr (by have := (s.mem (i := 0) rfl : RingH _ _ _ _ _ _ _ _).bounds.2.2.2; simpa [ringI] using this) (fun _ h => .inl h)⟩) (fun _ _ => ?_))
                    refine A.cons (A.q (some 9) (.tuple #[(.agg #[(.int .u64 y9.id), (.int .i64 y9.len), (.int .u16 y9.h0), (.int .u16 y9.h1), (.int .u16 y9.h2), (.int .u16 y9.h3)]), (.int .i64 0)]) (by kernel_rfl) (qt_move rfl rfl) ?_)
                    refine A.cons (A.q (some 15) (.agg #[(.int .u64 y9.id), (.int .i64 y9.len), (.int .u16 y9.h0), (.int .u16 y9.h1), (.int .u16 y9.h2), (.int .u16 y9.h3)]) (by kernel_rfl) (qt_pure (by kernel_rfl) fun _ => by kernel_rfl) ?_)
                    refine A.cons (A.q (some 16) (.int .i64 0) (by kernel_rfl) (qt_pure (by kernel_rfl) fun _ => by kernel_rfl) ?_)
                    refine A.cons (A.alloc 4 [(.int .u64 0), (.int .i64 0), (.int .u16 0), (.int .u16 0), (.int .u16 0), (.int .u16 0)] (by kernel_rfl) rfl (by kernel_rfl) (fun b10 => [ringI encPkt 118 74 rb1 rs1 r q9, blk b2 [(.pointer (some ⟨rb1, 0, none⟩)), (.int .i64 m), (.int .i64 u2), (.int .u64 ci2), (.int .u64 co2), (.int .u64 cd2), (.int .u64 bi2), (.int .u64 bo2), (.int .u64 bd2)] 112, sl Ai (q).length ci0 74 6 (V.flat encPkt q), sl Ao (ys).length cp 74 6 (V.flat encPkt ys), blk b8 [(.int .u64 0), (.int .i64 0), (.int .u16 0), (.int .u16 0), (.int .u16 0), (.int .u16 0)] 74, blk b10 [(.int .u64 0), (.int .i64 0), (.int .u16 0), (.int .u16 0), (.int .u16 0), (.int .u16 0)] 74]) (fun _ => rfl) ?_)
                    intro b10
                    refine A.cons (A.store 5 (vs := [(.int .u64 y9.id), (.int .i64 y9.len), (.int .u16 y9.h0), (.int .u16 y9.h1), (.int .u16 y9.h2), (.int .u16 y9.h3)]) [ringI encPkt 118 74 rb1 rs1 r q9, blk b2 [(.pointer (some ⟨rb1, 0, none⟩)), (.int .i64 m), (.int .i64 u2), (.int .u64 ci2), (.int .u64 co2), (.int .u64 cd2), (.int .u64 bi2), (.int .u64 bo2), (.int .u64 bd2)] 112, sl Ai (q).length ci0 74 6 (V.flat encPkt q), sl Ao (ys).length cp 74 6 (V.flat encPkt ys), blk b8 [(.int .u64 0), (.int .i64 0), (.int .u16 0), (.int .u16 0), (.int .u16 0), (.int .u16 0)] 74, blk b10 [(.int .u64 y9.id), (.int .i64 y9.len), (.int .u16 y9.h0), (.int .u16 y9.h1), (.int .u16 y9.h2), (.int .u16 y9.h3)] 74] (by kernel_rfl) rfl rfl rfl rfl (by kernel_rfl) rfl rfl (by kernel_rfl) rfl ?_)
                    refine A.cons (A.q (some 5) (.int .i64 0) (by kernel_rfl) (qt_assign rfl rfl) ?_)
                    refine A.done ?_
                    refine A.norm [(0, (.pointer (some ⟨b2, 0, none⟩))), (2, (.pointer (some ⟨b8, 0, none⟩))), (3, (.int .i64 0)), (7, (.bool false)), (4, (.pointer (some ⟨b10, 0, none⟩))), (5, (.int .i64 0))] [ringI encPkt 118 74 rb1 rs1 r q9, blk b2 [(.pointer (some ⟨rb1, 0, none⟩)), (.int .i64 m), (.int .i64 u2), (.int .u64 ci2), (.int .u64 co2), (.int .u64 cd2), (.int .u64 bi2), (.int .u64 bo2), (.int .u64 bd2)] 112, sl Ai (q).length ci0 74 6 (V.flat encPkt q), sl Ao (ys).length cp 74 6 (V.flat encPkt ys), blk b8 [(.int .u64 0), (.int .i64 0), (.int .u16 0), (.int .u16 0), (.int .u16 0), (.int .u16 0)] 74, blk b10 [(.int .u64 y9.id), (.int .i64 y9.len), (.int .u16 y9.h0), (.int .u16 y9.h1), (.int .u16 y9.h2), (.int .u16 y9.h3)] 74] (by exact ⟨rfl, rfl, rfl, rfl, rfl, rfl, trivial⟩) rfl ?_
                    refine A.tn ?_
                    refine A.seq ?_
                    refine A.seq ?_
                    refine A.region ?_
                    refine A.cons (A.q (some 17) (.int .i64 0) (by kernel_rfl) (qt_move rfl rfl) ?_)
                    refine A.cons (A.q (some 18) (.bool false) (by kernel_rfl) (qt_pure (by kernel_rfl) fun _ => by kernel_rfl) ?_)
                    refine A.done ?_
                    refine A.norm [(0, (.pointer (some ⟨b2, 0, none⟩))), (2, (.pointer (some ⟨b8, 0, none⟩))), (3, (.int .i64 0)), (7, (.bool false)), (4, (.pointer (some ⟨b10, 0, none⟩))), (5, (.int .i64 0)), (18, (.bool false))] [ringI encPkt 118 74 rb1 rs1 r q9, blk b2 [(.pointer (some ⟨rb1, 0, none⟩)), (.int .i64 m), (.int .i64 u2), (.int .u64 ci2), (.int .u64 co2), (.int .u64 cd2), (.int .u64 bi2), (.int .u64 bo2), (.int .u64 bd2)] 112, sl Ai (q).length ci0 74 6 (V.flat encPkt q), sl Ao (ys).length cp 74 6 (V.flat encPkt ys), blk b8 [(.int .u64 0), (.int .i64 0), (.int .u16 0), (.int .u16 0), (.int .u16 0), (.int .u16 0)] 74, blk b10 [(.int .u64 y9.id), (.int .i64 y9.len), (.int .u16 y9.h0), (.int .u16 y9.h1), (.int .u16 y9.h2), (.int .u16 y9.h3)] 74] (by exact ⟨rfl, rfl, rfl, rfl, rfl, rfl, rfl, trivial⟩) rfl ?_
                    refine A.tn ?_
                    refine A.cond_f rfl ?_
                    refine A.skip ?_
                    refine A.tn ?_
                    refine A.seq ?_
                    refine A.draw [ringI encPkt 118 74 rb1 rs1 r q9, sl Ai (q).length ci0 74 6 (V.flat encPkt q), sl Ao (ys).length cp 74 6 (V.flat encPkt ys), blk b8 [(.int .u64 0), (.int .i64 0), (.int .u16 0), (.int .u16 0), (.int .u16 0), (.int .u16 0)] 74, blk b10 [(.int .u64 y9.id), (.int .i64 y9.len), (.int .u16 y9.h0), (.int .u16 y9.h1), (.int .u16 y9.h2), (.int .u16 y9.h3)] 74] (by kernel_rfl) ?_
                    refine A.take 0 (some 21) (.pointer (some ⟨b2, 0, none⟩)) rfl (by kernel_rfl) (by kernel_rfl) (List.Sublist.cons_cons _ (List.Sublist.cons _ (List.Sublist.cons_cons _ (List.Sublist.cons_cons _ (List.Sublist.cons_cons _ (List.Sublist.cons_cons _ (List.Sublist.slnil))))))) (qt_move rfl rfl) ?_
                    refine A.take 1 (some 22) (.pointer (some ⟨b2, 0, none⟩)) rfl (by kernel_rfl) (by kernel_rfl) (List.Sublist.cons_cons _ (List.Sublist.cons _ (List.Sublist.cons_cons _ (List.Sublist.cons_cons _ (List.Sublist.cons_cons _ (List.Sublist.cons_cons _ (List.Sublist.slnil))))))) (qt_pure (by kernel_rfl) fun _ => by kernel_rfl) ?_
                    refine A.take 2 (some 23) (.pointer (some ⟨b2, 2, none⟩)) rfl (by kernel_rfl) (by kernel_rfl) (List.Sublist.cons_cons _ (List.Sublist.cons _ (List.Sublist.cons_cons _ (List.Sublist.cons_cons _ (List.Sublist.cons_cons _ (List.Sublist.cons_cons _ (List.Sublist.slnil))))))) (qt_pure (by kernel_rfl) fun _ => by kernel_rfl) ?_
                    refine A.take 4 (some 25) (.pointer (some ⟨b10, 1, none⟩)) rfl (by kernel_rfl) (by kernel_rfl) (List.Sublist.cons_cons _ (List.Sublist.cons _ (List.Sublist.cons_cons _ (List.Sublist.cons_cons _ (List.Sublist.cons_cons _ (List.Sublist.cons_cons _ (List.Sublist.slnil))))))) (qt_pure (by kernel_rfl) fun _ => by kernel_rfl) ?_
                    refine A.take 5 (some 26) (.int .i64 y9.len) rfl (by kernel_rfl) (by kernel_rfl) (List.Sublist.cons_cons _ (List.Sublist.cons _ (List.Sublist.cons_cons _ (List.Sublist.cons_cons _ (List.Sublist.cons_cons _ (List.Sublist.cons_cons _ (List.Sublist.slnil))))))) (qt_load1 rfl rfl (by kernel_rfl) (reads_blk (i := 4) rfl rfl)) ?_
                    refine A.only 3 rfl (by kernel_rfl) (A.q (some 24) (.int .i64 u2) (by kernel_rfl) (qt_load1 rfl rfl (by kernel_rfl) (reads_blk (i := 1) rfl rfl)) ?_)
                    refine A.and (List.Sublist.cons_cons _ (List.Sublist.cons _ (List.Sublist.cons_cons _ (List.Sublist.cons_cons _ (List.Sublist.cons_cons _ (List.Sublist.cons_cons _ (List.Sublist.slnil))))))) ?_
                    refine A.take 6 (some 27) (.int .i64 (u2 - y9.len)) rfl (by kernel_rfl) (by kernel_rfl) (List.Sublist.cons_cons _ (List.Sublist.cons _ (List.Sublist.cons_cons _ (List.Sublist.cons_cons _ (List.Sublist.cons_cons _ (List.Sublist.cons_cons _ (List.Sublist.slnil))))))) (qt_as (congrArg (Value.int .i64) (wrap_i64 (e := u2 - y9.len) (by simp at *; constructor <;> omega))) (qt_pure (v := .int .i64 (IntKind.i64.wrap (u2 - y9.len))) (by kernel_rfl) fun _ => by kernel_rfl)) ?_
                    refine A.take 7 (some 28) (.pointer (some ⟨b2, 0, none⟩)) rfl (by kernel_rfl) (by kernel_rfl) (List.Sublist.cons_cons _ (List.Sublist.cons _ (List.Sublist.cons_cons _ (List.Sublist.cons_cons _ (List.Sublist.cons_cons _ (List.Sublist.cons_cons _ (List.Sublist.slnil))))))) (qt_pure (by kernel_rfl) fun _ => by kernel_rfl) ?_
                    refine A.take 8 (some 29) (.pointer (some ⟨b2, 2, none⟩)) rfl (by kernel_rfl) (by kernel_rfl) (List.Sublist.cons_cons _ (List.Sublist.cons _ (List.Sublist.cons_cons _ (List.Sublist.cons_cons _ (List.Sublist.cons_cons _ (List.Sublist.cons_cons _ (List.Sublist.slnil))))))) (qt_pure (by kernel_rfl) fun _ => by kernel_rfl) ?_
                    refine A.only 9 rfl (by kernel_rfl) (A.store 1 (vs := [(.int .i64 (u2 - y9.len))]) [ringI encPkt 118 74 rb1 rs1 r q9, blk b2 [(.pointer (some ⟨rb1, 0, none⟩)), (.int .i64 m), (.int .i64 (u2 - y9.len)), (.int .u64 ci2), (.int .u64 co2), (.int .u64 cd2), (.int .u64 bi2), (.int .u64 bo2), (.int .u64 bd2)] 112, sl Ai (q).length ci0 74 6 (V.flat encPkt q), sl Ao (ys).length cp 74 6 (V.flat encPkt ys), blk b8 [(.int .u64 0), (.int .i64 0), (.int .u16 0), (.int .u16 0), (.int .u16 0), (.int .u16 0)] 74, blk b10 [(.int .u64 y9.id), (.int .i64 y9.len), (.int .u16 y9.h0), (.int .u16 y9.h1), (.int .u16 y9.h2), (.int .u16 y9.h3)] 74] (by kernel_rfl) rfl rfl rfl rfl (by kernel_rfl) rfl rfl (by kernel_rfl) rfl ?_)
                    refine A.and (List.Sublist.cons_cons _ (List.Sublist.cons _ (List.Sublist.cons_cons _ (List.Sublist.cons_cons _ (List.Sublist.cons_cons _ (List.Sublist.cons_cons _ (List.Sublist.slnil))))))) ?_
                    refine A.fin (by kernel_rfl) ?_
                    refine A.norm [(0, (.pointer (some ⟨b2, 0, none⟩))), (2, (.pointer (some ⟨b8, 0, none⟩))), (3, (.int .i64 0)), (7, (.bool false)), (4, (.pointer (some ⟨b10, 0, none⟩))), (5, (.int .i64 0)), (18, (.bool false))] [ringI encPkt 118 74 rb1 rs1 r q9, blk b2 [(.pointer (some ⟨rb1, 0, none⟩)), (.int .i64 m), (.int .i64 (u2 - y9.len)), (.int .u64 ci2), (.int .u64 co2), (.int .u64 cd2), (.int .u64 bi2), (.int .u64 bo2), (.int .u64 bd2)] 112, sl Ai (q).length ci0 74 6 (V.flat encPkt q), sl Ao (ys).length cp 74 6 (V.flat encPkt ys), blk b8 [(.int .u64 0), (.int .i64 0), (.int .u16 0), (.int .u16 0), (.int .u16 0), (.int .u16 0)] 74, blk b10 [(.int .u64 y9.id), (.int .i64 y9.len), (.int .u16 y9.h0), (.int .u16 y9.h1), (.int .u16 y9.h2), (.int .u16 y9.h3)] 74] (by exact ⟨rfl, rfl, rfl, rfl, rfl, rfl, rfl, trivial⟩) rfl ?_
                    refine A.tn ?_
                    refine A.seq ?_
                    refine A.region ?_
                    refine A.cons (A.q (some 30) (.pointer (some ⟨b2, 0, none⟩)) (by kernel_rfl) (qt_move rfl rfl) ?_)
                    refine A.cons (A.q (some 31) (.pointer (some ⟨b2, 0, none⟩)) (by kernel_rfl) (qt_pure (by kernel_rfl) fun _ => by kernel_rfl) ?_)
                    refine A.cons (A.q (some 32) (.pointer (some ⟨b2, 3, none⟩)) (by kernel_rfl) (qt_pure (by kernel_rfl) fun _ => by kernel_rfl) ?_)
                    refine A.cons (A.q (some 33) (.pointer (some ⟨b2, 4, none⟩)) (by kernel_rfl) (qt_pure (by kernel_rfl) fun _ => by kernel_rfl) ?_)
                    refine A.cons (A.q (some 34) (.int .u64 co2) (by kernel_rfl) (qt_load1 rfl rfl (by kernel_rfl) (reads_blk (i := 1) rfl rfl)) ?_)
                    refine A.cons (A.q (some 35) (.int .u64 (IntKind.u64.wrap (co2 + 1))) (by kernel_rfl) (qt_pure (by kernel_rfl) fun _ => by kernel_rfl) ?_)
                    refine A.cons (A.q (some 36) (.pointer (some ⟨b2, 0, none⟩)) (by kernel_rfl) (qt_pure (by kernel_rfl) fun _ => by kernel_rfl) ?_)
                    refine A.cons (A.q (some 37) (.pointer (some ⟨b2, 3, none⟩)) (by kernel_rfl) (qt_pure (by kernel_rfl) fun _ => by kernel_rfl) ?_)
                    refine A.cons (A.q (some 38) (.pointer (some ⟨b2, 4, none⟩)) (by kernel_rfl) (qt_pure (by kernel_rfl) fun _ => by kernel_rfl) ?_)
                    refine A.cons (A.store 1 (vs := [(.int .u64 (IntKind.u64.wrap (co2 + 1)))]) [ringI encPkt 118 74 rb1 rs1 r q9, blk b2 [(.pointer (some ⟨rb1, 0, none⟩)), (.int .i64 m), (.int .i64 (u2 - y9.len)), (.int .u64 ci2), (.int .u64 (IntKind.u64.wrap (co2 + 1))), (.int .u64 cd2), (.int .u64 bi2), (.int .u64 bo2), (.int .u64 bd2)] 112, sl Ai (q).length ci0 74 6 (V.flat encPkt q), sl Ao (ys).length cp 74 6 (V.flat encPkt ys), blk b8 [(.int .u64 0), (.int .i64 0), (.int .u16 0), (.int .u16 0), (.int .u16 0), (.int .u16 0)] 74, blk b10 [(.int .u64 y9.id), (.int .i64 y9.len), (.int .u16 y9.h0), (.int .u16 y9.h1), (.int .u16 y9.h2), (.int .u16 y9.h3)] 74] (by kernel_rfl) rfl rfl rfl rfl (by kernel_rfl) rfl rfl (by kernel_rfl) rfl ?_)
                    refine A.done ?_
                    refine A.norm [(0, (.pointer (some ⟨b2, 0, none⟩))), (2, (.pointer (some ⟨b8, 0, none⟩))), (3, (.int .i64 0)), (7, (.bool false)), (4, (.pointer (some ⟨b10, 0, none⟩))), (5, (.int .i64 0)), (18, (.bool false))] [ringI encPkt 118 74 rb1 rs1 r q9, blk b2 [(.pointer (some ⟨rb1, 0, none⟩)), (.int .i64 m), (.int .i64 (u2 - y9.len)), (.int .u64 ci2), (.int .u64 (IntKind.u64.wrap (co2 + 1))), (.int .u64 cd2), (.int .u64 bi2), (.int .u64 bo2), (.int .u64 bd2)] 112, sl Ai (q).length ci0 74 6 (V.flat encPkt q), sl Ao (ys).length cp 74 6 (V.flat encPkt ys), blk b8 [(.int .u64 0), (.int .i64 0), (.int .u16 0), (.int .u16 0), (.int .u16 0), (.int .u16 0)] 74, blk b10 [(.int .u64 y9.id), (.int .i64 y9.len), (.int .u16 y9.h0), (.int .u16 y9.h1), (.int .u16 y9.h2), (.int .u16 y9.h3)] 74] (by exact ⟨rfl, rfl, rfl, rfl, rfl, rfl, rfl, trivial⟩) rfl ?_
                    refine A.tn ?_
                    refine A.seq ?_
                    refine A.draw [ringI encPkt 118 74 rb1 rs1 r q9, sl Ai (q).length ci0 74 6 (V.flat encPkt q), sl Ao (ys).length cp 74 6 (V.flat encPkt ys), blk b8 [(.int .u64 0), (.int .i64 0), (.int .u16 0), (.int .u16 0), (.int .u16 0), (.int .u16 0)] 74, blk b10 [(.int .u64 y9.id), (.int .i64 y9.len), (.int .u16 y9.h0), (.int .u16 y9.h1), (.int .u16 y9.h2), (.int .u16 y9.h3)] 74] (by kernel_rfl) ?_
                    refine A.take 0 (some 39) (.pointer (some ⟨b2, 0, none⟩)) rfl (by kernel_rfl) (by kernel_rfl) (List.Sublist.cons_cons _ (List.Sublist.cons _ (List.Sublist.cons_cons _ (List.Sublist.cons_cons _ (List.Sublist.cons_cons _ (List.Sublist.cons_cons _ (List.Sublist.slnil))))))) (qt_move rfl rfl) ?_
                    refine A.take 1 (some 40) (.pointer (some ⟨b2, 0, none⟩)) rfl (by kernel_rfl) (by kernel_rfl) (List.Sublist.cons_cons _ (List.Sublist.cons _ (List.Sublist.cons_cons _ (List.Sublist.cons_cons _ (List.Sublist.cons_cons _ (List.Sublist.cons_cons _ (List.Sublist.slnil))))))) (qt_pure (by kernel_rfl) fun _ => by kernel_rfl) ?_
                    refine A.take 2 (some 41) (.pointer (some ⟨b2, 3, none⟩)) rfl (by kernel_rfl) (by kernel_rfl) (List.Sublist.cons_cons _ (List.Sublist.cons _ (List.Sublist.cons_cons _ (List.Sublist.cons_cons _ (List.Sublist.cons_cons _ (List.Sublist.cons_cons _ (List.Sublist.slnil))))))) (qt_pure (by kernel_rfl) fun _ => by kernel_rfl) ?_
                    refine A.take 3 (some 42) (.pointer (some ⟨b2, 7, none⟩)) rfl (by kernel_rfl) (by kernel_rfl) (List.Sublist.cons_cons _ (List.Sublist.cons _ (List.Sublist.cons_cons _ (List.Sublist.cons_cons _ (List.Sublist.cons_cons _ (List.Sublist.cons_cons _ (List.Sublist.slnil))))))) (qt_pure (by kernel_rfl) fun _ => by kernel_rfl) ?_
                    refine A.take 5 (some 44) (.pointer (some ⟨b10, 1, none⟩)) rfl (by kernel_rfl) (by kernel_rfl) (List.Sublist.cons_cons _ (List.Sublist.cons _ (List.Sublist.cons_cons _ (List.Sublist.cons_cons _ (List.Sublist.cons_cons _ (List.Sublist.cons_cons _ (List.Sublist.slnil))))))) (qt_pure (by kernel_rfl) fun _ => by kernel_rfl) ?_
                    refine A.take 6 (some 45) (.int .i64 y9.len) rfl (by kernel_rfl) (by kernel_rfl) (List.Sublist.cons_cons _ (List.Sublist.cons _ (List.Sublist.cons_cons _ (List.Sublist.cons_cons _ (List.Sublist.cons_cons _ (List.Sublist.cons_cons _ (List.Sublist.slnil))))))) (qt_load1 rfl rfl (by kernel_rfl) (reads_blk (i := 4) rfl rfl)) ?_
                    refine A.take 7 (some 46) (.int .u64 (IntKind.u64.wrap (y9.len))) rfl (by kernel_rfl) (by kernel_rfl) (List.Sublist.cons_cons _ (List.Sublist.cons _ (List.Sublist.cons_cons _ (List.Sublist.cons_cons _ (List.Sublist.cons_cons _ (List.Sublist.cons_cons _ (List.Sublist.slnil))))))) (qt_pure (by kernel_rfl) fun _ => by kernel_rfl) ?_
                    refine A.only 4 rfl (by kernel_rfl) (A.q (some 43) (.int .u64 bo2) (by kernel_rfl) (qt_load1 rfl rfl (by kernel_rfl) (reads_blk (i := 1) rfl rfl)) ?_)
                    refine A.and (List.Sublist.cons_cons _ (List.Sublist.cons _ (List.Sublist.cons_cons _ (List.Sublist.cons_cons _ (List.Sublist.cons_cons _ (List.Sublist.cons_cons _ (List.Sublist.slnil))))))) ?_
                    refine A.take 8 (some 47) (.int .u64 (IntKind.u64.wrap (bo2 + (IntKind.u64.wrap (y9.len))))) rfl (by kernel_rfl) (by kernel_rfl) (List.Sublist.cons_cons _ (List.Sublist.cons _ (List.Sublist.cons_cons _ (List.Sublist.cons_cons _ (List.Sublist.cons_cons _ (List.Sublist.cons_cons _ (List.Sublist.slnil))))))) (qt_pure (by kernel_rfl) fun _ => by kernel_rfl) ?_
                    refine A.take 9 (some 48) (.pointer (some ⟨b2, 0, none⟩)) rfl (by kernel_rfl) (by kernel_rfl) (List.Sublist.cons_cons _ (List.Sublist.cons _ (List.Sublist.cons_cons _ (List.Sublist.cons_cons _ (List.Sublist.cons_cons _ (List.Sublist.cons_cons _ (List.Sublist.slnil))))))) (qt_pure (by kernel_rfl) fun _ => by kernel_rfl) ?_
                    refine A.take 10 (some 49) (.pointer (some ⟨b2, 3, none⟩)) rfl (by kernel_rfl) (by kernel_rfl) (List.Sublist.cons_cons _ (List.Sublist.cons _ (List.Sublist.cons_cons _ (List.Sublist.cons_cons _ (List.Sublist.cons_cons _ (List.Sublist.cons_cons _ (List.Sublist.slnil))))))) (qt_pure (by kernel_rfl) fun _ => by kernel_rfl) ?_
                    refine A.take 11 (some 50) (.pointer (some ⟨b2, 7, none⟩)) rfl (by kernel_rfl) (by kernel_rfl) (List.Sublist.cons_cons _ (List.Sublist.cons _ (List.Sublist.cons_cons _ (List.Sublist.cons_cons _ (List.Sublist.cons_cons _ (List.Sublist.cons_cons _ (List.Sublist.slnil))))))) (qt_pure (by kernel_rfl) fun _ => by kernel_rfl) ?_
                    refine A.only 12 rfl (by kernel_rfl) (A.store 1 (vs := [(.int .u64 (IntKind.u64.wrap (bo2 + (IntKind.u64.wrap (y9.len)))))]) [ringI encPkt 118 74 rb1 rs1 r q9, blk b2 [(.pointer (some ⟨rb1, 0, none⟩)), (.int .i64 m), (.int .i64 (u2 - y9.len)), (.int .u64 ci2), (.int .u64 (IntKind.u64.wrap (co2 + 1))), (.int .u64 cd2), (.int .u64 bi2), (.int .u64 (IntKind.u64.wrap (bo2 + (IntKind.u64.wrap (y9.len))))), (.int .u64 bd2)] 112, sl Ai (q).length ci0 74 6 (V.flat encPkt q), sl Ao (ys).length cp 74 6 (V.flat encPkt ys), blk b8 [(.int .u64 0), (.int .i64 0), (.int .u16 0), (.int .u16 0), (.int .u16 0), (.int .u16 0)] 74, blk b10 [(.int .u64 y9.id), (.int .i64 y9.len), (.int .u16 y9.h0), (.int .u16 y9.h1), (.int .u16 y9.h2), (.int .u16 y9.h3)] 74] (by kernel_rfl) rfl rfl rfl rfl (by kernel_rfl) rfl rfl (by kernel_rfl) rfl ?_)
                    refine A.and (List.Sublist.cons_cons _ (List.Sublist.cons _ (List.Sublist.cons_cons _ (List.Sublist.cons_cons _ (List.Sublist.cons_cons _ (List.Sublist.cons_cons _ (List.Sublist.slnil))))))) ?_
                    refine A.fin (by kernel_rfl) ?_
                    refine A.norm [(0, (.pointer (some ⟨b2, 0, none⟩))), (2, (.pointer (some ⟨b8, 0, none⟩))), (3, (.int .i64 0)), (7, (.bool false)), (4, (.pointer (some ⟨b10, 0, none⟩))), (5, (.int .i64 0)), (18, (.bool false))] [ringI encPkt 118 74 rb1 rs1 r q9, blk b2 [(.pointer (some ⟨rb1, 0, none⟩)), (.int .i64 m), (.int .i64 (u2 - y9.len)), (.int .u64 ci2), (.int .u64 (IntKind.u64.wrap (co2 + 1))), (.int .u64 cd2), (.int .u64 bi2), (.int .u64 (IntKind.u64.wrap (bo2 + (IntKind.u64.wrap (y9.len))))), (.int .u64 bd2)] 112, sl Ai (q).length ci0 74 6 (V.flat encPkt q), sl Ao (ys).length cp 74 6 (V.flat encPkt ys), blk b8 [(.int .u64 0), (.int .i64 0), (.int .u16 0), (.int .u16 0), (.int .u16 0), (.int .u16 0)] 74, blk b10 [(.int .u64 y9.id), (.int .i64 y9.len), (.int .u16 y9.h0), (.int .u16 y9.h1), (.int .u16 y9.h2), (.int .u16 y9.h3)] 74] (by exact ⟨rfl, rfl, rfl, rfl, rfl, rfl, rfl, trivial⟩) rfl ?_
                    refine A.tn ?_
                    refine A.seq ?_
                    refine A.region ?_
                    refine A.cons (A.q (some 51) (.agg #[(.int .u64 y9.id), (.int .i64 y9.len), (.int .u16 y9.h0), (.int .u16 y9.h1), (.int .u16 y9.h2), (.int .u16 y9.h3)]) (by kernel_rfl) (qt_loadN (vs := [(.int .u64 y9.id), (.int .i64 y9.len), (.int .u16 y9.h0), (.int .u16 y9.h1), (.int .u16 y9.h2), (.int .u16 y9.h3)]) rfl rfl (by kernel_rfl) (reads_blk (i := 5) rfl rfl)) ?_)
                    refine A.cons (A.store 4 (vs := [(.int .u64 y9.id), (.int .i64 y9.len), (.int .u16 y9.h0), (.int .u16 y9.h1), (.int .u16 y9.h2), (.int .u16 y9.h3)]) [ringI encPkt 118 74 rb1 rs1 r q9, blk b2 [(.pointer (some ⟨rb1, 0, none⟩)), (.int .i64 m), (.int .i64 (u2 - y9.len)), (.int .u64 ci2), (.int .u64 (IntKind.u64.wrap (co2 + 1))), (.int .u64 cd2), (.int .u64 bi2), (.int .u64 (IntKind.u64.wrap (bo2 + (IntKind.u64.wrap (y9.len))))), (.int .u64 bd2)] 112, sl Ai (q).length ci0 74 6 (V.flat encPkt q), sl Ao (ys).length cp 74 6 (V.flat encPkt ys), blk b8 [(.int .u64 y9.id), (.int .i64 y9.len), (.int .u16 y9.h0), (.int .u16 y9.h1), (.int .u16 y9.h2), (.int .u16 y9.h3)] 74, blk b10 [(.int .u64 y9.id), (.int .i64 y9.len), (.int .u16 y9.h0), (.int .u16 y9.h1), (.int .u16 y9.h2), (.int .u16 y9.h3)] 74] (by kernel_rfl) rfl rfl rfl rfl (by kernel_rfl) rfl rfl (by kernel_rfl) rfl ?_)
                    refine A.cons (A.q (some 3) (.int .i64 0) (by kernel_rfl) (qt_assign rfl rfl) ?_)
                    refine A.done ?_
                    refine A.norm [(0, (.pointer (some ⟨b2, 0, none⟩))), (2, (.pointer (some ⟨b8, 0, none⟩))), (3, (.int .i64 0)), (7, (.bool false)), (4, (.pointer (some ⟨b10, 0, none⟩))), (5, (.int .i64 0)), (18, (.bool false))] [ringI encPkt 118 74 rb1 rs1 r q9, blk b2 [(.pointer (some ⟨rb1, 0, none⟩)), (.int .i64 m), (.int .i64 (u2 - y9.len)), (.int .u64 ci2), (.int .u64 (IntKind.u64.wrap (co2 + 1))), (.int .u64 cd2), (.int .u64 bi2), (.int .u64 (IntKind.u64.wrap (bo2 + (IntKind.u64.wrap (y9.len))))), (.int .u64 bd2)] 112, sl Ai (q).length ci0 74 6 (V.flat encPkt q), sl Ao (ys).length cp 74 6 (V.flat encPkt ys), blk b8 [(.int .u64 y9.id), (.int .i64 y9.len), (.int .u16 y9.h0), (.int .u16 y9.h1), (.int .u16 y9.h2), (.int .u16 y9.h3)] 74, blk b10 [(.int .u64 y9.id), (.int .i64 y9.len), (.int .u16 y9.h0), (.int .u16 y9.h1), (.int .u16 y9.h2), (.int .u16 y9.h3)] 74] (by exact ⟨rfl, rfl, rfl, rfl, rfl, rfl, rfl, trivial⟩) rfl ?_
                    refine A.tn ?_
                    refine A.ret ?_
                    refine A.post [(.agg #[(.int .u64 y9.id), (.int .i64 y9.len), (.int .u16 y9.h0), (.int .u16 y9.h1), (.int .u16 y9.h2), (.int .u16 y9.h3)]), (.int .i64 0)] (fun a w r s => ⟨rv_cellN (vs := [(.int .u64 y9.id), (.int .i64 y9.len), (.int .u16 y9.h0), (.int .u16 y9.h1), (.int .u16 y9.h2), (.int .u16 y9.h3)]) r s rfl (by kernel_rfl) (reads_blk (i := 4) rfl rfl), rv_tmp r rfl, trivial⟩) (A.back (by kernel_rfl) ?_)
                    refine A.items [ringI encPkt 118 74 rb1 rs1 r q9, blk b2 [(.pointer (some ⟨rb1, 0, none⟩)), (.int .i64 m), (.int .i64 (u2 - y9.len)), (.int .u64 ci2), (.int .u64 (IntKind.u64.wrap (co2 + 1))), (.int .u64 cd2), (.int .u64 bi2), (.int .u64 (IntKind.u64.wrap (bo2 + (IntKind.u64.wrap (y9.len))))), (.int .u64 bd2)] 112, sl Ai (q).length ci0 74 6 (V.flat encPkt q), sl Ao (ys).length cp 74 6 (V.flat encPkt ys)] (List.Sublist.cons_cons _ (List.Sublist.cons_cons _ (List.Sublist.cons_cons _ (List.Sublist.cons_cons _ (List.Sublist.cons _ (List.Sublist.cons _ (List.Sublist.slnil))))))) ?_
                    refine A.cons (A.q (some 62) (.tuple #[(.agg #[(.int .u64 y9.id), (.int .i64 y9.len), (.int .u16 y9.h0), (.int .u16 y9.h1), (.int .u16 y9.h2), (.int .u16 y9.h3)]), (.int .i64 0)]) (by kernel_rfl) (qt_move rfl rfl) ?_)
                    refine A.cons (A.q (some 65) (.agg #[(.int .u64 y9.id), (.int .i64 y9.len), (.int .u16 y9.h0), (.int .u16 y9.h1), (.int .u16 y9.h2), (.int .u16 y9.h3)]) (by kernel_rfl) (qt_pure (by kernel_rfl) fun _ => by kernel_rfl) ?_)
                    refine A.cons (A.q (some 66) (.int .i64 0) (by kernel_rfl) (qt_pure (by kernel_rfl) fun _ => by kernel_rfl) ?_)
                    refine A.cons (A.alloc 13 [(.int .u64 0), (.int .i64 0), (.int .u16 0), (.int .u16 0), (.int .u16 0), (.int .u16 0)] (by kernel_rfl) rfl (by kernel_rfl) (fun b11 => [ringI encPkt 118 74 rb1 rs1 r q9, blk b2 [(.pointer (some ⟨rb1, 0, none⟩)), (.int .i64 m), (.int .i64 (u2 - y9.len)), (.int .u64 ci2), (.int .u64 (IntKind.u64.wrap (co2 + 1))), (.int .u64 cd2), (.int .u64 bi2), (.int .u64 (IntKind.u64.wrap (bo2 + (IntKind.u64.wrap (y9.len))))), (.int .u64 bd2)] 112, sl Ai (q).length ci0 74 6 (V.flat encPkt q), sl Ao (ys).length cp 74 6 (V.flat encPkt ys), blk b11 [(.int .u64 0), (.int .i64 0), (.int .u16 0), (.int .u16 0), (.int .u16 0), (.int .u16 0)] 74]) (fun _ => rfl) ?_)
                    intro b11
                    refine A.cons (A.store 4 (vs := [(.int .u64 y9.id), (.int .i64 y9.len), (.int .u16 y9.h0), (.int .u16 y9.h1), (.int .u16 y9.h2), (.int .u16 y9.h3)]) [ringI encPkt 118 74 rb1 rs1 r q9, blk b2 [(.pointer (some ⟨rb1, 0, none⟩)), (.int .i64 m), (.int .i64 (u2 - y9.len)), (.int .u64 ci2), (.int .u64 (IntKind.u64.wrap (co2 + 1))), (.int .u64 cd2), (.int .u64 bi2), (.int .u64 (IntKind.u64.wrap (bo2 + (IntKind.u64.wrap (y9.len))))), (.int .u64 bd2)] 112, sl Ai (q).length ci0 74 6 (V.flat encPkt q), sl Ao (ys).length cp 74 6 (V.flat encPkt ys), blk b11 [(.int .u64 y9.id), (.int .i64 y9.len), (.int .u16 y9.h0), (.int .u16 y9.h1), (.int .u16 y9.h2), (.int .u16 y9.h3)] 74] (by kernel_rfl) rfl rfl rfl rfl (by kernel_rfl) rfl rfl (by kernel_rfl) rfl ?_)
                    refine A.cons (A.q (some 14) (.int .i64 0) (by kernel_rfl) (qt_assign rfl rfl) ?_)
                    refine A.done ?_
                    refine A.norm [(7, (.pointer (some ⟨b2, 0, none⟩))), (8, (.int .i64 0)), (9, (.slice Ai ((q).length) ci0)), (59, (.int .i64 ((q).length : Int))), (60, (.int .i64 (j : Int))), (10, (.slice Ao ((ys).length) cp)), (61, (.bool (decide ((j : Int) < ((q).length : Int))))), (13, (.pointer (some ⟨b11, 0, none⟩))), (14, (.int .i64 0))] [ringI encPkt 118 74 rb1 rs1 r q9, blk b2 [(.pointer (some ⟨rb1, 0, none⟩)), (.int .i64 m), (.int .i64 (u2 - y9.len)), (.int .u64 ci2), (.int .u64 (IntKind.u64.wrap (co2 + 1))), (.int .u64 cd2), (.int .u64 bi2), (.int .u64 (IntKind.u64.wrap (bo2 + (IntKind.u64.wrap (y9.len))))), (.int .u64 bd2)] 112, sl Ai (q).length ci0 74 6 (V.flat encPkt q), sl Ao (ys).length cp 74 6 (V.flat encPkt ys), blk b11 [(.int .u64 y9.id), (.int .i64 y9.len), (.int .u16 y9.h0), (.int .u16 y9.h1), (.int .u16 y9.h2), (.int .u16 y9.h3)] 74] (by exact ⟨rfl, rfl, rfl, rfl, rfl, rfl, rfl, rfl, rfl, trivial⟩) rfl ?_
                    refine A.tn ?_
                    refine A.seq ?_
                    refine A.seq ?_
                    refine A.region ?_
                    refine A.cons (A.q (some 67) (.int .i64 0) (by kernel_rfl) (qt_move rfl rfl) ?_)
                    refine A.cons (A.q (some 68) (.bool false) (by kernel_rfl) (qt_pure (by kernel_rfl) fun _ => by kernel_rfl) ?_)
                    refine A.done ?_
                    refine A.norm [(7, (.pointer (some ⟨b2, 0, none⟩))), (8, (.int .i64 0)), (9, (.slice Ai ((q).length) ci0)), (59, (.int .i64 ((q).length : Int))), (60, (.int .i64 (j : Int))), (10, (.slice Ao ((ys).length) cp)), (61, (.bool (decide ((j : Int) < ((q).length : Int))))), (13, (.pointer (some ⟨b11, 0, none⟩))), (14, (.int .i64 0)), (68, (.bool false))] [ringI encPkt 118 74 rb1 rs1 r q9, blk b2 [(.pointer (some ⟨rb1, 0, none⟩)), (.int .i64 m), (.int .i64 (u2 - y9.len)), (.int .u64 ci2), (.int .u64 (IntKind.u64.wrap (co2 + 1))), (.int .u64 cd2), (.int .u64 bi2), (.int .u64 (IntKind.u64.wrap (bo2 + (IntKind.u64.wrap (y9.len))))), (.int .u64 bd2)] 112, sl Ai (q).length ci0 74 6 (V.flat encPkt q), sl Ao (ys).length cp 74 6 (V.flat encPkt ys), blk b11 [(.int .u64 y9.id), (.int .i64 y9.len), (.int .u16 y9.h0), (.int .u16 y9.h1), (.int .u16 y9.h2), (.int .u16 y9.h3)] 74] (by exact ⟨rfl, rfl, rfl, rfl, rfl, rfl, rfl, rfl, rfl, rfl, trivial⟩) rfl ?_
                    refine A.tn ?_
                    refine A.cond_f rfl ?_
                    refine A.skip ?_
                    refine A.tn ?_
                    refine A.region ?_
                    refine A.cons (A.q (some 69) (.slice Ao ((ys).length) cp) (by kernel_rfl) (qt_move rfl rfl) ?_)
                    refine A.cons (A.q (some 70) (.agg #[(.int .u64 y9.id), (.int .i64 y9.len), (.int .u16 y9.h0), (.int .u16 y9.h1), (.int .u16 y9.h2), (.int .u16 y9.h3)]) (by kernel_rfl) (qt_loadN (vs := [(.int .u64 y9.id), (.int .i64 y9.len), (.int .u16 y9.h0), (.int .u16 y9.h1), (.int .u16 y9.h2), (.int .u16 y9.h3)]) rfl rfl (by kernel_rfl) (reads_blk (i := 4) rfl rfl)) ?_)
                    refine A.cons (A.buildSlice 71 (e := 74) [(.int .u64 y9.id), (.int .i64 y9.len), (.int .u16 y9.h0), (.int .u16 y9.h1), (.int .u16 y9.h2), (.int .u16 y9.h3)] (by kernel_rfl) rfl (fun _ => by kernel_rfl) (fun b12 => [ringI encPkt 118 74 rb1 rs1 r q9, blk b2 [(.pointer (some ⟨rb1, 0, none⟩)), (.int .i64 m), (.int .i64 (u2 - y9.len)), (.int .u64 ci2), (.int .u64 (IntKind.u64.wrap (co2 + 1))), (.int .u64 cd2), (.int .u64 bi2), (.int .u64 (IntKind.u64.wrap (bo2 + (IntKind.u64.wrap (y9.len))))), (.int .u64 bd2)] 112, sl Ai (q).length ci0 74 6 (V.flat encPkt q), sl Ao (ys).length cp 74 6 (V.flat encPkt ys), blk b11 [(.int .u64 y9.id), (.int .i64 y9.len), (.int .u16 y9.h0), (.int .u16 y9.h1), (.int .u16 y9.h2), (.int .u16 y9.h3)] 74, blk b12 [(.int .u64 y9.id), (.int .i64 y9.len), (.int .u16 y9.h0), (.int .u16 y9.h1), (.int .u16 y9.h2), (.int .u16 y9.h3)] 74]) (fun _ => rfl) ?_)
                    intro b12
                    refine A.cons (A.appendC (enc := encPkt) (xs := ys) [y9] 3 72 (e := 74) (z := (.agg #[(.int .u64 0), (.int .i64 0), (.int .u16 0), (.int .u16 0), (.int .u16 0), (.int .u16 0)])) (sz := 6) (by_ := 24) (by kernel_rfl) rfl rfl rfl (by kernel_rfl) (by kernel_rfl) (by rfl) (by decide) encPkt_len encPkt_one rfl (rd_blk (i := 5) rfl) (by first | omega | (simp; done) | (simp; omega)) (fun A13 c13 => [ringI encPkt 118 74 rb1 rs1 r q9, blk b2 [(.pointer (some ⟨rb1, 0, none⟩)), (.int .i64 m), (.int .i64 (u2 - y9.len)), (.int .u64 ci2), (.int .u64 (IntKind.u64.wrap (co2 + 1))), (.int .u64 cd2), (.int .u64 bi2), (.int .u64 (IntKind.u64.wrap (bo2 + (IntKind.u64.wrap (y9.len))))), (.int .u64 bd2)] 112, sl Ai (q).length ci0 74 6 (V.flat encPkt q), sl A13 (ys ++ ([y9])).length c13 74 6 (V.flat encPkt (ys ++ ([y9]))), blk b11 [(.int .u64 y9.id), (.int .i64 y9.len), (.int .u16 y9.h0), (.int .u16 y9.h1), (.int .u16 y9.h2), (.int .u16 y9.h3)] 74, blk b12 [(.int .u64 y9.id), (.int .i64 y9.len), (.int .u16 y9.h0), (.int .u16 y9.h1), (.int .u16 y9.h2), (.int .u16 y9.h3)] 74]) (fun _ _ => rfl) ?_)
                    intro A13 c13
                    refine A.cons (A.q (some 10) (.slice A13 ((ys ++ ([y9])).length) c13) (by kernel_rfl) (qt_assign rfl rfl) ?_)
                    refine A.done ?_
                    refine A.norm [(7, (.pointer (some ⟨b2, 0, none⟩))), (8, (.int .i64 0)), (9, (.slice Ai ((q).length) ci0)), (59, (.int .i64 ((q).length : Int))), (60, (.int .i64 (j : Int))), (10, (.slice A13 ((ys ++ ([y9])).length) c13)), (61, (.bool (decide ((j : Int) < ((q).length : Int))))), (13, (.pointer (some ⟨b11, 0, none⟩))), (14, (.int .i64 0)), (68, (.bool false))] [ringI encPkt 118 74 rb1 rs1 r q9, blk b2 [(.pointer (some ⟨rb1, 0, none⟩)), (.int .i64 m), (.int .i64 (u2 - y9.len)), (.int .u64 ci2), (.int .u64 (IntKind.u64.wrap (co2 + 1))), (.int .u64 cd2), (.int .u64 bi2), (.int .u64 (IntKind.u64.wrap (bo2 + (IntKind.u64.wrap (y9.len))))), (.int .u64 bd2)] 112, sl Ai (q).length ci0 74 6 (V.flat encPkt q), sl A13 (ys ++ ([y9])).length c13 74 6 (V.flat encPkt (ys ++ ([y9]))), blk b11 [(.int .u64 y9.id), (.int .i64 y9.len), (.int .u16 y9.h0), (.int .u16 y9.h1), (.int .u16 y9.h2), (.int .u16 y9.h3)] 74, blk b12 [(.int .u64 y9.id), (.int .i64 y9.len), (.int .u16 y9.h0), (.int .u16 y9.h1), (.int .u16 y9.h2), (.int .u16 y9.h3)] 74] (by exact ⟨rfl, rfl, rfl, rfl, rfl, rfl, rfl, rfl, rfl, rfl, trivial⟩) rfl ?_
                    refine A.bn ?_
                    refine A.tn ?_
                    refine A.region ?_
                    refine A.cons (A.q (some 73) (.int .i64 ((j : Int) + 1)) (by kernel_rfl) (qt_as (congrArg (Value.int .i64) (wrap_i64 (e := (j : Int) + 1) (by simp at *; constructor <;> omega))) (qt_pure (v := .int .i64 (IntKind.i64.wrap ((j : Int) + 1))) (by kernel_rfl) fun _ => by kernel_rfl)) ?_)
                    refine A.cons (A.q (some 60) (.int .i64 ((j : Int) + 1)) (by kernel_rfl) (qt_move rfl rfl) ?_)
                    refine A.done ?_
                    refine A.norm [(7, (.pointer (some ⟨b2, 0, none⟩))), (8, (.int .i64 0)), (9, (.slice Ai ((q).length) ci0)), (59, (.int .i64 ((q).length : Int))), (60, (.int .i64 ((j : Int) + 1))), (10, (.slice A13 ((ys ++ ([y9])).length) c13)), (61, (.bool (decide ((j : Int) < ((q).length : Int))))), (13, (.pointer (some ⟨b11, 0, none⟩))), (14, (.int .i64 0)), (68, (.bool false))] [ringI encPkt 118 74 rb1 rs1 r q9, blk b2 [(.pointer (some ⟨rb1, 0, none⟩)), (.int .i64 m), (.int .i64 (u2 - y9.len)), (.int .u64 ci2), (.int .u64 (IntKind.u64.wrap (co2 + 1))), (.int .u64 cd2), (.int .u64 bi2), (.int .u64 (IntKind.u64.wrap (bo2 + (IntKind.u64.wrap (y9.len))))), (.int .u64 bd2)] 112, sl Ai (q).length ci0 74 6 (V.flat encPkt q), sl A13 (ys ++ ([y9])).length c13 74 6 (V.flat encPkt (ys ++ ([y9]))), blk b11 [(.int .u64 y9.id), (.int .i64 y9.len), (.int .u16 y9.h0), (.int .u16 y9.h1), (.int .u16 y9.h2), (.int .u16 y9.h3)] 74, blk b12 [(.int .u64 y9.id), (.int .i64 y9.len), (.int .u16 y9.h0), (.int .u16 y9.h1), (.int .u16 y9.h2), (.int .u16 y9.h3)] 74] (by exact ⟨rfl, rfl, rfl, rfl, rfl, rfl, rfl, rfl, rfl, rfl, trivial⟩) rfl ?_
                    refine A.tn ?_
                    refine A.next (j + 1, ys ++ ([y9]), q9, A13, c13, u2 - y9.len, ci2, IntKind.u64.wrap (co2 + 1), cd2, bi2, IntKind.u64.wrap (bo2 + (IntKind.u64.wrap (y9.len))), bd2) (⟨by simp [hj1], by simp [hj2], by rw [hu2, lens_cons]; omega, hv3, by simp at *; omega⟩) (by simp only []; omega) ?_
                    exact A.here (by exact ⟨rfl, rfl, rfl, rfl, rfl, rfl, trivial⟩) (List.Sublist.cons_cons _ (List.Sublist.cons_cons _ (List.Sublist.cons_cons _ (List.Sublist.cons_cons _ (List.Sublist.cons _ (List.Sublist.cons _ (List.Sublist.slnil)))))))
                · skip
                  have p13 := e13; try simp only [decide_eq_true_eq, decide_eq_false_iff_not, beq_iff_eq, beq_eq_false_iff_ne, bne_iff_ne, bne_eq_false_iff_eq, ne_eq, Bool.and_eq_true, Bool.or_eq_true, Bool.or_eq_false_iff, Bool.not_eq_true', Bool.not_eq_false', Int.not_lt, Int.not_le, gt_iff_lt, ge_iff_le, Classical.not_not] at p13
                  refine A.exit ?_
                  refine A.te ?_
                  refine A.te ?_
                  refine A.bh ?_
                  refine A.tn ?_
                  refine A.seq ?_
                  refine A.region ?_
                  refine A.cons (A.q (some 75) (.pointer (some ⟨b2, 0, none⟩)) (by kernel_rfl) (qt_move rfl rfl) ?_)
                  refine A.cons (A.inl (some 76) [(.pointer (some ⟨b2, 0, none⟩))] [(0, (.pointer (some ⟨b2, 0, none⟩)))] (by kernel_rfl) rfl (by kernel_rfl) rfl Try.func44 rfl rfl rfl ?_)
                  refine A.seq ?_
                  refine A.region ?_
                  refine A.cons (A.alloc 2 [(.int .u64 0), (.int .i64 0), (.int .u16 0), (.int .u16 0), (.int .u16 0), (.int .u16 0)] (by kernel_rfl) rfl (by kernel_rfl) (fun b14 => [ringI encPkt 118 74 rb1 rs1 r t, blk b2 [(.pointer (some ⟨rb1, 0, none⟩)), (.int .i64 m), (.int .i64 u2), (.int .u64 ci2), (.int .u64 co2), (.int .u64 cd2), (.int .u64 bi2), (.int .u64 bo2), (.int .u64 bd2)] 112, sl Ai (q).length ci0 74 6 (V.flat encPkt q), sl Ao (ys).length cp 74 6 (V.flat encPkt ys), blk b14 [(.int .u64 0), (.int .i64 0), (.int .u16 0), (.int .u16 0), (.int .u16 0), (.int .u16 0)] 74]) (fun _ => rfl) ?_)
                  intro b14
                  refine A.cons (A.q (some 3) (.int .i64 0) (by kernel_rfl) (qt_assign rfl rfl) ?_)
                  refine A.done ?_
                  refine A.norm [(0, (.pointer (some ⟨b2, 0, none⟩))), (2, (.pointer (some ⟨b14, 0, none⟩))), (3, (.int .i64 0))] [ringI encPkt 118 74 rb1 rs1 r t, blk b2 [(.pointer (some ⟨rb1, 0, none⟩)), (.int .i64 m), (.int .i64 u2), (.int .u64 ci2), (.int .u64 co2), (.int .u64 cd2), (.int .u64 bi2), (.int .u64 bo2), (.int .u64 bd2)] 112, sl Ai (q).length ci0 74 6 (V.flat encPkt q), sl Ao (ys).length cp 74 6 (V.flat encPkt ys), blk b14 [(.int .u64 0), (.int .i64 0), (.int .u16 0), (.int .u16 0), (.int .u16 0), (.int .u16 0)] 74] (by exact ⟨rfl, rfl, rfl, trivial⟩) rfl ?_
                  refine A.tn ?_
                  refine A.seq ?_
                  refine A.seq ?_
                  refine A.region ?_
                  refine A.cons (A.q (some 6) (.pointer (some ⟨b2, 0, none⟩)) (by kernel_rfl) (qt_move rfl rfl) ?_)
                  refine A.cons (A.q (some 7) (.bool false) (by kernel_rfl) (qt_pure (by kernel_rfl) fun _ => by kernel_rfl) ?_)
                  refine A.done ?_
                  refine A.norm [(0, (.pointer (some ⟨b2, 0, none⟩))), (2, (.pointer (some ⟨b14, 0, none⟩))), (3, (.int .i64 0)), (7, (.bool false))] [ringI encPkt 118 74 rb1 rs1 r t, blk b2 [(.pointer (some ⟨rb1, 0, none⟩)), (.int .i64 m), (.int .i64 u2), (.int .u64 ci2), (.int .u64 co2), (.int .u64 cd2), (.int .u64 bi2), (.int .u64 bo2), (.int .u64 bd2)] 112, sl Ai (q).length ci0 74 6 (V.flat encPkt q), sl Ao (ys).length cp 74 6 (V.flat encPkt ys), blk b14 [(.int .u64 0), (.int .i64 0), (.int .u16 0), (.int .u16 0), (.int .u16 0), (.int .u16 0)] 74] (by exact ⟨rfl, rfl, rfl, rfl, trivial⟩) rfl ?_
                  refine A.tn ?_
                  refine A.cond_f rfl ?_
                  refine A.skip ?_
                  refine A.tn ?_
                  refine A.seq ?_
                  refine A.region ?_
                  refine A.cons (A.q (some 10) (.pointer (some ⟨b2, 0, none⟩)) (by kernel_rfl) (qt_move rfl rfl) ?_)
                  refine A.cons (A.q (some 11) (.pointer (some ⟨b2, 0, none⟩)) (by kernel_rfl) (qt_pure (by kernel_rfl) fun _ => by kernel_rfl) ?_)
                  refine A.cons (A.q (some 12) (.pointer (some ⟨b2, 0, none⟩)) (by kernel_rfl) (qt_pure (by kernel_rfl) fun _ => by kernel_rfl) ?_)
                  refine A.cons (A.q (some 13) (.pointer (some ⟨rb1, 0, none⟩)) (by kernel_rfl) (qt_load1 rfl rfl (by kernel_rfl) (reads_blk (i := 1) rfl rfl)) ?_)
                  rcases t with _ | ⟨y15, q15⟩
                  · skip
                    refine A.cons (A.q (some 14) (.tuple #[(.agg #[(.int .u64 0), (.int .i64 0), (.int .u16 0), (.int .u16 0), (.int .u16 0), (.int .u16 0)]), (.int .i64 6)]) (by kernel_rfl) (qt_call [(.pointer (some ⟨rb1, 0, none⟩))] rfl (by kernel_rfl) rfl (fun w s => ringP_popNone rb1 rs1 r w (s.mem (i := 0) rfl))) ?_)
                    refine A.cons (A.q (some 9) (.tuple #[(.agg #[(.int .u64 0), (.int .i64 0), (.int .u16 0), (.int .u16 0), (.int .u16 0), (.int .u16 0)]), (.int .i64 6)]) (by kernel_rfl) (qt_move rfl rfl) ?_)
                    refine A.cons (A.q (some 15) (.agg #[(.int .u64 0), (.int .i64 0), (.int .u16 0), (.int .u16 0), (.int .u16 0), (.int .u16 0)]) (by kernel_rfl) (qt_pure (by kernel_rfl) fun _ => by kernel_rfl) ?_)
                    refine A.cons (A.q (some 16) (.int .i64 6) (by kernel_rfl) (qt_pure (by kernel_rfl) fun _ => by kernel_rfl) ?_)
                    refine A.cons (A.alloc 4 [(.int .u64 0), (.int .i64 0), (.int .u16 0), (.int .u16 0), (.int .u16 0), (.int .u16 0)] (by kernel_rfl) rfl (by kernel_rfl) (fun b16 => [ringI encPkt 118 74 rb1 rs1 r ([] : List Pkt), blk b2 [(.pointer (some ⟨rb1, 0, none⟩)), (.int .i64 m), (.int .i64 u2), (.int .u64 ci2), (.int .u64 co2), (.int .u64 cd2), (.int .u64 bi2), (.int .u64 bo2), (.int .u64 bd2)] 112, sl Ai (q).length ci0 74 6 (V.flat encPkt q), sl Ao (ys).length cp 74 6 (V.flat encPkt ys), blk b14 [(.int .u64 0), (.int .i64 0), (.int .u16 0), (.int .u16 0), (.int .u16 0), (.int .u16 0)] 74, blk b16 [(.int .u64 0), (.int .i64 0), (.int .u16 0), (.int .u16 0), (.int .u16 0), (.int .u16 0)] 74]) (fun _ => rfl) ?_)
                    intro b16
                    refine A.cons (A.store 5 (vs := [(.int .u64 0), (.int .i64 0), (.int .u16 0), (.int .u16 0), (.int .u16 0), (.int .u16 0)]) [ringI encPkt 118 74 rb1 rs1 r ([] : List Pkt), blk b2 [(.pointer (some ⟨rb1, 0, none⟩)), (.int .i64 m), (.int .i64 u2), (.int .u64 ci2), (.int .u64 co2), (.int .u64 cd2), (.int .u64 bi2), (.int .u64 bo2), (.int .u64 bd2)] 112, sl Ai (q).length ci0 74 6 (V.flat encPkt q), sl Ao (ys).length cp 74 6 (V.flat encPkt ys), blk b14 [(.int .u64 0), (.int .i64 0), (.int .u16 0), (.int .u16 0), (.int .u16 0), (.int .u16 0)] 74, blk b16 [(.int .u64 0), (.int .i64 0), (.int .u16 0), (.int .u16 0), (.int .u16 0), (.int .u16 0)] 74] (by kernel_rfl) rfl rfl rfl rfl (by kernel_rfl) rfl rfl (by kernel_rfl) rfl ?_)
                    refine A.cons (A.q (some 5) (.int .i64 6) (by kernel_rfl) (qt_assign rfl rfl) ?_)
                    refine A.done ?_
                    refine A.norm [(0, (.pointer (some ⟨b2, 0, none⟩))), (2, (.pointer (some ⟨b14, 0, none⟩))), (3, (.int .i64 0)), (7, (.bool false)), (4, (.pointer (some ⟨b16, 0, none⟩))), (5, (.int .i64 6))] [ringI encPkt 118 74 rb1 rs1 r ([] : List Pkt), blk b2 [(.pointer (some ⟨rb1, 0, none⟩)), (.int .i64 m), (.int .i64 u2), (.int .u64 ci2), (.int .u64 co2), (.int .u64 cd2), (.int .u64 bi2), (.int .u64 bo2), (.int .u64 bd2)] 112, sl Ai (q).length ci0 74 6 (V.flat encPkt q), sl Ao (ys).length cp 74 6 (V.flat encPkt ys), blk b14 [(.int .u64 0), (.int .i64 0), (.int .u16 0), (.int .u16 0), (.int .u16 0), (.int .u16 0)] 74, blk b16 [(.int .u64 0), (.int .i64 0), (.int .u16 0), (.int .u16 0), (.int .u16 0), (.int .u16 0)] 74] (by exact ⟨rfl, rfl, rfl, rfl, rfl, rfl, trivial⟩) rfl ?_
                    refine A.tn ?_
                    refine A.seq ?_
                    refine A.seq ?_
                    refine A.region ?_
                    refine A.cons (A.q (some 17) (.int .i64 6) (by kernel_rfl) (qt_move rfl rfl) ?_)
                    refine A.cons (A.q (some 18) (.bool true) (by kernel_rfl) (qt_pure (by kernel_rfl) fun _ => by kernel_rfl) ?_)
                    refine A.done ?_
                    refine A.norm [(0, (.pointer (some ⟨b2, 0, none⟩))), (2, (.pointer (some ⟨b14, 0, none⟩))), (3, (.int .i64 0)), (7, (.bool false)), (4, (.pointer (some ⟨b16, 0, none⟩))), (5, (.int .i64 6)), (18, (.bool true))] [ringI encPkt 118 74 rb1 rs1 r ([] : List Pkt), blk b2 [(.pointer (some ⟨rb1, 0, none⟩)), (.int .i64 m), (.int .i64 u2), (.int .u64 ci2), (.int .u64 co2), (.int .u64 cd2), (.int .u64 bi2), (.int .u64 bo2), (.int .u64 bd2)] 112, sl Ai (q).length ci0 74 6 (V.flat encPkt q), sl Ao (ys).length cp 74 6 (V.flat encPkt ys), blk b14 [(.int .u64 0), (.int .i64 0), (.int .u16 0), (.int .u16 0), (.int .u16 0), (.int .u16 0)] 74, blk b16 [(.int .u64 0), (.int .i64 0), (.int .u16 0), (.int .u16 0), (.int .u16 0), (.int .u16 0)] 74] (by exact ⟨rfl, rfl, rfl, rfl, rfl, rfl, rfl, trivial⟩) rfl ?_
                    refine A.tn ?_
                    refine A.cond_t rfl ?_
                    refine A.seq ?_
                    refine A.region ?_
                    refine A.cons (A.q (some 19) (.agg #[(.int .u64 0), (.int .i64 0), (.int .u16 0), (.int .u16 0), (.int .u16 0), (.int .u16 0)]) (by kernel_rfl) (qt_pure (by kernel_rfl) fun _ => by kernel_rfl) ?_)
                    refine A.cons (A.q (some 20) (.int .i64 6) (by kernel_rfl) (qt_move rfl rfl) ?_)
                    refine A.cons (A.store 4 (vs := [(.int .u64 0), (.int .i64 0), (.int .u16 0), (.int .u16 0), (.int .u16 0), (.int .u16 0)]) [ringI encPkt 118 74 rb1 rs1 r ([] : List Pkt), blk b2 [(.pointer (some ⟨rb1, 0, none⟩)), (.int .i64 m), (.int .i64 u2), (.int .u64 ci2), (.int .u64 co2), (.int .u64 cd2), (.int .u64 bi2), (.int .u64 bo2), (.int .u64 bd2)] 112, sl Ai (q).length ci0 74 6 (V.flat encPkt q), sl Ao (ys).length cp 74 6 (V.flat encPkt ys), blk b14 [(.int .u64 0), (.int .i64 0), (.int .u16 0), (.int .u16 0), (.int .u16 0), (.int .u16 0)] 74, blk b16 [(.int .u64 0), (.int .i64 0), (.int .u16 0), (.int .u16 0), (.int .u16 0), (.int .u16 0)] 74] (by kernel_rfl) rfl rfl rfl rfl (by kernel_rfl) rfl rfl (by kernel_rfl) rfl ?_)
                    refine A.cons (A.q (some 3) (.int .i64 6) (by kernel_rfl) (qt_assign rfl rfl) ?_)
                    refine A.done ?_
                    refine A.norm [(0, (.pointer (some ⟨b2, 0, none⟩))), (2, (.pointer (some ⟨b14, 0, none⟩))), (3, (.int .i64 6)), (7, (.bool false)), (4, (.pointer (some ⟨b16, 0, none⟩))), (5, (.int .i64 6)), (18, (.bool true))] [ringI encPkt 118 74 rb1 rs1 r ([] : List Pkt), blk b2 [(.pointer (some ⟨rb1, 0, none⟩)), (.int .i64 m), (.int .i64 u2), (.int .u64 ci2), (.int .u64 co2), (.int .u64 cd2), (.int .u64 bi2), (.int .u64 bo2), (.int .u64 bd2)] 112, sl Ai (q).length ci0 74 6 (V.flat encPkt q), sl Ao (ys).length cp 74 6 (V.flat encPkt ys), blk b14 [(.int .u64 0), (.int .i64 0), (.int .u16 0), (.int .u16 0), (.int .u16 0), (.int .u16 0)] 74, blk b16 [(.int .u64 0), (.int .i64 0), (.int .u16 0), (.int .u16 0), (.int .u16 0), (.int .u16 0)] 74] (by exact ⟨rfl, rfl, rfl, rfl, rfl, rfl, rfl, trivial⟩) rfl ?_
                    refine A.tn ?_
                    refine A.ret ?_
                    refine A.tr ?_
                    refine A.post [(.agg #[(.int .u64 0), (.int .i64 0), (.int .u16 0), (.int .u16 0), (.int .u16 0), (.int .u16 0)]), (.int .i64 6)] (fun a w r s => ⟨rv_cellN (vs := [(.int .u64 0), (.int .i64 0), (.int .u16 0), (.int .u16 0), (.int .u16 0), (.int .u16 0)]) r s rfl (by kernel_rfl) (reads_blk (i := 4) rfl rfl), rv_tmp r rfl, trivial⟩) (A.back (by kernel_rfl) ?_)
                    refine A.items [ringI encPkt 118 74 rb1 rs1 r ([] : List Pkt), blk b2 [(.pointer (some ⟨rb1, 0, none⟩)), (.int .i64 m), (.int .i64 u2), (.int .u64 ci2), (.int .u64 co2), (.int .u64 cd2), (.int .u64 bi2), (.int .u64 bo2), (.int .u64 bd2)] 112, sl Ai (q).length ci0 74 6 (V.flat encPkt q), sl Ao (ys).length cp 74 6 (V.flat encPkt ys)] (List.Sublist.cons_cons _ (List.Sublist.cons_cons _ (List.Sublist.cons_cons _ (List.Sublist.cons_cons _ (List.Sublist.cons _ (List.Sublist.cons _ (List.Sublist.slnil))))))) ?_
                    refine A.cons (A.q (some 74) (.tuple #[(.agg #[(.int .u64 0), (.int .i64 0), (.int .u16 0), (.int .u16 0), (.int .u16 0), (.int .u16 0)]), (.int .i64 6)]) (by kernel_rfl) (qt_move rfl rfl) ?_)
                    refine A.cons (A.q (some 77) (.agg #[(.int .u64 0), (.int .i64 0), (.int .u16 0), (.int .u16 0), (.int .u16 0), (.int .u16 0)]) (by kernel_rfl) (qt_pure (by kernel_rfl) fun _ => by kernel_rfl) ?_)
                    refine A.cons (A.q (some 78) (.int .i64 6) (by kernel_rfl) (qt_pure (by kernel_rfl) fun _ => by kernel_rfl) ?_)
                    refine A.cons (A.alloc 15 [(.int .u64 0), (.int .i64 0), (.int .u16 0), (.int .u16 0), (.int .u16 0), (.int .u16 0)] (by kernel_rfl) rfl (by kernel_rfl) (fun b17 => [ringI encPkt 118 74 rb1 rs1 r ([] : List Pkt), blk b2 [(.pointer (some ⟨rb1, 0, none⟩)), (.int .i64 m), (.int .i64 u2), (.int .u64 ci2), (.int .u64 co2), (.int .u64 cd2), (.int .u64 bi2), (.int .u64 bo2), (.int .u64 bd2)] 112, sl Ai (q).length ci0 74 6 (V.flat encPkt q), sl Ao (ys).length cp 74 6 (V.flat encPkt ys), blk b17 [(.int .u64 0), (.int .i64 0), (.int .u16 0), (.int .u16 0), (.int .u16 0), (.int .u16 0)] 74]) (fun _ => rfl) ?_)
                    intro b17
                    refine A.cons (A.store 4 (vs := [(.int .u64 0), (.int .i64 0), (.int .u16 0), (.int .u16 0), (.int .u16 0), (.int .u16 0)]) [ringI encPkt 118 74 rb1 rs1 r ([] : List Pkt), blk b2 [(.pointer (some ⟨rb1, 0, none⟩)), (.int .i64 m), (.int .i64 u2), (.int .u64 ci2), (.int .u64 co2), (.int .u64 cd2), (.int .u64 bi2), (.int .u64 bo2), (.int .u64 bd2)] 112, sl Ai (q).length ci0 74 6 (V.flat encPkt q), sl Ao (ys).length cp 74 6 (V.flat encPkt ys), blk b17 [(.int .u64 0), (.int .i64 0), (.int .u16 0), (.int .u16 0), (.int .u16 0), (.int .u16 0)] 74] (by kernel_rfl) rfl rfl rfl rfl (by kernel_rfl) rfl rfl (by kernel_rfl) rfl ?_)
                    refine A.cons (A.q (some 16) (.int .i64 6) (by kernel_rfl) (qt_assign rfl rfl) ?_)
                    refine A.done ?_
                    refine A.norm [(7, (.pointer (some ⟨b2, 0, none⟩))), (8, (.int .i64 0)), (9, (.slice Ai ((q).length) ci0)), (59, (.int .i64 ((q).length : Int))), (60, (.int .i64 (j : Int))), (10, (.slice Ao ((ys).length) cp)), (61, (.bool (decide ((j : Int) < ((q).length : Int))))), (16, (.int .i64 6))] [ringI encPkt 118 74 rb1 rs1 r ([] : List Pkt), blk b2 [(.pointer (some ⟨rb1, 0, none⟩)), (.int .i64 m), (.int .i64 u2), (.int .u64 ci2), (.int .u64 co2), (.int .u64 cd2), (.int .u64 bi2), (.int .u64 bo2), (.int .u64 bd2)] 112, sl Ai (q).length ci0 74 6 (V.flat encPkt q), sl Ao (ys).length cp 74 6 (V.flat encPkt ys), blk b17 [(.int .u64 0), (.int .i64 0), (.int .u16 0), (.int .u16 0), (.int .u16 0), (.int .u16 0)] 74] (by exact ⟨rfl, rfl, rfl, rfl, rfl, rfl, rfl, rfl, trivial⟩) rfl ?_
                    refine A.tn ?_
                    refine A.seq ?_
                    refine A.region ?_
                    refine A.cons (A.q (some 79) (.int .i64 0) (by kernel_rfl) (qt_move rfl rfl) ?_)
                    refine A.cons (A.q (some 80) (.bool true) (by kernel_rfl) (qt_pure (by kernel_rfl) fun _ => by kernel_rfl) ?_)
                    refine A.cons (A.q (some 81) (.bool true) (by kernel_rfl) (qt_move rfl rfl) ?_)
                    refine A.cons (A.q (some 82) (.int .i64 6) (by kernel_rfl) (qt_move rfl rfl) ?_)
                    refine A.cons (A.q (some 83) (.bool true) (by kernel_rfl) (qt_pure (by kernel_rfl) fun _ => by kernel_rfl) ?_)
                    refine A.cons (A.q (some 84) (.bool true) (by kernel_rfl) (qt_pure (by kernel_rfl) fun _ => by kernel_rfl) ?_)
                    refine A.cons (A.q (some 85) (.bool true) (by kernel_rfl) (qt_move rfl rfl) ?_)
                    refine A.cons (A.q (some 86) (.slice Ai ((q).length) ci0) (by kernel_rfl) (qt_move rfl rfl) ?_)
                    refine A.cons (A.q (some 87) (.slice Ao ((ys).length) cp) (by kernel_rfl) (qt_move rfl rfl) ?_)
                    refine A.cons (A.q (some 88) (.bool true) (by kernel_rfl) (qt_call [(.slice Ai ((q).length) ci0), (.slice Ao ((ys).length) cp)] rfl (by kernel_rfl) rfl (fun w s => same_spec2 Ai Ao ci0 cp q ys w (by omega) ((rd_sl (i := 2) rfl) w s) ((rd_sl (i := 3) rfl) w s) (by simpa using hj2))) ?_)
                    refine A.cons (A.q (some 89) (.bool true) (by kernel_rfl) (qt_pure (by kernel_rfl) fun _ => by kernel_rfl) ?_)
                    refine A.cons (A.q (some 90) (.bool true) (by kernel_rfl) (qt_move rfl rfl) ?_)
                    refine A.cons (A.q (some 91) (.pointer (some ⟨b2, 0, none⟩)) (by kernel_rfl) (qt_move rfl rfl) ?_)
                    refine A.cons (A.inl (some 92) [(.pointer (some ⟨b2, 0, none⟩))] [(0, (.pointer (some ⟨b2, 0, none⟩)))] (by kernel_rfl) rfl (by kernel_rfl) rfl Try.func46 rfl rfl rfl ?_)
                    refine A.seq ?_
                    refine A.region ?_
                    refine A.cons (A.q (some 2) (.int .i64 0) (by kernel_rfl) (qt_assign rfl rfl) ?_)
                    refine A.done ?_
                    refine A.norm [(0, (.pointer (some ⟨b2, 0, none⟩))), (2, (.int .i64 0))] [ringI encPkt 118 74 rb1 rs1 r ([] : List Pkt), blk b2 [(.pointer (some ⟨rb1, 0, none⟩)), (.int .i64 m), (.int .i64 u2), (.int .u64 ci2), (.int .u64 co2), (.int .u64 cd2), (.int .u64 bi2), (.int .u64 bo2), (.int .u64 bd2)] 112, sl Ai (q).length ci0 74 6 (V.flat encPkt q), sl Ao (ys).length cp 74 6 (V.flat encPkt ys), blk b17 [(.int .u64 0), (.int .i64 0), (.int .u16 0), (.int .u16 0), (.int .u16 0), (.int .u16 0)] 74] (by exact ⟨rfl, rfl, trivial⟩) rfl ?_
                    refine A.tn ?_
                    refine A.seq ?_
                    refine A.seq ?_
                    refine A.region ?_
                    refine A.cons (A.q (some 3) (.pointer (some ⟨b2, 0, none⟩)) (by kernel_rfl) (qt_move rfl rfl) ?_)
                    refine A.cons (A.q (some 4) (.bool false) (by kernel_rfl) (qt_pure (by kernel_rfl) fun _ => by kernel_rfl) ?_)
                    refine A.done ?_
                    refine A.norm [(0, (.pointer (some ⟨b2, 0, none⟩))), (2, (.int .i64 0)), (4, (.bool false))] [ringI encPkt 118 74 rb1 rs1 r ([] : List Pkt), blk b2 [(.pointer (some ⟨rb1, 0, none⟩)), (.int .i64 m), (.int .i64 u2), (.int .u64 ci2), (.int .u64 co2), (.int .u64 cd2), (.int .u64 bi2), (.int .u64 bo2), (.int .u64 bd2)] 112, sl Ai (q).length ci0 74 6 (V.flat encPkt q), sl Ao (ys).length cp 74 6 (V.flat encPkt ys), blk b17 [(.int .u64 0), (.int .i64 0), (.int .u16 0), (.int .u16 0), (.int .u16 0), (.int .u16 0)] 74] (by exact ⟨rfl, rfl, rfl, trivial⟩) rfl ?_
                    refine A.tn ?_
                    refine A.cond_f rfl ?_
                    refine A.skip ?_
                    refine A.tn ?_
                    refine A.seq ?_
                    refine A.region ?_
                    refine A.cons (A.q (some 5) (.pointer (some ⟨b2, 0, none⟩)) (by kernel_rfl) (qt_move rfl rfl) ?_)
                    refine A.cons (A.q (some 6) (.pointer (some ⟨b2, 0, none⟩)) (by kernel_rfl) (qt_pure (by kernel_rfl) fun _ => by kernel_rfl) ?_)
                    refine A.cons (A.q (some 7) (.pointer (some ⟨b2, 2, none⟩)) (by kernel_rfl) (qt_pure (by kernel_rfl) fun _ => by kernel_rfl) ?_)
                    refine A.cons (A.q (some 8) (.int .i64 u2) (by kernel_rfl) (qt_load1 rfl rfl (by kernel_rfl) (reads_blk (i := 1) rfl rfl)) ?_)
                    refine A.cons (A.q (some 2) (.int .i64 u2) (by kernel_rfl) (qt_assign rfl rfl) ?_)
                    refine A.done ?_
                    refine A.norm [(0, (.pointer (some ⟨b2, 0, none⟩))), (2, (.int .i64 u2)), (4, (.bool false))] [ringI encPkt 118 74 rb1 rs1 r ([] : List Pkt), blk b2 [(.pointer (some ⟨rb1, 0, none⟩)), (.int .i64 m), (.int .i64 u2), (.int .u64 ci2), (.int .u64 co2), (.int .u64 cd2), (.int .u64 bi2), (.int .u64 bo2), (.int .u64 bd2)] 112, sl Ai (q).length ci0 74 6 (V.flat encPkt q), sl Ao (ys).length cp 74 6 (V.flat encPkt ys), blk b17 [(.int .u64 0), (.int .i64 0), (.int .u16 0), (.int .u16 0), (.int .u16 0), (.int .u16 0)] 74] (by exact ⟨rfl, rfl, rfl, trivial⟩) rfl ?_
                    refine A.tn ?_
                    refine A.ret ?_
                    refine A.post [(.int .i64 u2)] (fun a w r s => ⟨rv_tmp r rfl, trivial⟩) (A.back (by kernel_rfl) ?_)
                    refine A.items [ringI encPkt 118 74 rb1 rs1 r ([] : List Pkt), blk b2 [(.pointer (some ⟨rb1, 0, none⟩)), (.int .i64 m), (.int .i64 u2), (.int .u64 ci2), (.int .u64 co2), (.int .u64 cd2), (.int .u64 bi2), (.int .u64 bo2), (.int .u64 bd2)] 112, sl Ai (q).length ci0 74 6 (V.flat encPkt q), sl Ao (ys).length cp 74 6 (V.flat encPkt ys)] (List.Sublist.cons_cons _ (List.Sublist.cons_cons _ (List.Sublist.cons_cons _ (List.Sublist.cons_cons _ (List.Sublist.cons _ (List.Sublist.slnil)))))) ?_
                    refine A.cons (A.q (some 93) (.bool (u2 == 0)) (by kernel_rfl) (qt_pure (by kernel_rfl) fun _ => by kernel_rfl) ?_)
                    refine A.cons (A.q (some 94) (.bool (u2 == 0)) (by kernel_rfl) (qt_pure (by kernel_rfl) fun _ => by kernel_rfl) ?_)
                    refine A.cons (A.q (some 95) (.bool (u2 == 0)) (by kernel_rfl) (qt_move rfl rfl) ?_)
                    refine A.bool (u2 == 0) (fun e14 => ?_) (fun e14 => ?_)
                    · skip
                      refine A.sub [(7, (.pointer (some ⟨b2, 0, none⟩))), (8, (.int .i64 0)), (9, (.slice Ai ((q).length) ci0)), (59, (.int .i64 ((q).length : Int))), (60, (.int .i64 (j : Int))), (10, (.slice Ao ((ys).length) cp)), (61, (.bool (decide ((j : Int) < ((q).length : Int))))), (16, (.int .i64 6)), (79, (.int .i64 0)), (80, (.bool true)), (81, (.bool true)), (82, (.int .i64 6)), (83, (.bool true)), (84, (.bool true)), (85, (.bool true)), (86, (.slice Ai ((q).length) ci0)), (87, (.slice Ao ((ys).length) cp)), (88, (.bool true)), (89, (.bool true)), (90, (.bool true)), (91, (.pointer (some ⟨b2, 0, none⟩))), (92, (.int .i64 u2)), (93, (.bool true)), (94, (.bool true)), (95, (.bool true))] (by exact ⟨rfl, rfl, rfl, rfl, rfl, rfl, rfl, rfl, rfl, rfl, rfl, rfl, rfl, rfl, rfl, rfl, rfl, rfl, rfl, rfl, rfl, rfl, (congrArg (fun z => some (Value.bool z)) e14), (congrArg (fun z => some (Value.bool z)) e14), (congrArg (fun z => some (Value.bool z)) e14), trivial⟩) ?_
                      refine A.cons (A.q (some 96) (.bool true) (by kernel_rfl) (qt_call [] rfl (by kernel_rfl) rfl (fun w _ => hundred_spec  w)) ?_)
                      refine A.cons (A.q (some 97) (.bool true) (by kernel_rfl) (qt_pure (by kernel_rfl) fun _ => by kernel_rfl) ?_)
                      refine A.cons (A.q (some 6) (.bool true) (by kernel_rfl) (qt_assign rfl rfl) ?_)
                      refine A.done ?_
                      refine A.norm [(7, (.pointer (some ⟨b2, 0, none⟩))), (8, (.int .i64 0)), (9, (.slice Ai ((q).length) ci0)), (59, (.int .i64 ((q).length : Int))), (60, (.int .i64 (j : Int))), (10, (.slice Ao ((ys).length) cp)), (61, (.bool (decide ((j : Int) < ((q).length : Int))))), (16, (.int .i64 6)), (6, (.bool true))] [ringI encPkt 118 74 rb1 rs1 r ([] : List Pkt), blk b2 [(.pointer (some ⟨rb1, 0, none⟩)), (.int .i64 m), (.int .i64 u2), (.int .u64 ci2), (.int .u64 co2), (.int .u64 cd2), (.int .u64 bi2), (.int .u64 bo2), (.int .u64 bd2)] 112, sl Ai (q).length ci0 74 6 (V.flat encPkt q), sl Ao (ys).length cp 74 6 (V.flat encPkt ys)] (by exact ⟨rfl, rfl, rfl, rfl, rfl, rfl, rfl, rfl, rfl, trivial⟩) rfl ?_
                      refine A.tn ?_
                      refine A.ret ?_
                      refine A.post [(.bool true)] (fun a w r s => ⟨rv_tmp r rfl, trivial⟩) (fun w1 s => ?_)
                      exact ⟨rfl, s.fr⟩
                    · exact absurd e14 (by simp [hu2, lens_nil] at e14)
                  · skip
                    simp at *; omega

theorem pktqOrder_walk (n m : Int) (A0 : Option Addr) (c0 : Nat) (l : List Pkt) (w : World) (hl : arrAt w A0 (V.flat encPkt l)) :
    Calls Try.prog 11 #[(.int .i64 n), (.int .i64 m), (.slice A0 (l.length) c0)] w fun e w' => e = .returned (.bool true) ∧ Fr [] w w' := by
  by_cases hb : 100 < l.length ∨ n < 1 ∨ 64 < n ∨ m < 1 ∨ 1048576 < m
  · exact pktqOrder_bad n m A0 c0 l w hb
  · have h : n = (n.toNat : Int) := by omega
    rw [h]; exact pktqOrder_ok n.toNat m A0 c0 l w (by omega) (by omega) (by omega) (by omega) (by omega) hl
end Go.Proofs.Ytkfmboicmdnjpaa
