/- What the functions of the sort of numbers do, proved operation by operation, for all arguments, under the conditions that each theorem states. -/
import Derived.Sort.LotA
import Derived.Sort.LotB
import Derived.Sort.LotC
import Derived.Sort.LotD1
import Derived.Sort.LotD3
import Derived.Sort.LotD4
import Derived.Test.YtinnnoimmioaiaaProg
import Derived.Test.YtinnnoimmioaiaaSort1
import Derived.Test.YtinnnoimmioaiaaL2
namespace Go.Proofs.Ytinnnoimmioaiaa
open Go V Go.Sort
set_option linter.unusedVariables false
set_option linter.unusedSimpArgs false
set_option maxHeartbeats 4000000
set_option maxRecDepth 100000
theorem sift_stop {d : Array Int} {hi F r : Nat} (h : hi ≤ 2 * r + 1) : siftDown ltInt hi F r d = d := by rw [siftDown, dif_pos (by omega)]
theorem sift_rt {d : Array Int} {hi F r c p q q2 s : Nat} {x y y2 z : Int} (hc : c = 2 * r + 2) (h : c < hi) (h1 : d.toList[p]? = some x) (hp : p = F + (2 * r + 1)) (h2 : d.toList[q]? = some y) (hq : q = F + (2 * r + 1) + 1) (hlt : x < y)
    (h3 : d.toList[s]? = some z) (hs : s = F + r) (h4 : d.toList[q2]? = some y2) (hq2 : q2 = F + c) (hlt2 : z < y2) : siftDown ltInt hi F r d = siftDown ltInt hi F c (swp d s q2) := by
  have e : q2 = q := by omega
  have ey : y2 = y := by rw [e, h2] at h4; cases h4; rfl
  subst hp; subst hc
  rw [siftDown, dif_neg (by omega), if_pos (by rw [getE h1]; rw [← hq, getE h2]; simp [ltInt]; omega), if_neg (by rw [← hs, getE h3, ← hq2, getE h4]; simp [ltInt]; omega), dif_pos (by omega), hs, hq2]
theorem sift_rf {d : Array Int} {hi F r c p q q2 s : Nat} {x y y2 z : Int} (hc : c = 2 * r + 2) (h : c < hi) (h1 : d.toList[p]? = some x) (hp : p = F + (2 * r + 1)) (h2 : d.toList[q]? = some y) (hq : q = F + (2 * r + 1) + 1) (hlt : x < y)
    (h3 : d.toList[s]? = some z) (hs : s = F + r) (h4 : d.toList[q2]? = some y2) (hq2 : q2 = F + c) (hlt2 : ¬ z < y2) : siftDown ltInt hi F r d = d := by
  have e : q2 = q := by omega
  have ey : y2 = y := by rw [e, h2] at h4; cases h4; rfl
  subst hp; subst hc
  rw [siftDown, dif_neg (by omega), if_pos (by rw [getE h1]; rw [← hq, getE h2]; simp [ltInt]; omega), if_pos (by rw [← hs, getE h3, ← hq2, getE h4]; simp [ltInt]; omega)]
theorem sift_lt {d : Array Int} {hi F r c q2 s : Nat} {y2 z : Int} (hc : c = 2 * r + 1) (h : c < hi) (hn : ¬ (c + 1 < hi) ∨ ∃ p q x y, d.toList[p]? = some x ∧ p = F + (2 * r + 1) ∧ d.toList[q]? = some y ∧ q = F + (2 * r + 1) + 1 ∧ ¬ x < y)
    (h3 : d.toList[s]? = some z) (hs : s = F + r) (h4 : d.toList[q2]? = some y2) (hq2 : q2 = F + c) (hlt2 : z < y2) : siftDown ltInt hi F r d = siftDown ltInt hi F c (swp d s q2) := by
  subst hc
  have hk : (decide (2 * r + 1 + 1 < hi) && ltInt d[F + (2 * r + 1)]! d[F + (2 * r + 1) + 1]!) = false := by
    rcases hn with g | ⟨p, q, x, y, g1, rfl, g2, g3, g4⟩
    · simp [g]
    · rw [getE g1, ← g3, getE g2]; simp [ltInt]; intro _; omega
  rw [siftDown, dif_neg (by omega), if_neg (by rw [hk]; decide), if_neg (by rw [← hs, getE h3, ← hq2, getE h4]; simp [ltInt]; omega), hs, hq2]
theorem sift_lf {d : Array Int} {hi F r c q2 s : Nat} {y2 z : Int} (hc : c = 2 * r + 1) (h : c < hi) (hn : ¬ (c + 1 < hi) ∨ ∃ p q x y, d.toList[p]? = some x ∧ p = F + (2 * r + 1) ∧ d.toList[q]? = some y ∧ q = F + (2 * r + 1) + 1 ∧ ¬ x < y)
    (h3 : d.toList[s]? = some z) (hs : s = F + r) (h4 : d.toList[q2]? = some y2) (hq2 : q2 = F + c) (hlt2 : ¬ z < y2) : siftDown ltInt hi F r d = d := by
  subst hc
  have hk : (decide (2 * r + 1 + 1 < hi) && ltInt d[F + (2 * r + 1)]! d[F + (2 * r + 1) + 1]!) = false := by
    rcases hn with g | ⟨p, q, x, y, g1, rfl, g2, g3, g4⟩
    · simp [g]
    · rw [getE g1, ← g3, getE g2]; simp [ltInt]; intro _; omega
  rw [siftDown, dif_neg (by omega), if_neg (by rw [hk]; decide), if_pos (by rw [← hs, getE h3, ← hq2, getE h4]; simp [ltInt]; omega)]
theorem hb_step {d : Array Int} {hi F k : Nat} (h : 1 ≤ k) : heapBuild ltInt hi F k d = heapBuild ltInt hi F (k - 1) (siftDown ltInt hi F (k - 1) d) := by
  obtain ⟨j, rfl⟩ : ∃ j, k = j + 1 := ⟨k - 1, by omega⟩
  rfl
theorem hp_step {d : Array Int} {F k : Nat} (h : 1 ≤ k) : heapPop ltInt F k d = heapPop ltInt F (k - 1) (siftDown ltInt (k - 1) F 0 (swp d F (F + (k - 1)))) := by
  obtain ⟨j, rfl⟩ : ∃ j, k = j + 1 := ⟨k - 1, by omega⟩
  rfl

theorem piv_spec (al : Option Addr) (d : Array Int) (cl : Nat) (a b : Nat) (hb : a < b ∧ b ≤ d.size) (hS : d.size ≤ 100000) (w : World) (hs : HS w (feet [sU al d.toList cl]) [sU al d.toList cl] w) :
    Calls Try.prog 152 #[vS al d.toList cl, c_ a, c_ b] w fun e w' => ∃ zz, e = .returned ((fun (zz : Unit) => (.tuple #[i_ ((rawPivot ltInt d a b).1 : Int), i_ (hintCode (hintOf (rawPivot ltInt d a b).2))])) zz) ∧ (fun (zz : Unit) => True) zz ∧ Turn [sU al d.toList cl] ((fun (zz : Unit) => [sU al d.toList cl]) zz) w w' := by
  refine calls_of (args := [vS al d.toList cl, c_ a, c_ b]) (penv [vS al d.toList cl, c_ a, c_ b]) (feet [sU al d.toList cl]) [sU al d.toList cl] Try.func152 rfl rfl (look_penv _) hs ?_
  refine A.sr (A.g [.p, .p] [] [] ?_)
  refine tsr (A.gk [.p, .p, .w ((b - a : Nat) : Int), .p] [2] [(8, c_ (b - a : Nat))] [] (fun κ => (IntKind.i64.wrap ((b : Int) - (a : Int)) = ((b - a : Nat) : Int)) ∧ True) ⟨((wrap_i64 (e := (b : Int) - (a : Int)) (by (constructor <;> omega))).trans (by omega : ((b : Int) - (a : Int) : Int) = ((b - a : Nat) : Int))), trivial⟩ ?_)
  refine tsr (A.n1 [.al] [] (fun b1 => [(9, p_ b1)]) (fun b1 => blk b1 [i_ 0] 3) ?_)
  intro b1
  refine tsr (A.gk [.p, .p, .w (((b - a) / 4 : Nat) : Int), .w ((((b - a) / 4) * 1 : Nat) : Int), .w ((a + (((b - a) / 4) * 1) : Nat) : Int), .p] [] [(10, c_ (a + (((b - a) / 4) * 1) : Nat))] [] (fun κ => (IntKind.i64.wrap (((b - a : Nat) : Int).tdiv 4) = (((b - a) / 4 : Nat) : Int)) ∧ (IntKind.i64.wrap ((((b - a) / 4 : Nat) : Int) * 1) = ((((b - a) / 4) * 1 : Nat) : Int)) ∧ (IntKind.i64.wrap ((a : Int) + ((((b - a) / 4) * 1 : Nat) : Int)) = ((a + (((b - a) / 4) * 1) : Nat) : Int)) ∧ True) ⟨((wrap_i64 (e := ((b - a : Nat) : Int).tdiv 4) (by (rw [tdivN4]; constructor <;> omega))).trans (by rfl : (((b - a : Nat) : Int).tdiv 4 : Int) = (((b - a) / 4 : Nat) : Int))), (wrap_i64 (e := (((b - a) / 4 : Nat) : Int) * 1) (by (constructor <;> omega))).trans (by rfl : ((((b - a) / 4 : Nat) : Int) * 1 : Int) = ((((b - a) / 4) * 1 : Nat) : Int)), (wrap_i64 (e := (a : Int) + ((((b - a) / 4) * 1 : Nat) : Int)) (by (constructor <;> omega))).trans (by rfl : ((a : Int) + ((((b - a) / 4) * 1 : Nat) : Int) : Int) = ((a + (((b - a) / 4) * 1) : Nat) : Int)), trivial⟩ ?_)
  refine tsr (A.gk [.p, .p, .w (((b - a) / 4 : Nat) : Int), .w ((((b - a) / 4) * 2 : Nat) : Int), .w ((a + (((b - a) / 4) * 2) : Nat) : Int), .p] [] [(11, c_ (a + (((b - a) / 4) * 2) : Nat))] [] (fun κ => (IntKind.i64.wrap (((b - a : Nat) : Int).tdiv 4) = (((b - a) / 4 : Nat) : Int)) ∧ (IntKind.i64.wrap ((((b - a) / 4 : Nat) : Int) * 2) = ((((b - a) / 4) * 2 : Nat) : Int)) ∧ (IntKind.i64.wrap ((a : Int) + ((((b - a) / 4) * 2 : Nat) : Int)) = ((a + (((b - a) / 4) * 2) : Nat) : Int)) ∧ True) ⟨((wrap_i64 (e := ((b - a : Nat) : Int).tdiv 4) (by (rw [tdivN4]; constructor <;> omega))).trans (by rfl : (((b - a : Nat) : Int).tdiv 4 : Int) = (((b - a) / 4 : Nat) : Int))), (wrap_i64 (e := (((b - a) / 4 : Nat) : Int) * 2) (by (constructor <;> omega))).trans (by rfl : ((((b - a) / 4 : Nat) : Int) * 2 : Int) = ((((b - a) / 4) * 2 : Nat) : Int)), (wrap_i64 (e := (a : Int) + ((((b - a) / 4) * 2 : Nat) : Int)) (by (constructor <;> omega))).trans (by rfl : ((a : Int) + ((((b - a) / 4) * 2 : Nat) : Int) : Int) = ((a + (((b - a) / 4) * 2) : Nat) : Int)), trivial⟩ ?_)
  refine tsr (A.gk [.p, .p, .w (((b - a) / 4 : Nat) : Int), .w ((((b - a) / 4) * 3 : Nat) : Int), .w ((a + (((b - a) / 4) * 3) : Nat) : Int), .p] [1] [(12, c_ (a + (((b - a) / 4) * 3) : Nat))] [] (fun κ => (IntKind.i64.wrap (((b - a : Nat) : Int).tdiv 4) = (((b - a) / 4 : Nat) : Int)) ∧ (IntKind.i64.wrap ((((b - a) / 4 : Nat) : Int) * 3) = ((((b - a) / 4) * 3 : Nat) : Int)) ∧ (IntKind.i64.wrap ((a : Int) + ((((b - a) / 4) * 3 : Nat) : Int)) = ((a + (((b - a) / 4) * 3) : Nat) : Int)) ∧ True) ⟨((wrap_i64 (e := ((b - a : Nat) : Int).tdiv 4) (by (rw [tdivN4]; constructor <;> omega))).trans (by rfl : (((b - a : Nat) : Int).tdiv 4 : Int) = (((b - a) / 4 : Nat) : Int))), (wrap_i64 (e := (((b - a) / 4 : Nat) : Int) * 3) (by (constructor <;> omega))).trans (by rfl : ((((b - a) / 4 : Nat) : Int) * 3 : Int) = ((((b - a) / 4) * 3 : Nat) : Int)), (wrap_i64 (e := (a : Int) + ((((b - a) / 4) * 3 : Nat) : Int)) (by (constructor <;> omega))).trans (by rfl : ((a : Int) + ((((b - a) / 4) * 3 : Nat) : Int) : Int) = ((a + (((b - a) / 4) * 3) : Nat) : Int)), trivial⟩ ?_)
  refine A.tn (A.seq (A.sr (A.g [.p, .p] [] [(32, b_ (decide (((b - a : Nat) : Int) ≥ 8)))] ?_)))
  refine A.tn (A.cn (decide (((b - a : Nat) : Int) ≥ 8)) (fun e1 => ?_) (fun e1 => ?_))
  · have p1 := of_decide_eq_true e1
    refine A.seq (A.sr (A.g [.p, .p] [8, 32] [(34, b_ (decide (((b - a : Nat) : Int) ≥ 50)))] ?_))
    refine A.tn (A.cn (decide (((b - a : Nat) : Int) ≥ 50)) (fun e2 => ?_) (fun e2 => ?_))
    · have p2 := of_decide_eq_true e2
      refine A.sr (A.gp [.p, .p] [34] [(35, vS al d.toList cl), (36, c_ (a + (((b - a) / 4) * 1) : Nat))] ?_)
      refine A.cons (A.cT (some 37) [vS al d.toList cl, c_ (a + (((b - a) / 4) * 1) : Nat), p_ b1] [0, 0] ((fun zz => match zz with | (m'2, t'3) => (c_ m'2))) ((fun zz => match zz with | (m'2, t'3) => medianAdjacent ltInt d (a + (((b - a) / 4) * 1) : Nat) 0 = (m'2, t'3))) ((fun zz => match zz with | (m'2, t'3) => [sU al d.toList cl, blk b1 [c_ t'3] 3])) (fun ww ss hh => medA_spec al d cl (a + (((b - a) / 4) * 1) : Nat) b1 0 (by omega) (by assumption) (by omega) ww hh) ?_)
      rintro ⟨m'2, t'3⟩ hz3
      have hz3m := medianAdjacent_mem ltInt d (a + (((b - a) / 4) * 1) : Nat) 0; rw [hz3] at hz3m; simp only [] at hz3m; have hz3c := medianAdjacent_count (lt := ltInt) d (a + (((b - a) / 4) * 1) : Nat) 0; rw [hz3] at hz3c; simp only [] at hz3c
      refine A.g [.p] [35, 36, 37] [(10, c_ m'2)] ?_
      refine tsr (A.gp [.p, .p] [] [(38, vS al d.toList cl), (39, c_ (a + (((b - a) / 4) * 2) : Nat))] ?_)
      refine A.cons (A.cT (some 40) [vS al d.toList cl, c_ (a + (((b - a) / 4) * 2) : Nat), p_ b1] [0, 0] ((fun zz => match zz with | (m'4, t'5) => (c_ m'4))) ((fun zz => match zz with | (m'4, t'5) => medianAdjacent ltInt d (a + (((b - a) / 4) * 2) : Nat) t'3 = (m'4, t'5))) ((fun zz => match zz with | (m'4, t'5) => [sU al d.toList cl, blk b1 [c_ t'5] 3])) (fun ww ss hh => medA_spec al d cl (a + (((b - a) / 4) * 2) : Nat) b1 t'3 (by omega) (by assumption) (by omega) ww hh) ?_)
      rintro ⟨m'4, t'5⟩ hz4
      have hz4m := medianAdjacent_mem ltInt d (a + (((b - a) / 4) * 2) : Nat) t'3; rw [hz4] at hz4m; simp only [] at hz4m; have hz4c := medianAdjacent_count (lt := ltInt) d (a + (((b - a) / 4) * 2) : Nat) t'3; rw [hz4] at hz4c; simp only [] at hz4c
      refine A.g [.p] [38, 39, 40] [(11, c_ m'4)] ?_
      refine tr (A.gp [.p, .p] [] [(41, vS al d.toList cl), (42, c_ (a + (((b - a) / 4) * 3) : Nat))] ?_)
      refine A.cons (A.cT (some 43) [vS al d.toList cl, c_ (a + (((b - a) / 4) * 3) : Nat), p_ b1] [0, 0] ((fun zz => match zz with | (m'6, t'7) => (c_ m'6))) ((fun zz => match zz with | (m'6, t'7) => medianAdjacent ltInt d (a + (((b - a) / 4) * 3) : Nat) t'5 = (m'6, t'7))) ((fun zz => match zz with | (m'6, t'7) => [sU al d.toList cl, blk b1 [c_ t'7] 3])) (fun ww ss hh => medA_spec al d cl (a + (((b - a) / 4) * 3) : Nat) b1 t'5 (by omega) (by assumption) (by omega) ww hh) ?_)
      rintro ⟨m'6, t'7⟩ hz5
      have hz5m := medianAdjacent_mem ltInt d (a + (((b - a) / 4) * 3) : Nat) t'5; rw [hz5] at hz5m; simp only [] at hz5m; have hz5c := medianAdjacent_count (lt := ltInt) d (a + (((b - a) / 4) * 3) : Nat) t'5; rw [hz5] at hz5c; simp only [] at hz5c
      refine A.g [.p] [41, 42, 43] [(12, c_ m'6)] ?_
      refine tr (A.goP [.p, .p, .p, .p] [(9, p_ b1), (11, c_ m'4), (44, vS al d.toList cl), (45, c_ m'2), (46, c_ m'4), (47, c_ m'6)] [] T0 (by kernel_rfl) trivial ?_)
      refine A.cons (A.cT (some 48) [vS al d.toList cl, c_ m'2, c_ m'4, c_ m'6, p_ b1] [0, 0] ((fun zz => match zz with | (m'8, t'9) => (c_ m'8))) ((fun zz => match zz with | (m'8, t'9) => median ltInt d m'2 m'4 m'6 t'7 = (m'8, t'9))) ((fun zz => match zz with | (m'8, t'9) => [sU al d.toList cl, blk b1 [c_ t'9] 3])) (fun ww ss hh => med_spec al d cl m'2 m'4 m'6 b1 t'7 (by omega) (by omega) (by omega) (by assumption) (by omega) ww hh) ?_)
      rintro ⟨m'8, t'9⟩ hz6
      have hz6m := median_mem ltInt d m'2 m'4 m'6 t'7; rw [hz6] at hz6m; simp only [] at hz6m; have hz6c := median_count (lt := ltInt) d m'2 m'4 m'6 t'7; rw [hz6] at hz6c; simp only [] at hz6c
      refine A.g [.p] [44, 45, 46, 47, 48] [(11, c_ m'8)] ?_
      refine tsr (A.gk [.ld 1] [9] [(49, c_ t'9)] [b1] T0 trivial ?_)
      refine A.tn (A.block (A.sr (A.g [.p, .p] [] [(51, b_ ((t'9 : Int) == 0))] ?_)))
      refine A.tn (A.cn ((t'9 : Int) == 0) (fun e7 => ?_) (fun e7 => ?_))
      · have p7 := e7; try simp only [nrm] at p7
        refine A.sr (A.g [.p, .p, .p] [11, 49, 51] [(6, c_ m'8), (7, i_ 1)] ?_)
        refine A.tn (A.ret (A.br (A.pK [0] [c_ m'8, i_ 1] () ?_ ?_)))
        · show ((.tuple #[c_ m'8, i_ 1]) : Value) = (.tuple #[i_ ((rawPivot ltInt d a b).1 : Int), i_ (hintCode (hintOf (rawPivot ltInt d a b).2))])
          have hr_ : rawPivot ltInt d a b = (m'8, t'9) := (by unfold rawPivot; (rw [if_pos (by omega), if_pos (by omega)]; simp only [*]; done)); rw [hr_]; have hh_ : hintCode (hintOf t'9) = 1 := (by unfold hintOf; rw [if_pos (by omega)]; rfl); simp only []; rw [hh_]
        trivial
      have p7 := e7; try simp only [nrm] at p7
      refine A.sr (A.g [.p, .p] [49, 51] [(54, b_ ((t'9 : Int) == 12))] ?_)
      refine A.tn (A.cn ((t'9 : Int) == 12) (fun e8 => ?_) (fun e8 => ?_))
      · have p8 := e8; try simp only [nrm] at p8
        refine A.sr (A.g [.p, .p, .p] [11, 54] [(6, c_ m'8), (7, i_ 2)] ?_)
        refine A.tn (A.ret (A.br (A.pK [0] [c_ m'8, i_ 2] () ?_ ?_)))
        · show ((.tuple #[c_ m'8, i_ 2]) : Value) = (.tuple #[i_ ((rawPivot ltInt d a b).1 : Int), i_ (hintCode (hintOf (rawPivot ltInt d a b).2))])
          have hr_ : rawPivot ltInt d a b = (m'8, t'9) := (by unfold rawPivot; (rw [if_pos (by omega), if_pos (by omega)]; simp only [*]; done)); rw [hr_]; have hh_ : hintCode (hintOf t'9) = 2 := (by unfold hintOf; rw [if_neg (by omega), if_pos (by omega)]; rfl); simp only []; rw [hh_]
        trivial
      have p8 := e8; try simp only [nrm] at p8
      refine A.sr (A.g [.p, .p, .p] [11, 54] [(6, c_ m'8), (7, i_ 0)] ?_)
      refine A.tn (A.ret (A.br (A.pK [0] [c_ m'8, i_ 0] () ?_ ?_)))
      · show ((.tuple #[c_ m'8, i_ 0]) : Value) = (.tuple #[i_ ((rawPivot ltInt d a b).1 : Int), i_ (hintCode (hintOf (rawPivot ltInt d a b).2))])
        have hr_ : rawPivot ltInt d a b = (m'8, t'9) := (by unfold rawPivot; (rw [if_pos (by omega), if_pos (by omega)]; simp only [*]; done)); rw [hr_]; have hh_ : hintCode (hintOf t'9) = 0 := (by unfold hintOf; rw [if_neg (by omega), if_neg (by omega)]; rfl); simp only []; rw [hh_]
      trivial
    have p2 := of_decide_eq_false e2
    refine A.skip (tr (A.gp [.p, .p, .p, .p] [0, 10, 12, 34] [(44, vS al d.toList cl), (45, c_ (a + (((b - a) / 4) * 1) : Nat)), (46, c_ (a + (((b - a) / 4) * 2) : Nat)), (47, c_ (a + (((b - a) / 4) * 3) : Nat))] ?_))
    refine A.cons (A.cT (some 48) [vS al d.toList cl, c_ (a + (((b - a) / 4) * 1) : Nat), c_ (a + (((b - a) / 4) * 2) : Nat), c_ (a + (((b - a) / 4) * 3) : Nat), p_ b1] [0, 0] ((fun zz => match zz with | (m'10, t'11) => (c_ m'10))) ((fun zz => match zz with | (m'10, t'11) => median ltInt d (a + (((b - a) / 4) * 1) : Nat) (a + (((b - a) / 4) * 2) : Nat) (a + (((b - a) / 4) * 3) : Nat) 0 = (m'10, t'11))) ((fun zz => match zz with | (m'10, t'11) => [sU al d.toList cl, blk b1 [c_ t'11] 3])) (fun ww ss hh => med_spec al d cl (a + (((b - a) / 4) * 1) : Nat) (a + (((b - a) / 4) * 2) : Nat) (a + (((b - a) / 4) * 3) : Nat) b1 0 (by omega) (by omega) (by omega) (by assumption) (by omega) ww hh) ?_)
    rintro ⟨m'10, t'11⟩ hz9
    have hz9m := median_mem ltInt d (a + (((b - a) / 4) * 1) : Nat) (a + (((b - a) / 4) * 2) : Nat) (a + (((b - a) / 4) * 3) : Nat) 0; rw [hz9] at hz9m; simp only [] at hz9m; have hz9c := median_count (lt := ltInt) d (a + (((b - a) / 4) * 1) : Nat) (a + (((b - a) / 4) * 2) : Nat) (a + (((b - a) / 4) * 3) : Nat) 0; rw [hz9] at hz9c; simp only [] at hz9c
    refine A.g [.p] [44, 45, 46, 47, 48] [(11, c_ m'10)] ?_
    refine tsr (A.gk [.ld 1] [9] [(49, c_ t'11)] [b1] T0 trivial ?_)
    refine A.tn (A.block (A.sr (A.g [.p, .p] [] [(51, b_ ((t'11 : Int) == 0))] ?_)))
    refine A.tn (A.cn ((t'11 : Int) == 0) (fun e10 => ?_) (fun e10 => ?_))
    · have p10 := e10; try simp only [nrm] at p10
      refine A.sr (A.g [.p, .p, .p] [11, 49, 51] [(6, c_ m'10), (7, i_ 1)] ?_)
      refine A.tn (A.ret (A.br (A.pK [0] [c_ m'10, i_ 1] () ?_ ?_)))
      · show ((.tuple #[c_ m'10, i_ 1]) : Value) = (.tuple #[i_ ((rawPivot ltInt d a b).1 : Int), i_ (hintCode (hintOf (rawPivot ltInt d a b).2))])
        have hr_ : rawPivot ltInt d a b = (m'10, t'11) := (by unfold rawPivot; (rw [if_pos (by omega), if_neg (by omega)]; simp only [*]; done)); rw [hr_]; have hh_ : hintCode (hintOf t'11) = 1 := (by unfold hintOf; rw [if_pos (by omega)]; rfl); simp only []; rw [hh_]
      trivial
    have p10 := e10; try simp only [nrm] at p10
    refine A.sr (A.g [.p, .p] [49, 51] [(54, b_ ((t'11 : Int) == 12))] ?_)
    refine A.tn (A.cn ((t'11 : Int) == 12) (fun e11 => ?_) (fun e11 => ?_))
    · have p11 := e11; try simp only [nrm] at p11
      refine A.sr (A.g [.p, .p, .p] [11, 54] [(6, c_ m'10), (7, i_ 2)] ?_)
      refine A.tn (A.ret (A.br (A.pK [0] [c_ m'10, i_ 2] () ?_ ?_)))
      · show ((.tuple #[c_ m'10, i_ 2]) : Value) = (.tuple #[i_ ((rawPivot ltInt d a b).1 : Int), i_ (hintCode (hintOf (rawPivot ltInt d a b).2))])
        have hr_ : rawPivot ltInt d a b = (m'10, t'11) := (by unfold rawPivot; (rw [if_pos (by omega), if_neg (by omega)]; simp only [*]; done)); rw [hr_]; have hh_ : hintCode (hintOf t'11) = 2 := (by unfold hintOf; rw [if_neg (by omega), if_pos (by omega)]; rfl); simp only []; rw [hh_]
      trivial
    have p11 := e11; try simp only [nrm] at p11
    refine A.sr (A.g [.p, .p, .p] [11, 54] [(6, c_ m'10), (7, i_ 0)] ?_)
    refine A.tn (A.ret (A.br (A.pK [0] [c_ m'10, i_ 0] () ?_ ?_)))
    · show ((.tuple #[c_ m'10, i_ 0]) : Value) = (.tuple #[i_ ((rawPivot ltInt d a b).1 : Int), i_ (hintCode (hintOf (rawPivot ltInt d a b).2))])
      have hr_ : rawPivot ltInt d a b = (m'10, t'11) := (by unfold rawPivot; (rw [if_pos (by omega), if_neg (by omega)]; simp only [*]; done)); rw [hr_]; have hh_ : hintCode (hintOf t'11) = 0 := (by unfold hintOf; rw [if_neg (by omega), if_neg (by omega)]; rfl); simp only []; rw [hh_]
    trivial
  have p1 := of_decide_eq_false e1
  refine A.skip (tsr (A.gk [.ld 1] [0, 8, 9, 10, 12, 32] [(49, i_ 0)] [b1] T0 trivial ?_))
  refine A.tn (A.block (A.sr (A.g [.p, .p] [] [(51, b_ true)] ?_)))
  refine A.tn (A.ct (A.sr (A.g [.p, .p, .p] [11, 49, 51] [(6, c_ (a + (((b - a) / 4) * 2) : Nat)), (7, i_ 1)] ?_)))
  refine A.tn (A.ret (A.br (A.pK [0] [c_ (a + (((b - a) / 4) * 2) : Nat), i_ 1] () ?_ ?_)))
  · show ((.tuple #[c_ (a + (((b - a) / 4) * 2) : Nat), i_ 1]) : Value) = (.tuple #[i_ ((rawPivot ltInt d a b).1 : Int), i_ (hintCode (hintOf (rawPivot ltInt d a b).2))])
    have hr_ : rawPivot ltInt d a b = ((a + (((b - a) / 4) * 2)), 0) := (by unfold rawPivot; (rw [if_neg (by omega)]; done)); rw [hr_]; have hh_ : hintCode (hintOf 0) = 1 := (by unfold hintOf; rw [if_pos (by omega)]; rfl); simp only []; rw [hh_]
  trivial

theorem sift_spec (al : Option Addr) (d : Array Int) (cl : Nat) (lo hi F : Nat) (hb : F + hi ≤ d.size) (hS : d.size ≤ 100000 ∧ lo ≤ 100000) (w : World) (hs : HS w (feet [sU al d.toList cl]) [sU al d.toList cl] w) :
    Calls Try.prog 165 #[vS al d.toList cl, c_ lo, c_ hi, c_ F] w fun e w' => ∃ zz, e = .returned ((fun (d' : (Array Int)) => (.tuple #[])) zz) ∧ (fun (d' : (Array Int)) => d' = siftDown ltInt hi F lo d ∧ d'.size = d.size) zz ∧ Turn [sU al d.toList cl] ((fun (d' : (Array Int)) => [sU al d'.toList cl]) zz) w w' := by
  refine calls_of (args := [vS al d.toList cl, c_ lo, c_ hi, c_ F]) (penv [vS al d.toList cl, c_ lo, c_ hi, c_ F]) (feet [sU al d.toList cl]) [sU al d.toList cl] Try.func165 rfl rfl (look_penv _) hs ?_
  refine A.sr (A.g [.p, .p] [1] [(8, c_ lo)] ?_)
  refine A.tn (A.block (A.loop (fun (zz : Nat × (Array Int)) => match zz with | (r, d2) => [(2, c_ hi), (3, c_ F), (8, c_ r), (0, vS al d2.toList cl)]) (fun (zz : Nat × (Array Int)) => match zz with | (r, d2) => [sU al d2.toList cl]) (fun (zz : Nat × (Array Int)) => match zz with | (r, d2) => (siftDown ltInt hi F r d2 = siftDown ltInt hi F lo d) ∧ (d2.size = d.size) ∧ (r ≤ 100000)) (fun (zz : Nat × (Array Int)) => match zz with | (r, d2) => hi - r) (lo, d) ⟨(by rfl), (by rfl), (by omega)⟩ ?_ ?_))
  · exact A.hK [0]
  rintro ⟨r, d2⟩ ⟨he, hz, hr⟩
  refine A.block (A.sr (A.gk [.p, .w ((2 * r : Nat) : Int), .w (((2 * r) + 1 : Nat) : Int), .p] [] [(9, c_ ((2 * r) + 1 : Nat))] [] (fun κ => (IntKind.i64.wrap (2 * (r : Int)) = ((2 * r : Nat) : Int)) ∧ (IntKind.i64.wrap (((2 * r : Nat) : Int) + 1) = (((2 * r) + 1 : Nat) : Int)) ∧ True) ⟨((wrap_i64 (e := 2 * (r : Int)) (by (constructor <;> omega))).trans (by rfl : (2 * (r : Int) : Int) = ((2 * r : Nat) : Int))), (wrap_i64 (e := ((2 * r : Nat) : Int) + 1) (by (constructor <;> omega))).trans (by rfl : (((2 * r : Nat) : Int) + 1 : Int) = (((2 * r) + 1 : Nat) : Int)), trivial⟩ ?_))
  refine A.tn (A.seq (A.sr (A.g [.p, .p, .p] [] [(16, b_ (decide ((((2 * r) + 1 : Nat) : Int) ≥ (hi : Int))))] ?_)))
  refine A.tn (A.cn (decide ((((2 * r) + 1 : Nat) : Int) ≥ (hi : Int))) (fun e1 => ?_) (fun e1 => ?_))
  · have p1 := of_decide_eq_true e1
    refine A.exit (A.te (A.bm rfl ?_))
    refine A.te (A.bh (A.postKn [0] [] (fun aa ww rr ss => trivial) (d2) ?_ ?_ (by kernel_rfl)))
    · rfl
    show d2 = siftDown ltInt hi F lo d ∧ d2.size = d.size
    (rw [sift_stop (by omega)] at he; exact ⟨he, hz⟩)
  have p1 := of_decide_eq_false e1
  refine A.skip (A.tn (A.seq (A.seq (A.draw2 [] 20 (by kernel_rfl) ?_))))
  refine A.dP 15 [.p, .w ((((2 * r) + 1) + 1 : Nat) : Int), .p, .p, .p] [0, 1, 2, 3, 4] [16] [(21, b_ (decide (((((2 * r) + 1) + 1 : Nat) : Int) < (hi : Int))))] [] (fun κ => (IntKind.i64.wrap ((((2 * r) + 1 : Nat) : Int) + 1) = ((((2 * r) + 1) + 1 : Nat) : Int)) ∧ True) ⟨((wrap_i64 (e := (((2 * r) + 1 : Nat) : Int) + 1) (by (constructor <;> omega))).trans (by rfl : ((((2 * r) + 1 : Nat) : Int) + 1 : Int) = ((((2 * r) + 1) + 1 : Nat) : Int))), trivial⟩ ?_
  refine A.bool (decide (((((2 * r) + 1) + 1 : Nat) : Int) < (hi : Int))) (fun e2 => ?_) (fun e2 => ?_)
  · have p2 := of_decide_eq_true e2
    refine A.sv 21 (b_ true) (cgB e2) ?_
    obtain ⟨x1, hx1⟩ : ∃ x, (d2.toList)[(F + ((2 * r) + 1) : Nat)]? = some x := ⟨_, List.getElem?_eq_getElem (by (simp; omega))⟩
    obtain ⟨x2, hx2⟩ : ∃ x, (d2.toList)[((F + ((2 * r) + 1)) + 1 : Nat)]? = some x := ⟨_, List.getElem?_eq_getElem (by (simp; omega))⟩
    refine A.dP 0 [.p, .p, .p, .w ((F + ((2 * r) + 1) : Nat) : Int), .ix, .rd [u_ x1], .p, .p, .p, .w ((F + ((2 * r) + 1) : Nat) : Int), .w (((F + ((2 * r) + 1)) + 1 : Nat) : Int), .ix, .rd [u_ x2], .cq (b_ (decide (x1 < x2))), .p] [5, 6, 7, 8, 9, 10, 11, 12, 13, 14, 15, 16, 17, 18, 19] [21] [(22, vS al d2.toList cl), (23, c_ F), (24, c_ ((2 * r) + 1 : Nat)), (25, c_ (F + ((2 * r) + 1) : Nat)), (26, (.pointer (some ((at0 al).add ((F + ((2 * r) + 1) : Nat) * 1))))), (27, u_ x1), (28, vS al d2.toList cl), (29, c_ F), (30, c_ ((2 * r) + 1 : Nat)), (31, c_ (F + ((2 * r) + 1) : Nat)), (32, c_ ((F + ((2 * r) + 1)) + 1 : Nat)), (33, (.pointer (some ((at0 al).add (((F + ((2 * r) + 1)) + 1 : Nat) * 1))))), (34, u_ x2), (35, b_ (decide (x1 < x2))), (36, b_ (decide (x1 < x2)))] [] (fun κ => (IntKind.i64.wrap ((F : Int) + (((2 * r) + 1 : Nat) : Int)) = ((F + ((2 * r) + 1) : Nat) : Int)) ∧ κ.ix al d2.toList.length ((F + ((2 * r) + 1) : Nat) : Int) ∧ κ.rd ((at0 al).add ((F + ((2 * r) + 1) : Nat) * 1)) [u_ x1] ∧ (IntKind.i64.wrap ((F : Int) + (((2 * r) + 1 : Nat) : Int)) = ((F + ((2 * r) + 1) : Nat) : Int)) ∧ (IntKind.i64.wrap (((F + ((2 * r) + 1) : Nat) : Int) + 1) = (((F + ((2 * r) + 1)) + 1 : Nat) : Int)) ∧ κ.ix al d2.toList.length (((F + ((2 * r) + 1)) + 1 : Nat) : Int) ∧ κ.rd ((at0 al).add (((F + ((2 * r) + 1)) + 1 : Nat) * 1)) [u_ x2] ∧ κ.call 155 [u_ x1, u_ x2] (b_ (decide (x1 < x2))) ∧ True) ⟨((wrap_i64 (e := (F : Int) + (((2 * r) + 1 : Nat) : Int)) (by (constructor <;> omega))).trans (by rfl : ((F : Int) + (((2 * r) + 1 : Nat) : Int) : Int) = ((F + ((2 * r) + 1) : Nat) : Int))), ixOf encU_len (by decide) (rd_sl (i := 0) rfl) (by (simp; omega)), reads_at0 (vs := [u_ x1]) encU_len (rd_sl (i := 0) rfl) hx1 (Nat.le_of_ble_eq_true rfl) rfl, (wrap_i64 (e := (F : Int) + (((2 * r) + 1 : Nat) : Int)) (by (constructor <;> omega))).trans (by rfl : ((F : Int) + (((2 * r) + 1 : Nat) : Int) : Int) = ((F + ((2 * r) + 1) : Nat) : Int)), (wrap_i64 (e := ((F + ((2 * r) + 1) : Nat) : Int) + 1) (by (constructor <;> omega))).trans (by rfl : (((F + ((2 * r) + 1) : Nat) : Int) + 1 : Int) = (((F + ((2 * r) + 1)) + 1 : Nat) : Int)), ixOf encU_len (by decide) (rd_sl (i := 0) rfl) (by (simp; omega)), reads_at0 (vs := [u_ x2]) encU_len (rd_sl (i := 0) rfl) hx2 (Nat.le_of_ble_eq_true rfl) rfl, (fun ww ss => less_spec x1 x2 ww), trivial⟩ ?_
    refine A.fin2 (by kernel_rfl) ?_
    refine A.tn (A.cn (decide (x1 < x2)) (fun e3 => ?_) (fun e3 => ?_))
    · have p3 := of_decide_eq_true e3
      refine A.region (A.gk [.p, .w ((((2 * r) + 1) + 1 : Nat) : Int), .p] [36] [(9, c_ (((2 * r) + 1) + 1 : Nat))] [] (fun κ => (IntKind.i64.wrap ((((2 * r) + 1 : Nat) : Int) + 1) = ((((2 * r) + 1) + 1 : Nat) : Int)) ∧ True) ⟨((wrap_i64 (e := (((2 * r) + 1 : Nat) : Int) + 1) (by (constructor <;> omega))).trans (by rfl : ((((2 * r) + 1 : Nat) : Int) + 1 : Int) = ((((2 * r) + 1) + 1 : Nat) : Int))), trivial⟩ ?_)
      refine A.tn (A.seq (A.seq ?_))
      obtain ⟨x3, hx3⟩ : ∃ x, (d2.toList)[(F + r : Nat)]? = some x := ⟨_, List.getElem?_eq_getElem (by (simp; omega))⟩
      obtain ⟨x4, hx4⟩ : ∃ x, (d2.toList)[(F + (((2 * r) + 1) + 1) : Nat)]? = some x := ⟨_, List.getElem?_eq_getElem (by (simp; omega))⟩
      refine A.dA [.p, .p, .p, .w ((F + r : Nat) : Int), .ix, .rd [u_ x3], .p, .p, .p, .w ((F + (((2 * r) + 1) + 1) : Nat) : Int), .ix, .rd [u_ x4], .cq (b_ (decide (x3 < x4))), .p] [0, 1, 2, 3, 4, 5, 6, 7, 8, 9, 10, 11, 12, 13] [] [(52, b_ (!(decide (x3 < x4))))] [] (fun κ => (IntKind.i64.wrap ((F : Int) + (r : Int)) = ((F + r : Nat) : Int)) ∧ κ.ix al d2.toList.length ((F + r : Nat) : Int) ∧ κ.rd ((at0 al).add ((F + r : Nat) * 1)) [u_ x3] ∧ (IntKind.i64.wrap ((F : Int) + ((((2 * r) + 1) + 1 : Nat) : Int)) = ((F + (((2 * r) + 1) + 1) : Nat) : Int)) ∧ κ.ix al d2.toList.length ((F + (((2 * r) + 1) + 1) : Nat) : Int) ∧ κ.rd ((at0 al).add ((F + (((2 * r) + 1) + 1) : Nat) * 1)) [u_ x4] ∧ κ.call 155 [u_ x3, u_ x4] (b_ (decide (x3 < x4))) ∧ True) ⟨((wrap_i64 (e := (F : Int) + (r : Int)) (by (constructor <;> omega))).trans (by rfl : ((F : Int) + (r : Int) : Int) = ((F + r : Nat) : Int))), ixOf encU_len (by decide) (rd_sl (i := 0) rfl) (by (simp; omega)), reads_at0 (vs := [u_ x3]) encU_len (rd_sl (i := 0) rfl) hx3 (Nat.le_of_ble_eq_true rfl) rfl, (wrap_i64 (e := (F : Int) + ((((2 * r) + 1) + 1 : Nat) : Int)) (by (constructor <;> omega))).trans (by rfl : ((F : Int) + ((((2 * r) + 1) + 1 : Nat) : Int) : Int) = ((F + (((2 * r) + 1) + 1) : Nat) : Int)), ixOf encU_len (by decide) (rd_sl (i := 0) rfl) (by (simp; omega)), reads_at0 (vs := [u_ x4]) encU_len (rd_sl (i := 0) rfl) hx4 (Nat.le_of_ble_eq_true rfl) rfl, (fun ww ss => less_spec x3 x4 ww), trivial⟩ ?_
      refine A.tn (A.cn (!(decide (x3 < x4))) (fun e4 => ?_) (fun e4 => ?_))
      · have p4 := e4; try simp only [nrm] at p4
        refine A.ret (A.tr (A.br (A.tr (A.br ?_))))
        have hst_ : siftDown ltInt hi F r d2 = _ := (sift_rf (c := 2 * r + 2) (by omega) (by omega) hx1 (by omega) hx2 (by omega) (by omega) hx3 (by omega) hx4 (by omega) (by omega))
        refine A.postK [0] [] (fun aa ww rr ss => trivial) (d2) ?_ ?_ (by kernel_rfl)
        · rfl
        show d2 = siftDown ltInt hi F lo d ∧ d2.size = d.size
        exact ⟨hst_.symm.trans he, hz⟩
      have p4 := e4; try simp only [nrm] at p4
      refine A.skip (A.tn (A.seq (A.draw2 [21, 23] 24 (by kernel_rfl) ?_)))
      refine A.dP 3 [.p, .p, .p, .w ((F + r : Nat) : Int), .p, .p, .p, .w ((F + (((2 * r) + 1) + 1) : Nat) : Int), .p, .p, .p, .w ((F + (((2 * r) + 1) + 1) : Nat) : Int), .ix, .rd [u_ x4], .p, .p, .p, .w ((F + r : Nat) : Int), .ix, .rd [u_ x3], .ix] [0, 1, 2, 3, 4, 5, 6, 7, 8, 9, 10, 11, 12, 13, 14, 15, 16, 17, 18, 19, 20] [8, 52] [(57, vS al d2.toList cl), (60, c_ (F + (((2 * r) + 1) + 1) : Nat)), (66, u_ x4), (72, u_ x3), (73, (.pointer (some ((at0 al).add ((F + r : Nat) * 1)))))] [] (fun κ => (IntKind.i64.wrap ((F : Int) + (r : Int)) = ((F + r : Nat) : Int)) ∧ (IntKind.i64.wrap ((F : Int) + ((((2 * r) + 1) + 1 : Nat) : Int)) = ((F + (((2 * r) + 1) + 1) : Nat) : Int)) ∧ (IntKind.i64.wrap ((F : Int) + ((((2 * r) + 1) + 1 : Nat) : Int)) = ((F + (((2 * r) + 1) + 1) : Nat) : Int)) ∧ κ.ix al d2.toList.length ((F + (((2 * r) + 1) + 1) : Nat) : Int) ∧ κ.rd ((at0 al).add ((F + (((2 * r) + 1) + 1) : Nat) * 1)) [u_ x4] ∧ (IntKind.i64.wrap ((F : Int) + (r : Int)) = ((F + r : Nat) : Int)) ∧ κ.ix al d2.toList.length ((F + r : Nat) : Int) ∧ κ.rd ((at0 al).add ((F + r : Nat) * 1)) [u_ x3] ∧ κ.ix al d2.toList.length ((F + r : Nat) : Int) ∧ True) ⟨((wrap_i64 (e := (F : Int) + (r : Int)) (by (constructor <;> omega))).trans (by rfl : ((F : Int) + (r : Int) : Int) = ((F + r : Nat) : Int))), (wrap_i64 (e := (F : Int) + ((((2 * r) + 1) + 1 : Nat) : Int)) (by (constructor <;> omega))).trans (by rfl : ((F : Int) + ((((2 * r) + 1) + 1 : Nat) : Int) : Int) = ((F + (((2 * r) + 1) + 1) : Nat) : Int)), (wrap_i64 (e := (F : Int) + ((((2 * r) + 1) + 1 : Nat) : Int)) (by (constructor <;> omega))).trans (by rfl : ((F : Int) + ((((2 * r) + 1) + 1 : Nat) : Int) : Int) = ((F + (((2 * r) + 1) + 1) : Nat) : Int)), ixOf encU_len (by decide) (rd_sl (i := 0) rfl) (by (simp; omega)), reads_at0 (vs := [u_ x4]) encU_len (rd_sl (i := 0) rfl) hx4 (Nat.le_of_ble_eq_true rfl) rfl, (wrap_i64 (e := (F : Int) + (r : Int)) (by (constructor <;> omega))).trans (by rfl : ((F : Int) + (r : Int) : Int) = ((F + r : Nat) : Int)), ixOf encU_len (by decide) (rd_sl (i := 0) rfl) (by (simp; omega)), reads_at0 (vs := [u_ x3]) encU_len (rd_sl (i := 0) rfl) hx3 (Nat.le_of_ble_eq_true rfl) rfl, ixOf encU_len (by decide) (rd_sl (i := 0) rfl) (by (simp; omega)), trivial⟩ ?_
      refine A.only2 21 rfl (by kernel_rfl) (A.storeSl (enc := encU) (xs := d2.toList) 0 (F + r : Nat) x4 [sU al (d2.toList.set (F + r : Nat) x4) cl] (by kernel_rfl) rfl rfl rfl rfl (by kernel_rfl) (by kernel_rfl) encU_len (by decide) rfl (by (simp; omega)) rfl ?_)
      refine A.sv 0 (vS al (d2.toList.set (F + r : Nat) x4) cl) (cgN (by simp)) (A.sv 22 (vS al (d2.toList.set (F + r : Nat) x4) cl) (cgN (by simp)) (A.sv 28 (vS al (d2.toList.set (F + r : Nat) x4) cl) (cgN (by simp)) (A.sv 57 (vS al (d2.toList.set (F + r : Nat) x4) cl) (cgN (by simp)) ?_)))
      refine A.stage ?_
      refine A.dP 1 [.ix] [22] [57, 60, 66, 73] [(74, (.pointer (some ((at0 al).add ((F + (((2 * r) + 1) + 1) : Nat) * 1)))))] [] (fun κ => κ.ix al ((d2.toList.set (F + r : Nat) x4).length) ((F + (((2 * r) + 1) + 1) : Nat) : Int) ∧ True) ⟨(ixOf encU_len (by decide) (rd_sl (i := 0) rfl) (by (simp; omega))), trivial⟩ ?_
      refine A.only2 23 rfl (by kernel_rfl) (A.storeSl (enc := encU) (xs := (d2.toList.set (F + r : Nat) x4)) 0 (F + (((2 * r) + 1) + 1) : Nat) x3 [sU al ((d2.toList.set (F + r : Nat) x4).set (F + (((2 * r) + 1) + 1) : Nat) x3) cl] (by kernel_rfl) rfl rfl rfl rfl (by kernel_rfl) (by kernel_rfl) encU_len (by decide) rfl (by (simp; omega)) rfl ?_)
      refine A.sv 0 (vS al ((d2.toList.set (F + r : Nat) x4).set (F + (((2 * r) + 1) + 1) : Nat) x3) cl) (cgN (by simp)) (A.sv 22 (vS al ((d2.toList.set (F + r : Nat) x4).set (F + (((2 * r) + 1) + 1) : Nat) x3) cl) (cgN (by simp)) (A.sv 28 (vS al ((d2.toList.set (F + r : Nat) x4).set (F + (((2 * r) + 1) + 1) : Nat) x3) cl) (cgN (by simp)) ?_))
      refine A.stage ?_
      refine A.fin2 (by kernel_rfl) ?_
      have hcv5 : ((d2.toList.set (F + r : Nat) x4).set (F + (((2 * r) + 1) + 1) : Nat) x3) = (swp d2 (F + r : Nat) (F + (((2 * r) + 1) + 1) : Nat)).toList := by exact swp_list hx3 hx4
      refine A.setH [sU al ((swp d2 (F + r : Nat) (F + (((2 * r) + 1) + 1) : Nat)).toList) cl] (cc (slC hcv5) rfl) ?_
      refine A.sv 0 (vS al ((swp d2 (F + r : Nat) (F + (((2 * r) + 1) + 1) : Nat)).toList) cl) (cgL hcv5) (A.sv 22 (vS al ((swp d2 (F + r : Nat) (F + (((2 * r) + 1) + 1) : Nat)).toList) cl) (cgL hcv5) (A.sv 28 (vS al ((swp d2 (F + r : Nat) (F + (((2 * r) + 1) + 1) : Nat)).toList) cl) (cgL hcv5) ?_))
      refine tr (A.g [.p, .p] [9, 72, 74] [(8, c_ (((2 * r) + 1) + 1 : Nat))] ?_)
      refine A.bn (A.tn ?_)
      have hst_ : siftDown ltInt hi F r d2 = _ := (sift_rt (c := 2 * r + 2) (by omega) (by omega) hx1 (by omega) hx2 (by omega) (by omega) hx3 (by omega) hx4 (by omega) (by omega))
      refine A.next ((((2 * r) + 1) + 1 : Nat), swp d2 (F + r : Nat) (F + (((2 * r) + 1) + 1) : Nat)) ⟨(by exact hst_.symm.trans he), (by (rw [swp_sz]; omega)), (by omega)⟩ (by (simp; omega)) ?_
      exact A.hK [0]
    have p3 := of_decide_eq_false e3
    refine A.skip (A.tn (A.seq (A.seq ?_)))
    obtain ⟨x6, hx6⟩ : ∃ x, (d2.toList)[(F + r : Nat)]? = some x := ⟨_, List.getElem?_eq_getElem (by (simp; omega))⟩
    refine A.dA [.p, .p, .p, .w ((F + r : Nat) : Int), .ix, .rd [u_ x6], .p, .p, .p, .w ((F + ((2 * r) + 1) : Nat) : Int), .ix, .rd [u_ x1], .cq (b_ (decide (x6 < x1))), .p] [0, 1, 2, 3, 4, 5, 6, 7, 8, 9, 10, 11, 12, 13] [36] [(52, b_ (!(decide (x6 < x1))))] [] (fun κ => (IntKind.i64.wrap ((F : Int) + (r : Int)) = ((F + r : Nat) : Int)) ∧ κ.ix al d2.toList.length ((F + r : Nat) : Int) ∧ κ.rd ((at0 al).add ((F + r : Nat) * 1)) [u_ x6] ∧ (IntKind.i64.wrap ((F : Int) + (((2 * r) + 1 : Nat) : Int)) = ((F + ((2 * r) + 1) : Nat) : Int)) ∧ κ.ix al d2.toList.length ((F + ((2 * r) + 1) : Nat) : Int) ∧ κ.rd ((at0 al).add ((F + ((2 * r) + 1) : Nat) * 1)) [u_ x1] ∧ κ.call 155 [u_ x6, u_ x1] (b_ (decide (x6 < x1))) ∧ True) ⟨((wrap_i64 (e := (F : Int) + (r : Int)) (by (constructor <;> omega))).trans (by rfl : ((F : Int) + (r : Int) : Int) = ((F + r : Nat) : Int))), ixOf encU_len (by decide) (rd_sl (i := 0) rfl) (by (simp; omega)), reads_at0 (vs := [u_ x6]) encU_len (rd_sl (i := 0) rfl) hx6 (Nat.le_of_ble_eq_true rfl) rfl, (wrap_i64 (e := (F : Int) + (((2 * r) + 1 : Nat) : Int)) (by (constructor <;> omega))).trans (by rfl : ((F : Int) + (((2 * r) + 1 : Nat) : Int) : Int) = ((F + ((2 * r) + 1) : Nat) : Int)), ixOf encU_len (by decide) (rd_sl (i := 0) rfl) (by (simp; omega)), reads_at0 (vs := [u_ x1]) encU_len (rd_sl (i := 0) rfl) hx1 (Nat.le_of_ble_eq_true rfl) rfl, (fun ww ss => less_spec x6 x1 ww), trivial⟩ ?_
    refine A.tn (A.cn (!(decide (x6 < x1))) (fun e5 => ?_) (fun e5 => ?_))
    · have p5 := e5; try simp only [nrm] at p5
      refine A.ret (A.tr (A.br (A.tr (A.br ?_))))
      have hst_ : siftDown ltInt hi F r d2 = _ := (sift_lf (c := 2 * r + 1) (by omega) (by omega) (.inr ⟨_, _, _, _, hx1, by omega, hx2, by omega, by omega⟩) hx6 (by omega) hx1 (by omega) (by omega))
      refine A.postK [0] [] (fun aa ww rr ss => trivial) (d2) ?_ ?_ (by kernel_rfl)
      · rfl
      show d2 = siftDown ltInt hi F lo d ∧ d2.size = d.size
      exact ⟨hst_.symm.trans he, hz⟩
    have p5 := e5; try simp only [nrm] at p5
    refine A.skip (A.tn (A.seq (A.draw2 [21, 23] 24 (by kernel_rfl) ?_)))
    refine A.dP 3 [.p, .p, .p, .w ((F + r : Nat) : Int), .p, .p, .p, .w ((F + ((2 * r) + 1) : Nat) : Int), .p, .p, .p, .w ((F + ((2 * r) + 1) : Nat) : Int), .ix, .rd [u_ x1], .p, .p, .p, .w ((F + r : Nat) : Int), .ix, .rd [u_ x6], .ix] [0, 1, 2, 3, 4, 5, 6, 7, 8, 9, 10, 11, 12, 13, 14, 15, 16, 17, 18, 19, 20] [8, 52] [(57, vS al d2.toList cl), (60, c_ (F + ((2 * r) + 1) : Nat)), (66, u_ x1), (72, u_ x6), (73, (.pointer (some ((at0 al).add ((F + r : Nat) * 1)))))] [] (fun κ => (IntKind.i64.wrap ((F : Int) + (r : Int)) = ((F + r : Nat) : Int)) ∧ (IntKind.i64.wrap ((F : Int) + (((2 * r) + 1 : Nat) : Int)) = ((F + ((2 * r) + 1) : Nat) : Int)) ∧ (IntKind.i64.wrap ((F : Int) + (((2 * r) + 1 : Nat) : Int)) = ((F + ((2 * r) + 1) : Nat) : Int)) ∧ κ.ix al d2.toList.length ((F + ((2 * r) + 1) : Nat) : Int) ∧ κ.rd ((at0 al).add ((F + ((2 * r) + 1) : Nat) * 1)) [u_ x1] ∧ (IntKind.i64.wrap ((F : Int) + (r : Int)) = ((F + r : Nat) : Int)) ∧ κ.ix al d2.toList.length ((F + r : Nat) : Int) ∧ κ.rd ((at0 al).add ((F + r : Nat) * 1)) [u_ x6] ∧ κ.ix al d2.toList.length ((F + r : Nat) : Int) ∧ True) ⟨((wrap_i64 (e := (F : Int) + (r : Int)) (by (constructor <;> omega))).trans (by rfl : ((F : Int) + (r : Int) : Int) = ((F + r : Nat) : Int))), (wrap_i64 (e := (F : Int) + (((2 * r) + 1 : Nat) : Int)) (by (constructor <;> omega))).trans (by rfl : ((F : Int) + (((2 * r) + 1 : Nat) : Int) : Int) = ((F + ((2 * r) + 1) : Nat) : Int)), (wrap_i64 (e := (F : Int) + (((2 * r) + 1 : Nat) : Int)) (by (constructor <;> omega))).trans (by rfl : ((F : Int) + (((2 * r) + 1 : Nat) : Int) : Int) = ((F + ((2 * r) + 1) : Nat) : Int)), ixOf encU_len (by decide) (rd_sl (i := 0) rfl) (by (simp; omega)), reads_at0 (vs := [u_ x1]) encU_len (rd_sl (i := 0) rfl) hx1 (Nat.le_of_ble_eq_true rfl) rfl, (wrap_i64 (e := (F : Int) + (r : Int)) (by (constructor <;> omega))).trans (by rfl : ((F : Int) + (r : Int) : Int) = ((F + r : Nat) : Int)), ixOf encU_len (by decide) (rd_sl (i := 0) rfl) (by (simp; omega)), reads_at0 (vs := [u_ x6]) encU_len (rd_sl (i := 0) rfl) hx6 (Nat.le_of_ble_eq_true rfl) rfl, ixOf encU_len (by decide) (rd_sl (i := 0) rfl) (by (simp; omega)), trivial⟩ ?_
    refine A.only2 21 rfl (by kernel_rfl) (A.storeSl (enc := encU) (xs := d2.toList) 0 (F + r : Nat) x1 [sU al (d2.toList.set (F + r : Nat) x1) cl] (by kernel_rfl) rfl rfl rfl rfl (by kernel_rfl) (by kernel_rfl) encU_len (by decide) rfl (by (simp; omega)) rfl ?_)
    refine A.sv 0 (vS al (d2.toList.set (F + r : Nat) x1) cl) (cgN (by simp)) (A.sv 22 (vS al (d2.toList.set (F + r : Nat) x1) cl) (cgN (by simp)) (A.sv 28 (vS al (d2.toList.set (F + r : Nat) x1) cl) (cgN (by simp)) (A.sv 57 (vS al (d2.toList.set (F + r : Nat) x1) cl) (cgN (by simp)) ?_)))
    refine A.stage ?_
    refine A.dP 1 [.ix] [22] [57, 60, 66, 73] [(74, (.pointer (some ((at0 al).add ((F + ((2 * r) + 1) : Nat) * 1)))))] [] (fun κ => κ.ix al ((d2.toList.set (F + r : Nat) x1).length) ((F + ((2 * r) + 1) : Nat) : Int) ∧ True) ⟨(ixOf encU_len (by decide) (rd_sl (i := 0) rfl) (by (simp; omega))), trivial⟩ ?_
    refine A.only2 23 rfl (by kernel_rfl) (A.storeSl (enc := encU) (xs := (d2.toList.set (F + r : Nat) x1)) 0 (F + ((2 * r) + 1) : Nat) x6 [sU al ((d2.toList.set (F + r : Nat) x1).set (F + ((2 * r) + 1) : Nat) x6) cl] (by kernel_rfl) rfl rfl rfl rfl (by kernel_rfl) (by kernel_rfl) encU_len (by decide) rfl (by (simp; omega)) rfl ?_)
    refine A.sv 0 (vS al ((d2.toList.set (F + r : Nat) x1).set (F + ((2 * r) + 1) : Nat) x6) cl) (cgN (by simp)) (A.sv 22 (vS al ((d2.toList.set (F + r : Nat) x1).set (F + ((2 * r) + 1) : Nat) x6) cl) (cgN (by simp)) (A.sv 28 (vS al ((d2.toList.set (F + r : Nat) x1).set (F + ((2 * r) + 1) : Nat) x6) cl) (cgN (by simp)) ?_))
    refine A.stage ?_
    refine A.fin2 (by kernel_rfl) ?_
    have hcv7 : ((d2.toList.set (F + r : Nat) x1).set (F + ((2 * r) + 1) : Nat) x6) = (swp d2 (F + r : Nat) (F + ((2 * r) + 1) : Nat)).toList := by exact swp_list hx6 hx1
    refine A.setH [sU al ((swp d2 (F + r : Nat) (F + ((2 * r) + 1) : Nat)).toList) cl] (cc (slC hcv7) rfl) ?_
    refine A.sv 0 (vS al ((swp d2 (F + r : Nat) (F + ((2 * r) + 1) : Nat)).toList) cl) (cgL hcv7) (A.sv 22 (vS al ((swp d2 (F + r : Nat) (F + ((2 * r) + 1) : Nat)).toList) cl) (cgL hcv7) (A.sv 28 (vS al ((swp d2 (F + r : Nat) (F + ((2 * r) + 1) : Nat)).toList) cl) (cgL hcv7) ?_))
    refine tr (A.g [.p, .p] [9, 72, 74] [(8, c_ ((2 * r) + 1 : Nat))] ?_)
    refine A.bn (A.tn ?_)
    have hst_ : siftDown ltInt hi F r d2 = _ := (sift_lt (c := 2 * r + 1) (by omega) (by omega) (.inr ⟨_, _, _, _, hx1, by omega, hx2, by omega, by omega⟩) hx6 (by omega) hx1 (by omega) (by omega))
    refine A.next (((2 * r) + 1 : Nat), swp d2 (F + r : Nat) (F + ((2 * r) + 1) : Nat)) ⟨(by exact hst_.symm.trans he), (by (rw [swp_sz]; omega)), (by omega)⟩ (by (simp; omega)) ?_
    exact A.hK [0]
  have p2 := of_decide_eq_false e2
  refine A.sv 21 (b_ false) (cgB e2) ?_
  refine A.dP 0 [.sk, .sk, .sk, .sk, .sk, .sk, .sk, .sk, .sk, .sk, .sk, .sk, .sk, .sk, .p] [5, 6, 7, 8, 9, 10, 11, 12, 13, 14, 15, 16, 17, 18, 19] [21] [(36, b_ false)] [] T0 trivial ?_
  refine A.fin2 (by kernel_rfl) ?_
  refine A.tn (A.cf (A.skip (A.tn (A.seq (A.seq ?_)))))
  obtain ⟨x8, hx8⟩ : ∃ x, (d2.toList)[(F + r : Nat)]? = some x := ⟨_, List.getElem?_eq_getElem (by (simp; omega))⟩
  obtain ⟨x9, hx9⟩ : ∃ x, (d2.toList)[(F + ((2 * r) + 1) : Nat)]? = some x := ⟨_, List.getElem?_eq_getElem (by (simp; omega))⟩
  refine A.dA [.p, .p, .p, .w ((F + r : Nat) : Int), .ix, .rd [u_ x8], .p, .p, .p, .w ((F + ((2 * r) + 1) : Nat) : Int), .ix, .rd [u_ x9], .cq (b_ (decide (x8 < x9))), .p] [0, 1, 2, 3, 4, 5, 6, 7, 8, 9, 10, 11, 12, 13] [36] [(52, b_ (!(decide (x8 < x9))))] [] (fun κ => (IntKind.i64.wrap ((F : Int) + (r : Int)) = ((F + r : Nat) : Int)) ∧ κ.ix al d2.toList.length ((F + r : Nat) : Int) ∧ κ.rd ((at0 al).add ((F + r : Nat) * 1)) [u_ x8] ∧ (IntKind.i64.wrap ((F : Int) + (((2 * r) + 1 : Nat) : Int)) = ((F + ((2 * r) + 1) : Nat) : Int)) ∧ κ.ix al d2.toList.length ((F + ((2 * r) + 1) : Nat) : Int) ∧ κ.rd ((at0 al).add ((F + ((2 * r) + 1) : Nat) * 1)) [u_ x9] ∧ κ.call 155 [u_ x8, u_ x9] (b_ (decide (x8 < x9))) ∧ True) ⟨((wrap_i64 (e := (F : Int) + (r : Int)) (by (constructor <;> omega))).trans (by rfl : ((F : Int) + (r : Int) : Int) = ((F + r : Nat) : Int))), ixOf encU_len (by decide) (rd_sl (i := 0) rfl) (by (simp; omega)), reads_at0 (vs := [u_ x8]) encU_len (rd_sl (i := 0) rfl) hx8 (Nat.le_of_ble_eq_true rfl) rfl, (wrap_i64 (e := (F : Int) + (((2 * r) + 1 : Nat) : Int)) (by (constructor <;> omega))).trans (by rfl : ((F : Int) + (((2 * r) + 1 : Nat) : Int) : Int) = ((F + ((2 * r) + 1) : Nat) : Int)), ixOf encU_len (by decide) (rd_sl (i := 0) rfl) (by (simp; omega)), reads_at0 (vs := [u_ x9]) encU_len (rd_sl (i := 0) rfl) hx9 (Nat.le_of_ble_eq_true rfl) rfl, (fun ww ss => less_spec x8 x9 ww), trivial⟩ ?_
  refine A.tn (A.cn (!(decide (x8 < x9))) (fun e6 => ?_) (fun e6 => ?_))
  · have p6 := e6; try simp only [nrm] at p6
    refine A.ret (A.tr (A.br (A.tr (A.br ?_))))
    have hst_ : siftDown ltInt hi F r d2 = _ := (sift_lf (c := 2 * r + 1) (by omega) (by omega) (.inl (by omega)) hx8 (by omega) hx9 (by omega) (by omega))
    refine A.postK [0] [] (fun aa ww rr ss => trivial) (d2) ?_ ?_ (by kernel_rfl)
    · rfl
    show d2 = siftDown ltInt hi F lo d ∧ d2.size = d.size
    exact ⟨hst_.symm.trans he, hz⟩
  have p6 := e6; try simp only [nrm] at p6
  refine A.skip (A.tn (A.seq (A.draw2 [21, 23] 24 (by kernel_rfl) ?_)))
  refine A.dP 3 [.p, .p, .p, .w ((F + r : Nat) : Int), .p, .p, .p, .w ((F + ((2 * r) + 1) : Nat) : Int), .p, .p, .p, .w ((F + ((2 * r) + 1) : Nat) : Int), .ix, .rd [u_ x9], .p, .p, .p, .w ((F + r : Nat) : Int), .ix, .rd [u_ x8], .ix] [0, 1, 2, 3, 4, 5, 6, 7, 8, 9, 10, 11, 12, 13, 14, 15, 16, 17, 18, 19, 20] [8, 52] [(57, vS al d2.toList cl), (60, c_ (F + ((2 * r) + 1) : Nat)), (66, u_ x9), (72, u_ x8), (73, (.pointer (some ((at0 al).add ((F + r : Nat) * 1)))))] [] (fun κ => (IntKind.i64.wrap ((F : Int) + (r : Int)) = ((F + r : Nat) : Int)) ∧ (IntKind.i64.wrap ((F : Int) + (((2 * r) + 1 : Nat) : Int)) = ((F + ((2 * r) + 1) : Nat) : Int)) ∧ (IntKind.i64.wrap ((F : Int) + (((2 * r) + 1 : Nat) : Int)) = ((F + ((2 * r) + 1) : Nat) : Int)) ∧ κ.ix al d2.toList.length ((F + ((2 * r) + 1) : Nat) : Int) ∧ κ.rd ((at0 al).add ((F + ((2 * r) + 1) : Nat) * 1)) [u_ x9] ∧ (IntKind.i64.wrap ((F : Int) + (r : Int)) = ((F + r : Nat) : Int)) ∧ κ.ix al d2.toList.length ((F + r : Nat) : Int) ∧ κ.rd ((at0 al).add ((F + r : Nat) * 1)) [u_ x8] ∧ κ.ix al d2.toList.length ((F + r : Nat) : Int) ∧ True) ⟨((wrap_i64 (e := (F : Int) + (r : Int)) (by (constructor <;> omega))).trans (by rfl : ((F : Int) + (r : Int) : Int) = ((F + r : Nat) : Int))), (wrap_i64 (e := (F : Int) + (((2 * r) + 1 : Nat) : Int)) (by (constructor <;> omega))).trans (by rfl : ((F : Int) + (((2 * r) + 1 : Nat) : Int) : Int) = ((F + ((2 * r) + 1) : Nat) : Int)), (wrap_i64 (e := (F : Int) + (((2 * r) + 1 : Nat) : Int)) (by (constructor <;> omega))).trans (by rfl : ((F : Int) + (((2 * r) + 1 : Nat) : Int) : Int) = ((F + ((2 * r) + 1) : Nat) : Int)), ixOf encU_len (by decide) (rd_sl (i := 0) rfl) (by (simp; omega)), reads_at0 (vs := [u_ x9]) encU_len (rd_sl (i := 0) rfl) hx9 (Nat.le_of_ble_eq_true rfl) rfl, (wrap_i64 (e := (F : Int) + (r : Int)) (by (constructor <;> omega))).trans (by rfl : ((F : Int) + (r : Int) : Int) = ((F + r : Nat) : Int)), ixOf encU_len (by decide) (rd_sl (i := 0) rfl) (by (simp; omega)), reads_at0 (vs := [u_ x8]) encU_len (rd_sl (i := 0) rfl) hx8 (Nat.le_of_ble_eq_true rfl) rfl, ixOf encU_len (by decide) (rd_sl (i := 0) rfl) (by (simp; omega)), trivial⟩ ?_
  refine A.only2 21 rfl (by kernel_rfl) (A.storeSl (enc := encU) (xs := d2.toList) 0 (F + r : Nat) x9 [sU al (d2.toList.set (F + r : Nat) x9) cl] (by kernel_rfl) rfl rfl rfl rfl (by kernel_rfl) (by kernel_rfl) encU_len (by decide) rfl (by (simp; omega)) rfl ?_)
  refine A.sv 0 (vS al (d2.toList.set (F + r : Nat) x9) cl) (cgN (by simp)) (A.sv 57 (vS al (d2.toList.set (F + r : Nat) x9) cl) (cgN (by simp)) ?_)
  refine A.stage ?_
  refine A.dP 1 [.ix] [22] [57, 60, 66, 73] [(74, (.pointer (some ((at0 al).add ((F + ((2 * r) + 1) : Nat) * 1)))))] [] (fun κ => κ.ix al ((d2.toList.set (F + r : Nat) x9).length) ((F + ((2 * r) + 1) : Nat) : Int) ∧ True) ⟨(ixOf encU_len (by decide) (rd_sl (i := 0) rfl) (by (simp; omega))), trivial⟩ ?_
  refine A.only2 23 rfl (by kernel_rfl) (A.storeSl (enc := encU) (xs := (d2.toList.set (F + r : Nat) x9)) 0 (F + ((2 * r) + 1) : Nat) x8 [sU al ((d2.toList.set (F + r : Nat) x9).set (F + ((2 * r) + 1) : Nat) x8) cl] (by kernel_rfl) rfl rfl rfl rfl (by kernel_rfl) (by kernel_rfl) encU_len (by decide) rfl (by (simp; omega)) rfl ?_)
  refine A.sv 0 (vS al ((d2.toList.set (F + r : Nat) x9).set (F + ((2 * r) + 1) : Nat) x8) cl) (cgN (by simp)) ?_
  refine A.stage ?_
  refine A.fin2 (by kernel_rfl) ?_
  have hcv10 : ((d2.toList.set (F + r : Nat) x9).set (F + ((2 * r) + 1) : Nat) x8) = (swp d2 (F + r : Nat) (F + ((2 * r) + 1) : Nat)).toList := by exact swp_list hx8 hx9
  refine A.setH [sU al ((swp d2 (F + r : Nat) (F + ((2 * r) + 1) : Nat)).toList) cl] (cc (slC hcv10) rfl) ?_
  refine A.sv 0 (vS al ((swp d2 (F + r : Nat) (F + ((2 * r) + 1) : Nat)).toList) cl) (cgL hcv10) ?_
  refine tr (A.g [.p, .p] [9, 72, 74] [(8, c_ ((2 * r) + 1 : Nat))] ?_)
  refine A.bn (A.tn ?_)
  have hst_ : siftDown ltInt hi F r d2 = _ := (sift_lt (c := 2 * r + 1) (by omega) (by omega) (.inl (by omega)) hx8 (by omega) hx9 (by omega) (by omega))
  refine A.next (((2 * r) + 1 : Nat), swp d2 (F + r : Nat) (F + ((2 * r) + 1) : Nat)) ⟨(by exact hst_.symm.trans he), (by (rw [swp_sz]; omega)), (by omega)⟩ (by (simp; omega)) ?_
  exact A.hK [0]

theorem heapS_spec (al : Option Addr) (d : Array Int) (cl : Nat) (a b : Nat) (hb : a < b ∧ b ≤ d.size) (hS : d.size ≤ 100000) (w : World) (hs : HS w (feet [sU al d.toList cl]) [sU al d.toList cl] w) :
    Calls Try.prog 150 #[vS al d.toList cl, c_ a, c_ b] w fun e w' => ∃ zz, e = .returned ((fun (d' : (Array Int)) => (.tuple #[])) zz) ∧ (fun (d' : (Array Int)) => d' = heapSort ltInt d a b ∧ d'.size = d.size) zz ∧ Turn [sU al d.toList cl] ((fun (d' : (Array Int)) => [sU al d'.toList cl]) zz) w w' := by
  refine calls_of (args := [vS al d.toList cl, c_ a, c_ b]) (penv [vS al d.toList cl, c_ a, c_ b]) (feet [sU al d.toList cl]) [sU al d.toList cl] Try.func150 rfl rfl (look_penv _) hs ?_
  refine A.sr (A.g [.p, .p] [] [(6, c_ a)] ?_)
  refine tsr (A.g [.p] [] [(7, i_ 0)] ?_)
  refine tsr (A.gk [.p, .p, .w ((b - a : Nat) : Int), .p] [1, 2] [(8, c_ (b - a : Nat))] [] (fun κ => (IntKind.i64.wrap ((b : Int) - (a : Int)) = ((b - a : Nat) : Int)) ∧ True) ⟨((wrap_i64 (e := (b : Int) - (a : Int)) (by (constructor <;> omega))).trans (by omega : ((b : Int) - (a : Int) : Int) = ((b - a : Nat) : Int))), trivial⟩ ?_)
  refine A.tn (A.seq (A.sr (A.gk [.p, .w (((b - a) - 1 : Nat) : Int), .w ((((b - a) - 1) / 2 : Nat) : Int), .p] [] [(9, c_ (((b - a) - 1) / 2 : Nat))] [] (fun κ => (IntKind.i64.wrap (((b - a : Nat) : Int) - 1) = (((b - a) - 1 : Nat) : Int)) ∧ (IntKind.i64.wrap ((((b - a) - 1 : Nat) : Int).tdiv 2) = ((((b - a) - 1) / 2 : Nat) : Int)) ∧ True) ⟨((wrap_i64 (e := ((b - a : Nat) : Int) - 1) (by (constructor <;> omega))).trans (by omega : (((b - a : Nat) : Int) - 1 : Int) = (((b - a) - 1 : Nat) : Int))), (wrap_i64 (e := (((b - a) - 1 : Nat) : Int).tdiv 2) (by (rw [tdivN2]; constructor <;> omega))).trans (by rfl : ((((b - a) - 1 : Nat) : Int).tdiv 2 : Int) = ((((b - a) - 1) / 2 : Nat) : Int)), trivial⟩ ?_)))
  refine A.tn (A.block (A.sv 9 (i_ ((((b - a - 1) / 2 + 1 : Nat) : Int) - 1)) (cgI (by omega)) ?_))
  refine A.loop (fun (zz : Nat × (Array Int)) => match zz with | (k, d2) => [(6, c_ a), (7, i_ 0), (8, c_ (b - a : Nat)), (9, i_ ((k : Int) - 1)), (0, vS al d2.toList cl)]) (fun (zz : Nat × (Array Int)) => match zz with | (k, d2) => [sU al d2.toList cl]) (fun (zz : Nat × (Array Int)) => match zz with | (k, d2) => (heapBuild ltInt (b - a) a k d2 = heapBuild ltInt (b - a) a ((b - a - 1) / 2 + 1) d) ∧ (d2.size = d.size) ∧ (k ≤ (b - a - 1) / 2 + 1)) (fun (zz : Nat × (Array Int)) => match zz with | (k, d2) => k) (((b - a - 1) / 2 + 1 : Nat), d) ⟨(by rfl), (by rfl), (by omega)⟩ ?_ ?_
  · exact A.hK [0]
  rintro ⟨k, d2⟩ ⟨he, hz, hk⟩
  refine A.seq (A.sr (A.g [.p, .p] [] [(19, b_ (decide (((k : Int) - 1) ≥ 0)))] ?_))
  refine A.tn (A.cn (decide (((k : Int) - 1) ≥ 0)) (fun e1 => ?_) (fun e1 => ?_))
  · have p1 := of_decide_eq_true e1
    refine A.skip (A.tn (A.seq (A.block (A.sv 9 (c_ (k - 1 : Nat)) (cgI (by omega)) ?_))))
    refine A.region (A.gp [.p, .p, .p, .p] [19] [(22, vS al d2.toList cl), (23, c_ (k - 1 : Nat)), (24, c_ (b - a : Nat)), (25, c_ a)] ?_)
    refine A.cons (A.cT (some 26) [vS al d2.toList cl, c_ (k - 1 : Nat), c_ (b - a : Nat), c_ a] [0] ((fun d'1 => (.tuple #[]))) ((fun d'1 => d'1 = siftDown ltInt (b - a : Nat) a (k - 1 : Nat) d2 ∧ d'1.size = d2.size)) ((fun d'1 => [sU al d'1.toList cl])) (fun ww ss hh => sift_spec al d2 cl (k - 1 : Nat) (b - a : Nat) a (by omega) (by omega) ww hh) ?_)
    rintro d'1 hz2
    refine A.sv 0 (vS al d'1.toList cl) (cgN (by (simp only [Array.length_toList]; exact hz2.2.symm))) (A.sv 22 (vS al d'1.toList cl) (cgN (by (simp only [Array.length_toList]; exact hz2.2.symm))) ?_)
    refine A.done ?_
    refine A.bn (tr (A.gk [.p, .w (((k - 1 : Nat) : Int) - 1), .p] [22, 23, 24, 25, 26] [(9, i_ (((k - 1 : Nat) : Int) - 1))] [] (fun κ => (IntKind.i64.wrap (((k - 1 : Nat) : Int) - 1) = (((k - 1 : Nat) : Int) - 1)) ∧ True) ⟨(wrap_i64 (e := ((k - 1 : Nat) : Int) - 1) (by constructor <;> omega)), trivial⟩ ?_))
    refine A.tn (A.next ((k - 1 : Nat), d'1) ⟨(by (have h_ := (by assumption : _ = siftDown ltInt (b - a) a (k - 1) d2 ∧ _); rw [hb_step (by omega), ← h_.1] at he; exact he)), (by (have h_ := (by assumption : _ = siftDown ltInt (b - a) a (k - 1) d2 ∧ _).2; omega)), (by omega)⟩ (by (simp; omega)) ?_)
    exact A.hK [0]
  have p1 := of_decide_eq_false e1
  refine A.exit (A.te (A.te (A.bh (tsr (A.gk [.p, .w (((b - a) - 1 : Nat) : Int), .p] [8, 9, 19] [(10, c_ ((b - a) - 1 : Nat))] [] (fun κ => (IntKind.i64.wrap (((b - a : Nat) : Int) - 1) = (((b - a) - 1 : Nat) : Int)) ∧ True) ⟨((wrap_i64 (e := ((b - a : Nat) : Int) - 1) (by (constructor <;> omega))).trans (by omega : (((b - a : Nat) : Int) - 1 : Int) = (((b - a) - 1 : Nat) : Int))), trivial⟩ ?_)))))
  refine A.tn (A.block (A.sv 10 (i_ (((b - a : Nat) : Int) - 1)) (cgI (by omega)) ?_))
  refine A.loop (fun (zz : Nat × (Array Int)) => match zz with | (k9, d3) => [(6, c_ a), (7, i_ 0), (10, i_ ((k9 : Int) - 1)), (0, vS al d3.toList cl)]) (fun (zz : Nat × (Array Int)) => match zz with | (k9, d3) => [sU al d3.toList cl]) (fun (zz : Nat × (Array Int)) => match zz with | (k9, d3) => (heapPop ltInt a k9 d3 = heapSort ltInt d a b) ∧ (d3.size = d.size) ∧ (k9 ≤ b - a)) (fun (zz : Nat × (Array Int)) => match zz with | (k9, d3) => k9) ((b - a : Nat), d2) ⟨(by (unfold heapSort; rw [← he]; (rw [show k = 0 by omega]; rfl))), (by omega), (by omega)⟩ ?_ ?_
  · exact A.hK [0]
  rintro ⟨k9, d3⟩ ⟨he3, hz3, hk9⟩
  refine A.seq (A.sr (A.g [.p, .p] [] [(30, b_ (decide (((k9 : Int) - 1) ≥ 0)))] ?_))
  refine A.tn (A.cn (decide (((k9 : Int) - 1) ≥ 0)) (fun e3 => ?_) (fun e3 => ?_))
  · have p3 := of_decide_eq_true e3
    refine A.skip (A.tn (A.seq (A.block (A.seq (A.sv 10 (c_ (k9 - 1 : Nat)) (cgI (by omega)) ?_)))))
    refine A.draw2 [17, 19] 20 (by kernel_rfl) ?_
    obtain ⟨x2, hx2⟩ : ∃ x, (d3.toList)[(a + (k9 - 1) : Nat)]? = some x := ⟨_, List.getElem?_eq_getElem (by (simp; omega))⟩
    obtain ⟨x3, hx3⟩ : ∃ x, (d3.toList)[a]? = some x := ⟨_, List.getElem?_eq_getElem (by (simp; omega))⟩
    refine A.dP 3 [.p, .p, .p, .p, .p, .w ((a + (k9 - 1) : Nat) : Int), .p, .p, .p, .w ((a + (k9 - 1) : Nat) : Int), .ix, .rd [u_ x2], .p, .p, .ix, .rd [u_ x3], .ix] [0, 1, 2, 3, 4, 5, 6, 7, 8, 9, 10, 11, 12, 13, 14, 15, 16] [30] [(35, vS al d3.toList cl), (38, c_ (a + (k9 - 1) : Nat)), (44, u_ x2), (48, u_ x3), (49, (.pointer (some ((at0 al).add (a * 1)))))] [] (fun κ => (IntKind.i64.wrap ((a : Int) + ((k9 - 1 : Nat) : Int)) = ((a + (k9 - 1) : Nat) : Int)) ∧ (IntKind.i64.wrap ((a : Int) + ((k9 - 1 : Nat) : Int)) = ((a + (k9 - 1) : Nat) : Int)) ∧ κ.ix al d3.toList.length ((a + (k9 - 1) : Nat) : Int) ∧ κ.rd ((at0 al).add ((a + (k9 - 1) : Nat) * 1)) [u_ x2] ∧ κ.ix al d3.toList.length (a : Int) ∧ κ.rd ((at0 al).add (a * 1)) [u_ x3] ∧ κ.ix al d3.toList.length (a : Int) ∧ True) ⟨((wrap_i64 (e := (a : Int) + ((k9 - 1 : Nat) : Int)) (by (constructor <;> omega))).trans (by rfl : ((a : Int) + ((k9 - 1 : Nat) : Int) : Int) = ((a + (k9 - 1) : Nat) : Int))), (wrap_i64 (e := (a : Int) + ((k9 - 1 : Nat) : Int)) (by (constructor <;> omega))).trans (by rfl : ((a : Int) + ((k9 - 1 : Nat) : Int) : Int) = ((a + (k9 - 1) : Nat) : Int)), ixOf encU_len (by decide) (rd_sl (i := 0) rfl) (by (simp; omega)), reads_at0 (vs := [u_ x2]) encU_len (rd_sl (i := 0) rfl) hx2 (Nat.le_of_ble_eq_true rfl) rfl, ixOf encU_len (by decide) (rd_sl (i := 0) rfl) (by (simp; omega)), reads_at0 (vs := [u_ x3]) encU_len (rd_sl (i := 0) rfl) hx3 (Nat.le_of_ble_eq_true rfl) rfl, ixOf encU_len (by decide) (rd_sl (i := 0) rfl) (by (simp; omega)), trivial⟩ ?_
    refine A.only2 17 rfl (by kernel_rfl) (A.storeSl (enc := encU) (xs := d3.toList) 0 a x2 [sU al (d3.toList.set a x2) cl] (by kernel_rfl) rfl rfl rfl rfl (by kernel_rfl) (by kernel_rfl) encU_len (by decide) rfl (by (simp; omega)) rfl ?_)
    refine A.sv 0 (vS al (d3.toList.set a x2) cl) (cgN (by simp)) (A.sv 35 (vS al (d3.toList.set a x2) cl) (cgN (by simp)) ?_)
    refine A.stage ?_
    refine A.dP 1 [.ix] [18] [35, 38, 44, 49] [(50, (.pointer (some ((at0 al).add ((a + (k9 - 1) : Nat) * 1)))))] [] (fun κ => κ.ix al ((d3.toList.set a x2).length) ((a + (k9 - 1) : Nat) : Int) ∧ True) ⟨(ixOf encU_len (by decide) (rd_sl (i := 0) rfl) (by (simp; omega))), trivial⟩ ?_
    refine A.only2 19 rfl (by kernel_rfl) (A.storeSl (enc := encU) (xs := (d3.toList.set a x2)) 0 (a + (k9 - 1) : Nat) x3 [sU al ((d3.toList.set a x2).set (a + (k9 - 1) : Nat) x3) cl] (by kernel_rfl) rfl rfl rfl rfl (by kernel_rfl) (by kernel_rfl) encU_len (by decide) rfl (by (simp; omega)) rfl ?_)
    refine A.sv 0 (vS al ((d3.toList.set a x2).set (a + (k9 - 1) : Nat) x3) cl) (cgN (by simp)) ?_
    refine A.stage ?_
    refine A.fin2 (by kernel_rfl) ?_
    have hcv4 : ((d3.toList.set a x2).set (a + (k9 - 1) : Nat) x3) = (swp d3 a (a + (k9 - 1) : Nat)).toList := by exact swp_list hx3 hx2
    refine A.setH [sU al ((swp d3 a (a + (k9 - 1) : Nat)).toList) cl] (cc (slC hcv4) rfl) ?_
    refine A.sv 0 (vS al ((swp d3 a (a + (k9 - 1) : Nat)).toList) cl) (cgL hcv4) ?_
    refine tr (A.gp [.p, .p, .p, .p] [48, 50] [(51, vS al ((swp d3 a (a + (k9 - 1) : Nat)).toList) cl), (52, i_ 0), (53, c_ (k9 - 1 : Nat)), (54, c_ a)] ?_)
    refine A.cons (A.cT (some 55) [vS al ((swp d3 a (a + (k9 - 1) : Nat)).toList) cl, i_ 0, c_ (k9 - 1 : Nat), c_ a] [0] ((fun d'5 => (.tuple #[]))) ((fun d'5 => d'5 = siftDown ltInt (k9 - 1 : Nat) a 0 (swp d3 a (a + (k9 - 1) : Nat)) ∧ d'5.size = (swp d3 a (a + (k9 - 1) : Nat)).size)) ((fun d'5 => [sU al d'5.toList cl])) (fun ww ss hh => sift_spec al (swp d3 a (a + (k9 - 1) : Nat)) cl 0 (k9 - 1 : Nat) a (by (rw [swp_sz]; omega)) (by (rw [swp_sz]; omega)) ww hh) ?_)
    rintro d'5 hz4
    refine A.sv 0 (vS al d'5.toList cl) (cgN (by (simp only [Array.length_toList]; exact hz4.2.symm))) (A.sv 51 (vS al d'5.toList cl) (cgN (by (simp only [Array.length_toList]; exact hz4.2.symm))) ?_)
    refine A.done ?_
    refine A.bn (tr (A.gk [.p, .w (((k9 - 1 : Nat) : Int) - 1), .p] [51, 52, 53, 54, 55] [(10, i_ (((k9 - 1 : Nat) : Int) - 1))] [] (fun κ => (IntKind.i64.wrap (((k9 - 1 : Nat) : Int) - 1) = (((k9 - 1 : Nat) : Int) - 1)) ∧ True) ⟨(wrap_i64 (e := ((k9 - 1 : Nat) : Int) - 1) (by constructor <;> omega)), trivial⟩ ?_))
    refine A.tn (A.next ((k9 - 1 : Nat), d'5) ⟨(by (have h_ := (by assumption : _ = siftDown ltInt (k9 - 1) a 0 (swp d3 a (a + (k9 - 1))) ∧ _); rw [hp_step (by omega), ← h_.1] at he3; exact he3)), (by (have h_ := (by assumption : _ = siftDown ltInt (k9 - 1) a 0 (swp d3 a (a + (k9 - 1))) ∧ _).2; rw [swp_sz] at h_; omega)), (by omega)⟩ (by (simp; omega)) ?_)
    exact A.hK [0]
  have p3 := of_decide_eq_false e3
  refine A.exit (A.te (A.te (A.bh (A.postKn [0] [] (fun aa ww rr ss => trivial) (d3) ?_ ?_ (by kernel_rfl)))))
  · rfl
  show d3 = heapSort ltInt d a b ∧ d3.size = d.size
  (rw [show k9 = 0 by omega] at he3; exact ⟨he3, hz3⟩)
end Go.Proofs.Ytinnnoimmioaiaa
