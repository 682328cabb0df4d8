/- What the functions of the sort of numbers do, proved operation by operation, for all arguments, under the conditions that each theorem states. -/
import Derived.Sort.LotA
import Derived.Sort.LotB
import Derived.Sort.LotC
import Derived.Sort.LotD1
import Derived.Sort.LotD3
import Derived.Sort.LotD4
import Derived.Test.YtinnnoimmioaiaaProg
import Derived.Test.YtinnnoimmioaiaaL2
namespace Go.Proofs.Ytinnnoimmioaiaa
open Go V Go.Sort
set_option linter.unusedVariables false
set_option linter.unusedSimpArgs false
set_option maxHeartbeats 4000000
set_option maxRecDepth 100000
def encU (x : Int) : List Value := [(u_ x)]
theorem encU_len (x : Int) : (encU x).length = 1 := rfl
theorem encU_one (x : Int) : (encU x).all Value.oneCell' = true := rfl
abbrev sU (A : Option Addr) (xs : List Int) (c : Nat) : V.Item := sl A xs.length c 24 1 (V.flat encU xs)
theorem getE {d : Array Int} {i : Nat} {x : Int} (h : d.toList[i]? = some x) : d[i]! = x := by
  rw [Array.getElem?_toList] at h
  obtain ⟨h1, h2⟩ := Array.getElem?_eq_some_iff.1 h
  rw [getElem!_pos d i h1, h2]
theorem getlt {d : Array Int} {i : Nat} {x : Int} (h : d.toList[i]? = some x) : i < d.size := by
  rw [Array.getElem?_toList] at h; exact (Array.getElem?_eq_some_iff.1 h).1
theorem swp_list {d : Array Int} {i j : Nat} {x y : Int} (hx : d.toList[i]? = some x) (hy : d.toList[j]? = some y) : (d.toList.set i y).set j x = (swp d i j).toList := by
  unfold swp; rw [getE hx, getE hy]; simp [Array.toList_setIfInBounds]
theorem swp_sz (d : Array Int) (i j : Nat) : (swp d i j).size = d.size := swp_size d i j
theorem ins_step {d : Array Int} {a j : Nat} {x y : Int} (hj : a < j) (hx : d.toList[j]? = some x) (hy : d.toList[j - 1]? = some y) (h : x < y) : insInner ltInt a j d = insInner ltInt a (j - 1) (swp d j (j - 1)) := by
  obtain ⟨k, rfl⟩ : ∃ k, j = k + 1 := ⟨j - 1, by omega⟩
  rw [Nat.add_sub_cancel] at hy ⊢
  rw [insInner, getE hx, getE hy, if_pos]; simp [ltInt]; omega
theorem ins_stop {d : Array Int} {a j : Nat} (h : ¬ a < j) : insInner ltInt a j d = d := by
  cases j with
  | zero => rfl
  | succ k => rw [insInner, if_neg]; simp; omega
theorem ins_stop2 {d : Array Int} {a j : Nat} {x y : Int} (hj : a < j) (hx : d.toList[j]? = some x) (hy : d.toList[j - 1]? = some y) (h : ¬ x < y) : insInner ltInt a j d = d := by
  obtain ⟨k, rfl⟩ : ∃ k, j = k + 1 := ⟨j - 1, by omega⟩
  rw [Nat.add_sub_cancel] at hy
  rw [insInner, getE hx, getE hy, if_neg]; simp [ltInt]; omega
theorem insO_step {d : Array Int} {a b i : Nat} (h : i < b) : insOuter ltInt a b i d = insOuter ltInt a b (i + 1) (insInner ltInt a i d) := by rw [insOuter, if_pos h]
theorem insO_stop {d : Array Int} {a b i : Nat} (h : ¬ i < b) : insOuter ltInt a b i d = d := by rw [insOuter, if_neg h]
theorem rev_step {d : Array Int} {i j : Nat} (h : i < j) : reverseLoop i j d = reverseLoop (i + 1) (j - 1) (swp d i j) := by rw [reverseLoop, if_pos h]
theorem rev_stop {d : Array Int} {i j : Nat} (h : ¬ i < j) : reverseLoop i j d = d := by rw [reverseLoop, if_neg h]
theorem rev_size (a b : Nat) : ∀ (n i j : Nat) (d : Array Int), j - i ≤ n → (reverseLoop i j d).size = d.size
  | 0, i, j, d, h => by rw [rev_stop (by omega)]
  | n + 1, i, j, d, h => by
    by_cases g : i < j
    · rw [rev_step g, rev_size a b n (i + 1) (j - 1) _ (by omega), swp_sz]
    · rw [rev_stop g]
theorem ord2_t {d : Array Int} {a b s : Nat} {x y : Int} (hx : d.toList[b]? = some x) (hy : d.toList[a]? = some y) (h : x < y) : order2 ltInt d a b s = (b, a, s + 1) := by
  unfold order2; rw [getE hx, getE hy, if_pos]; simpa [ltInt] using h
theorem ord2_f {d : Array Int} {a b s : Nat} {x y : Int} (hx : d.toList[b]? = some x) (hy : d.toList[a]? = some y) (h : ¬ x < y) : order2 ltInt d a b s = (a, b, s) := by
  unfold order2; rw [getE hx, getE hy, if_neg]; simpa [ltInt] using h
theorem tdivN4 (n : Nat) : (n : Int).tdiv 4 = ((n / 4 : Nat) : Int) := rfl
theorem tdivN2 (n : Nat) : (n : Int).tdiv 2 = ((n / 2 : Nat) : Int) := rfl
theorem tdivN8 (n : Nat) : (n : Int).tdiv 8 = ((n / 8 : Nat) : Int) := rfl

theorem less_spec (x y : Int) (w : World) :
    Calls Try.prog 155 #[u_ x, u_ y] w fun e w' => e = .returned (b_ (decide (x < y))) ∧ Fr [] w w' := by
  refine calls_of (args := [u_ x, u_ y]) (penv [u_ x, u_ y]) [] [] Try.func155 rfl rfl (look_penv _) (HS.nil w) ?_
  refine A.sr (A.g [.p] [] [] ?_)
  refine tsr (A.gp [.p] [] [(5, u_ x)] ?_)
  refine A.cons (A.inlX (some 6) [u_ x] [(0, u_ x)] (by kernel_rfl) rfl Try.func168 rfl rfl ?_)
  refine A.sr (A.g [.p] [] [] ?_)
  refine tsr (A.g [.p, .p, .p, .p] [0] [(2, b_ (x != x))] ?_)
  refine A.tn (A.ret (A.post [b_ (x != x)] (fun aa ww rr ss => ⟨rv_tmp rr rfl, trivial⟩) (A.back (by kernel_rfl) ?_)))
  refine A.goP [.p] [(0, u_ x), (1, u_ y), (7, b_ (x != x))] [] T0 (by kernel_rfl) trivial ?_
  refine A.bool (x != x) (fun e1 => ?_) (fun e1 => ?_)
  · exact absurd e1 (by simp)
  refine A.sv 7 (b_ false) (cgB e1) ?_
  refine A.g [.sk, .sk, .sk, .p, .p, .p, .p, .p, .p, .p] [0, 1, 7] [(4, b_ (decide (x < y)))] ?_
  refine A.tn (A.ret (A.pQ [b_ (decide (x < y))] ?_))
  rfl

theorem insS_spec (al : Option Addr) (d : Array Int) (cl : Nat) (a b : Nat) (hb : a ≤ b ∧ b ≤ d.size) (hS : d.size ≤ 100000) (w : World) (hs : HS w (feet [sU al d.toList cl]) [sU al d.toList cl] w) :
    Calls Try.prog 149 #[vS al d.toList cl, c_ a, c_ b] w fun e w' => ∃ zz, e = .returned ((fun (d' : (Array Int)) => (.tuple #[])) zz) ∧ (fun (d' : (Array Int)) => d' = insertionSort ltInt d a b ∧ d'.size = d.size) zz ∧ Turn [sU al d.toList cl] ((fun (d' : (Array Int)) => [sU al d'.toList cl]) zz) w w' := by
  refine calls_of (args := [vS al d.toList cl, c_ a, c_ b]) (penv [vS al d.toList cl, c_ a, c_ b]) (feet [sU al d.toList cl]) [sU al d.toList cl] Try.func149 rfl rfl (look_penv _) hs ?_
  refine A.sr (A.gk [.p, .w ((a + 1 : Nat) : Int), .p] [] [(6, c_ (a + 1 : Nat))] [] (fun κ => (IntKind.i64.wrap ((a : Int) + 1) = ((a + 1 : Nat) : Int)) ∧ True) ⟨((wrap_i64 (e := (a : Int) + 1) (by (constructor <;> omega))).trans (by rfl : ((a : Int) + 1 : Int) = ((a + 1 : Nat) : Int))), trivial⟩ ?_)
  refine A.tn (A.block (A.loop (fun (zz : Nat × (Array Int)) => match zz with | (i, d2) => [(1, c_ a), (2, c_ b), (6, c_ i), (0, vS al d2.toList cl)]) (fun (zz : Nat × (Array Int)) => match zz with | (i, d2) => [sU al d2.toList cl]) (fun (zz : Nat × (Array Int)) => match zz with | (i, d2) => (insOuter ltInt a b i d2 = insertionSort ltInt d a b) ∧ (d2.size = d.size)) (fun (zz : Nat × (Array Int)) => match zz with | (i, d2) => b - i) ((a + 1 : Nat), d) ⟨(by rfl), (by rfl)⟩ ?_ ?_))
  · exact A.hK [0]
  rintro ⟨i, d2⟩ ⟨he, hz⟩
  refine A.seq (A.sr (A.g [.p, .p, .p] [] [(12, b_ (decide ((i : Int) < (b : Int))))] ?_))
  refine A.tn (A.cn (decide ((i : Int) < (b : Int))) (fun e1 => ?_) (fun e1 => ?_))
  · have p1 := of_decide_eq_true e1
    refine A.skip (A.tn (A.seq (A.block (A.sr (A.g [.p, .p] [12] [(7, c_ i)] ?_)))))
    refine A.tn (A.block (A.loop (fun (zz : Nat × (Array Int)) => match zz with | (j, d3) => [(1, c_ a), (2, c_ b), (6, c_ i), (7, c_ j), (0, vS al d3.toList cl)]) (fun (zz : Nat × (Array Int)) => match zz with | (j, d3) => [sU al d3.toList cl]) (fun (zz : Nat × (Array Int)) => match zz with | (j, d3) => (insInner ltInt a j d3 = insInner ltInt a i d2) ∧ (d3.size = d.size) ∧ (j ≤ i)) (fun (zz : Nat × (Array Int)) => match zz with | (j, d3) => j) (i, d2) ⟨(by rfl), (by omega), (by omega)⟩ ?_ ?_))
    · exact A.hK [0]
    rintro ⟨j, d3⟩ ⟨he3, hz3, hj⟩
    refine A.seq (A.seq (A.draw2 [] 15 (by kernel_rfl) ?_))
    refine A.dP 11 [.p, .p, .p, .p] [0, 1, 2, 3] [] [(19, b_ (decide ((j : Int) > (a : Int))))] [] T0 trivial ?_
    refine A.bool (decide ((j : Int) > (a : Int))) (fun e2 => ?_) (fun e2 => ?_)
    · have p2 := of_decide_eq_true e2
      refine A.sv 19 (b_ true) (cgB e2) ?_
      obtain ⟨x1, hx1⟩ : ∃ x, (d3.toList)[j]? = some x := ⟨_, List.getElem?_eq_getElem (by (simp; omega))⟩
      obtain ⟨x2, hx2⟩ : ∃ x, (d3.toList)[(j - 1 : Nat)]? = some x := ⟨_, List.getElem?_eq_getElem (by (simp; omega))⟩
      refine A.dP 0 [.p, .p, .ix, .rd [u_ x1], .p, .p, .w ((j - 1 : Nat) : Int), .ix, .rd [u_ x2], .cq (b_ (decide (x1 < x2))), .p] [4, 5, 6, 7, 8, 9, 10, 11, 12, 13, 14] [19] [(20, vS al d3.toList cl), (21, c_ j), (22, (.pointer (some ((at0 al).add (j * 1))))), (23, u_ x1), (24, vS al d3.toList cl), (25, c_ j), (26, c_ (j - 1 : Nat)), (27, (.pointer (some ((at0 al).add ((j - 1 : Nat) * 1))))), (28, u_ x2), (29, b_ (decide (x1 < x2))), (30, b_ (decide (x1 < x2)))] [] (fun κ => κ.ix al d3.toList.length (j : Int) ∧ κ.rd ((at0 al).add (j * 1)) [u_ x1] ∧ (IntKind.i64.wrap ((j : Int) - 1) = ((j - 1 : Nat) : Int)) ∧ κ.ix al d3.toList.length ((j - 1 : Nat) : Int) ∧ κ.rd ((at0 al).add ((j - 1 : Nat) * 1)) [u_ x2] ∧ κ.call 155 [u_ x1, u_ x2] (b_ (decide (x1 < x2))) ∧ True) ⟨(ixOf encU_len (by decide) (rd_sl (i := 0) rfl) (by (simp; omega))), reads_at0 (vs := [u_ x1]) encU_len (rd_sl (i := 0) rfl) hx1 (Nat.le_of_ble_eq_true rfl) rfl, (wrap_i64 (e := (j : Int) - 1) (by (constructor <;> omega))).trans (by omega : ((j : Int) - 1 : Int) = ((j - 1 : Nat) : Int)), ixOf encU_len (by decide) (rd_sl (i := 0) rfl) (by (simp; omega)), reads_at0 (vs := [u_ x2]) encU_len (rd_sl (i := 0) rfl) hx2 (Nat.le_of_ble_eq_true rfl) rfl, (fun ww ss => less_spec x1 x2 ww), trivial⟩ ?_
      refine A.fin2 (by kernel_rfl) ?_
      refine A.tn (A.cn (decide (x1 < x2)) (fun e3 => ?_) (fun e3 => ?_))
      · have p3 := of_decide_eq_true e3
        refine A.skip (A.tn (A.seq (A.block (A.draw2 [15, 17] 18 (by kernel_rfl) ?_))))
        refine A.dP 3 [.p, .p, .p, .p, .w ((j - 1 : Nat) : Int), .p, .p, .w ((j - 1 : Nat) : Int), .ix, .rd [u_ x2], .p, .p, .ix, .rd [u_ x1], .ix] [0, 1, 2, 3, 4, 5, 6, 7, 8, 9, 10, 11, 12, 13, 14] [30] [(35, vS al d3.toList cl), (37, c_ (j - 1 : Nat)), (42, u_ x2), (46, u_ x1), (47, (.pointer (some ((at0 al).add (j * 1)))))] [] (fun κ => (IntKind.i64.wrap ((j : Int) - 1) = ((j - 1 : Nat) : Int)) ∧ (IntKind.i64.wrap ((j : Int) - 1) = ((j - 1 : Nat) : Int)) ∧ κ.ix al d3.toList.length ((j - 1 : Nat) : Int) ∧ κ.rd ((at0 al).add ((j - 1 : Nat) * 1)) [u_ x2] ∧ κ.ix al d3.toList.length (j : Int) ∧ κ.rd ((at0 al).add (j * 1)) [u_ x1] ∧ κ.ix al d3.toList.length (j : Int) ∧ True) ⟨((wrap_i64 (e := (j : Int) - 1) (by (constructor <;> omega))).trans (by omega : ((j : Int) - 1 : Int) = ((j - 1 : Nat) : Int))), (wrap_i64 (e := (j : Int) - 1) (by (constructor <;> omega))).trans (by omega : ((j : Int) - 1 : Int) = ((j - 1 : Nat) : Int)), ixOf encU_len (by decide) (rd_sl (i := 0) rfl) (by (simp; omega)), reads_at0 (vs := [u_ x2]) encU_len (rd_sl (i := 0) rfl) hx2 (Nat.le_of_ble_eq_true rfl) rfl, ixOf encU_len (by decide) (rd_sl (i := 0) rfl) (by (simp; omega)), reads_at0 (vs := [u_ x1]) encU_len (rd_sl (i := 0) rfl) hx1 (Nat.le_of_ble_eq_true rfl) rfl, ixOf encU_len (by decide) (rd_sl (i := 0) rfl) (by (simp; omega)), trivial⟩ ?_
        refine A.only2 15 rfl (by kernel_rfl) (A.storeSl (enc := encU) (xs := d3.toList) 0 j x2 [sU al (d3.toList.set j x2) cl] (by kernel_rfl) rfl rfl rfl rfl (by kernel_rfl) (by kernel_rfl) encU_len (by decide) rfl (by (simp; omega)) rfl ?_)
        refine A.sv 0 (vS al (d3.toList.set j x2) cl) (cgN (by simp)) (A.sv 20 (vS al (d3.toList.set j x2) cl) (cgN (by simp)) (A.sv 24 (vS al (d3.toList.set j x2) cl) (cgN (by simp)) (A.sv 35 (vS al (d3.toList.set j x2) cl) (cgN (by simp)) ?_)))
        refine A.stage ?_
        refine A.dP 1 [.ix] [16] [35, 37, 42, 47] [(48, (.pointer (some ((at0 al).add ((j - 1 : Nat) * 1)))))] [] (fun κ => κ.ix al ((d3.toList.set j x2).length) ((j - 1 : Nat) : Int) ∧ True) ⟨(ixOf encU_len (by decide) (rd_sl (i := 0) rfl) (by (simp; omega))), trivial⟩ ?_
        refine A.only2 17 rfl (by kernel_rfl) (A.storeSl (enc := encU) (xs := (d3.toList.set j x2)) 0 (j - 1 : Nat) x1 [sU al ((d3.toList.set j x2).set (j - 1 : Nat) x1) cl] (by kernel_rfl) rfl rfl rfl rfl (by kernel_rfl) (by kernel_rfl) encU_len (by decide) rfl (by (simp; omega)) rfl ?_)
        refine A.sv 0 (vS al ((d3.toList.set j x2).set (j - 1 : Nat) x1) cl) (cgN (by simp)) (A.sv 20 (vS al ((d3.toList.set j x2).set (j - 1 : Nat) x1) cl) (cgN (by simp)) (A.sv 24 (vS al ((d3.toList.set j x2).set (j - 1 : Nat) x1) cl) (cgN (by simp)) ?_))
        refine A.stage ?_
        refine A.fin2 (by kernel_rfl) ?_
        have hcv3 : ((d3.toList.set j x2).set (j - 1 : Nat) x1) = (swp d3 j (j - 1 : Nat)).toList := by exact swp_list hx1 hx2
        refine A.setH [sU al ((swp d3 j (j - 1 : Nat)).toList) cl] (cc (slC hcv3) rfl) ?_
        refine A.sv 0 (vS al ((swp d3 j (j - 1 : Nat)).toList) cl) (cgL hcv3) (A.sv 20 (vS al ((swp d3 j (j - 1 : Nat)).toList) cl) (cgL hcv3) (A.sv 24 (vS al ((swp d3 j (j - 1 : Nat)).toList) cl) (cgL hcv3) ?_))
        refine A.bn (tr (A.gk [.p, .w ((j - 1 : Nat) : Int), .p] [46, 48] [(7, c_ (j - 1 : Nat))] [] (fun κ => (IntKind.i64.wrap ((j : Int) - 1) = ((j - 1 : Nat) : Int)) ∧ True) ⟨((wrap_i64 (e := (j : Int) - 1) (by (constructor <;> omega))).trans (by omega : ((j : Int) - 1 : Int) = ((j - 1 : Nat) : Int))), trivial⟩ ?_))
        refine A.tn (A.next ((j - 1 : Nat), swp d3 j (j - 1 : Nat)) ⟨(by exact (ins_step (by omega) (by assumption) (by assumption) (by omega)).symm.trans he3), (by (rw [swp_sz]; omega)), (by omega)⟩ (by (simp; omega)) ?_)
        exact A.hK [0]
      have p3 := of_decide_eq_false e3
      refine A.exit (A.te (A.te (A.bh (A.bn (tr (A.gk [.p, .w ((i + 1 : Nat) : Int), .p] [7, 30] [(6, c_ (i + 1 : Nat))] [] (fun κ => (IntKind.i64.wrap ((i : Int) + 1) = ((i + 1 : Nat) : Int)) ∧ True) ⟨((wrap_i64 (e := (i : Int) + 1) (by (constructor <;> omega))).trans (by rfl : ((i : Int) + 1 : Int) = ((i + 1 : Nat) : Int))), trivial⟩ ?_))))))
      refine A.tn (A.next ((i + 1 : Nat), d3) ⟨(by exact (by rw [insO_step (by omega)] at he; (rw [← he3, ins_stop2 (by omega) (by assumption) (by assumption) (by omega)] at he; exact he))), (by omega)⟩ (by (simp; omega)) ?_)
      exact A.hK [0]
    have p2 := of_decide_eq_false e2
    refine A.sv 19 (b_ false) (cgB e2) ?_
    refine A.dP 0 [.sk, .sk, .sk, .sk, .sk, .sk, .sk, .sk, .sk, .sk, .p] [4, 5, 6, 7, 8, 9, 10, 11, 12, 13, 14] [19] [(30, b_ false)] [] T0 trivial ?_
    refine A.fin2 (by kernel_rfl) ?_
    refine A.tn (A.cf (A.exit (A.te (A.te (A.bh (A.bn (tr (A.gk [.p, .w ((i + 1 : Nat) : Int), .p] [7, 30] [(6, c_ (i + 1 : Nat))] [] (fun κ => (IntKind.i64.wrap ((i : Int) + 1) = ((i + 1 : Nat) : Int)) ∧ True) ⟨((wrap_i64 (e := (i : Int) + 1) (by (constructor <;> omega))).trans (by rfl : ((i : Int) + 1 : Int) = ((i + 1 : Nat) : Int))), trivial⟩ ?_))))))))
    refine A.tn (A.next ((i + 1 : Nat), d3) ⟨(by exact (by rw [insO_step (by omega)] at he; (rw [← he3, ins_stop (by omega)] at he; exact he))), (by omega)⟩ (by (simp; omega)) ?_)
    exact A.hK [0]
  have p1 := of_decide_eq_false e1
  refine A.exit (A.te (A.te (A.bh (A.postKn [0] [] (fun aa ww rr ss => trivial) (d2) ?_ ?_ (by kernel_rfl)))))
  · rfl
  show d2 = insertionSort ltInt d a b ∧ d2.size = d.size
  (rw [insO_stop (by omega)] at he; exact ⟨he, hz⟩)

theorem revS_spec (al : Option Addr) (d : Array Int) (cl : Nat) (a b : Nat) (hb : b ≤ d.size ∧ 1 ≤ b) (hS : d.size ≤ 100000) (w : World) (hs : HS w (feet [sU al d.toList cl]) [sU al d.toList cl] w) :
    Calls Try.prog 153 #[vS al d.toList cl, c_ a, c_ b] w fun e w' => ∃ zz, e = .returned ((fun (d' : (Array Int)) => (.tuple #[])) zz) ∧ (fun (d' : (Array Int)) => d' = reverseRange d a b ∧ d'.size = d.size) zz ∧ Turn [sU al d.toList cl] ((fun (d' : (Array Int)) => [sU al d'.toList cl]) zz) w w' := by
  refine calls_of (args := [vS al d.toList cl, c_ a, c_ b]) (penv [vS al d.toList cl, c_ a, c_ b]) (feet [sU al d.toList cl]) [sU al d.toList cl] Try.func153 rfl rfl (look_penv _) hs ?_
  refine A.sr (A.g [.p, .p] [1] [(6, c_ a)] ?_)
  refine tsr (A.gk [.p, .w ((b - 1 : Nat) : Int), .p] [2] [(7, c_ (b - 1 : Nat))] [] (fun κ => (IntKind.i64.wrap ((b : Int) - 1) = ((b - 1 : Nat) : Int)) ∧ True) ⟨((wrap_i64 (e := (b : Int) - 1) (by (constructor <;> omega))).trans (by omega : ((b : Int) - 1 : Int) = ((b - 1 : Nat) : Int))), trivial⟩ ?_)
  refine A.tn (A.block (A.loop (fun (zz : Nat × Nat × (Array Int)) => match zz with | (i, j, d2) => [(6, c_ i), (7, c_ j), (0, vS al d2.toList cl)]) (fun (zz : Nat × Nat × (Array Int)) => match zz with | (i, j, d2) => [sU al d2.toList cl]) (fun (zz : Nat × Nat × (Array Int)) => match zz with | (i, j, d2) => (reverseLoop i j d2 = reverseRange d a b) ∧ (d2.size = d.size) ∧ (j < b)) (fun (zz : Nat × Nat × (Array Int)) => match zz with | (i, j, d2) => j - i) (a, (b - 1 : Nat), d) ⟨(by rfl), (by rfl), (by omega)⟩ ?_ ?_))
  · exact A.hK [0]
  rintro ⟨i, j, d2⟩ ⟨he, hz, hj⟩
  refine A.seq (A.sr (A.g [.p, .p, .p] [] [(13, b_ (decide ((i : Int) < (j : Int))))] ?_))
  refine A.tn (A.cn (decide ((i : Int) < (j : Int))) (fun e1 => ?_) (fun e1 => ?_))
  · have p1 := of_decide_eq_true e1
    refine A.skip (A.tn (A.block (A.seq (A.draw2 [13, 15] 16 (by kernel_rfl) ?_))))
    obtain ⟨x1, hx1⟩ : ∃ x, (d2.toList)[j]? = some x := ⟨_, List.getElem?_eq_getElem (by (simp; omega))⟩
    obtain ⟨x2, hx2⟩ : ∃ x, (d2.toList)[i]? = some x := ⟨_, List.getElem?_eq_getElem (by (simp; omega))⟩
    refine A.dP 3 [.p, .p, .p, .p, .p, .p, .ix, .rd [u_ x1], .p, .p, .ix, .rd [u_ x2], .ix] [0, 1, 2, 3, 4, 5, 6, 7, 8, 9, 10, 11, 12] [13] [(16, vS al d2.toList cl), (17, c_ j), (21, u_ x1), (25, u_ x2), (26, (.pointer (some ((at0 al).add (i * 1)))))] [] (fun κ => κ.ix al d2.toList.length (j : Int) ∧ κ.rd ((at0 al).add (j * 1)) [u_ x1] ∧ κ.ix al d2.toList.length (i : Int) ∧ κ.rd ((at0 al).add (i * 1)) [u_ x2] ∧ κ.ix al d2.toList.length (i : Int) ∧ True) ⟨(ixOf encU_len (by decide) (rd_sl (i := 0) rfl) (by (simp; omega))), reads_at0 (vs := [u_ x1]) encU_len (rd_sl (i := 0) rfl) hx1 (Nat.le_of_ble_eq_true rfl) rfl, ixOf encU_len (by decide) (rd_sl (i := 0) rfl) (by (simp; omega)), reads_at0 (vs := [u_ x2]) encU_len (rd_sl (i := 0) rfl) hx2 (Nat.le_of_ble_eq_true rfl) rfl, ixOf encU_len (by decide) (rd_sl (i := 0) rfl) (by (simp; omega)), trivial⟩ ?_
    refine A.only2 13 rfl (by kernel_rfl) (A.storeSl (enc := encU) (xs := d2.toList) 0 i x1 [sU al (d2.toList.set i x1) cl] (by kernel_rfl) rfl rfl rfl rfl (by kernel_rfl) (by kernel_rfl) encU_len (by decide) rfl (by (simp; omega)) rfl ?_)
    refine A.sv 0 (vS al (d2.toList.set i x1) cl) (cgN (by simp)) (A.sv 16 (vS al (d2.toList.set i x1) cl) (cgN (by simp)) ?_)
    refine A.stage ?_
    refine A.dP 1 [.ix] [14] [16, 17, 21, 26] [(27, (.pointer (some ((at0 al).add (j * 1)))))] [] (fun κ => κ.ix al ((d2.toList.set i x1).length) (j : Int) ∧ True) ⟨(ixOf encU_len (by decide) (rd_sl (i := 0) rfl) (by (simp; omega))), trivial⟩ ?_
    refine A.only2 15 rfl (by kernel_rfl) (A.storeSl (enc := encU) (xs := (d2.toList.set i x1)) 0 j x2 [sU al ((d2.toList.set i x1).set j x2) cl] (by kernel_rfl) rfl rfl rfl rfl (by kernel_rfl) (by kernel_rfl) encU_len (by decide) rfl (by (simp; omega)) rfl ?_)
    refine A.sv 0 (vS al ((d2.toList.set i x1).set j x2) cl) (cgN (by simp)) ?_
    refine A.stage ?_
    refine A.fin2 (by kernel_rfl) ?_
    have hcv3 : ((d2.toList.set i x1).set j x2) = (swp d2 i j).toList := by exact swp_list hx2 hx1
    refine A.setH [sU al ((swp d2 i j).toList) cl] (cc (slC hcv3) rfl) ?_
    refine A.sv 0 (vS al ((swp d2 i j).toList) cl) (cgL hcv3) ?_
    refine tsr (A.gk [.p, .w ((i + 1 : Nat) : Int), .p] [25, 27] [(6, c_ (i + 1 : Nat))] [] (fun κ => (IntKind.i64.wrap ((i : Int) + 1) = ((i + 1 : Nat) : Int)) ∧ True) ⟨((wrap_i64 (e := (i : Int) + 1) (by (constructor <;> omega))).trans (by rfl : ((i : Int) + 1 : Int) = ((i + 1 : Nat) : Int))), trivial⟩ ?_)
    refine tr (A.gk [.p, .w ((j - 1 : Nat) : Int), .p] [] [(7, c_ (j - 1 : Nat))] [] (fun κ => (IntKind.i64.wrap ((j : Int) - 1) = ((j - 1 : Nat) : Int)) ∧ True) ⟨((wrap_i64 (e := (j : Int) - 1) (by (constructor <;> omega))).trans (by omega : ((j : Int) - 1 : Int) = ((j - 1 : Nat) : Int))), trivial⟩ ?_)
    refine A.bn (A.tn (A.next ((i + 1 : Nat), (j - 1 : Nat), swp d2 i j) ⟨(by (rw [rev_step (by omega)] at he; exact he)), (by (rw [swp_sz]; omega)), (by omega)⟩ (by (simp; omega)) ?_))
    exact A.hK [0]
  have p1 := of_decide_eq_false e1
  refine A.exit (A.te (A.te (A.bh (A.postKn [0] [] (fun aa ww rr ss => trivial) (d2) ?_ ?_ (by kernel_rfl)))))
  · rfl
  show d2 = reverseRange d a b ∧ d2.size = d.size
  (rw [rev_stop (by omega)] at he; exact ⟨he, hz⟩)

theorem ord2_spec (al : Option Addr) (d : Array Int) (cl : Nat) (a b bs s : Nat) (ha : a < d.size) (hb : b < d.size) (hS : d.size ≤ 100000) (hs9 : s ≤ 100) (w : World) (hs : HS w (feet [sU al d.toList cl, blk bs [c_ s] 3]) [sU al d.toList cl, blk bs [c_ s] 3] w) :
    Calls Try.prog 170 #[vS al d.toList cl, c_ a, c_ b, p_ bs] w fun e w' => ∃ zz, e = .returned ((fun (zz : Nat × Nat × Nat) => match zz with | (x', y', t') => (.tuple #[c_ x', c_ y'])) zz) ∧ (fun (zz : Nat × Nat × Nat) => match zz with | (x', y', t') => order2 ltInt d a b s = (x', y', t')) zz ∧ Turn [sU al d.toList cl, blk bs [c_ s] 3] ((fun (zz : Nat × Nat × Nat) => match zz with | (x', y', t') => [sU al d.toList cl, blk bs [c_ t'] 3]) zz) w w' := by
  refine calls_of (args := [vS al d.toList cl, c_ a, c_ b, p_ bs]) (penv [vS al d.toList cl, c_ a, c_ b, p_ bs]) (feet [sU al d.toList cl, blk bs [c_ s] 3]) [sU al d.toList cl, blk bs [c_ s] 3] Try.func170 rfl rfl (look_penv _) hs ?_
  refine A.sr (A.g [.p, .p] [] [] ?_)
  refine A.tn (A.seq (A.seq ?_))
  obtain ⟨x1, hx1⟩ : ∃ x, (d.toList)[b]? = some x := ⟨_, List.getElem?_eq_getElem (by omega)⟩
  obtain ⟨x2, hx2⟩ : ∃ x, (d.toList)[a]? = some x := ⟨_, List.getElem?_eq_getElem (by omega)⟩
  refine A.dA [.p, .p, .ix, .rd [u_ x1], .p, .p, .ix, .rd [u_ x2], .cq (b_ (decide (x1 < x2)))] [0, 1, 2, 3, 4, 5, 6, 7, 8] [0] [(18, b_ (decide (x1 < x2)))] [] (fun κ => κ.ix al d.toList.length (b : Int) ∧ κ.rd ((at0 al).add (b * 1)) [u_ x1] ∧ κ.ix al d.toList.length (a : Int) ∧ κ.rd ((at0 al).add (a * 1)) [u_ x2] ∧ κ.call 155 [u_ x1, u_ x2] (b_ (decide (x1 < x2))) ∧ True) ⟨(ixOf encU_len (by decide) (rd_sl (i := 0) rfl) (by omega)), reads_at0 (vs := [u_ x1]) encU_len (rd_sl (i := 0) rfl) hx1 (Nat.le_of_ble_eq_true rfl) rfl, ixOf encU_len (by decide) (rd_sl (i := 0) rfl) (by omega), reads_at0 (vs := [u_ x2]) encU_len (rd_sl (i := 0) rfl) hx2 (Nat.le_of_ble_eq_true rfl) rfl, (fun ww ss => less_spec x1 x2 ww), trivial⟩ ?_
  refine A.tn (A.cn (decide (x1 < x2)) (fun e1 => ?_) (fun e1 => ?_))
  · have p1 := of_decide_eq_true e1
    refine A.sr (A.gsk [.p, .p, .ld 1, .w ((s + 1 : Nat) : Int), .p, .st 1] [3, 18] [] [(1, blk bs [c_ (s + 1 : Nat)] 3)] [bs, bs] (fun κ => (IntKind.i64.wrap ((s : Int) + 1) = ((s + 1 : Nat) : Int)) ∧ True) ⟨((wrap_i64 (e := (s : Int) + 1) (by (constructor <;> omega))).trans (by rfl : ((s : Int) + 1 : Int) = ((s + 1 : Nat) : Int))), trivial⟩ ?_)
    refine tsr (A.g [.p, .p, .p, .p] [1, 2] [(8, c_ b), (9, c_ a)] ?_)
    refine A.tn (A.ret (A.tr (A.pK [0, 0] [c_ b, c_ a] (b, a, (s + 1 : Nat)) ?_ ?_)))
    · rfl
    show order2 ltInt d a b s = (b, a, (s + 1 : Nat))
    exact ord2_t (by assumption) (by assumption) (by omega)
  have p1 := of_decide_eq_false e1
  refine A.skip (tsr (A.g [.p, .p, .p, .p] [1, 2, 3, 18] [(8, c_ a), (9, c_ b)] ?_))
  refine A.tn (A.ret (A.pK [0, 0] [c_ a, c_ b] (a, b, s) ?_ ?_))
  · rfl
  show order2 ltInt d a b s = (a, b, s)
  exact ord2_f (by assumption) (by assumption) (by omega)

theorem med_spec (al : Option Addr) (d : Array Int) (cl : Nat) (a b c bs s : Nat) (ha : a < d.size) (hb : b < d.size) (hc : c < d.size) (hS : d.size ≤ 100000) (hs9 : s ≤ 90) (w : World) (hs : HS w (feet [sU al d.toList cl, blk bs [c_ s] 3]) [sU al d.toList cl, blk bs [c_ s] 3] w) :
    Calls Try.prog 167 #[vS al d.toList cl, c_ a, c_ b, c_ c, p_ bs] w fun e w' => ∃ zz, e = .returned ((fun (zz : Nat × Nat) => match zz with | (m', t') => (c_ m')) zz) ∧ (fun (zz : Nat × Nat) => match zz with | (m', t') => median ltInt d a b c s = (m', t')) zz ∧ Turn [sU al d.toList cl, blk bs [c_ s] 3] ((fun (zz : Nat × Nat) => match zz with | (m', t') => [sU al d.toList cl, blk bs [c_ t'] 3]) zz) w w' := by
  refine calls_of (args := [vS al d.toList cl, c_ a, c_ b, c_ c, p_ bs]) (penv [vS al d.toList cl, c_ a, c_ b, c_ c, p_ bs]) (feet [sU al d.toList cl, blk bs [c_ s] 3]) [sU al d.toList cl, blk bs [c_ s] 3] Try.func167 rfl rfl (look_penv _) hs ?_
  refine A.sr (A.g [.p] [] [] ?_)
  refine tsr (A.gp [.p, .p, .p, .p] [] [(12, vS al d.toList cl), (13, c_ a), (14, c_ b), (15, p_ bs)] ?_)
  refine A.cons (A.cT (some 16) [vS al d.toList cl, c_ a, c_ b, p_ bs] [0, 0] ((fun zz => match zz with | (x'1, y'2, t'3) => (.tuple #[c_ x'1, c_ y'2]))) ((fun zz => match zz with | (x'1, y'2, t'3) => order2 ltInt d a b s = (x'1, y'2, t'3))) ((fun zz => match zz with | (x'1, y'2, t'3) => [sU al d.toList cl, blk bs [c_ t'3] 3])) (fun ww ss hh => ord2_spec al d cl a b bs s (by assumption) (by assumption) (by assumption) (by omega) ww hh) ?_)
  rintro ⟨x'1, y'2, t'3⟩ hz1
  have hz1m := order2_mem ltInt d a b s; rw [hz1] at hz1m; simp only [] at hz1m; have hz1c := order2_count (lt := ltInt) d a b s; rw [hz1] at hz1c; simp only [] at hz1c
  refine A.g [.p, .p, .p, .p, .p] [12, 13, 14, 15, 16] [(1, c_ x'1), (2, c_ y'2)] ?_
  refine tsr (A.gp [.p, .p, .p, .p] [3] [(20, vS al d.toList cl), (21, c_ y'2), (22, c_ c), (23, p_ bs)] ?_)
  refine A.cons (A.cT (some 24) [vS al d.toList cl, c_ y'2, c_ c, p_ bs] [0, 0] ((fun zz => match zz with | (x'4, y'5, t'6) => (.tuple #[c_ x'4, c_ y'5]))) ((fun zz => match zz with | (x'4, y'5, t'6) => order2 ltInt d y'2 c t'3 = (x'4, y'5, t'6))) ((fun zz => match zz with | (x'4, y'5, t'6) => [sU al d.toList cl, blk bs [c_ t'6] 3])) (fun ww ss hh => ord2_spec al d cl y'2 c bs t'3 (by omega) (by assumption) (by assumption) (by omega) ww hh) ?_)
  rintro ⟨x'4, y'5, t'6⟩ hz2
  have hz2m := order2_mem ltInt d y'2 c t'3; rw [hz2] at hz2m; simp only [] at hz2m; have hz2c := order2_count (lt := ltInt) d y'2 c t'3; rw [hz2] at hz2c; simp only [] at hz2c
  refine A.g [.p, .p, .p, .p, .p] [20, 21, 22, 23, 24] [(2, c_ x'4)] ?_
  refine tsr (A.gp [.p, .p, .p, .p] [0, 1, 4] [(28, vS al d.toList cl), (29, c_ x'1), (30, c_ x'4), (31, p_ bs)] ?_)
  refine A.cons (A.cT (some 32) [vS al d.toList cl, c_ x'1, c_ x'4, p_ bs] [0, 0] ((fun zz => match zz with | (x'7, y'8, t'9) => (.tuple #[c_ x'7, c_ y'8]))) ((fun zz => match zz with | (x'7, y'8, t'9) => order2 ltInt d x'1 x'4 t'6 = (x'7, y'8, t'9))) ((fun zz => match zz with | (x'7, y'8, t'9) => [sU al d.toList cl, blk bs [c_ t'9] 3])) (fun ww ss hh => ord2_spec al d cl x'1 x'4 bs t'6 (by omega) (by omega) (by assumption) (by omega) ww hh) ?_)
  rintro ⟨x'7, y'8, t'9⟩ hz3
  have hz3m := order2_mem ltInt d x'1 x'4 t'6; rw [hz3] at hz3m; simp only [] at hz3m; have hz3c := order2_count (lt := ltInt) d x'1 x'4 t'6; rw [hz3] at hz3c; simp only [] at hz3c
  refine A.g [.p, .p, .p, .p, .p] [28, 29, 30, 31, 32] [(2, c_ y'8)] ?_
  refine tsr (A.g [.p, .p] [2] [(10, c_ y'8)] ?_)
  refine A.tn (A.ret (A.pK [0, 0] [c_ y'8] (y'8, t'9) ?_ ?_))
  · rfl
  show median ltInt d a b c s = (y'8, t'9)
  (unfold median; simp only [*])

theorem medA_spec (al : Option Addr) (d : Array Int) (cl : Nat) (a bs s : Nat) (ha : 1 ≤ a ∧ a + 1 < d.size) (hS : d.size ≤ 100000) (hs9 : s ≤ 90) (w : World) (hs : HS w (feet [sU al d.toList cl, blk bs [c_ s] 3]) [sU al d.toList cl, blk bs [c_ s] 3] w) :
    Calls Try.prog 166 #[vS al d.toList cl, c_ a, p_ bs] w fun e w' => ∃ zz, e = .returned ((fun (zz : Nat × Nat) => match zz with | (m', t') => (c_ m')) zz) ∧ (fun (zz : Nat × Nat) => match zz with | (m', t') => medianAdjacent ltInt d a s = (m', t')) zz ∧ Turn [sU al d.toList cl, blk bs [c_ s] 3] ((fun (zz : Nat × Nat) => match zz with | (m', t') => [sU al d.toList cl, blk bs [c_ t'] 3]) zz) w w' := by
  refine calls_of (args := [vS al d.toList cl, c_ a, p_ bs]) (penv [vS al d.toList cl, c_ a, p_ bs]) (feet [sU al d.toList cl, blk bs [c_ s] 3]) [sU al d.toList cl, blk bs [c_ s] 3] Try.func166 rfl rfl (look_penv _) hs ?_
  refine A.sr (A.g [.p] [] [] ?_)
  refine tsr (A.gpk [.p, .p, .w ((a - 1 : Nat) : Int), .p, .p, .w ((a + 1 : Nat) : Int), .p] [0, 1, 2] [(7, vS al d.toList cl), (9, c_ (a - 1 : Nat)), (10, c_ a), (12, c_ (a + 1 : Nat)), (13, p_ bs)] [] (fun κ => (IntKind.i64.wrap ((a : Int) - 1) = ((a - 1 : Nat) : Int)) ∧ (IntKind.i64.wrap ((a : Int) + 1) = ((a + 1 : Nat) : Int)) ∧ True) ⟨((wrap_i64 (e := (a : Int) - 1) (by (constructor <;> omega))).trans (by omega : ((a : Int) - 1 : Int) = ((a - 1 : Nat) : Int))), (wrap_i64 (e := (a : Int) + 1) (by (constructor <;> omega))).trans (by rfl : ((a : Int) + 1 : Int) = ((a + 1 : Nat) : Int)), trivial⟩ ?_)
  refine A.cons (A.cT (some 14) [vS al d.toList cl, c_ (a - 1 : Nat), c_ a, c_ (a + 1 : Nat), p_ bs] [0, 0] ((fun zz => match zz with | (m'1, t'2) => (c_ m'1))) ((fun zz => match zz with | (m'1, t'2) => median ltInt d (a - 1 : Nat) a (a + 1 : Nat) s = (m'1, t'2))) ((fun zz => match zz with | (m'1, t'2) => [sU al d.toList cl, blk bs [c_ t'2] 3])) (fun ww ss hh => med_spec al d cl (a - 1 : Nat) a (a + 1 : Nat) bs s (by omega) (by omega) (by omega) (by assumption) (by assumption) ww hh) ?_)
  rintro ⟨m'1, t'2⟩ hz1
  have hz1m := median_mem ltInt d (a - 1 : Nat) a (a + 1 : Nat) s; rw [hz1] at hz1m; simp only [] at hz1m; have hz1c := median_count (lt := ltInt) d (a - 1 : Nat) a (a + 1 : Nat) s; rw [hz1] at hz1c; simp only [] at hz1c
  refine A.g [.p] [7, 9, 10, 12, 13, 14] [(6, c_ m'1)] ?_
  refine A.tn (A.ret (A.pK [0, 0] [c_ m'1] (m'1, t'2) ?_ ?_))
  · rfl
  show medianAdjacent ltInt d a s = (m'1, t'2)
  (unfold medianAdjacent; assumption)
end Go.Proofs.Ytinnnoimmioaiaa
