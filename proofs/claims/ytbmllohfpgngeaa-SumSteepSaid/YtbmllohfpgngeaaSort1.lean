/- What the functions of the sort of numbers do, proved operation by operation, for all arguments, under the conditions that each theorem states. -/
import Derived.Sort.LotA
import Derived.Sort.LotB
import Derived.Sort.LotC
import Derived.Sort.LotD1
import Derived.Sort.LotD3
import Derived.Sort.LotD4
import Derived.Test.YtbmllohfpgngeaaProg
import Derived.Test.YtbmllohfpgngeaaVp
namespace Go.Proofs.Ytbmllohfpgngeaa
open Go V Go.Sort
set_option linter.unusedVariables false
set_option linter.unusedSimpArgs false
def encU (x : Int) : List Value := [(u_ x)]
theorem encU_len (x : Int) : (encU x).length = 1 := rfl
theorem encU_one (x : Int) : (encU x).all Value.oneCell' = true := rfl
abbrev sU (A : Option Addr) (xs : List Int) (c : Nat) : V.Item := sl A xs.length c 23 1 (V.flat encU xs)
theorem getE {d : Array Int} {i : Nat} {x : Int} (h : d.toList[i]? = some x) : d[i]! = x := by
  rw [Array.getElem?_toList] at h
  obtain ⟨h1, h2⟩ := Array.getElem?_eq_some_iff.1 h
  rw [getElem!_pos d i h1, h2]
theorem getlt {d : Array Int} {i : Nat} {x : Int} (h : d.toList[i]? = some x) : i < d.size := by
  rw [Array.getElem?_toList] at h; exact (Array.getElem?_eq_some_iff.1 h).1
theorem swp_list {d : Array Int} {i j : Nat} {x y : Int} (hx : d.toList[i]? = some x) (hy : d.toList[j]? = some y) : (d.toList.set i y).set j x = (swp d i j).toList := by
  unfold swp; rw [getE hx, getE hy]; simp [Array.toList_setIfInBounds]
theorem swp_sz (d : Array Int) (i j : Nat) : (swp d i j).size = d.size := swp_size d i j
theorem ins_step {d : Array Int} {a j : Nat} {x y : Int} (hj : a < j) (hx : d.toList[j]? = some x) (hy : d.toList[j - 1]? = some y) (h : x < y) : insInner ltInt a j d = insInner ltInt a (j - 1) (swp d j (j - 1)) := by
  obtain ⟨k, rfl⟩ : ∃ k, j = k + 1 := ⟨j - 1, by omega⟩
  rw [Nat.add_sub_cancel] at hy ⊢
  rw [insInner, getE hx, getE hy, if_pos]; simp [ltInt]; omega
theorem ins_stop {d : Array Int} {a j : Nat} (h : ¬ a < j) : insInner ltInt a j d = d := by
  cases j with
  | zero => rfl
  | succ k => rw [insInner, if_neg]; simp; omega
theorem ins_stop2 {d : Array Int} {a j : Nat} {x y : Int} (hj : a < j) (hx : d.toList[j]? = some x) (hy : d.toList[j - 1]? = some y) (h : ¬ x < y) : insInner ltInt a j d = d := by
  obtain ⟨k, rfl⟩ : ∃ k, j = k + 1 := ⟨j - 1, by omega⟩
  rw [Nat.add_sub_cancel] at hy
  rw [insInner, getE hx, getE hy, if_neg]; simp [ltInt]; omega
theorem insO_step {d : Array Int} {a b i : Nat} (h : i < b) : insOuter ltInt a b i d = insOuter ltInt a b (i + 1) (insInner ltInt a i d) := by rw [insOuter, if_pos h]
theorem insO_stop {d : Array Int} {a b i : Nat} (h : ¬ i < b) : insOuter ltInt a b i d = d := by rw [insOuter, if_neg h]
theorem rev_step {d : Array Int} {i j : Nat} (h : i < j) : reverseLoop i j d = reverseLoop (i + 1) (j - 1) (swp d i j) := by rw [reverseLoop, if_pos h]
theorem rev_stop {d : Array Int} {i j : Nat} (h : ¬ i < j) : reverseLoop i j d = d := by rw [reverseLoop, if_neg h]
theorem rev_size (a b : Nat) : ∀ (n i j : Nat) (d : Array Int), j - i ≤ n → (reverseLoop i j d).size = d.size
  | 0, i, j, d, h => by rw [rev_stop (by omega)]
  | n + 1, i, j, d, h => by
    by_cases g : i < j
    · rw [rev_step g, rev_size a b n (i + 1) (j - 1) _ (by omega), swp_sz]
    · rw [rev_stop g]
theorem ord2_t {d : Array Int} {a b s : Nat} {x y : Int} (hx : d.toList[b]? = some x) (hy : d.toList[a]? = some y) (h : x < y) : order2 ltInt d a b s = (b, a, s + 1) := by
  unfold order2; rw [getE hx, getE hy, if_pos]; simpa [ltInt] using h
theorem ord2_f {d : Array Int} {a b s : Nat} {x y : Int} (hx : d.toList[b]? = some x) (hy : d.toList[a]? = some y) (h : ¬ x < y) : order2 ltInt d a b s = (a, b, s) := by
  unfold order2; rw [getE hx, getE hy, if_neg]; simpa [ltInt] using h
theorem tdivN4 (n : Nat) : (n : Int).tdiv 4 = ((n / 4 : Nat) : Int) := rfl
theorem tdivN2 (n : Nat) : (n : Int).tdiv 2 = ((n / 2 : Nat) : Int) := rfl
theorem tdivN8 (n : Nat) : (n : Int).tdiv 8 = ((n / 8 : Nat) : Int) := rfl

set_option maxHeartbeats 4000000 in
set_option maxRecDepth 100000 in
theorem less_spec (x y : Int) (w : World) :
    Calls Try.prog 48 #[u_ x, u_ y] w fun e w' => e = .returned (b_ (decide (x < y))) ∧ Fr [] w w' := by
  refine calls_of (args := [u_ x, u_ y]) (penv [u_ x, u_ y]) [] [] Try.func48 rfl rfl (look_penv _) (HS.nil w) ?_
  refine A.norm [(0, u_ x), (1, u_ y)] [] (by exact ⟨rfl, rfl, trivial⟩) rfl ?_
  refine A.seq (A.region (A.goA [.p] [(0, u_ x), (1, u_ y), (4, b_ false)] [] T0 (by kernel_rfl) trivial ?_))
  refine A.tn (A.seq (A.region (A.goP [.p] [(0, u_ x), (1, u_ y), (4, b_ false), (5, u_ x)] [] T0 (by kernel_rfl) trivial ?_)))
  refine A.cons (A.inlX (some 6) [u_ x] [(0, u_ x)] (by kernel_rfl) rfl Try.func58 rfl rfl ?_)
  refine A.seq (A.region (A.goA [.p] [(0, u_ x), (2, b_ false)] [] T0 (by kernel_rfl) trivial ?_))
  refine A.tn (A.seq (A.region (A.goA [.p, .p, .p, .p] [(0, u_ x), (2, b_ (x != x))] [] T0 (by kernel_rfl) trivial ?_)))
  refine A.tn (A.ret (A.post [b_ (x != x)] (fun aa ww rr ss => ⟨rv_tmp rr rfl, trivial⟩) (A.back (by kernel_rfl) ?_)))
  refine A.goP [.p] [(0, u_ x), (1, u_ y), (4, b_ false), (7, b_ (x != x))] [] T0 (by kernel_rfl) trivial ?_
  refine A.bool (x != x) (fun e1 => ?_) (fun e1 => ?_)
  · exact absurd e1 (by simp)
  · skip
    refine A.sub [(0, u_ x), (1, u_ y), (4, b_ false), (7, b_ false)] (by exact ⟨rfl, rfl, rfl, congrArg (fun z => some (Value.bool z)) e1, trivial⟩) ?_
    refine A.goA [.sk, .sk, .sk, .p, .p, .p, .p, .p, .p, .p] [(0, u_ x), (1, u_ y), (4, b_ (decide (x < y)))] [] T0 (by kernel_rfl) trivial ?_
    refine A.tn (A.ret (A.postQ [b_ (decide (x < y))] (fun aa ww rr ss => ⟨rv_tmp rr rfl, trivial⟩) ?_))
    rfl

set_option maxHeartbeats 4000000 in
set_option maxRecDepth 100000 in
theorem insS_spec (al : Option Addr) (d : Array Int) (cl : Nat) (a b : Nat) (hb : a ≤ b ∧ b ≤ d.size) (hS : d.size ≤ 100000) (w : World) (hs : HS w (feet [sU al d.toList cl]) [sU al d.toList cl] w) :
    Calls Try.prog 42 #[vS al d.toList cl, c_ a, c_ b] w fun e w' => ∃ zz, e = .returned ((fun (d' : (Array Int)) => (.tuple #[])) zz) ∧ (fun (d' : (Array Int)) => d' = insertionSort ltInt d a b ∧ d'.size = d.size) zz ∧ Turn [sU al d.toList cl] ((fun (d' : (Array Int)) => [sU al d'.toList cl]) zz) w w' := by
  refine calls_of (args := [vS al d.toList cl, c_ a, c_ b]) (penv [vS al d.toList cl, c_ a, c_ b]) (feet [sU al d.toList cl]) [sU al d.toList cl] Try.func42 rfl rfl (look_penv _) hs ?_
  refine A.norm [(0, vS al d.toList cl), (1, c_ a), (2, c_ b)] [sU al d.toList cl] (by exact ⟨rfl, rfl, rfl, trivial⟩) rfl ?_
  refine A.seq (A.region (A.goA [.p, .w ((a + 1 : Nat) : Int), .p] [(0, vS al d.toList cl), (1, c_ a), (2, c_ b), (6, c_ (a + 1 : Nat))] [] (fun κ => (IntKind.i64.wrap ((a : Int) + 1) = ((a + 1 : Nat) : Int)) ∧ True) (by kernel_rfl) ⟨((wrap_i64 (e := (a : Int) + 1) (by first | (constructor <;> omega) | (rw [tdivN4]; constructor <;> omega) | (rw [tdivN2]; constructor <;> omega) | (rw [tdivN8]; constructor <;> omega))).trans (by first | rfl | omega | (simp at h_; omega) : ((a : Int) + 1 : Int) = ((a + 1 : Nat) : Int))), trivial⟩ ?_))
  refine A.tn (A.block (A.loop (fun (zz : Nat × (Array Int)) => match zz with | (i, d2) => [(1, c_ a), (2, c_ b), (6, c_ i), (0, vS al d2.toList cl)]) (fun (zz : Nat × (Array Int)) => match zz with | (i, d2) => [sU al d2.toList cl]) (fun (zz : Nat × (Array Int)) => match zz with | (i, d2) => (insOuter ltInt a b i d2 = insertionSort ltInt d a b) ∧ (d2.size = d.size)) (fun (zz : Nat × (Array Int)) => match zz with | (i, d2) => b - i) ((a + 1 : Nat), d) ⟨(by rfl), (by rfl)⟩ ?_ ?_))
  · exact A.hereK [0] (by exact ⟨rfl, rfl, rfl, rfl, trivial⟩) (by kernel_rfl)
  · rintro ⟨i, d2⟩ ⟨he, hz⟩
    refine A.norm [(1, c_ a), (2, c_ b), (6, c_ i), (0, vS al d2.toList cl)] [sU al d2.toList cl] (by exact ⟨rfl, rfl, rfl, rfl, trivial⟩) rfl ?_
    refine A.seq (A.seq (A.region (A.goA [.p, .p, .p] [(1, c_ a), (2, c_ b), (6, c_ i), (0, vS al d2.toList cl), (12, b_ (decide ((i : Int) < (b : Int))))] [] T0 (by kernel_rfl) trivial ?_)))
    refine A.tn (A.cond (E := decide ((i : Int) < (b : Int))) rfl (fun e1 => ?_) (fun e1 => ?_))
    · skip
      have p1 := of_decide_eq_true e1
      refine A.skip (A.tn (A.seq (A.block (A.seq (A.region (A.goA [.p, .p] [(1, c_ a), (2, c_ b), (6, c_ i), (0, vS al d2.toList cl), (12, b_ (decide ((i : Int) < (b : Int)))), (7, c_ i)] [] T0 (by kernel_rfl) trivial ?_))))))
      refine A.tn (A.block (A.loop (fun (zz : Nat × (Array Int)) => match zz with | (j, d3) => [(1, c_ a), (2, c_ b), (6, c_ i), (7, c_ j), (0, vS al d3.toList cl)]) (fun (zz : Nat × (Array Int)) => match zz with | (j, d3) => [sU al d3.toList cl]) (fun (zz : Nat × (Array Int)) => match zz with | (j, d3) => (insInner ltInt a j d3 = insInner ltInt a i d2) ∧ (d3.size = d.size) ∧ (j ≤ i)) (fun (zz : Nat × (Array Int)) => match zz with | (j, d3) => j) (i, d2) ⟨(by rfl), (by omega), (by omega)⟩ ?_ ?_))
      · exact A.hereK [0] (by exact ⟨rfl, rfl, rfl, rfl, rfl, trivial⟩) (by kernel_rfl)
      · rintro ⟨j, d3⟩ ⟨he3, hz3, hj⟩
        refine A.norm [(1, c_ a), (2, c_ b), (6, c_ i), (7, c_ j), (0, vS al d3.toList cl)] [sU al d3.toList cl] (by exact ⟨rfl, rfl, rfl, rfl, rfl, trivial⟩) rfl ?_
        refine A.seq (A.seq (A.draw2 [] 15 (by kernel_rfl) ?_))
        refine A.drawP 11 [.p, .p, .p, .p] [0, 1, 2, 3] [(1, c_ a), (2, c_ b), (6, c_ i), (7, c_ j), (0, vS al d3.toList cl), (19, b_ (decide ((j : Int) > (a : Int))))] [] T0 (by kernel_rfl) trivial ?_
        refine A.bool (decide ((j : Int) > (a : Int))) (fun e2 => ?_) (fun e2 => ?_)
        · skip
          have p2 := of_decide_eq_true e2
          refine A.sub [(1, c_ a), (2, c_ b), (6, c_ i), (7, c_ j), (0, vS al d3.toList cl), (19, b_ true)] (by exact ⟨rfl, rfl, rfl, rfl, rfl, congrArg (fun z => some (Value.bool z)) e2, trivial⟩) ?_
          obtain ⟨x1, hx1⟩ : ∃ x, (d3.toList)[j]? = some x := ⟨_, List.getElem?_eq_getElem (by first | omega | (simp; omega))⟩
          obtain ⟨x2, hx2⟩ : ∃ x, (d3.toList)[(j - 1 : Nat)]? = some x := ⟨_, List.getElem?_eq_getElem (by first | omega | (simp; omega))⟩
          refine A.drawP 0 [.p, .p, .ix, .rd [u_ x1], .p, .p, .w ((j - 1 : Nat) : Int), .ix, .rd [u_ x2], .cq (b_ (decide (x1 < x2))), .p] [4, 5, 6, 7, 8, 9, 10, 11, 12, 13, 14] [(1, c_ a), (2, c_ b), (6, c_ i), (7, c_ j), (0, vS al d3.toList cl), (30, b_ (decide (x1 < x2)))] [] (fun κ => κ.ix al d3.toList.length (j : Int) ∧ κ.rd ((at0 al).add (j * 1)) [u_ x1] ∧ (IntKind.i64.wrap ((j : Int) - 1) = ((j - 1 : Nat) : Int)) ∧ κ.ix al d3.toList.length ((j - 1 : Nat) : Int) ∧ κ.rd ((at0 al).add ((j - 1 : Nat) * 1)) [u_ x2] ∧ κ.call 48 [u_ x1, u_ x2] (b_ (decide (x1 < x2))) ∧ True) (by kernel_rfl) ⟨(ixOf encU_len (by decide) (rd_sl (i := 0) rfl) (by first | omega | (simp; omega))), reads_at0 (vs := [u_ x1]) encU_len (rd_sl (i := 0) rfl) hx1 (Nat.le_of_ble_eq_true rfl) rfl, (wrap_i64 (e := (j : Int) - 1) (by first | (constructor <;> omega) | (rw [tdivN4]; constructor <;> omega) | (rw [tdivN2]; constructor <;> omega) | (rw [tdivN8]; constructor <;> omega))).trans (by first | rfl | omega | (simp at h_; omega) : ((j : Int) - 1 : Int) = ((j - 1 : Nat) : Int)), ixOf encU_len (by decide) (rd_sl (i := 0) rfl) (by first | omega | (simp; omega)), reads_at0 (vs := [u_ x2]) encU_len (rd_sl (i := 0) rfl) hx2 (Nat.le_of_ble_eq_true rfl) rfl, (fun ww ss => less_spec x1 x2 ww), trivial⟩ ?_
          refine A.fin2 (by kernel_rfl) ?_
          refine A.tn (A.cond (E := decide (x1 < x2)) rfl (fun e3 => ?_) (fun e3 => ?_))
          · skip
            have p3 := of_decide_eq_true e3
            refine A.skip (A.tn (A.seq (A.block (A.draw2 [15, 17] 18 (by kernel_rfl) ?_))))
            refine A.drawP 3 [.p, .p, .p, .p, .w ((j - 1 : Nat) : Int), .p, .p, .w ((j - 1 : Nat) : Int), .ix, .rd [u_ x2], .p, .p, .ix, .rd [u_ x1], .ix] [0, 1, 2, 3, 4, 5, 6, 7, 8, 9, 10, 11, 12, 13, 14] [(1, c_ a), (2, c_ b), (6, c_ i), (7, c_ j), (0, vS al d3.toList cl), (30, b_ (decide (x1 < x2))), (35, vS al d3.toList cl), (37, c_ (j - 1 : Nat)), (42, u_ x2), (46, u_ x1), (47, (.pointer (some ((at0 al).add (j * 1)))))] [] (fun κ => (IntKind.i64.wrap ((j : Int) - 1) = ((j - 1 : Nat) : Int)) ∧ (IntKind.i64.wrap ((j : Int) - 1) = ((j - 1 : Nat) : Int)) ∧ κ.ix al d3.toList.length ((j - 1 : Nat) : Int) ∧ κ.rd ((at0 al).add ((j - 1 : Nat) * 1)) [u_ x2] ∧ κ.ix al d3.toList.length (j : Int) ∧ κ.rd ((at0 al).add (j * 1)) [u_ x1] ∧ κ.ix al d3.toList.length (j : Int) ∧ True) (by kernel_rfl) ⟨((wrap_i64 (e := (j : Int) - 1) (by first | (constructor <;> omega) | (rw [tdivN4]; constructor <;> omega) | (rw [tdivN2]; constructor <;> omega) | (rw [tdivN8]; constructor <;> omega))).trans (by first | rfl | omega | (simp at h_; omega) : ((j : Int) - 1 : Int) = ((j - 1 : Nat) : Int))), (wrap_i64 (e := (j : Int) - 1) (by first | (constructor <;> omega) | (rw [tdivN4]; constructor <;> omega) | (rw [tdivN2]; constructor <;> omega) | (rw [tdivN8]; constructor <;> omega))).trans (by first | rfl | omega | (simp at h_; omega) : ((j : Int) - 1 : Int) = ((j - 1 : Nat) : Int)), ixOf encU_len (by decide) (rd_sl (i := 0) rfl) (by first | omega | (simp; omega)), reads_at0 (vs := [u_ x2]) encU_len (rd_sl (i := 0) rfl) hx2 (Nat.le_of_ble_eq_true rfl) rfl, ixOf encU_len (by decide) (rd_sl (i := 0) rfl) (by first | omega | (simp; omega)), reads_at0 (vs := [u_ x1]) encU_len (rd_sl (i := 0) rfl) hx1 (Nat.le_of_ble_eq_true rfl) rfl, ixOf encU_len (by decide) (rd_sl (i := 0) rfl) (by first | omega | (simp; omega)), trivial⟩ ?_
            refine A.only2 15 rfl (by kernel_rfl) (A.storeSl (enc := encU) (xs := d3.toList) 0 j x2 [sU al (d3.toList.set j x2) cl] (by kernel_rfl) rfl rfl rfl rfl (by kernel_rfl) (by kernel_rfl) encU_len (by decide) rfl (by first | omega | (simp; omega)) rfl ?_)
            refine A.sub [(1, c_ a), (2, c_ b), (6, c_ i), (7, c_ j), (0, vS al (d3.toList.set j x2) cl), (30, b_ (decide (x1 < x2))), (35, vS al (d3.toList.set j x2) cl), (37, c_ (j - 1 : Nat)), (42, u_ x2), (46, u_ x1), (47, (.pointer (some ((at0 al).add (j * 1)))))] (by exact ⟨rfl, rfl, rfl, rfl, congrArg (fun z_ : Nat => some (Value.slice al z_ cl)) (by simp : d3.toList.length = (d3.toList.set j x2).length), rfl, congrArg (fun z_ : Nat => some (Value.slice al z_ cl)) (by simp : d3.toList.length = (d3.toList.set j x2).length), rfl, rfl, rfl, rfl, trivial⟩) ?_
            refine A.stage ?_
            refine A.drawP 1 [.ix] [16] [(1, c_ a), (2, c_ b), (6, c_ i), (7, c_ j), (0, vS al (d3.toList.set j x2) cl), (30, b_ (decide (x1 < x2))), (46, u_ x1), (48, (.pointer (some ((at0 al).add ((j - 1 : Nat) * 1)))))] [] (fun κ => κ.ix al ((d3.toList.set j x2).length) ((j - 1 : Nat) : Int) ∧ True) (by kernel_rfl) ⟨(ixOf encU_len (by decide) (rd_sl (i := 0) rfl) (by first | omega | (simp; omega))), trivial⟩ ?_
            refine A.only2 17 rfl (by kernel_rfl) (A.storeSl (enc := encU) (xs := (d3.toList.set j x2)) 0 (j - 1 : Nat) x1 [sU al ((d3.toList.set j x2).set (j - 1 : Nat) x1) cl] (by kernel_rfl) rfl rfl rfl rfl (by kernel_rfl) (by kernel_rfl) encU_len (by decide) rfl (by first | omega | (simp; omega)) rfl ?_)
            refine A.sub [(1, c_ a), (2, c_ b), (6, c_ i), (7, c_ j), (0, vS al ((d3.toList.set j x2).set (j - 1 : Nat) x1) cl), (30, b_ (decide (x1 < x2))), (46, u_ x1), (48, (.pointer (some ((at0 al).add ((j - 1 : Nat) * 1)))))] (by exact ⟨rfl, rfl, rfl, rfl, congrArg (fun z_ : Nat => some (Value.slice al z_ cl)) (by simp : (d3.toList.set j x2).length = ((d3.toList.set j x2).set (j - 1 : Nat) x1).length), rfl, rfl, rfl, trivial⟩) ?_
            refine A.stage ?_
            refine A.fin2 (by kernel_rfl) ?_
            refine A.sub [(1, c_ a), (2, c_ b), (6, c_ i), (7, c_ j), (0, vS al ((d3.toList.set j x2).set (j - 1 : Nat) x1) cl), (30, b_ (decide (x1 < x2)))] (by exact ⟨rfl, rfl, rfl, rfl, rfl, rfl, trivial⟩) ?_
            have hcv3 : ((d3.toList.set j x2).set (j - 1 : Nat) x1) = (swp d3 j (j - 1 : Nat)).toList := by exact swp_list hx1 hx2
            refine A.setH [sU al ((swp d3 j (j - 1 : Nat)).toList) cl] (cc (slC hcv3) rfl) ?_
            refine A.sub [(1, c_ a), (2, c_ b), (6, c_ i), (7, c_ j), (0, vS al ((swp d3 j (j - 1 : Nat)).toList) cl), (30, b_ (decide (x1 < x2)))] (by exact ⟨rfl, rfl, rfl, rfl, congrArg (fun z_ : List Int => some (Value.slice al z_.length cl)) hcv3, rfl, trivial⟩) ?_
            refine A.bn (A.tn (A.region (A.goA [.p, .w ((j - 1 : Nat) : Int), .p] [(1, c_ a), (2, c_ b), (6, c_ i), (7, c_ (j - 1 : Nat)), (0, vS al ((swp d3 j (j - 1 : Nat)).toList) cl), (30, b_ (decide (x1 < x2)))] [] (fun κ => (IntKind.i64.wrap ((j : Int) - 1) = ((j - 1 : Nat) : Int)) ∧ True) (by kernel_rfl) ⟨((wrap_i64 (e := (j : Int) - 1) (by first | (constructor <;> omega) | (rw [tdivN4]; constructor <;> omega) | (rw [tdivN2]; constructor <;> omega) | (rw [tdivN8]; constructor <;> omega))).trans (by first | rfl | omega | (simp at h_; omega) : ((j : Int) - 1 : Int) = ((j - 1 : Nat) : Int))), trivial⟩ ?_)))
            refine A.tn (A.next ((j - 1 : Nat), swp d3 j (j - 1 : Nat)) ⟨(by exact (ins_step (by omega) (by assumption) (by assumption) (by omega)).symm.trans he3), (by (rw [swp_sz]; omega)), (by omega)⟩ (by first | omega | (simp; omega) | (simp_all; omega)) ?_)
            exact A.hereK [0] (by exact ⟨rfl, rfl, rfl, rfl, rfl, trivial⟩) (by kernel_rfl)
          · skip
            have p3 := of_decide_eq_false e3
            refine A.exit (A.te (A.te (A.bh (A.bn (A.tn (A.region (A.goA [.p, .w ((i + 1 : Nat) : Int), .p] [(1, c_ a), (2, c_ b), (6, c_ (i + 1 : Nat)), (7, c_ j), (0, vS al d3.toList cl), (30, b_ (decide (x1 < x2)))] [] (fun κ => (IntKind.i64.wrap ((i : Int) + 1) = ((i + 1 : Nat) : Int)) ∧ True) (by kernel_rfl) ⟨((wrap_i64 (e := (i : Int) + 1) (by first | (constructor <;> omega) | (rw [tdivN4]; constructor <;> omega) | (rw [tdivN2]; constructor <;> omega) | (rw [tdivN8]; constructor <;> omega))).trans (by first | rfl | omega | (simp at h_; omega) : ((i : Int) + 1 : Int) = ((i + 1 : Nat) : Int))), trivial⟩ ?_)))))))
            refine A.tn (A.next ((i + 1 : Nat), d3) ⟨(by exact (by rw [insO_step (by omega)] at he; first | (rw [← he3, ins_stop (by omega)] at he; exact he) | (rw [← he3, ins_stop2 (by omega) (by assumption) (by assumption) (by omega)] at he; exact he))), (by omega)⟩ (by first | omega | (simp; omega) | (simp_all; omega)) ?_)
            exact A.hereK [0] (by exact ⟨rfl, rfl, rfl, rfl, trivial⟩) (by kernel_rfl)
        · skip
          have p2 := of_decide_eq_false e2
          refine A.sub [(1, c_ a), (2, c_ b), (6, c_ i), (7, c_ j), (0, vS al d3.toList cl), (19, b_ false)] (by exact ⟨rfl, rfl, rfl, rfl, rfl, congrArg (fun z => some (Value.bool z)) e2, trivial⟩) ?_
          refine A.drawP 0 [.sk, .sk, .sk, .sk, .sk, .sk, .sk, .sk, .sk, .sk, .p] [4, 5, 6, 7, 8, 9, 10, 11, 12, 13, 14] [(1, c_ a), (2, c_ b), (6, c_ i), (7, c_ j), (0, vS al d3.toList cl), (30, b_ false)] [] T0 (by kernel_rfl) trivial ?_
          refine A.fin2 (by kernel_rfl) ?_
          refine A.tn (A.cond_f rfl (A.exit (A.te (A.te (A.bh (A.bn (A.tn (A.region (A.goA [.p, .w ((i + 1 : Nat) : Int), .p] [(1, c_ a), (2, c_ b), (6, c_ (i + 1 : Nat)), (7, c_ j), (0, vS al d3.toList cl), (30, b_ false)] [] (fun κ => (IntKind.i64.wrap ((i : Int) + 1) = ((i + 1 : Nat) : Int)) ∧ True) (by kernel_rfl) ⟨((wrap_i64 (e := (i : Int) + 1) (by first | (constructor <;> omega) | (rw [tdivN4]; constructor <;> omega) | (rw [tdivN2]; constructor <;> omega) | (rw [tdivN8]; constructor <;> omega))).trans (by first | rfl | omega | (simp at h_; omega) : ((i : Int) + 1 : Int) = ((i + 1 : Nat) : Int))), trivial⟩ ?_)))))))))
          refine A.tn (A.next ((i + 1 : Nat), d3) ⟨(by exact (by rw [insO_step (by omega)] at he; first | (rw [← he3, ins_stop (by omega)] at he; exact he) | (rw [← he3, ins_stop2 (by omega) (by assumption) (by assumption) (by omega)] at he; exact he))), (by omega)⟩ (by first | omega | (simp; omega) | (simp_all; omega)) ?_)
          exact A.hereK [0] (by exact ⟨rfl, rfl, rfl, rfl, trivial⟩) (by kernel_rfl)
    · skip
      have p1 := of_decide_eq_false e1
      refine A.exit (A.te (A.te (A.bh (A.postKn [0] [] (fun aa ww rr ss => trivial) (d2) ?_ ?_ (by kernel_rfl)))))
      · rfl
      · show d2 = insertionSort ltInt d a b ∧ d2.size = d.size
        (rw [insO_stop (by omega)] at he; exact ⟨he, hz⟩)

set_option maxHeartbeats 4000000 in
set_option maxRecDepth 100000 in
theorem revS_spec (al : Option Addr) (d : Array Int) (cl : Nat) (a b : Nat) (hb : b ≤ d.size ∧ 1 ≤ b) (hS : d.size ≤ 100000) (w : World) (hs : HS w (feet [sU al d.toList cl]) [sU al d.toList cl] w) :
    Calls Try.prog 46 #[vS al d.toList cl, c_ a, c_ b] w fun e w' => ∃ zz, e = .returned ((fun (d' : (Array Int)) => (.tuple #[])) zz) ∧ (fun (d' : (Array Int)) => d' = reverseRange d a b ∧ d'.size = d.size) zz ∧ Turn [sU al d.toList cl] ((fun (d' : (Array Int)) => [sU al d'.toList cl]) zz) w w' := by
  refine calls_of (args := [vS al d.toList cl, c_ a, c_ b]) (penv [vS al d.toList cl, c_ a, c_ b]) (feet [sU al d.toList cl]) [sU al d.toList cl] Try.func46 rfl rfl (look_penv _) hs ?_
  refine A.norm [(0, vS al d.toList cl), (1, c_ a), (2, c_ b)] [sU al d.toList cl] (by exact ⟨rfl, rfl, rfl, trivial⟩) rfl ?_
  refine A.seq (A.region (A.goA [.p, .p] [(0, vS al d.toList cl), (1, c_ a), (2, c_ b), (6, c_ a)] [] T0 (by kernel_rfl) trivial ?_))
  refine A.tn (A.seq (A.region (A.goA [.p, .w ((b - 1 : Nat) : Int), .p] [(0, vS al d.toList cl), (1, c_ a), (2, c_ b), (6, c_ a), (7, c_ (b - 1 : Nat))] [] (fun κ => (IntKind.i64.wrap ((b : Int) - 1) = ((b - 1 : Nat) : Int)) ∧ True) (by kernel_rfl) ⟨((wrap_i64 (e := (b : Int) - 1) (by first | (constructor <;> omega) | (rw [tdivN4]; constructor <;> omega) | (rw [tdivN2]; constructor <;> omega) | (rw [tdivN8]; constructor <;> omega))).trans (by first | rfl | omega | (simp at h_; omega) : ((b : Int) - 1 : Int) = ((b - 1 : Nat) : Int))), trivial⟩ ?_)))
  refine A.tn (A.block (A.loop (fun (zz : Nat × Nat × (Array Int)) => match zz with | (i, j, d2) => [(6, c_ i), (7, c_ j), (0, vS al d2.toList cl)]) (fun (zz : Nat × Nat × (Array Int)) => match zz with | (i, j, d2) => [sU al d2.toList cl]) (fun (zz : Nat × Nat × (Array Int)) => match zz with | (i, j, d2) => (reverseLoop i j d2 = reverseRange d a b) ∧ (d2.size = d.size) ∧ (j < b)) (fun (zz : Nat × Nat × (Array Int)) => match zz with | (i, j, d2) => j - i) (a, (b - 1 : Nat), d) ⟨(by rfl), (by rfl), (by omega)⟩ ?_ ?_))
  · exact A.hereK [0] (by exact ⟨rfl, rfl, rfl, trivial⟩) (by kernel_rfl)
  · rintro ⟨i, j, d2⟩ ⟨he, hz, hj⟩
    refine A.norm [(6, c_ i), (7, c_ j), (0, vS al d2.toList cl)] [sU al d2.toList cl] (by exact ⟨rfl, rfl, rfl, trivial⟩) rfl ?_
    refine A.seq (A.seq (A.region (A.goA [.p, .p, .p] [(6, c_ i), (7, c_ j), (0, vS al d2.toList cl), (13, b_ (decide ((i : Int) < (j : Int))))] [] T0 (by kernel_rfl) trivial ?_)))
    refine A.tn (A.cond (E := decide ((i : Int) < (j : Int))) rfl (fun e1 => ?_) (fun e1 => ?_))
    · skip
      have p1 := of_decide_eq_true e1
      refine A.skip (A.tn (A.block (A.seq (A.draw2 [13, 15] 16 (by kernel_rfl) ?_))))
      obtain ⟨x1, hx1⟩ : ∃ x, (d2.toList)[j]? = some x := ⟨_, List.getElem?_eq_getElem (by first | omega | (simp; omega))⟩
      obtain ⟨x2, hx2⟩ : ∃ x, (d2.toList)[i]? = some x := ⟨_, List.getElem?_eq_getElem (by first | omega | (simp; omega))⟩
      refine A.drawP 3 [.p, .p, .p, .p, .p, .p, .ix, .rd [u_ x1], .p, .p, .ix, .rd [u_ x2], .ix] [0, 1, 2, 3, 4, 5, 6, 7, 8, 9, 10, 11, 12] [(6, c_ i), (7, c_ j), (0, vS al d2.toList cl), (13, b_ (decide ((i : Int) < (j : Int)))), (16, vS al d2.toList cl), (17, c_ j), (21, u_ x1), (25, u_ x2), (26, (.pointer (some ((at0 al).add (i * 1)))))] [] (fun κ => κ.ix al d2.toList.length (j : Int) ∧ κ.rd ((at0 al).add (j * 1)) [u_ x1] ∧ κ.ix al d2.toList.length (i : Int) ∧ κ.rd ((at0 al).add (i * 1)) [u_ x2] ∧ κ.ix al d2.toList.length (i : Int) ∧ True) (by kernel_rfl) ⟨(ixOf encU_len (by decide) (rd_sl (i := 0) rfl) (by first | omega | (simp; omega))), reads_at0 (vs := [u_ x1]) encU_len (rd_sl (i := 0) rfl) hx1 (Nat.le_of_ble_eq_true rfl) rfl, ixOf encU_len (by decide) (rd_sl (i := 0) rfl) (by first | omega | (simp; omega)), reads_at0 (vs := [u_ x2]) encU_len (rd_sl (i := 0) rfl) hx2 (Nat.le_of_ble_eq_true rfl) rfl, ixOf encU_len (by decide) (rd_sl (i := 0) rfl) (by first | omega | (simp; omega)), trivial⟩ ?_
      refine A.only2 13 rfl (by kernel_rfl) (A.storeSl (enc := encU) (xs := d2.toList) 0 i x1 [sU al (d2.toList.set i x1) cl] (by kernel_rfl) rfl rfl rfl rfl (by kernel_rfl) (by kernel_rfl) encU_len (by decide) rfl (by first | omega | (simp; omega)) rfl ?_)
      refine A.sub [(6, c_ i), (7, c_ j), (0, vS al (d2.toList.set i x1) cl), (13, b_ (decide ((i : Int) < (j : Int)))), (16, vS al (d2.toList.set i x1) cl), (17, c_ j), (21, u_ x1), (25, u_ x2), (26, (.pointer (some ((at0 al).add (i * 1)))))] (by exact ⟨rfl, rfl, congrArg (fun z_ : Nat => some (Value.slice al z_ cl)) (by simp : d2.toList.length = (d2.toList.set i x1).length), rfl, congrArg (fun z_ : Nat => some (Value.slice al z_ cl)) (by simp : d2.toList.length = (d2.toList.set i x1).length), rfl, rfl, rfl, rfl, trivial⟩) ?_
      refine A.stage ?_
      refine A.drawP 1 [.ix] [14] [(6, c_ i), (7, c_ j), (0, vS al (d2.toList.set i x1) cl), (13, b_ (decide ((i : Int) < (j : Int)))), (25, u_ x2), (27, (.pointer (some ((at0 al).add (j * 1)))))] [] (fun κ => κ.ix al ((d2.toList.set i x1).length) (j : Int) ∧ True) (by kernel_rfl) ⟨(ixOf encU_len (by decide) (rd_sl (i := 0) rfl) (by first | omega | (simp; omega))), trivial⟩ ?_
      refine A.only2 15 rfl (by kernel_rfl) (A.storeSl (enc := encU) (xs := (d2.toList.set i x1)) 0 j x2 [sU al ((d2.toList.set i x1).set j x2) cl] (by kernel_rfl) rfl rfl rfl rfl (by kernel_rfl) (by kernel_rfl) encU_len (by decide) rfl (by first | omega | (simp; omega)) rfl ?_)
      refine A.sub [(6, c_ i), (7, c_ j), (0, vS al ((d2.toList.set i x1).set j x2) cl), (13, b_ (decide ((i : Int) < (j : Int)))), (25, u_ x2), (27, (.pointer (some ((at0 al).add (j * 1)))))] (by exact ⟨rfl, rfl, congrArg (fun z_ : Nat => some (Value.slice al z_ cl)) (by simp : (d2.toList.set i x1).length = ((d2.toList.set i x1).set j x2).length), rfl, rfl, rfl, trivial⟩) ?_
      refine A.stage ?_
      refine A.fin2 (by kernel_rfl) ?_
      refine A.sub [(6, c_ i), (7, c_ j), (0, vS al ((d2.toList.set i x1).set j x2) cl), (13, b_ (decide ((i : Int) < (j : Int))))] (by exact ⟨rfl, rfl, rfl, rfl, trivial⟩) ?_
      have hcv3 : ((d2.toList.set i x1).set j x2) = (swp d2 i j).toList := by exact swp_list hx2 hx1
      refine A.setH [sU al ((swp d2 i j).toList) cl] (cc (slC hcv3) rfl) ?_
      refine A.sub [(6, c_ i), (7, c_ j), (0, vS al ((swp d2 i j).toList) cl), (13, b_ (decide ((i : Int) < (j : Int))))] (by exact ⟨rfl, rfl, congrArg (fun z_ : List Int => some (Value.slice al z_.length cl)) hcv3, rfl, trivial⟩) ?_
      refine A.tn (A.seq (A.region (A.goA [.p, .w ((i + 1 : Nat) : Int), .p] [(6, c_ (i + 1 : Nat)), (7, c_ j), (0, vS al ((swp d2 i j).toList) cl), (13, b_ (decide ((i : Int) < (j : Int))))] [] (fun κ => (IntKind.i64.wrap ((i : Int) + 1) = ((i + 1 : Nat) : Int)) ∧ True) (by kernel_rfl) ⟨((wrap_i64 (e := (i : Int) + 1) (by first | (constructor <;> omega) | (rw [tdivN4]; constructor <;> omega) | (rw [tdivN2]; constructor <;> omega) | (rw [tdivN8]; constructor <;> omega))).trans (by first | rfl | omega | (simp at h_; omega) : ((i : Int) + 1 : Int) = ((i + 1 : Nat) : Int))), trivial⟩ ?_)))
      refine A.tn (A.region (A.goA [.p, .w ((j - 1 : Nat) : Int), .p] [(6, c_ (i + 1 : Nat)), (7, c_ (j - 1 : Nat)), (0, vS al ((swp d2 i j).toList) cl), (13, b_ (decide ((i : Int) < (j : Int))))] [] (fun κ => (IntKind.i64.wrap ((j : Int) - 1) = ((j - 1 : Nat) : Int)) ∧ True) (by kernel_rfl) ⟨((wrap_i64 (e := (j : Int) - 1) (by first | (constructor <;> omega) | (rw [tdivN4]; constructor <;> omega) | (rw [tdivN2]; constructor <;> omega) | (rw [tdivN8]; constructor <;> omega))).trans (by first | rfl | omega | (simp at h_; omega) : ((j : Int) - 1 : Int) = ((j - 1 : Nat) : Int))), trivial⟩ ?_))
      refine A.bn (A.tn (A.next ((i + 1 : Nat), (j - 1 : Nat), swp d2 i j) ⟨(by (rw [rev_step (by omega)] at he; exact he)), (by (rw [swp_sz]; omega)), (by omega)⟩ (by first | omega | (simp; omega) | (simp_all; omega)) ?_))
      exact A.hereK [0] (by exact ⟨rfl, rfl, rfl, trivial⟩) (by kernel_rfl)
    · skip
      have p1 := of_decide_eq_false e1
      refine A.exit (A.te (A.te (A.bh (A.postKn [0] [] (fun aa ww rr ss => trivial) (d2) ?_ ?_ (by kernel_rfl)))))
      · rfl
      · show d2 = reverseRange d a b ∧ d2.size = d.size
        (rw [rev_stop (by omega)] at he; exact ⟨he, hz⟩)

set_option maxHeartbeats 4000000 in
set_option maxRecDepth 100000 in
theorem ord2_spec (al : Option Addr) (d : Array Int) (cl : Nat) (a b bs s : Nat) (ha : a < d.size) (hb : b < d.size) (hS : d.size ≤ 100000) (hs9 : s ≤ 100) (w : World) (hs : HS w (feet [sU al d.toList cl, blk bs [c_ s] 3]) [sU al d.toList cl, blk bs [c_ s] 3] w) :
    Calls Try.prog 59 #[vS al d.toList cl, c_ a, c_ b, p_ bs] w fun e w' => ∃ zz, e = .returned ((fun (zz : Nat × Nat × Nat) => match zz with | (x', y', t') => (.tuple #[c_ x', c_ y'])) zz) ∧ (fun (zz : Nat × Nat × Nat) => match zz with | (x', y', t') => order2 ltInt d a b s = (x', y', t')) zz ∧ Turn [sU al d.toList cl, blk bs [c_ s] 3] ((fun (zz : Nat × Nat × Nat) => match zz with | (x', y', t') => [sU al d.toList cl, blk bs [c_ t'] 3]) zz) w w' := by
  refine calls_of (args := [vS al d.toList cl, c_ a, c_ b, p_ bs]) (penv [vS al d.toList cl, c_ a, c_ b, p_ bs]) (feet [sU al d.toList cl, blk bs [c_ s] 3]) [sU al d.toList cl, blk bs [c_ s] 3] Try.func59 rfl rfl (look_penv _) hs ?_
  refine A.norm [(0, vS al d.toList cl), (1, c_ a), (2, c_ b), (3, p_ bs)] [sU al d.toList cl, blk bs [c_ s] 3] (by exact ⟨rfl, rfl, rfl, rfl, trivial⟩) rfl ?_
  refine A.seq (A.region (A.goA [.p, .p] [(0, vS al d.toList cl), (1, c_ a), (2, c_ b), (3, p_ bs), (8, i_ 0), (9, i_ 0)] [] T0 (by kernel_rfl) trivial ?_))
  refine A.tn (A.seq (A.seq ?_))
  obtain ⟨x1, hx1⟩ : ∃ x, (d.toList)[b]? = some x := ⟨_, List.getElem?_eq_getElem (by first | omega | (simp; omega))⟩
  obtain ⟨x2, hx2⟩ : ∃ x, (d.toList)[a]? = some x := ⟨_, List.getElem?_eq_getElem (by first | omega | (simp; omega))⟩
  refine A.drawA [.p, .p, .ix, .rd [u_ x1], .p, .p, .ix, .rd [u_ x2], .cq (b_ (decide (x1 < x2)))] [0, 1, 2, 3, 4, 5, 6, 7, 8] [(0, vS al d.toList cl), (1, c_ a), (2, c_ b), (3, p_ bs), (8, i_ 0), (9, i_ 0), (18, b_ (decide (x1 < x2)))] [] (fun κ => κ.ix al d.toList.length (b : Int) ∧ κ.rd ((at0 al).add (b * 1)) [u_ x1] ∧ κ.ix al d.toList.length (a : Int) ∧ κ.rd ((at0 al).add (a * 1)) [u_ x2] ∧ κ.call 48 [u_ x1, u_ x2] (b_ (decide (x1 < x2))) ∧ True) (by kernel_rfl) (by kernel_rfl) ⟨(ixOf encU_len (by decide) (rd_sl (i := 0) rfl) (by first | omega | (simp; omega))), reads_at0 (vs := [u_ x1]) encU_len (rd_sl (i := 0) rfl) hx1 (Nat.le_of_ble_eq_true rfl) rfl, ixOf encU_len (by decide) (rd_sl (i := 0) rfl) (by first | omega | (simp; omega)), reads_at0 (vs := [u_ x2]) encU_len (rd_sl (i := 0) rfl) hx2 (Nat.le_of_ble_eq_true rfl) rfl, (fun ww ss => less_spec x1 x2 ww), trivial⟩ ?_
  refine A.tn (A.cond (E := decide (x1 < x2)) rfl (fun e1 => ?_) (fun e1 => ?_))
  · skip
    have p1 := of_decide_eq_true e1
    refine A.seq (A.region (A.goAS [.p, .p, .ld 1, .w ((s + 1 : Nat) : Int), .p, .st 1] [(0, vS al d.toList cl), (1, c_ a), (2, c_ b), (3, p_ bs), (8, i_ 0), (9, i_ 0), (18, b_ (decide (x1 < x2)))] [sU al d.toList cl, blk bs [c_ (s + 1 : Nat)] 3] [bs, bs] (fun κ => (IntKind.i64.wrap ((s : Int) + 1) = ((s + 1 : Nat) : Int)) ∧ True) (by kernel_rfl) ⟨((wrap_i64 (e := (s : Int) + 1) (by first | (constructor <;> omega) | (rw [tdivN4]; constructor <;> omega) | (rw [tdivN2]; constructor <;> omega) | (rw [tdivN8]; constructor <;> omega))).trans (by first | rfl | omega | (simp at h_; omega) : ((s : Int) + 1 : Int) = ((s + 1 : Nat) : Int))), trivial⟩ ?_))
    refine A.tn (A.seq (A.region (A.goA [.p, .p, .p, .p] [(0, vS al d.toList cl), (1, c_ a), (2, c_ b), (3, p_ bs), (8, c_ b), (9, c_ a), (18, b_ (decide (x1 < x2)))] [] T0 (by kernel_rfl) trivial ?_)))
    refine A.tn (A.ret (A.tr (A.postK [0, 0] [c_ b, c_ a] (fun aa ww rr ss => ⟨rv_tmp rr rfl, rv_tmp rr rfl, trivial⟩) (b, a, (s + 1 : Nat)) ?_ ?_ (by kernel_rfl))))
    · rfl
    · show order2 ltInt d a b s = (b, a, (s + 1 : Nat))
      first | exact ord2_t (by assumption) (by assumption) (by omega) | exact ord2_f (by assumption) (by assumption) (by omega)
  · skip
    have p1 := of_decide_eq_false e1
    refine A.skip (A.tn (A.seq (A.region (A.goA [.p, .p, .p, .p] [(0, vS al d.toList cl), (1, c_ a), (2, c_ b), (3, p_ bs), (8, c_ a), (9, c_ b), (18, b_ (decide (x1 < x2)))] [] T0 (by kernel_rfl) trivial ?_))))
    refine A.tn (A.ret (A.postK [0, 0] [c_ a, c_ b] (fun aa ww rr ss => ⟨rv_tmp rr rfl, rv_tmp rr rfl, trivial⟩) (a, b, s) ?_ ?_ (by kernel_rfl)))
    · rfl
    · show order2 ltInt d a b s = (a, b, s)
      first | exact ord2_t (by assumption) (by assumption) (by omega) | exact ord2_f (by assumption) (by assumption) (by omega)

set_option maxHeartbeats 4000000 in
set_option maxRecDepth 100000 in
theorem med_spec (al : Option Addr) (d : Array Int) (cl : Nat) (a b c bs s : Nat) (ha : a < d.size) (hb : b < d.size) (hc : c < d.size) (hS : d.size ≤ 100000) (hs9 : s ≤ 90) (w : World) (hs : HS w (feet [sU al d.toList cl, blk bs [c_ s] 3]) [sU al d.toList cl, blk bs [c_ s] 3] w) :
    Calls Try.prog 57 #[vS al d.toList cl, c_ a, c_ b, c_ c, p_ bs] w fun e w' => ∃ zz, e = .returned ((fun (zz : Nat × Nat) => match zz with | (m', t') => (c_ m')) zz) ∧ (fun (zz : Nat × Nat) => match zz with | (m', t') => median ltInt d a b c s = (m', t')) zz ∧ Turn [sU al d.toList cl, blk bs [c_ s] 3] ((fun (zz : Nat × Nat) => match zz with | (m', t') => [sU al d.toList cl, blk bs [c_ t'] 3]) zz) w w' := by
  refine calls_of (args := [vS al d.toList cl, c_ a, c_ b, c_ c, p_ bs]) (penv [vS al d.toList cl, c_ a, c_ b, c_ c, p_ bs]) (feet [sU al d.toList cl, blk bs [c_ s] 3]) [sU al d.toList cl, blk bs [c_ s] 3] Try.func57 rfl rfl (look_penv _) hs ?_
  refine A.norm [(0, vS al d.toList cl), (1, c_ a), (2, c_ b), (3, c_ c), (4, p_ bs)] [sU al d.toList cl, blk bs [c_ s] 3] (by exact ⟨rfl, rfl, rfl, rfl, rfl, trivial⟩) rfl ?_
  refine A.seq (A.region (A.goA [.p] [(0, vS al d.toList cl), (1, c_ a), (2, c_ b), (3, c_ c), (4, p_ bs), (10, i_ 0)] [] T0 (by kernel_rfl) trivial ?_))
  refine A.tn (A.seq (A.region (A.goP [.p, .p, .p, .p] [(0, vS al d.toList cl), (1, c_ a), (2, c_ b), (3, c_ c), (4, p_ bs), (10, i_ 0), (12, vS al d.toList cl), (13, c_ a), (14, c_ b), (15, p_ bs)] [] T0 (by kernel_rfl) trivial ?_)))
  refine A.cons (A.callT (some 16) [vS al d.toList cl, c_ a, c_ b, p_ bs] [0, 0] ((fun zz => match zz with | (x'1, y'2, t'3) => (.tuple #[c_ x'1, c_ y'2]))) ((fun zz => match zz with | (x'1, y'2, t'3) => order2 ltInt d a b s = (x'1, y'2, t'3))) ((fun zz => match zz with | (x'1, y'2, t'3) => [sU al d.toList cl, blk bs [c_ t'3] 3])) (fun zz => match zz with | (x'1, y'2, t'3) => [sU al d.toList cl, blk bs [c_ t'3] 3]) (by kernel_rfl) rfl rfl (fun ww ss hh => ord2_spec al d cl a b bs s (by first | assumption | omega) (by first | assumption | omega) (by first | assumption | omega) (by first | assumption | omega) ww hh) (fun _ => rfl) ?_)
  rintro ⟨x'1, y'2, t'3⟩ hz1
  have hz1m := order2_mem ltInt d a b s; rw [hz1] at hz1m; simp only [] at hz1m; have hz1c := order2_count (lt := ltInt) d a b s; rw [hz1] at hz1c; simp only [] at hz1c
  refine A.goA [.p, .p, .p, .p, .p] [(0, vS al d.toList cl), (1, c_ x'1), (2, c_ y'2), (3, c_ c), (4, p_ bs), (10, i_ 0)] [] T0 (by kernel_rfl) trivial ?_
  refine A.tn (A.seq (A.region (A.goP [.p, .p, .p, .p] [(0, vS al d.toList cl), (1, c_ x'1), (2, c_ y'2), (4, p_ bs), (10, i_ 0), (20, vS al d.toList cl), (21, c_ y'2), (22, c_ c), (23, p_ bs)] [] T0 (by kernel_rfl) trivial ?_)))
  refine A.cons (A.callT (some 24) [vS al d.toList cl, c_ y'2, c_ c, p_ bs] [0, 0] ((fun zz => match zz with | (x'4, y'5, t'6) => (.tuple #[c_ x'4, c_ y'5]))) ((fun zz => match zz with | (x'4, y'5, t'6) => order2 ltInt d y'2 c t'3 = (x'4, y'5, t'6))) ((fun zz => match zz with | (x'4, y'5, t'6) => [sU al d.toList cl, blk bs [c_ t'6] 3])) (fun zz => match zz with | (x'4, y'5, t'6) => [sU al d.toList cl, blk bs [c_ t'6] 3]) (by kernel_rfl) rfl rfl (fun ww ss hh => ord2_spec al d cl y'2 c bs t'3 (by first | assumption | omega) (by first | assumption | omega) (by first | assumption | omega) (by first | assumption | omega) ww hh) (fun _ => rfl) ?_)
  rintro ⟨x'4, y'5, t'6⟩ hz2
  have hz2m := order2_mem ltInt d y'2 c t'3; rw [hz2] at hz2m; simp only [] at hz2m; have hz2c := order2_count (lt := ltInt) d y'2 c t'3; rw [hz2] at hz2c; simp only [] at hz2c
  refine A.goA [.p, .p, .p, .p, .p] [(0, vS al d.toList cl), (1, c_ x'1), (2, c_ x'4), (4, p_ bs), (10, i_ 0)] [] T0 (by kernel_rfl) trivial ?_
  refine A.tn (A.seq (A.region (A.goP [.p, .p, .p, .p] [(0, vS al d.toList cl), (1, c_ x'1), (2, c_ x'4), (4, p_ bs), (10, i_ 0), (28, vS al d.toList cl), (29, c_ x'1), (30, c_ x'4), (31, p_ bs)] [] T0 (by kernel_rfl) trivial ?_)))
  refine A.cons (A.callT (some 32) [vS al d.toList cl, c_ x'1, c_ x'4, p_ bs] [0, 0] ((fun zz => match zz with | (x'7, y'8, t'9) => (.tuple #[c_ x'7, c_ y'8]))) ((fun zz => match zz with | (x'7, y'8, t'9) => order2 ltInt d x'1 x'4 t'6 = (x'7, y'8, t'9))) ((fun zz => match zz with | (x'7, y'8, t'9) => [sU al d.toList cl, blk bs [c_ t'9] 3])) (fun zz => match zz with | (x'7, y'8, t'9) => [sU al d.toList cl, blk bs [c_ t'9] 3]) (by kernel_rfl) rfl rfl (fun ww ss hh => ord2_spec al d cl x'1 x'4 bs t'6 (by first | assumption | omega) (by first | assumption | omega) (by first | assumption | omega) (by first | assumption | omega) ww hh) (fun _ => rfl) ?_)
  rintro ⟨x'7, y'8, t'9⟩ hz3
  have hz3m := order2_mem ltInt d x'1 x'4 t'6; rw [hz3] at hz3m; simp only [] at hz3m; have hz3c := order2_count (lt := ltInt) d x'1 x'4 t'6; rw [hz3] at hz3c; simp only [] at hz3c
  refine A.goA [.p, .p, .p, .p, .p] [(0, vS al d.toList cl), (1, c_ x'7), (2, c_ y'8), (4, p_ bs), (10, i_ 0)] [] T0 (by kernel_rfl) trivial ?_
  refine A.tn (A.seq (A.region (A.goA [.p, .p] [(0, vS al d.toList cl), (1, c_ x'7), (2, c_ y'8), (4, p_ bs), (10, c_ y'8)] [] T0 (by kernel_rfl) trivial ?_)))
  refine A.tn (A.ret (A.postK [0, 0] [c_ y'8] (fun aa ww rr ss => ⟨rv_tmp rr rfl, trivial⟩) (y'8, t'9) ?_ ?_ (by kernel_rfl)))
  · rfl
  · show median ltInt d a b c s = (y'8, t'9)
    (unfold median; simp only [*])

set_option maxHeartbeats 4000000 in
set_option maxRecDepth 100000 in
theorem medA_spec (al : Option Addr) (d : Array Int) (cl : Nat) (a bs s : Nat) (ha : 1 ≤ a ∧ a + 1 < d.size) (hS : d.size ≤ 100000) (hs9 : s ≤ 90) (w : World) (hs : HS w (feet [sU al d.toList cl, blk bs [c_ s] 3]) [sU al d.toList cl, blk bs [c_ s] 3] w) :
    Calls Try.prog 56 #[vS al d.toList cl, c_ a, p_ bs] w fun e w' => ∃ zz, e = .returned ((fun (zz : Nat × Nat) => match zz with | (m', t') => (c_ m')) zz) ∧ (fun (zz : Nat × Nat) => match zz with | (m', t') => medianAdjacent ltInt d a s = (m', t')) zz ∧ Turn [sU al d.toList cl, blk bs [c_ s] 3] ((fun (zz : Nat × Nat) => match zz with | (m', t') => [sU al d.toList cl, blk bs [c_ t'] 3]) zz) w w' := by
  refine calls_of (args := [vS al d.toList cl, c_ a, p_ bs]) (penv [vS al d.toList cl, c_ a, p_ bs]) (feet [sU al d.toList cl, blk bs [c_ s] 3]) [sU al d.toList cl, blk bs [c_ s] 3] Try.func56 rfl rfl (look_penv _) hs ?_
  refine A.norm [(0, vS al d.toList cl), (1, c_ a), (2, p_ bs)] [sU al d.toList cl, blk bs [c_ s] 3] (by exact ⟨rfl, rfl, rfl, trivial⟩) rfl ?_
  refine A.seq (A.region (A.goA [.p] [(0, vS al d.toList cl), (1, c_ a), (2, p_ bs), (6, i_ 0)] [] T0 (by kernel_rfl) trivial ?_))
  refine A.tn (A.seq (A.region (A.goP [.p, .p, .w ((a - 1 : Nat) : Int), .p, .p, .w ((a + 1 : Nat) : Int), .p] [(0, vS al d.toList cl), (1, c_ a), (2, p_ bs), (6, i_ 0), (7, vS al d.toList cl), (9, c_ (a - 1 : Nat)), (10, c_ a), (12, c_ (a + 1 : Nat)), (13, p_ bs)] [] (fun κ => (IntKind.i64.wrap ((a : Int) - 1) = ((a - 1 : Nat) : Int)) ∧ (IntKind.i64.wrap ((a : Int) + 1) = ((a + 1 : Nat) : Int)) ∧ True) (by kernel_rfl) ⟨((wrap_i64 (e := (a : Int) - 1) (by first | (constructor <;> omega) | (rw [tdivN4]; constructor <;> omega) | (rw [tdivN2]; constructor <;> omega) | (rw [tdivN8]; constructor <;> omega))).trans (by first | rfl | omega | (simp at h_; omega) : ((a : Int) - 1 : Int) = ((a - 1 : Nat) : Int))), (wrap_i64 (e := (a : Int) + 1) (by first | (constructor <;> omega) | (rw [tdivN4]; constructor <;> omega) | (rw [tdivN2]; constructor <;> omega) | (rw [tdivN8]; constructor <;> omega))).trans (by first | rfl | omega | (simp at h_; omega) : ((a : Int) + 1 : Int) = ((a + 1 : Nat) : Int)), trivial⟩ ?_)))
  refine A.cons (A.callT (some 14) [vS al d.toList cl, c_ (a - 1 : Nat), c_ a, c_ (a + 1 : Nat), p_ bs] [0, 0] ((fun zz => match zz with | (m'1, t'2) => (c_ m'1))) ((fun zz => match zz with | (m'1, t'2) => median ltInt d (a - 1 : Nat) a (a + 1 : Nat) s = (m'1, t'2))) ((fun zz => match zz with | (m'1, t'2) => [sU al d.toList cl, blk bs [c_ t'2] 3])) (fun zz => match zz with | (m'1, t'2) => [sU al d.toList cl, blk bs [c_ t'2] 3]) (by kernel_rfl) rfl rfl (fun ww ss hh => med_spec al d cl (a - 1 : Nat) a (a + 1 : Nat) bs s (by first | assumption | omega) (by first | assumption | omega) (by first | assumption | omega) (by first | assumption | omega) (by first | assumption | omega) ww hh) (fun _ => rfl) ?_)
  rintro ⟨m'1, t'2⟩ hz1
  have hz1m := median_mem ltInt d (a - 1 : Nat) a (a + 1 : Nat) s; rw [hz1] at hz1m; simp only [] at hz1m; have hz1c := median_count (lt := ltInt) d (a - 1 : Nat) a (a + 1 : Nat) s; rw [hz1] at hz1c; simp only [] at hz1c
  refine A.goA [.p] [(0, vS al d.toList cl), (1, c_ a), (2, p_ bs), (6, c_ m'1)] [] T0 (by kernel_rfl) trivial ?_
  refine A.tn (A.ret (A.postK [0, 0] [c_ m'1] (fun aa ww rr ss => ⟨rv_tmp rr rfl, trivial⟩) (m'1, t'2) ?_ ?_ (by kernel_rfl)))
  · rfl
  · show medianAdjacent ltInt d a s = (m'1, t'2)
    (unfold medianAdjacent; assumption)
end Go.Proofs.Ytbmllohfpgngeaa
