/- What the functions of the sort of numbers do, proved operation by operation, for all arguments, under the conditions that each theorem states. -/
import Derived.Sort.LotA
import Derived.Sort.LotB
import Derived.Sort.LotC
import Derived.Sort.LotD1
import Derived.Sort.LotD3
import Derived.Sort.LotD4
import Derived.Test.YtinnnoimmioaiaaProg
import Derived.Test.YtinnnoimmioaiaaSort2
import Derived.Test.YtinnnoimmioaiaaL2
namespace Go.Proofs.Ytinnnoimmioaiaa
open Go V Go.Sort
set_option linter.unusedVariables false
set_option linter.unusedSimpArgs false
set_option maxHeartbeats 4000000
set_option maxRecDepth 100000
theorem getS {d : Array Int} {i : Nat} (h : i < d.size) : d.toList[i]? = some d[i]! := by
  rw [Array.getElem?_toList, getElem!_pos d i h]; exact Array.getElem?_eq_getElem h
theorem swp_list2 (d : Array Int) (i j : Nat) : (d.toList.set i d[j]!).set j d[i]! = (swp d i j).toList := by unfold swp; simp [Array.toList_setIfInBounds]
theorem su_t {p : Int → Bool} {d : Array Int} {i j : Nat} (h : (decide ((i : Int) ≤ (j : Int)) && p d[i]!) = true) : scanUp p d j i = scanUp p d j (i + 1) := by
  rw [Bool.and_eq_true, decide_eq_true_eq] at h
  rw [scanUp, if_pos (by rw [h.2]; simp; omega)]
theorem su_f {p : Int → Bool} {d : Array Int} {i j : Nat} (h : (decide ((i : Int) ≤ (j : Int)) && p d[i]!) = false) : scanUp p d j i = i := by
  rw [scanUp, if_neg]; intro g
  rw [Bool.and_eq_true, decide_eq_true_eq] at g
  rw [g.2] at h; simp at h; omega
theorem sd_t {p : Int → Bool} {d : Array Int} {i j : Nat} (hj : 1 ≤ j) (h : (decide ((i : Int) ≤ (j : Int)) && p d[j]!) = true) : scanDown p d i j = scanDown p d i (j - 1) := by
  obtain ⟨k, rfl⟩ : ∃ k, j = k + 1 := ⟨j - 1, by omega⟩
  rw [Bool.and_eq_true, decide_eq_true_eq] at h
  rw [scanDown, if_pos (by rw [h.2]; simp; omega)]; rfl
theorem sd_f {p : Int → Bool} {d : Array Int} {i j : Nat} (h : (decide ((i : Int) ≤ (j : Int)) && p d[j]!) = false) : scanDown p d i j = j := by
  cases j with
  | zero => rfl
  | succ k =>
    rw [scanDown, if_neg]; intro g
    rw [Bool.and_eq_true, decide_eq_true_eq] at g
    rw [g.2] at h; simp at h; omega
theorem pl_stop {d : Array Int} {a i j i2 j2 : Nat} (hI : scanUp (fun x => ltInt x d[a]!) d j i = i2) (hJ : scanDown (fun x => !ltInt x d[a]!) d i2 j = j2) (h : i2 > j2) : partLoop ltInt a i j d = (j2, d) := by
  rw [partLoop_eq, hI, hJ, if_pos h]
theorem pl_step {d : Array Int} {a i j i2 j2 : Nat} (hI : scanUp (fun x => ltInt x d[a]!) d j i = i2) (hJ : scanDown (fun x => !ltInt x d[a]!) d i2 j = j2) (h : ¬ i2 > j2) : partLoop ltInt a i j d = partLoop ltInt a (i2 + 1) (j2 - 1) (swp d i2 j2) := by
  rw [partLoop_eq, hI, hJ, if_neg h]
theorem pe_stop {d : Array Int} {a i j i2 j2 : Nat} (hI : scanUp (fun x => !ltInt d[a]! x) d j i = i2) (hJ : scanDown (fun x => ltInt d[a]! x) d i2 j = j2) (h : i2 > j2) : partEqLoop ltInt a i j d = (i2, d) := by
  rw [partEqLoop_eq, hI, hJ, if_pos h]
theorem pe_step {d : Array Int} {a i j i2 j2 : Nat} (hI : scanUp (fun x => !ltInt d[a]! x) d j i = i2) (hJ : scanDown (fun x => ltInt d[a]! x) d i2 j = j2) (h : ¬ i2 > j2) : partEqLoop ltInt a i j d = partEqLoop ltInt a (i2 + 1) (j2 - 1) (swp d i2 j2) := by
  rw [partEqLoop_eq, hI, hJ, if_neg h]
theorem part_1 {d d1 : Array Int} {a b p i j : Nat} (h1 : d1 = swp d a p) (hI : scanUp (fun x => ltInt x d1[a]!) d1 (b - 1) (a + 1) = i) (hJ : scanDown (fun x => !ltInt x d1[a]!) d1 i (b - 1) = j) (h : i > j) : partition ltInt d a b p = (j, true, swp d1 j a) := by
  unfold partition; simp only [← h1, hI, hJ, if_pos h]
theorem part_2 {d d1 : Array Int} {a b p i j : Nat} {r : Nat × Array Int} (h1 : d1 = swp d a p) (hI : scanUp (fun x => ltInt x d1[a]!) d1 (b - 1) (a + 1) = i) (hJ : scanDown (fun x => !ltInt x d1[a]!) d1 i (b - 1) = j) (h : ¬ i > j) (hr : partLoop ltInt a (i + 1) (j - 1) (swp d1 i j) = r) : partition ltInt d a b p = (r.1, false, swp r.2 r.1 a) := by
  unfold partition; simp only [← h1, hI, hJ, if_neg h, hr]
theorem ss_t {d : Array Int} {b i : Nat} (h : (decide ((i : Int) < (b : Int)) && !decide (d[i]! < d[i - 1]!)) = true) : scanSorted ltInt d b i = scanSorted ltInt d b (i + 1) := by
  rw [Bool.and_eq_true, decide_eq_true_eq] at h
  rw [scanSorted, if_pos]; unfold ltInt; rw [h.2]; simp; omega
theorem ss_f {d : Array Int} {b i : Nat} (h : (decide ((i : Int) < (b : Int)) && !decide (d[i]! < d[i - 1]!)) = false) : scanSorted ltInt d b i = i := by
  rw [scanSorted, if_neg]; intro g
  rw [Bool.and_eq_true, decide_eq_true_eq] at g
  unfold ltInt at g; rw [g.2] at h; simp at h; omega
theorem shd_t {d : Array Int} {j : Nat} (hj : 1 ≤ j) (h : d[j]! < d[j - 1]!) : shiftDown ltInt j d = shiftDown ltInt (j - 1) (swp d j (j - 1)) := by
  obtain ⟨k, rfl⟩ : ∃ k, j = k + 1 := ⟨j - 1, by omega⟩
  rw [Nat.add_sub_cancel] at h ⊢
  rw [shiftDown, if_neg]; simp [ltInt, h]
theorem shd_f {d : Array Int} {j : Nat} (hj : 1 ≤ j) (h : ¬ d[j]! < d[j - 1]!) : shiftDown ltInt j d = d := by
  obtain ⟨k, rfl⟩ : ∃ k, j = k + 1 := ⟨j - 1, by omega⟩
  rw [Nat.add_sub_cancel] at h
  rw [shiftDown, if_pos]; simp [ltInt]; omega
theorem shu_t {d : Array Int} {b j : Nat} (hj : j < b) (h : d[j]! < d[j - 1]!) : shiftUp ltInt b j d = shiftUp ltInt b (j + 1) (swp d j (j - 1)) := by
  rw [shiftUp, if_pos hj, if_neg]; simp [ltInt, h]
theorem shu_f {d : Array Int} {b j : Nat} (hj : j < b) (h : ¬ d[j]! < d[j - 1]!) : shiftUp ltInt b j d = d := by
  rw [shiftUp, if_pos hj, if_pos]; simp [ltInt]; omega
theorem shu_0 {d : Array Int} {b j : Nat} (hj : ¬ j < b) : shiftUp ltInt b j d = d := by rw [shiftUp, if_neg hj]
theorem pi_3 {a b s i i2 : Nat} {d d2 d3 : Array Int} (hI : scanSorted ltInt d b i = i2) (h : ¬ i2 = b) (h5 : ¬ b - a < 50) (h2 : d2 = fixDown ltInt a i2 (swp d i2 (i2 - 1))) (h3 : d3 = fixUp ltInt b i2 d2) : partialIns ltInt a b (s + 1) i d = partialIns ltInt a b s i2 d3 := by
  rw [partialIns_succ, hI, if_neg h, if_neg h5, ← h2, ← h3]
theorem pi_1 {a b s i i2 : Nat} {d : Array Int} (hI : scanSorted ltInt d b i = i2) (h : i2 = b) : partialIns ltInt a b (s + 1) i d = (d, true) := by rw [partialIns_succ, hI, if_pos h]
theorem pi_2 {a b s i i2 : Nat} {d : Array Int} (hI : scanSorted ltInt d b i = i2) (h : ¬ i2 = b) (h5 : b - a < 50) : partialIns ltInt a b (s + 1) i d = (d, false) := by rw [partialIns_succ, hI, if_neg h, if_pos h5]
theorem pins_step {a b k i : Nat} {d : Array Int} (h : k < 5) : partialIns ltInt a b (5 - k) i d = partialIns ltInt a b ((5 - (k + 1)) + 1) i d := by rw [show 5 - (k + 1) + 1 = 5 - k by omega]
theorem ne_up {d : Array Int} {i j J : Nat} {v : Int} (hJ : j ≤ J) (h1 : (decide ((i : Int) ≤ (J : Int)) && decide (d[i]! < v)) = false) (h2 : (decide ((i : Int) ≤ (j : Int)) && !decide (d[j]! < v)) = false) : i ≤ j → i < j := by
  intro g
  have e : decide ((i : Int) ≤ (j : Int)) = true := by simp; omega
  have e2 : decide ((i : Int) ≤ (J : Int)) = true := by simp; omega
  rw [e2] at h1; rw [e] at h2; simp at h1 h2
  rcases Nat.lt_or_eq_of_le g with q | q
  · exact q
  · subst q; omega
theorem ne_eq {d : Array Int} {i j J : Nat} {v : Int} (hJ : j ≤ J) (h1 : (decide ((i : Int) ≤ (J : Int)) && !decide (v < d[i]!)) = false) (h2 : (decide ((i : Int) ≤ (j : Int)) && decide (v < d[j]!)) = false) : i ≤ j → i < j := by
  intro g
  have e : decide ((i : Int) ≤ (j : Int)) = true := by simp; omega
  have e2 : decide ((i : Int) ≤ (J : Int)) = true := by simp; omega
  rw [e2] at h1; rw [e] at h2; simp at h1 h2
  rcases Nat.lt_or_eq_of_le g with q | q
  · exact q
  · subst q; omega

theorem part_spec (al : Option Addr) (d : Array Int) (cl : Nat) (a b p : Nat) (hb : a ≤ p ∧ p < b ∧ b ≤ d.size) (hS : d.size ≤ 100000) (w : World) (hs : HS w (feet [sU al d.toList cl]) [sU al d.toList cl] w) :
    Calls Try.prog 157 #[vS al d.toList cl, c_ a, c_ b, c_ p] w fun e w' => ∃ zz, e = .returned ((fun (zz : Nat × Bool × (Array Int)) => match zz with | (m', q', d') => (.tuple #[c_ m', b_ q'])) zz) ∧ (fun (zz : Nat × Bool × (Array Int)) => match zz with | (m', q', d') => partition ltInt d a b p = (m', q', d') ∧ d'.size = d.size) zz ∧ Turn [sU al d.toList cl] ((fun (zz : Nat × Bool × (Array Int)) => match zz with | (m', q', d') => [sU al d'.toList cl]) zz) w w' := by
  refine calls_of (args := [vS al d.toList cl, c_ a, c_ b, c_ p]) (penv [vS al d.toList cl, c_ a, c_ b, c_ p]) (feet [sU al d.toList cl]) [sU al d.toList cl] Try.func157 rfl rfl (look_penv _) hs ?_
  refine A.sr (A.g [.p, .p] [] [(8, i_ 0), (9, b_ false)] ?_)
  refine A.tn (A.seq (A.draw2 [13, 15] 16 (by kernel_rfl) ?_))
  refine A.dP 3 [.p, .p, .p, .p, .p, .p, .ix, .rd [u_ (d[p]!)], .p, .p, .ix, .rd [u_ (d[a]!)], .ix] [0, 1, 2, 3, 4, 5, 6, 7, 8, 9, 10, 11, 12] [] [(14, vS al d.toList cl), (15, c_ p), (19, u_ (d[p]!)), (23, u_ (d[a]!)), (24, (.pointer (some ((at0 al).add (a * 1)))))] [] (fun κ => κ.ix al d.toList.length (p : Int) ∧ κ.rd ((at0 al).add (p * 1)) [u_ (d[p]!)] ∧ κ.ix al d.toList.length (a : Int) ∧ κ.rd ((at0 al).add (a * 1)) [u_ (d[a]!)] ∧ κ.ix al d.toList.length (a : Int) ∧ True) ⟨(ixOf encU_len (by decide) (rd_sl (i := 0) rfl) (by (simp; omega))), reads_at0 (vs := [u_ (d[p]!)]) encU_len (rd_sl (i := 0) rfl) (getS (by omega)) (Nat.le_of_ble_eq_true rfl) rfl, ixOf encU_len (by decide) (rd_sl (i := 0) rfl) (by (simp; omega)), reads_at0 (vs := [u_ (d[a]!)]) encU_len (rd_sl (i := 0) rfl) (getS (by omega)) (Nat.le_of_ble_eq_true rfl) rfl, ixOf encU_len (by decide) (rd_sl (i := 0) rfl) (by (simp; omega)), trivial⟩ ?_
  refine A.only2 13 rfl (by kernel_rfl) (A.storeSl (enc := encU) (xs := d.toList) 0 a (d[p]!) [sU al (d.toList.set a (d[p]!)) cl] (by kernel_rfl) rfl rfl rfl rfl (by kernel_rfl) (by kernel_rfl) encU_len (by decide) rfl (by (simp; omega)) rfl ?_)
  refine A.sv 0 (vS al (d.toList.set a (d[p]!)) cl) (cgN (by simp)) (A.sv 14 (vS al (d.toList.set a (d[p]!)) cl) (cgN (by simp)) ?_)
  refine A.stage ?_
  refine A.dP 1 [.ix] [14] [14, 15, 19, 24] [(25, (.pointer (some ((at0 al).add (p * 1)))))] [] (fun κ => κ.ix al ((d.toList.set a (d[p]!)).length) (p : Int) ∧ True) ⟨(ixOf encU_len (by decide) (rd_sl (i := 0) rfl) (by (simp; omega))), trivial⟩ ?_
  refine A.only2 15 rfl (by kernel_rfl) (A.storeSl (enc := encU) (xs := (d.toList.set a (d[p]!))) 0 p (d[a]!) [sU al ((d.toList.set a (d[p]!)).set p (d[a]!)) cl] (by kernel_rfl) rfl rfl rfl rfl (by kernel_rfl) (by kernel_rfl) encU_len (by decide) rfl (by (simp; omega)) rfl ?_)
  refine A.sv 0 (vS al ((d.toList.set a (d[p]!)).set p (d[a]!)) cl) (cgN (by simp)) ?_
  refine A.stage ?_
  refine A.fin2 (by kernel_rfl) ?_
  obtain ⟨d101, hdd101⟩ : ∃ z, z = swp d a p := ⟨_, rfl⟩; have hszd101 : d101.size = d.size := (by rw [hdd101]; exact swp_sz _ _ _)
  have hcv2 : ((d.toList.set a (d[p]!)).set p (d[a]!)) = d101.toList := by rw [hdd101]; exact swp_list2 _ _ _
  refine A.setH [sU al d101.toList cl] (cc (slC hcv2) rfl) ?_
  refine A.sv 0 (vS al d101.toList cl) (cgL hcv2) ?_
  refine tsr (A.gk [.p, .w ((a + 1 : Nat) : Int), .p, .w ((b - 1 : Nat) : Int), .p, .p] [23, 25] [(10, c_ (a + 1 : Nat)), (11, c_ (b - 1 : Nat))] [] (fun κ => (IntKind.i64.wrap ((a : Int) + 1) = ((a + 1 : Nat) : Int)) ∧ (IntKind.i64.wrap ((b : Int) - 1) = ((b - 1 : Nat) : Int)) ∧ True) ⟨((wrap_i64 (e := (a : Int) + 1) (by (constructor <;> omega))).trans (by rfl : ((a : Int) + 1 : Int) = ((a + 1 : Nat) : Int))), (wrap_i64 (e := (b : Int) - 1) (by (constructor <;> omega))).trans (by omega : ((b : Int) - 1 : Int) = ((b - 1 : Nat) : Int)), trivial⟩ ?_)
  refine A.tn (A.seq (A.block (A.loop (fun (zz : Nat) => match zz with | i1 => [(0, vS al d101.toList cl), (1, c_ a), (8, i_ 0), (9, b_ false), (11, c_ (b - 1 : Nat)), (10, c_ i1)]) (fun (zz : Nat) => match zz with | i1 => [sU al d101.toList cl]) (fun (zz : Nat) => match zz with | i1 => (scanUp (fun x => ltInt x d101[a]!) d101 (b - 1) i1 = scanUp (fun x => ltInt x d101[a]!) d101 (b - 1) (a + 1)) ∧ ((a + 1) ≤ i1 ∧ i1 ≤ (b - 1) + 1)) (fun (zz : Nat) => match zz with | i1 => (b - 1) + 1 - i1) ((a + 1 : Nat) : Nat) ⟨(by rfl), (by omega)⟩ ?_ ?_)))
  · exact A.hK [0]
  rintro i1 ⟨hu1, hi1⟩
  refine A.seq (A.seq (A.dA [.p, .p, .p, .p, .o, .p, .p, .ix, .rd [u_ (d101[i1]!)], .p, .p, .ix, .rd [u_ (d101[a]!)], .cq (b_ (decide ((d101[i1]!) < (d101[a]!)))), .cl] [0, 1, 2, 3, 4, 5, 6, 7, 8, 9, 10, 11, 12, 13] [] [(43, b_ ((decide ((i1 : Int) ≤ ((b - 1 : Nat) : Int))) && (decide ((d101[i1]!) < (d101[a]!)))))] [] (fun κ => ((true && ((decide ((i1 : Int) ≤ ((b - 1 : Nat) : Int))) == true)) = true → κ.ix al d101.toList.length (i1 : Int)) ∧ ((true && ((decide ((i1 : Int) ≤ ((b - 1 : Nat) : Int))) == true)) = true → κ.rd ((at0 al).add (i1 * 1)) [u_ (d101[i1]!)]) ∧ ((true && ((decide ((i1 : Int) ≤ ((b - 1 : Nat) : Int))) == true)) = true → κ.ix al d101.toList.length (a : Int)) ∧ ((true && ((decide ((i1 : Int) ≤ ((b - 1 : Nat) : Int))) == true)) = true → κ.rd ((at0 al).add (a * 1)) [u_ (d101[a]!)]) ∧ ((true && ((decide ((i1 : Int) ≤ ((b - 1 : Nat) : Int))) == true)) = true → κ.call 155 [u_ (d101[i1]!), u_ (d101[a]!)] (b_ (decide ((d101[i1]!) < (d101[a]!))))) ∧ True) ⟨(fun h_ => (ixOf encU_len (by decide) (rd_sl (i := 0) rfl) (by (simp at h_ ⊢; omega)))), (fun h_ => (reads_at0 (vs := [u_ (d101[i1]!)]) encU_len (rd_sl (i := 0) rfl) (getS (by (simp at h_; omega))) (Nat.le_of_ble_eq_true rfl) rfl)), (fun h_ => (ixOf encU_len (by decide) (rd_sl (i := 0) rfl) (by (simp; omega)))), (fun h_ => (reads_at0 (vs := [u_ (d101[a]!)]) encU_len (rd_sl (i := 0) rfl) (getS (by omega)) (Nat.le_of_ble_eq_true rfl) rfl)), (fun h_ => (fun ww ss => less_spec (d101[i1]!) (d101[a]!) ww)), trivial⟩ ?_))
  refine A.tn (A.cn ((decide ((i1 : Int) ≤ ((b - 1 : Nat) : Int))) && (decide ((d101[i1]!) < (d101[a]!)))) (fun e1 => ?_) (fun e1 => ?_))
  · have p1 := e1; try simp only [nrm] at p1
    refine A.skip (A.tn (A.block (A.region (A.gk [.p, .w ((i1 + 1 : Nat) : Int), .p] [] [(10, c_ (i1 + 1 : Nat))] [] (fun κ => (IntKind.i64.wrap ((i1 : Int) + 1) = ((i1 + 1 : Nat) : Int)) ∧ True) ⟨((wrap_i64 (e := (i1 : Int) + 1) (by (constructor <;> omega))).trans (by rfl : ((i1 : Int) + 1 : Int) = ((i1 + 1 : Nat) : Int))), trivial⟩ ?_))))
    refine A.bn (A.tn ?_)
    have hst_ : scanUp (fun x => ltInt x d101[a]!) d101 (b - 1) i1 = _ := su_t (p := (fun x => ltInt x d101[a]!)) e1
    refine A.next ((i1 + 1 : Nat)) ⟨(by exact hst_.symm.trans hu1), (by omega)⟩ (by (simp; omega)) ?_
    exact A.hK [0]
  have p1 := e1; try simp only [nrm] at p1
  refine A.exit (A.te (A.te (A.bh (A.tn (A.seq (A.block (A.loop (fun (zz : Nat) => match zz with | j1 => [(0, vS al d101.toList cl), (1, c_ a), (8, i_ 0), (9, b_ false), (10, c_ i1), (11, c_ j1)]) (fun (zz : Nat) => match zz with | j1 => [sU al d101.toList cl]) (fun (zz : Nat) => match zz with | j1 => (scanDown (fun x => !ltInt x d101[a]!) d101 i1 j1 = scanDown (fun x => !ltInt x d101[a]!) d101 i1 (b - 1)) ∧ (i1 ≤ j1 + 1 ∧ j1 ≤ (b - 1))) (fun (zz : Nat) => match zz with | j1 => j1) ((b - 1 : Nat) : Nat) ⟨(by rfl), (by omega)⟩ ?_ ?_)))))))
  · exact A.hK [0]
  rintro j1 ⟨hv1, hj1⟩
  refine A.seq (A.seq (A.dA [.p, .p, .p, .p, .o, .p, .p, .ix, .rd [u_ (d101[j1]!)], .p, .p, .ix, .rd [u_ (d101[a]!)], .cq (b_ (decide ((d101[j1]!) < (d101[a]!)))), .p, .cl] [0, 1, 2, 3, 4, 5, 6, 7, 8, 9, 10, 11, 12, 13, 14] [] [(60, b_ ((decide ((i1 : Int) ≤ (j1 : Int))) && (!(decide ((d101[j1]!) < (d101[a]!))))))] [] (fun κ => ((true && ((decide ((i1 : Int) ≤ (j1 : Int))) == true)) = true → κ.ix al d101.toList.length (j1 : Int)) ∧ ((true && ((decide ((i1 : Int) ≤ (j1 : Int))) == true)) = true → κ.rd ((at0 al).add (j1 * 1)) [u_ (d101[j1]!)]) ∧ ((true && ((decide ((i1 : Int) ≤ (j1 : Int))) == true)) = true → κ.ix al d101.toList.length (a : Int)) ∧ ((true && ((decide ((i1 : Int) ≤ (j1 : Int))) == true)) = true → κ.rd ((at0 al).add (a * 1)) [u_ (d101[a]!)]) ∧ ((true && ((decide ((i1 : Int) ≤ (j1 : Int))) == true)) = true → κ.call 155 [u_ (d101[j1]!), u_ (d101[a]!)] (b_ (decide ((d101[j1]!) < (d101[a]!))))) ∧ True) ⟨(fun h_ => (ixOf encU_len (by decide) (rd_sl (i := 0) rfl) (by (simp; omega)))), (fun h_ => (reads_at0 (vs := [u_ (d101[j1]!)]) encU_len (rd_sl (i := 0) rfl) (getS (by omega)) (Nat.le_of_ble_eq_true rfl) rfl)), (fun h_ => (ixOf encU_len (by decide) (rd_sl (i := 0) rfl) (by (simp; omega)))), (fun h_ => (reads_at0 (vs := [u_ (d101[a]!)]) encU_len (rd_sl (i := 0) rfl) (getS (by omega)) (Nat.le_of_ble_eq_true rfl) rfl)), (fun h_ => (fun ww ss => less_spec (d101[j1]!) (d101[a]!) ww)), trivial⟩ ?_))
  refine A.tn (A.cn ((decide ((i1 : Int) ≤ (j1 : Int))) && (!(decide ((d101[j1]!) < (d101[a]!))))) (fun e2 => ?_) (fun e2 => ?_))
  · have p2 := e2; try simp only [nrm] at p2
    refine A.skip (A.tn (A.block (A.region (A.gk [.p, .w ((j1 - 1 : Nat) : Int), .p] [] [(11, c_ (j1 - 1 : Nat))] [] (fun κ => (IntKind.i64.wrap ((j1 : Int) - 1) = ((j1 - 1 : Nat) : Int)) ∧ True) ⟨((wrap_i64 (e := (j1 : Int) - 1) (by (constructor <;> omega))).trans (by omega : ((j1 : Int) - 1 : Int) = ((j1 - 1 : Nat) : Int))), trivial⟩ ?_))))
    refine A.bn (A.tn ?_)
    have hst_ : scanDown (fun x => !ltInt x d101[a]!) d101 i1 j1 = _ := sd_t (p := (fun x => !ltInt x d101[a]!)) (by omega) e2
    refine A.next ((j1 - 1 : Nat)) ⟨(by exact hst_.symm.trans hv1), (by omega)⟩ (by (simp; omega)) ?_
    exact A.hK [0]
  have p2 := e2; try simp only [nrm] at p2
  refine A.exit (A.te (A.te (A.bh (A.tn (A.seq (A.seq ?_))))))
  have hI1 : scanUp (fun x => ltInt x d101[a]!) d101 (b - 1) (a + 1) = i1 := (by rw [← hu1]; exact su_f (p := (fun x => ltInt x d101[a]!)) e1)
  have hne1 := ne_up (by omega) e1 e2
  have hJ1 : scanDown (fun x => !ltInt x d101[a]!) d101 i1 (b - 1) = j1 := (by rw [← hv1]; exact sd_f (p := (fun x => !ltInt x d101[a]!)) e2)
  refine A.region (A.g [.p, .p, .p] [] [(65, b_ (decide ((i1 : Int) > (j1 : Int))))] ?_)
  refine A.tn (A.cn (decide ((i1 : Int) > (j1 : Int))) (fun e3 => ?_) (fun e3 => ?_))
  · have p3 := of_decide_eq_true e3
    refine A.seq (A.draw2 [13, 15] 16 (by kernel_rfl) ?_)
    refine A.dP 3 [.p, .p, .p, .p, .p, .p, .ix, .rd [u_ (d101[a]!)], .p, .p, .ix, .rd [u_ (d101[j1]!)], .ix] [0, 1, 2, 3, 4, 5, 6, 7, 8, 9, 10, 11, 12] [] [(68, vS al d101.toList cl), (69, c_ a), (73, u_ (d101[a]!)), (77, u_ (d101[j1]!)), (78, (.pointer (some ((at0 al).add (j1 * 1)))))] [] (fun κ => κ.ix al d101.toList.length (a : Int) ∧ κ.rd ((at0 al).add (a * 1)) [u_ (d101[a]!)] ∧ κ.ix al d101.toList.length (j1 : Int) ∧ κ.rd ((at0 al).add (j1 * 1)) [u_ (d101[j1]!)] ∧ κ.ix al d101.toList.length (j1 : Int) ∧ True) ⟨(ixOf encU_len (by decide) (rd_sl (i := 0) rfl) (by (simp; omega))), reads_at0 (vs := [u_ (d101[a]!)]) encU_len (rd_sl (i := 0) rfl) (getS (by omega)) (Nat.le_of_ble_eq_true rfl) rfl, ixOf encU_len (by decide) (rd_sl (i := 0) rfl) (by (simp; omega)), reads_at0 (vs := [u_ (d101[j1]!)]) encU_len (rd_sl (i := 0) rfl) (getS (by omega)) (Nat.le_of_ble_eq_true rfl) rfl, ixOf encU_len (by decide) (rd_sl (i := 0) rfl) (by (simp; omega)), trivial⟩ ?_
    refine A.only2 13 rfl (by kernel_rfl) (A.storeSl (enc := encU) (xs := d101.toList) 0 j1 (d101[a]!) [sU al (d101.toList.set j1 (d101[a]!)) cl] (by kernel_rfl) rfl rfl rfl rfl (by kernel_rfl) (by kernel_rfl) encU_len (by decide) rfl (by (simp; omega)) rfl ?_)
    refine A.sv 0 (vS al (d101.toList.set j1 (d101[a]!)) cl) (cgN (by simp)) (A.sv 68 (vS al (d101.toList.set j1 (d101[a]!)) cl) (cgN (by simp)) ?_)
    refine A.stage ?_
    refine A.dP 1 [.ix] [14] [68, 69, 73, 78] [(79, (.pointer (some ((at0 al).add (a * 1)))))] [] (fun κ => κ.ix al ((d101.toList.set j1 (d101[a]!)).length) (a : Int) ∧ True) ⟨(ixOf encU_len (by decide) (rd_sl (i := 0) rfl) (by (simp; omega))), trivial⟩ ?_
    refine A.only2 15 rfl (by kernel_rfl) (A.storeSl (enc := encU) (xs := (d101.toList.set j1 (d101[a]!))) 0 a (d101[j1]!) [sU al ((d101.toList.set j1 (d101[a]!)).set a (d101[j1]!)) cl] (by kernel_rfl) rfl rfl rfl rfl (by kernel_rfl) (by kernel_rfl) encU_len (by decide) rfl (by (simp; omega)) rfl ?_)
    refine A.sv 0 (vS al ((d101.toList.set j1 (d101[a]!)).set a (d101[j1]!)) cl) (cgN (by simp)) ?_
    refine A.stage ?_
    refine A.fin2 (by kernel_rfl) ?_
    obtain ⟨d103, hdd103⟩ : ∃ z, z = swp d101 j1 a := ⟨_, rfl⟩; have hszd103 : d103.size = d101.size := (by rw [hdd103]; exact swp_sz _ _ _)
    have hcv4 : ((d101.toList.set j1 (d101[a]!)).set a (d101[j1]!)) = d103.toList := by rw [hdd103]; exact swp_list2 _ _ _
    refine A.setH [sU al d103.toList cl] (cc (slC hcv4) rfl) ?_
    refine A.sv 0 (vS al d103.toList cl) (cgL hcv4) ?_
    refine tsr (A.g [.p, .p, .p] [77, 79] [(8, c_ j1), (9, b_ true)] ?_)
    refine A.tn (A.ret (A.tr ?_))
    have hP := part_1 (b := b) hdd101 hI1 hJ1 (by omega)
    refine A.pK [0] [c_ j1, b_ true] (j1, true, d103) ?_ ?_
    · rfl
    show partition ltInt d a b p = (j1, true, d103) ∧ d103.size = d.size
    exact ⟨by rw [hP]; simp only [*], by omega⟩
  have p3 := of_decide_eq_false e3
  refine A.skip (A.tn (A.seq (A.draw2 [13, 15] 16 (by kernel_rfl) ?_)))
  refine A.dP 3 [.p, .p, .p, .p, .p, .p, .ix, .rd [u_ (d101[j1]!)], .p, .p, .ix, .rd [u_ (d101[i1]!)], .ix] [0, 1, 2, 3, 4, 5, 6, 7, 8, 9, 10, 11, 12] [] [(83, vS al d101.toList cl), (84, c_ j1), (88, u_ (d101[j1]!)), (92, u_ (d101[i1]!)), (93, (.pointer (some ((at0 al).add (i1 * 1)))))] [] (fun κ => κ.ix al d101.toList.length (j1 : Int) ∧ κ.rd ((at0 al).add (j1 * 1)) [u_ (d101[j1]!)] ∧ κ.ix al d101.toList.length (i1 : Int) ∧ κ.rd ((at0 al).add (i1 * 1)) [u_ (d101[i1]!)] ∧ κ.ix al d101.toList.length (i1 : Int) ∧ True) ⟨(ixOf encU_len (by decide) (rd_sl (i := 0) rfl) (by (simp; omega))), reads_at0 (vs := [u_ (d101[j1]!)]) encU_len (rd_sl (i := 0) rfl) (getS (by omega)) (Nat.le_of_ble_eq_true rfl) rfl, ixOf encU_len (by decide) (rd_sl (i := 0) rfl) (by (simp; omega)), reads_at0 (vs := [u_ (d101[i1]!)]) encU_len (rd_sl (i := 0) rfl) (getS (by omega)) (Nat.le_of_ble_eq_true rfl) rfl, ixOf encU_len (by decide) (rd_sl (i := 0) rfl) (by (simp; omega)), trivial⟩ ?_
  refine A.only2 13 rfl (by kernel_rfl) (A.storeSl (enc := encU) (xs := d101.toList) 0 i1 (d101[j1]!) [sU al (d101.toList.set i1 (d101[j1]!)) cl] (by kernel_rfl) rfl rfl rfl rfl (by kernel_rfl) (by kernel_rfl) encU_len (by decide) rfl (by (simp; omega)) rfl ?_)
  refine A.sv 0 (vS al (d101.toList.set i1 (d101[j1]!)) cl) (cgN (by simp)) (A.sv 83 (vS al (d101.toList.set i1 (d101[j1]!)) cl) (cgN (by simp)) ?_)
  refine A.stage ?_
  refine A.dP 1 [.ix] [14] [83, 84, 88, 93] [(94, (.pointer (some ((at0 al).add (j1 * 1)))))] [] (fun κ => κ.ix al ((d101.toList.set i1 (d101[j1]!)).length) (j1 : Int) ∧ True) ⟨(ixOf encU_len (by decide) (rd_sl (i := 0) rfl) (by (simp; omega))), trivial⟩ ?_
  refine A.only2 15 rfl (by kernel_rfl) (A.storeSl (enc := encU) (xs := (d101.toList.set i1 (d101[j1]!))) 0 j1 (d101[i1]!) [sU al ((d101.toList.set i1 (d101[j1]!)).set j1 (d101[i1]!)) cl] (by kernel_rfl) rfl rfl rfl rfl (by kernel_rfl) (by kernel_rfl) encU_len (by decide) rfl (by (simp; omega)) rfl ?_)
  refine A.sv 0 (vS al ((d101.toList.set i1 (d101[j1]!)).set j1 (d101[i1]!)) cl) (cgN (by simp)) ?_
  refine A.stage ?_
  refine A.fin2 (by kernel_rfl) ?_
  obtain ⟨d105, hdd105⟩ : ∃ z, z = swp d101 i1 j1 := ⟨_, rfl⟩; have hszd105 : d105.size = d101.size := (by rw [hdd105]; exact swp_sz _ _ _)
  have hcv6 : ((d101.toList.set i1 (d101[j1]!)).set j1 (d101[i1]!)) = d105.toList := by rw [hdd105]; exact swp_list2 _ _ _
  refine A.setH [sU al d105.toList cl] (cc (slC hcv6) rfl) ?_
  refine A.sv 0 (vS al d105.toList cl) (cgL hcv6) ?_
  refine tsr (A.gk [.p, .w ((i1 + 1 : Nat) : Int), .p] [92, 94] [(10, c_ (i1 + 1 : Nat))] [] (fun κ => (IntKind.i64.wrap ((i1 : Int) + 1) = ((i1 + 1 : Nat) : Int)) ∧ True) ⟨((wrap_i64 (e := (i1 : Int) + 1) (by (constructor <;> omega))).trans (by rfl : ((i1 : Int) + 1 : Int) = ((i1 + 1 : Nat) : Int))), trivial⟩ ?_)
  refine tsr (A.gk [.p, .w ((j1 - 1 : Nat) : Int), .p] [] [(11, c_ (j1 - 1 : Nat))] [] (fun κ => (IntKind.i64.wrap ((j1 : Int) - 1) = ((j1 - 1 : Nat) : Int)) ∧ True) ⟨((wrap_i64 (e := (j1 : Int) - 1) (by (constructor <;> omega))).trans (by omega : ((j1 : Int) - 1 : Int) = ((j1 - 1 : Nat) : Int))), trivial⟩ ?_)
  refine A.tn (A.seq (A.block (A.loop (fun (zz : Nat × Nat × (Array Int)) => match zz with | (i2, j2, d3) => [(1, c_ a), (8, i_ 0), (9, b_ false), (10, c_ i2), (11, c_ j2), (0, vS al d3.toList cl)]) (fun (zz : Nat × Nat × (Array Int)) => match zz with | (i2, j2, d3) => [sU al d3.toList cl]) (fun (zz : Nat × Nat × (Array Int)) => match zz with | (i2, j2, d3) => (partLoop ltInt a i2 j2 d3 = partLoop ltInt a (i1 + 1) (j1 - 1) d105) ∧ (d3.size = d.size) ∧ (a + 1 ≤ i2 ∧ i2 ≤ j2 + 1 ∧ j2 < b)) (fun (zz : Nat × Nat × (Array Int)) => match zz with | (i2, j2, d3) => j2 + 1 - i2) ((i1 + 1 : Nat), (j1 - 1 : Nat), d105) ⟨(by rfl), (by omega), (by omega)⟩ ?_ ?_)))
  · exact A.hK [0]
  rintro ⟨i2, j2, d3⟩ ⟨he, hz, hi⟩
  refine A.block (A.seq (A.block (A.loop (fun (zz : Nat) => match zz with | i3 => [(1, c_ a), (8, i_ 0), (9, b_ false), (11, c_ j2), (0, vS al d3.toList cl), (10, c_ i3)]) (fun (zz : Nat) => match zz with | i3 => [sU al d3.toList cl]) (fun (zz : Nat) => match zz with | i3 => (scanUp (fun x => ltInt x d3[a]!) d3 j2 i3 = scanUp (fun x => ltInt x d3[a]!) d3 j2 i2) ∧ (i2 ≤ i3 ∧ i3 ≤ j2 + 1)) (fun (zz : Nat) => match zz with | i3 => j2 + 1 - i3) (i2 : Nat) ⟨(by rfl), (by omega)⟩ ?_ ?_)))
  · exact A.hK [0]
  rintro i3 ⟨hu3, hi3⟩
  refine A.seq (A.seq (A.dA [.p, .p, .p, .p, .o, .p, .p, .ix, .rd [u_ (d3[i3]!)], .p, .p, .ix, .rd [u_ (d3[a]!)], .cq (b_ (decide ((d3[i3]!) < (d3[a]!)))), .cl] [0, 1, 2, 3, 4, 5, 6, 7, 8, 9, 10, 11, 12, 13] [] [(112, b_ ((decide ((i3 : Int) ≤ (j2 : Int))) && (decide ((d3[i3]!) < (d3[a]!)))))] [] (fun κ => ((true && ((decide ((i3 : Int) ≤ (j2 : Int))) == true)) = true → κ.ix al d3.toList.length (i3 : Int)) ∧ ((true && ((decide ((i3 : Int) ≤ (j2 : Int))) == true)) = true → κ.rd ((at0 al).add (i3 * 1)) [u_ (d3[i3]!)]) ∧ ((true && ((decide ((i3 : Int) ≤ (j2 : Int))) == true)) = true → κ.ix al d3.toList.length (a : Int)) ∧ ((true && ((decide ((i3 : Int) ≤ (j2 : Int))) == true)) = true → κ.rd ((at0 al).add (a * 1)) [u_ (d3[a]!)]) ∧ ((true && ((decide ((i3 : Int) ≤ (j2 : Int))) == true)) = true → κ.call 155 [u_ (d3[i3]!), u_ (d3[a]!)] (b_ (decide ((d3[i3]!) < (d3[a]!))))) ∧ True) ⟨(fun h_ => (ixOf encU_len (by decide) (rd_sl (i := 0) rfl) (by (simp at h_ ⊢; omega)))), (fun h_ => (reads_at0 (vs := [u_ (d3[i3]!)]) encU_len (rd_sl (i := 0) rfl) (getS (by (simp at h_; omega))) (Nat.le_of_ble_eq_true rfl) rfl)), (fun h_ => (ixOf encU_len (by decide) (rd_sl (i := 0) rfl) (by (simp; omega)))), (fun h_ => (reads_at0 (vs := [u_ (d3[a]!)]) encU_len (rd_sl (i := 0) rfl) (getS (by omega)) (Nat.le_of_ble_eq_true rfl) rfl)), (fun h_ => (fun ww ss => less_spec (d3[i3]!) (d3[a]!) ww)), trivial⟩ ?_))
  refine A.tn (A.cn ((decide ((i3 : Int) ≤ (j2 : Int))) && (decide ((d3[i3]!) < (d3[a]!)))) (fun e4 => ?_) (fun e4 => ?_))
  · have p4 := e4; try simp only [nrm] at p4
    refine A.skip (A.tn (A.block (A.region (A.gk [.p, .w ((i3 + 1 : Nat) : Int), .p] [] [(10, c_ (i3 + 1 : Nat))] [] (fun κ => (IntKind.i64.wrap ((i3 : Int) + 1) = ((i3 + 1 : Nat) : Int)) ∧ True) ⟨((wrap_i64 (e := (i3 : Int) + 1) (by (constructor <;> omega))).trans (by rfl : ((i3 : Int) + 1 : Int) = ((i3 + 1 : Nat) : Int))), trivial⟩ ?_))))
    refine A.bn (A.tn ?_)
    have hst_ : scanUp (fun x => ltInt x d3[a]!) d3 j2 i3 = _ := su_t (p := (fun x => ltInt x d3[a]!)) e4
    refine A.next ((i3 + 1 : Nat)) ⟨(by exact hst_.symm.trans hu3), (by omega)⟩ (by (simp; omega)) ?_
    exact A.hK [0]
  have p4 := e4; try simp only [nrm] at p4
  refine A.exit (A.te (A.te (A.bh (A.tn (A.seq (A.block (A.loop (fun (zz : Nat) => match zz with | j3 => [(1, c_ a), (8, i_ 0), (9, b_ false), (0, vS al d3.toList cl), (10, c_ i3), (11, c_ j3)]) (fun (zz : Nat) => match zz with | j3 => [sU al d3.toList cl]) (fun (zz : Nat) => match zz with | j3 => (scanDown (fun x => !ltInt x d3[a]!) d3 i3 j3 = scanDown (fun x => !ltInt x d3[a]!) d3 i3 j2) ∧ (i3 ≤ j3 + 1 ∧ j3 ≤ j2)) (fun (zz : Nat) => match zz with | j3 => j3) (j2 : Nat) ⟨(by rfl), (by omega)⟩ ?_ ?_)))))))
  · exact A.hK [0]
  rintro j3 ⟨hv3, hj3⟩
  refine A.seq (A.seq (A.dA [.p, .p, .p, .p, .o, .p, .p, .ix, .rd [u_ (d3[j3]!)], .p, .p, .ix, .rd [u_ (d3[a]!)], .cq (b_ (decide ((d3[j3]!) < (d3[a]!)))), .p, .cl] [0, 1, 2, 3, 4, 5, 6, 7, 8, 9, 10, 11, 12, 13, 14] [] [(129, b_ ((decide ((i3 : Int) ≤ (j3 : Int))) && (!(decide ((d3[j3]!) < (d3[a]!))))))] [] (fun κ => ((true && ((decide ((i3 : Int) ≤ (j3 : Int))) == true)) = true → κ.ix al d3.toList.length (j3 : Int)) ∧ ((true && ((decide ((i3 : Int) ≤ (j3 : Int))) == true)) = true → κ.rd ((at0 al).add (j3 * 1)) [u_ (d3[j3]!)]) ∧ ((true && ((decide ((i3 : Int) ≤ (j3 : Int))) == true)) = true → κ.ix al d3.toList.length (a : Int)) ∧ ((true && ((decide ((i3 : Int) ≤ (j3 : Int))) == true)) = true → κ.rd ((at0 al).add (a * 1)) [u_ (d3[a]!)]) ∧ ((true && ((decide ((i3 : Int) ≤ (j3 : Int))) == true)) = true → κ.call 155 [u_ (d3[j3]!), u_ (d3[a]!)] (b_ (decide ((d3[j3]!) < (d3[a]!))))) ∧ True) ⟨(fun h_ => (ixOf encU_len (by decide) (rd_sl (i := 0) rfl) (by (simp; omega)))), (fun h_ => (reads_at0 (vs := [u_ (d3[j3]!)]) encU_len (rd_sl (i := 0) rfl) (getS (by omega)) (Nat.le_of_ble_eq_true rfl) rfl)), (fun h_ => (ixOf encU_len (by decide) (rd_sl (i := 0) rfl) (by (simp; omega)))), (fun h_ => (reads_at0 (vs := [u_ (d3[a]!)]) encU_len (rd_sl (i := 0) rfl) (getS (by omega)) (Nat.le_of_ble_eq_true rfl) rfl)), (fun h_ => (fun ww ss => less_spec (d3[j3]!) (d3[a]!) ww)), trivial⟩ ?_))
  refine A.tn (A.cn ((decide ((i3 : Int) ≤ (j3 : Int))) && (!(decide ((d3[j3]!) < (d3[a]!))))) (fun e5 => ?_) (fun e5 => ?_))
  · have p5 := e5; try simp only [nrm] at p5
    refine A.skip (A.tn (A.block (A.region (A.gk [.p, .w ((j3 - 1 : Nat) : Int), .p] [] [(11, c_ (j3 - 1 : Nat))] [] (fun κ => (IntKind.i64.wrap ((j3 : Int) - 1) = ((j3 - 1 : Nat) : Int)) ∧ True) ⟨((wrap_i64 (e := (j3 : Int) - 1) (by (constructor <;> omega))).trans (by omega : ((j3 : Int) - 1 : Int) = ((j3 - 1 : Nat) : Int))), trivial⟩ ?_))))
    refine A.bn (A.tn ?_)
    have hst_ : scanDown (fun x => !ltInt x d3[a]!) d3 i3 j3 = _ := sd_t (p := (fun x => !ltInt x d3[a]!)) (by omega) e5
    refine A.next ((j3 - 1 : Nat)) ⟨(by exact hst_.symm.trans hv3), (by omega)⟩ (by (simp; omega)) ?_
    exact A.hK [0]
  have p5 := e5; try simp only [nrm] at p5
  refine A.exit (A.te (A.te (A.bh (A.tn (A.seq (A.seq ?_))))))
  have hI3 : scanUp (fun x => ltInt x d3[a]!) d3 j2 i2 = i3 := (by rw [← hu3]; exact su_f (p := (fun x => ltInt x d3[a]!)) e4)
  have hne3 := ne_up (by omega) e4 e5
  have hJ3 : scanDown (fun x => !ltInt x d3[a]!) d3 i3 j2 = j3 := (by rw [← hv3]; exact sd_f (p := (fun x => !ltInt x d3[a]!)) e5)
  refine A.region (A.g [.p, .p, .p] [] [(134, b_ (decide ((i3 : Int) > (j3 : Int))))] ?_)
  refine A.tn (A.cn (decide ((i3 : Int) > (j3 : Int))) (fun e6 => ?_) (fun e6 => ?_))
  · have p6 := of_decide_eq_true e6
    refine A.exit (A.te (A.bm rfl ?_))
    refine A.te (A.bh (A.tn (A.seq (A.draw2 [13, 15] 16 (by kernel_rfl) ?_))))
    refine A.dP 3 [.p, .p, .p, .p, .p, .p, .ix, .rd [u_ (d3[a]!)], .p, .p, .ix, .rd [u_ (d3[j3]!)], .ix] [0, 1, 2, 3, 4, 5, 6, 7, 8, 9, 10, 11, 12] [] [(155, vS al d3.toList cl), (156, c_ a), (160, u_ (d3[a]!)), (164, u_ (d3[j3]!)), (165, (.pointer (some ((at0 al).add (j3 * 1)))))] [] (fun κ => κ.ix al d3.toList.length (a : Int) ∧ κ.rd ((at0 al).add (a * 1)) [u_ (d3[a]!)] ∧ κ.ix al d3.toList.length (j3 : Int) ∧ κ.rd ((at0 al).add (j3 * 1)) [u_ (d3[j3]!)] ∧ κ.ix al d3.toList.length (j3 : Int) ∧ True) ⟨(ixOf encU_len (by decide) (rd_sl (i := 0) rfl) (by (simp; omega))), reads_at0 (vs := [u_ (d3[a]!)]) encU_len (rd_sl (i := 0) rfl) (getS (by omega)) (Nat.le_of_ble_eq_true rfl) rfl, ixOf encU_len (by decide) (rd_sl (i := 0) rfl) (by (simp; omega)), reads_at0 (vs := [u_ (d3[j3]!)]) encU_len (rd_sl (i := 0) rfl) (getS (by omega)) (Nat.le_of_ble_eq_true rfl) rfl, ixOf encU_len (by decide) (rd_sl (i := 0) rfl) (by (simp; omega)), trivial⟩ ?_
    refine A.only2 13 rfl (by kernel_rfl) (A.storeSl (enc := encU) (xs := d3.toList) 0 j3 (d3[a]!) [sU al (d3.toList.set j3 (d3[a]!)) cl] (by kernel_rfl) rfl rfl rfl rfl (by kernel_rfl) (by kernel_rfl) encU_len (by decide) rfl (by (simp; omega)) rfl ?_)
    refine A.sv 0 (vS al (d3.toList.set j3 (d3[a]!)) cl) (cgN (by simp)) (A.sv 155 (vS al (d3.toList.set j3 (d3[a]!)) cl) (cgN (by simp)) ?_)
    refine A.stage ?_
    refine A.dP 1 [.ix] [14] [155, 156, 160, 165] [(166, (.pointer (some ((at0 al).add (a * 1)))))] [] (fun κ => κ.ix al ((d3.toList.set j3 (d3[a]!)).length) (a : Int) ∧ True) ⟨(ixOf encU_len (by decide) (rd_sl (i := 0) rfl) (by (simp; omega))), trivial⟩ ?_
    refine A.only2 15 rfl (by kernel_rfl) (A.storeSl (enc := encU) (xs := (d3.toList.set j3 (d3[a]!))) 0 a (d3[j3]!) [sU al ((d3.toList.set j3 (d3[a]!)).set a (d3[j3]!)) cl] (by kernel_rfl) rfl rfl rfl rfl (by kernel_rfl) (by kernel_rfl) encU_len (by decide) rfl (by (simp; omega)) rfl ?_)
    refine A.sv 0 (vS al ((d3.toList.set j3 (d3[a]!)).set a (d3[j3]!)) cl) (cgN (by simp)) ?_
    refine A.stage ?_
    refine A.fin2 (by kernel_rfl) ?_
    obtain ⟨d107, hdd107⟩ : ∃ z, z = swp d3 j3 a := ⟨_, rfl⟩; have hszd107 : d107.size = d3.size := (by rw [hdd107]; exact swp_sz _ _ _)
    have hcv8 : ((d3.toList.set j3 (d3[a]!)).set a (d3[j3]!)) = d107.toList := by rw [hdd107]; exact swp_list2 _ _ _
    refine A.setH [sU al d107.toList cl] (cc (slC hcv8) rfl) ?_
    refine A.sv 0 (vS al d107.toList cl) (cgL hcv8) ?_
    refine tsr (A.g [.p, .p, .p] [164, 166] [(8, c_ j3)] ?_)
    refine A.tn (A.ret ?_)
    have hP := part_2 (b := b) (r := (j3, d3)) hdd101 hI1 hJ1 (by omega) (by rw [← hdd105]; exact he.symm.trans (pl_stop hI3 hJ3 (by omega)))
    refine A.pK [0] [c_ j3, b_ false] (j3, false, d107) ?_ ?_
    · rfl
    show partition ltInt d a b p = (j3, false, d107) ∧ d107.size = d.size
    exact ⟨by rw [hP]; simp only [*], by omega⟩
  have p6 := of_decide_eq_false e6
  refine A.skip (A.tn (A.seq (A.draw2 [13, 15] 16 (by kernel_rfl) ?_)))
  refine A.dP 3 [.p, .p, .p, .p, .p, .p, .ix, .rd [u_ (d3[j3]!)], .p, .p, .ix, .rd [u_ (d3[i3]!)], .ix] [0, 1, 2, 3, 4, 5, 6, 7, 8, 9, 10, 11, 12] [] [(137, vS al d3.toList cl), (138, c_ j3), (142, u_ (d3[j3]!)), (146, u_ (d3[i3]!)), (147, (.pointer (some ((at0 al).add (i3 * 1)))))] [] (fun κ => κ.ix al d3.toList.length (j3 : Int) ∧ κ.rd ((at0 al).add (j3 * 1)) [u_ (d3[j3]!)] ∧ κ.ix al d3.toList.length (i3 : Int) ∧ κ.rd ((at0 al).add (i3 * 1)) [u_ (d3[i3]!)] ∧ κ.ix al d3.toList.length (i3 : Int) ∧ True) ⟨(ixOf encU_len (by decide) (rd_sl (i := 0) rfl) (by (simp; omega))), reads_at0 (vs := [u_ (d3[j3]!)]) encU_len (rd_sl (i := 0) rfl) (getS (by omega)) (Nat.le_of_ble_eq_true rfl) rfl, ixOf encU_len (by decide) (rd_sl (i := 0) rfl) (by (simp; omega)), reads_at0 (vs := [u_ (d3[i3]!)]) encU_len (rd_sl (i := 0) rfl) (getS (by omega)) (Nat.le_of_ble_eq_true rfl) rfl, ixOf encU_len (by decide) (rd_sl (i := 0) rfl) (by (simp; omega)), trivial⟩ ?_
  refine A.only2 13 rfl (by kernel_rfl) (A.storeSl (enc := encU) (xs := d3.toList) 0 i3 (d3[j3]!) [sU al (d3.toList.set i3 (d3[j3]!)) cl] (by kernel_rfl) rfl rfl rfl rfl (by kernel_rfl) (by kernel_rfl) encU_len (by decide) rfl (by (simp; omega)) rfl ?_)
  refine A.sv 0 (vS al (d3.toList.set i3 (d3[j3]!)) cl) (cgN (by simp)) (A.sv 137 (vS al (d3.toList.set i3 (d3[j3]!)) cl) (cgN (by simp)) ?_)
  refine A.stage ?_
  refine A.dP 1 [.ix] [14] [137, 138, 142, 147] [(148, (.pointer (some ((at0 al).add (j3 * 1)))))] [] (fun κ => κ.ix al ((d3.toList.set i3 (d3[j3]!)).length) (j3 : Int) ∧ True) ⟨(ixOf encU_len (by decide) (rd_sl (i := 0) rfl) (by (simp; omega))), trivial⟩ ?_
  refine A.only2 15 rfl (by kernel_rfl) (A.storeSl (enc := encU) (xs := (d3.toList.set i3 (d3[j3]!))) 0 j3 (d3[i3]!) [sU al ((d3.toList.set i3 (d3[j3]!)).set j3 (d3[i3]!)) cl] (by kernel_rfl) rfl rfl rfl rfl (by kernel_rfl) (by kernel_rfl) encU_len (by decide) rfl (by (simp; omega)) rfl ?_)
  refine A.sv 0 (vS al ((d3.toList.set i3 (d3[j3]!)).set j3 (d3[i3]!)) cl) (cgN (by simp)) ?_
  refine A.stage ?_
  refine A.fin2 (by kernel_rfl) ?_
  obtain ⟨d109, hdd109⟩ : ∃ z, z = swp d3 i3 j3 := ⟨_, rfl⟩; have hszd109 : d109.size = d3.size := (by rw [hdd109]; exact swp_sz _ _ _)
  have hcv10 : ((d3.toList.set i3 (d3[j3]!)).set j3 (d3[i3]!)) = d109.toList := by rw [hdd109]; exact swp_list2 _ _ _
  refine A.setH [sU al d109.toList cl] (cc (slC hcv10) rfl) ?_
  refine A.sv 0 (vS al d109.toList cl) (cgL hcv10) ?_
  refine tsr (A.gk [.p, .w ((i3 + 1 : Nat) : Int), .p] [146, 148] [(10, c_ (i3 + 1 : Nat))] [] (fun κ => (IntKind.i64.wrap ((i3 : Int) + 1) = ((i3 + 1 : Nat) : Int)) ∧ True) ⟨((wrap_i64 (e := (i3 : Int) + 1) (by (constructor <;> omega))).trans (by rfl : ((i3 : Int) + 1 : Int) = ((i3 + 1 : Nat) : Int))), trivial⟩ ?_)
  refine tr (A.gk [.p, .w ((j3 - 1 : Nat) : Int), .p] [] [(11, c_ (j3 - 1 : Nat))] [] (fun κ => (IntKind.i64.wrap ((j3 : Int) - 1) = ((j3 - 1 : Nat) : Int)) ∧ True) ⟨((wrap_i64 (e := (j3 : Int) - 1) (by (constructor <;> omega))).trans (by omega : ((j3 : Int) - 1 : Int) = ((j3 - 1 : Nat) : Int))), trivial⟩ ?_)
  refine A.bn (A.tn ?_)
  have hst_ : partLoop ltInt a i2 j2 d3 = _ := pl_step hI3 hJ3 (by omega)
  refine A.next ((i3 + 1 : Nat), (j3 - 1 : Nat), d109) ⟨(by (rw [hdd109]; exact hst_.symm.trans he)), (by omega), (by omega)⟩ (by (simp; omega)) ?_
  exact A.hK [0]
end Go.Proofs.Ytinnnoimmioaiaa
