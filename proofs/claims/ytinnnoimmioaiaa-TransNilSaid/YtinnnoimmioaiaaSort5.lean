/- What the functions of the sort of numbers do, proved operation by operation, for all arguments, under the conditions that each theorem states. -/
import Derived.Sort.LotA
import Derived.Sort.LotB
import Derived.Sort.LotC
import Derived.Sort.LotD1
import Derived.Sort.LotD3
import Derived.Sort.LotD4
import Derived.Test.YtinnnoimmioaiaaProg
import Derived.Test.YtinnnoimmioaiaaSort4
import Derived.Test.YtinnnoimmioaiaaL2
namespace Go.Proofs.Ytinnnoimmioaiaa
open Go V Go.Sort
set_option linter.unusedVariables false
set_option linter.unusedSimpArgs false
set_option maxHeartbeats 4000000
set_option maxRecDepth 100000

theorem partE_spec (al : Option Addr) (d : Array Int) (cl : Nat) (a b p : Nat) (hb : a ≤ p ∧ p < b ∧ b ≤ d.size) (hS : d.size ≤ 100000) (w : World) (hs : HS w (feet [sU al d.toList cl]) [sU al d.toList cl] w) :
    Calls Try.prog 156 #[vS al d.toList cl, c_ a, c_ b, c_ p] w fun e w' => ∃ zz, e = .returned ((fun (zz : Nat × (Array Int)) => match zz with | (m', d') => (c_ m')) zz) ∧ (fun (zz : Nat × (Array Int)) => match zz with | (m', d') => partitionEqual ltInt d a b p = (m', d') ∧ d'.size = d.size) zz ∧ Turn [sU al d.toList cl] ((fun (zz : Nat × (Array Int)) => match zz with | (m', d') => [sU al d'.toList cl]) zz) w w' := by
  refine calls_of (args := [vS al d.toList cl, c_ a, c_ b, c_ p]) (penv [vS al d.toList cl, c_ a, c_ b, c_ p]) (feet [sU al d.toList cl]) [sU al d.toList cl] Try.func156 rfl rfl (look_penv _) hs ?_
  refine A.sr (A.g [.p] [] [] ?_)
  refine A.tn (A.seq (A.draw2 [13, 15] 16 (by kernel_rfl) ?_))
  refine A.dP 3 [.p, .p, .p, .p, .p, .p, .ix, .rd [u_ (d[p]!)], .p, .p, .ix, .rd [u_ (d[a]!)], .ix] [0, 1, 2, 3, 4, 5, 6, 7, 8, 9, 10, 11, 12] [3] [(13, vS al d.toList cl), (14, c_ p), (18, u_ (d[p]!)), (22, u_ (d[a]!)), (23, (.pointer (some ((at0 al).add (a * 1)))))] [] (fun κ => κ.ix al d.toList.length (p : Int) ∧ κ.rd ((at0 al).add (p * 1)) [u_ (d[p]!)] ∧ κ.ix al d.toList.length (a : Int) ∧ κ.rd ((at0 al).add (a * 1)) [u_ (d[a]!)] ∧ κ.ix al d.toList.length (a : Int) ∧ True) ⟨(ixOf encU_len (by decide) (rd_sl (i := 0) rfl) (by (simp; omega))), reads_at0 (vs := [u_ (d[p]!)]) encU_len (rd_sl (i := 0) rfl) (getS (by omega)) (Nat.le_of_ble_eq_true rfl) rfl, ixOf encU_len (by decide) (rd_sl (i := 0) rfl) (by (simp; omega)), reads_at0 (vs := [u_ (d[a]!)]) encU_len (rd_sl (i := 0) rfl) (getS (by omega)) (Nat.le_of_ble_eq_true rfl) rfl, ixOf encU_len (by decide) (rd_sl (i := 0) rfl) (by (simp; omega)), trivial⟩ ?_
  refine A.only2 13 rfl (by kernel_rfl) (A.storeSl (enc := encU) (xs := d.toList) 0 a (d[p]!) [sU al (d.toList.set a (d[p]!)) cl] (by kernel_rfl) rfl rfl rfl rfl (by kernel_rfl) (by kernel_rfl) encU_len (by decide) rfl (by (simp; omega)) rfl ?_)
  refine A.sv 0 (vS al (d.toList.set a (d[p]!)) cl) (cgN (by simp)) (A.sv 13 (vS al (d.toList.set a (d[p]!)) cl) (cgN (by simp)) ?_)
  refine A.stage ?_
  refine A.dP 1 [.ix] [14] [13, 14, 18, 23] [(24, (.pointer (some ((at0 al).add (p * 1)))))] [] (fun κ => κ.ix al ((d.toList.set a (d[p]!)).length) (p : Int) ∧ True) ⟨(ixOf encU_len (by decide) (rd_sl (i := 0) rfl) (by (simp; omega))), trivial⟩ ?_
  refine A.only2 15 rfl (by kernel_rfl) (A.storeSl (enc := encU) (xs := (d.toList.set a (d[p]!))) 0 p (d[a]!) [sU al ((d.toList.set a (d[p]!)).set p (d[a]!)) cl] (by kernel_rfl) rfl rfl rfl rfl (by kernel_rfl) (by kernel_rfl) encU_len (by decide) rfl (by (simp; omega)) rfl ?_)
  refine A.sv 0 (vS al ((d.toList.set a (d[p]!)).set p (d[a]!)) cl) (cgN (by simp)) ?_
  refine A.stage ?_
  refine A.fin2 (by kernel_rfl) ?_
  obtain ⟨d101, hdd101⟩ : ∃ z, z = swp d a p := ⟨_, rfl⟩; have hszd101 : d101.size = d.size := (by rw [hdd101]; exact swp_sz _ _ _)
  have hcv2 : ((d.toList.set a (d[p]!)).set p (d[a]!)) = d101.toList := by rw [hdd101]; exact swp_list2 _ _ _
  refine A.setH [sU al d101.toList cl] (cc (slC hcv2) rfl) ?_
  refine A.sv 0 (vS al d101.toList cl) (cgL hcv2) ?_
  refine tsr (A.gk [.p, .w ((a + 1 : Nat) : Int), .p, .w ((b - 1 : Nat) : Int), .p, .p] [2, 22, 24] [(9, c_ (a + 1 : Nat)), (10, c_ (b - 1 : Nat))] [] (fun κ => (IntKind.i64.wrap ((a : Int) + 1) = ((a + 1 : Nat) : Int)) ∧ (IntKind.i64.wrap ((b : Int) - 1) = ((b - 1 : Nat) : Int)) ∧ True) ⟨((wrap_i64 (e := (a : Int) + 1) (by (constructor <;> omega))).trans (by rfl : ((a : Int) + 1 : Int) = ((a + 1 : Nat) : Int))), (wrap_i64 (e := (b : Int) - 1) (by (constructor <;> omega))).trans (by omega : ((b : Int) - 1 : Int) = ((b - 1 : Nat) : Int)), trivial⟩ ?_)
  refine A.tn (A.seq (A.block (A.loop (fun (zz : Nat × Nat × (Array Int)) => match zz with | (i2, j2, d3) => [(1, c_ a), (9, c_ i2), (10, c_ j2), (0, vS al d3.toList cl)]) (fun (zz : Nat × Nat × (Array Int)) => match zz with | (i2, j2, d3) => [sU al d3.toList cl]) (fun (zz : Nat × Nat × (Array Int)) => match zz with | (i2, j2, d3) => (partEqLoop ltInt a i2 j2 d3 = partEqLoop ltInt a (a + 1) (b - 1) d101) ∧ (d3.size = d.size) ∧ (a + 1 ≤ i2 ∧ i2 ≤ j2 + 1 ∧ j2 < b)) (fun (zz : Nat × Nat × (Array Int)) => match zz with | (i2, j2, d3) => j2 + 1 - i2) ((a + 1 : Nat), (b - 1 : Nat), d101) ⟨(by rfl), (by omega), (by omega)⟩ ?_ ?_)))
  · exact A.hK [0]
  rintro ⟨i2, j2, d3⟩ ⟨he, hz, hi⟩
  refine A.block (A.seq (A.block (A.loop (fun (zz : Nat) => match zz with | i3 => [(1, c_ a), (10, c_ j2), (0, vS al d3.toList cl), (9, c_ i3)]) (fun (zz : Nat) => match zz with | i3 => [sU al d3.toList cl]) (fun (zz : Nat) => match zz with | i3 => (scanUp (fun x => !ltInt d3[a]! x) d3 j2 i3 = scanUp (fun x => !ltInt d3[a]! x) d3 j2 i2) ∧ (i2 ≤ i3 ∧ i3 ≤ j2 + 1)) (fun (zz : Nat) => match zz with | i3 => j2 + 1 - i3) (i2 : Nat) ⟨(by rfl), (by omega)⟩ ?_ ?_)))
  · exact A.hK [0]
  rintro i3 ⟨hu3, hi3⟩
  refine A.seq (A.seq (A.dA [.p, .p, .p, .p, .o, .p, .p, .ix, .rd [u_ (d3[a]!)], .p, .p, .ix, .rd [u_ (d3[i3]!)], .cq (b_ (decide ((d3[a]!) < (d3[i3]!)))), .p, .cl] [0, 1, 2, 3, 4, 5, 6, 7, 8, 9, 10, 11, 12, 13, 14] [] [(43, b_ ((decide ((i3 : Int) ≤ (j2 : Int))) && (!(decide ((d3[a]!) < (d3[i3]!))))))] [] (fun κ => ((true && ((decide ((i3 : Int) ≤ (j2 : Int))) == true)) = true → κ.ix al d3.toList.length (a : Int)) ∧ ((true && ((decide ((i3 : Int) ≤ (j2 : Int))) == true)) = true → κ.rd ((at0 al).add (a * 1)) [u_ (d3[a]!)]) ∧ ((true && ((decide ((i3 : Int) ≤ (j2 : Int))) == true)) = true → κ.ix al d3.toList.length (i3 : Int)) ∧ ((true && ((decide ((i3 : Int) ≤ (j2 : Int))) == true)) = true → κ.rd ((at0 al).add (i3 * 1)) [u_ (d3[i3]!)]) ∧ ((true && ((decide ((i3 : Int) ≤ (j2 : Int))) == true)) = true → κ.call 155 [u_ (d3[a]!), u_ (d3[i3]!)] (b_ (decide ((d3[a]!) < (d3[i3]!))))) ∧ True) ⟨(fun h_ => (ixOf encU_len (by decide) (rd_sl (i := 0) rfl) (by (simp; omega)))), (fun h_ => (reads_at0 (vs := [u_ (d3[a]!)]) encU_len (rd_sl (i := 0) rfl) (getS (by omega)) (Nat.le_of_ble_eq_true rfl) rfl)), (fun h_ => (ixOf encU_len (by decide) (rd_sl (i := 0) rfl) (by (simp at h_ ⊢; omega)))), (fun h_ => (reads_at0 (vs := [u_ (d3[i3]!)]) encU_len (rd_sl (i := 0) rfl) (getS (by (simp at h_; omega))) (Nat.le_of_ble_eq_true rfl) rfl)), (fun h_ => (fun ww ss => less_spec (d3[a]!) (d3[i3]!) ww)), trivial⟩ ?_))
  refine A.tn (A.cn ((decide ((i3 : Int) ≤ (j2 : Int))) && (!(decide ((d3[a]!) < (d3[i3]!))))) (fun e1 => ?_) (fun e1 => ?_))
  · have p1 := e1; try simp only [nrm] at p1
    refine A.skip (A.tn (A.block (A.region (A.gk [.p, .w ((i3 + 1 : Nat) : Int), .p] [43] [(9, c_ (i3 + 1 : Nat))] [] (fun κ => (IntKind.i64.wrap ((i3 : Int) + 1) = ((i3 + 1 : Nat) : Int)) ∧ True) ⟨((wrap_i64 (e := (i3 : Int) + 1) (by (constructor <;> omega))).trans (by rfl : ((i3 : Int) + 1 : Int) = ((i3 + 1 : Nat) : Int))), trivial⟩ ?_))))
    refine A.bn (A.tn ?_)
    have hst_ : scanUp (fun x => !ltInt d3[a]! x) d3 j2 i3 = _ := su_t (p := (fun x => !ltInt d3[a]! x)) e1
    refine A.next ((i3 + 1 : Nat)) ⟨(by exact hst_.symm.trans hu3), (by omega)⟩ (by (simp; omega)) ?_
    exact A.hK [0]
  have p1 := e1; try simp only [nrm] at p1
  refine A.exit (A.te (A.te (A.bh (A.tn (A.seq (A.block (A.loop (fun (zz : Nat) => match zz with | j3 => [(1, c_ a), (0, vS al d3.toList cl), (9, c_ i3), (10, c_ j3)]) (fun (zz : Nat) => match zz with | j3 => [sU al d3.toList cl]) (fun (zz : Nat) => match zz with | j3 => (scanDown (fun x => ltInt d3[a]! x) d3 i3 j3 = scanDown (fun x => ltInt d3[a]! x) d3 i3 j2) ∧ (i3 ≤ j3 + 1 ∧ j3 ≤ j2)) (fun (zz : Nat) => match zz with | j3 => j3) (j2 : Nat) ⟨(by rfl), (by omega)⟩ ?_ ?_)))))))
  · exact A.hK [0]
  rintro j3 ⟨hv3, hj3⟩
  refine A.seq (A.seq (A.dA [.p, .p, .p, .p, .o, .p, .p, .ix, .rd [u_ (d3[a]!)], .p, .p, .ix, .rd [u_ (d3[j3]!)], .cq (b_ (decide ((d3[a]!) < (d3[j3]!)))), .cl] [0, 1, 2, 3, 4, 5, 6, 7, 8, 9, 10, 11, 12, 13] [] [(59, b_ ((decide ((i3 : Int) ≤ (j3 : Int))) && (decide ((d3[a]!) < (d3[j3]!)))))] [] (fun κ => ((true && ((decide ((i3 : Int) ≤ (j3 : Int))) == true)) = true → κ.ix al d3.toList.length (a : Int)) ∧ ((true && ((decide ((i3 : Int) ≤ (j3 : Int))) == true)) = true → κ.rd ((at0 al).add (a * 1)) [u_ (d3[a]!)]) ∧ ((true && ((decide ((i3 : Int) ≤ (j3 : Int))) == true)) = true → κ.ix al d3.toList.length (j3 : Int)) ∧ ((true && ((decide ((i3 : Int) ≤ (j3 : Int))) == true)) = true → κ.rd ((at0 al).add (j3 * 1)) [u_ (d3[j3]!)]) ∧ ((true && ((decide ((i3 : Int) ≤ (j3 : Int))) == true)) = true → κ.call 155 [u_ (d3[a]!), u_ (d3[j3]!)] (b_ (decide ((d3[a]!) < (d3[j3]!))))) ∧ True) ⟨(fun h_ => (ixOf encU_len (by decide) (rd_sl (i := 0) rfl) (by (simp; omega)))), (fun h_ => (reads_at0 (vs := [u_ (d3[a]!)]) encU_len (rd_sl (i := 0) rfl) (getS (by omega)) (Nat.le_of_ble_eq_true rfl) rfl)), (fun h_ => (ixOf encU_len (by decide) (rd_sl (i := 0) rfl) (by (simp; omega)))), (fun h_ => (reads_at0 (vs := [u_ (d3[j3]!)]) encU_len (rd_sl (i := 0) rfl) (getS (by omega)) (Nat.le_of_ble_eq_true rfl) rfl)), (fun h_ => (fun ww ss => less_spec (d3[a]!) (d3[j3]!) ww)), trivial⟩ ?_))
  refine A.tn (A.cn ((decide ((i3 : Int) ≤ (j3 : Int))) && (decide ((d3[a]!) < (d3[j3]!)))) (fun e2 => ?_) (fun e2 => ?_))
  · have p2 := e2; try simp only [nrm] at p2
    refine A.skip (A.tn (A.block (A.region (A.gk [.p, .w ((j3 - 1 : Nat) : Int), .p] [59] [(10, c_ (j3 - 1 : Nat))] [] (fun κ => (IntKind.i64.wrap ((j3 : Int) - 1) = ((j3 - 1 : Nat) : Int)) ∧ True) ⟨((wrap_i64 (e := (j3 : Int) - 1) (by (constructor <;> omega))).trans (by omega : ((j3 : Int) - 1 : Int) = ((j3 - 1 : Nat) : Int))), trivial⟩ ?_))))
    refine A.bn (A.tn ?_)
    have hst_ : scanDown (fun x => ltInt d3[a]! x) d3 i3 j3 = _ := sd_t (p := (fun x => ltInt d3[a]! x)) (by omega) e2
    refine A.next ((j3 - 1 : Nat)) ⟨(by exact hst_.symm.trans hv3), (by omega)⟩ (by (simp; omega)) ?_
    exact A.hK [0]
  have p2 := e2; try simp only [nrm] at p2
  refine A.exit (A.te (A.te (A.bh (A.tn (A.seq (A.seq ?_))))))
  have hI3 : scanUp (fun x => !ltInt d3[a]! x) d3 j2 i2 = i3 := (by rw [← hu3]; exact su_f (p := (fun x => !ltInt d3[a]! x)) e1)
  have hne3 := ne_eq (by omega) e1 e2
  have hJ3 : scanDown (fun x => ltInt d3[a]! x) d3 i3 j2 = j3 := (by rw [← hv3]; exact sd_f (p := (fun x => ltInt d3[a]! x)) e2)
  refine A.region (A.g [.p, .p, .p] [59] [(64, b_ (decide ((i3 : Int) > (j3 : Int))))] ?_)
  refine A.tn (A.cn (decide ((i3 : Int) > (j3 : Int))) (fun e3 => ?_) (fun e3 => ?_))
  · have p3 := of_decide_eq_true e3
    refine A.exit (A.te (A.bm rfl ?_))
    refine A.te (A.bh (tsr (A.g [.p, .p] [1, 0, 9, 10, 64] [(8, c_ i3)] ?_)))
    refine A.tn (A.ret ?_)
    have hP : partitionEqual ltInt d a b p = (i3, d3) := by unfold partitionEqual; rw [← hdd101]; exact he.symm.trans (pe_stop hI3 hJ3 (by omega))
    refine A.pK [0] [c_ i3] (i3, d3) ?_ ?_
    · rfl
    show partitionEqual ltInt d a b p = (i3, d3) ∧ d3.size = d.size
    exact ⟨hP, by omega⟩
  have p3 := of_decide_eq_false e3
  refine A.skip (A.tn (A.seq (A.draw2 [13, 15] 16 (by kernel_rfl) ?_)))
  refine A.dP 3 [.p, .p, .p, .p, .p, .p, .ix, .rd [u_ (d3[j3]!)], .p, .p, .ix, .rd [u_ (d3[i3]!)], .ix] [0, 1, 2, 3, 4, 5, 6, 7, 8, 9, 10, 11, 12] [64] [(67, vS al d3.toList cl), (68, c_ j3), (72, u_ (d3[j3]!)), (76, u_ (d3[i3]!)), (77, (.pointer (some ((at0 al).add (i3 * 1)))))] [] (fun κ => κ.ix al d3.toList.length (j3 : Int) ∧ κ.rd ((at0 al).add (j3 * 1)) [u_ (d3[j3]!)] ∧ κ.ix al d3.toList.length (i3 : Int) ∧ κ.rd ((at0 al).add (i3 * 1)) [u_ (d3[i3]!)] ∧ κ.ix al d3.toList.length (i3 : Int) ∧ True) ⟨(ixOf encU_len (by decide) (rd_sl (i := 0) rfl) (by (simp; omega))), reads_at0 (vs := [u_ (d3[j3]!)]) encU_len (rd_sl (i := 0) rfl) (getS (by omega)) (Nat.le_of_ble_eq_true rfl) rfl, ixOf encU_len (by decide) (rd_sl (i := 0) rfl) (by (simp; omega)), reads_at0 (vs := [u_ (d3[i3]!)]) encU_len (rd_sl (i := 0) rfl) (getS (by omega)) (Nat.le_of_ble_eq_true rfl) rfl, ixOf encU_len (by decide) (rd_sl (i := 0) rfl) (by (simp; omega)), trivial⟩ ?_
  refine A.only2 13 rfl (by kernel_rfl) (A.storeSl (enc := encU) (xs := d3.toList) 0 i3 (d3[j3]!) [sU al (d3.toList.set i3 (d3[j3]!)) cl] (by kernel_rfl) rfl rfl rfl rfl (by kernel_rfl) (by kernel_rfl) encU_len (by decide) rfl (by (simp; omega)) rfl ?_)
  refine A.sv 0 (vS al (d3.toList.set i3 (d3[j3]!)) cl) (cgN (by simp)) (A.sv 67 (vS al (d3.toList.set i3 (d3[j3]!)) cl) (cgN (by simp)) ?_)
  refine A.stage ?_
  refine A.dP 1 [.ix] [14] [67, 68, 72, 77] [(78, (.pointer (some ((at0 al).add (j3 * 1)))))] [] (fun κ => κ.ix al ((d3.toList.set i3 (d3[j3]!)).length) (j3 : Int) ∧ True) ⟨(ixOf encU_len (by decide) (rd_sl (i := 0) rfl) (by (simp; omega))), trivial⟩ ?_
  refine A.only2 15 rfl (by kernel_rfl) (A.storeSl (enc := encU) (xs := (d3.toList.set i3 (d3[j3]!))) 0 j3 (d3[i3]!) [sU al ((d3.toList.set i3 (d3[j3]!)).set j3 (d3[i3]!)) cl] (by kernel_rfl) rfl rfl rfl rfl (by kernel_rfl) (by kernel_rfl) encU_len (by decide) rfl (by (simp; omega)) rfl ?_)
  refine A.sv 0 (vS al ((d3.toList.set i3 (d3[j3]!)).set j3 (d3[i3]!)) cl) (cgN (by simp)) ?_
  refine A.stage ?_
  refine A.fin2 (by kernel_rfl) ?_
  obtain ⟨d103, hdd103⟩ : ∃ z, z = swp d3 i3 j3 := ⟨_, rfl⟩; have hszd103 : d103.size = d3.size := (by rw [hdd103]; exact swp_sz _ _ _)
  have hcv4 : ((d3.toList.set i3 (d3[j3]!)).set j3 (d3[i3]!)) = d103.toList := by rw [hdd103]; exact swp_list2 _ _ _
  refine A.setH [sU al d103.toList cl] (cc (slC hcv4) rfl) ?_
  refine A.sv 0 (vS al d103.toList cl) (cgL hcv4) ?_
  refine tsr (A.gk [.p, .w ((i3 + 1 : Nat) : Int), .p] [76, 78] [(9, c_ (i3 + 1 : Nat))] [] (fun κ => (IntKind.i64.wrap ((i3 : Int) + 1) = ((i3 + 1 : Nat) : Int)) ∧ True) ⟨((wrap_i64 (e := (i3 : Int) + 1) (by (constructor <;> omega))).trans (by rfl : ((i3 : Int) + 1 : Int) = ((i3 + 1 : Nat) : Int))), trivial⟩ ?_)
  refine tr (A.gk [.p, .w ((j3 - 1 : Nat) : Int), .p] [] [(10, c_ (j3 - 1 : Nat))] [] (fun κ => (IntKind.i64.wrap ((j3 : Int) - 1) = ((j3 - 1 : Nat) : Int)) ∧ True) ⟨((wrap_i64 (e := (j3 : Int) - 1) (by (constructor <;> omega))).trans (by omega : ((j3 : Int) - 1 : Int) = ((j3 - 1 : Nat) : Int))), trivial⟩ ?_)
  refine A.bn (A.tn ?_)
  have hst_ : partEqLoop ltInt a i2 j2 d3 = _ := pe_step hI3 hJ3 (by omega)
  refine A.next ((i3 + 1 : Nat), (j3 - 1 : Nat), d103) ⟨(by (rw [hdd103]; exact hst_.symm.trans he)), (by omega), (by omega)⟩ (by (simp; omega)) ?_
  exact A.hK [0]

theorem pins_spec (al : Option Addr) (d : Array Int) (cl : Nat) (a b : Nat) (hb : a < b ∧ b ≤ d.size) (hS : d.size ≤ 100000) (w : World) (hs : HS w (feet [sU al d.toList cl]) [sU al d.toList cl] w) :
    Calls Try.prog 154 #[vS al d.toList cl, c_ a, c_ b] w fun e w' => ∃ zz, e = .returned ((fun (zz : Bool × (Array Int)) => match zz with | (q', d') => (b_ q')) zz) ∧ (fun (zz : Bool × (Array Int)) => match zz with | (q', d') => partialInsertionSort ltInt d a b = (d', q') ∧ d'.size = d.size) zz ∧ Turn [sU al d.toList cl] ((fun (zz : Bool × (Array Int)) => match zz with | (q', d') => [sU al d'.toList cl]) zz) w w' := by
  refine calls_of (args := [vS al d.toList cl, c_ a, c_ b]) (penv [vS al d.toList cl, c_ a, c_ b]) (feet [sU al d.toList cl]) [sU al d.toList cl] Try.func154 rfl rfl (look_penv _) hs ?_
  refine A.sr (A.g [.p] [] [] ?_)
  refine tsr (A.gk [.p, .w ((a + 1 : Nat) : Int), .p] [] [(7, c_ (a + 1 : Nat))] [] (fun κ => (IntKind.i64.wrap ((a : Int) + 1) = ((a + 1 : Nat) : Int)) ∧ True) ⟨((wrap_i64 (e := (a : Int) + 1) (by (constructor <;> omega))).trans (by rfl : ((a : Int) + 1 : Int) = ((a + 1 : Nat) : Int))), trivial⟩ ?_)
  refine A.tn (A.seq (A.sr (A.g [.p] [] [(8, i_ 0)] ?_)))
  refine A.tn (A.block (A.loop (fun (zz : Nat × Nat × (Array Int)) => match zz with | (k, i1, d1) => [(1, c_ a), (2, c_ b), (8, c_ k), (7, c_ i1), (0, vS al d1.toList cl)]) (fun (zz : Nat × Nat × (Array Int)) => match zz with | (k, i1, d1) => [sU al d1.toList cl]) (fun (zz : Nat × Nat × (Array Int)) => match zz with | (k, i1, d1) => (partialIns ltInt a b (5 - k) i1 d1 = partialInsertionSort ltInt d a b) ∧ (d1.size = d.size) ∧ (a + 1 ≤ i1 ∧ i1 ≤ b ∧ k ≤ 5)) (fun (zz : Nat × Nat × (Array Int)) => match zz with | (k, i1, d1) => 5 - k) (0, (a + 1 : Nat), d) ⟨(by rfl), (by rfl), (by omega)⟩ ?_ ?_))
  · exact A.hK [0]
  rintro ⟨k, i1, d1⟩ ⟨he, hz, hi⟩
  refine A.seq (A.sr (A.g [.p, .p] [] [(14, b_ (decide ((k : Int) < 5)))] ?_))
  refine A.tn (A.cn (decide ((k : Int) < 5)) (fun e1 => ?_) (fun e1 => ?_))
  · have p1 := of_decide_eq_true e1
    refine A.skip (A.tn (A.seq (A.block (A.seq (A.block (A.loop (fun (zz : Nat) => match zz with | i2 => [(1, c_ a), (2, c_ b), (8, c_ k), (0, vS al d1.toList cl), (7, c_ i2)]) (fun (zz : Nat) => match zz with | i2 => [sU al d1.toList cl]) (fun (zz : Nat) => match zz with | i2 => (scanSorted ltInt d1 b i2 = scanSorted ltInt d1 b i1) ∧ (i1 ≤ i2 ∧ i2 ≤ b)) (fun (zz : Nat) => match zz with | i2 => b - i2) (i1 : Nat) ⟨(by rfl), (by omega)⟩ ?_ ?_))))))
    · exact A.hK [0]
    rintro i2 ⟨hs, hi2⟩
    refine A.seq (A.seq (A.dA [.p, .p, .p, .p, .o, .p, .p, .ix, .rd [u_ (d1[i2]!)], .p, .p, .w ((i2 - 1 : Nat) : Int), .ix, .rd [u_ (d1[(i2 - 1 : Nat)]!)], .cq (b_ (decide ((d1[i2]!) < (d1[(i2 - 1 : Nat)]!)))), .p, .cl] [0, 1, 2, 3, 4, 5, 6, 7, 8, 9, 10, 11, 12, 13, 14, 15] [] [(32, b_ ((decide ((i2 : Int) < (b : Int))) && (!(decide ((d1[i2]!) < (d1[(i2 - 1 : Nat)]!))))))] [] (fun κ => ((true && ((decide ((i2 : Int) < (b : Int))) == true)) = true → κ.ix al d1.toList.length (i2 : Int)) ∧ ((true && ((decide ((i2 : Int) < (b : Int))) == true)) = true → κ.rd ((at0 al).add (i2 * 1)) [u_ (d1[i2]!)]) ∧ ((true && ((decide ((i2 : Int) < (b : Int))) == true)) = true → (IntKind.i64.wrap ((i2 : Int) - 1) = ((i2 - 1 : Nat) : Int))) ∧ ((true && ((decide ((i2 : Int) < (b : Int))) == true)) = true → κ.ix al d1.toList.length ((i2 - 1 : Nat) : Int)) ∧ ((true && ((decide ((i2 : Int) < (b : Int))) == true)) = true → κ.rd ((at0 al).add ((i2 - 1 : Nat) * 1)) [u_ (d1[(i2 - 1 : Nat)]!)]) ∧ ((true && ((decide ((i2 : Int) < (b : Int))) == true)) = true → κ.call 155 [u_ (d1[i2]!), u_ (d1[(i2 - 1 : Nat)]!)] (b_ (decide ((d1[i2]!) < (d1[(i2 - 1 : Nat)]!))))) ∧ True) ⟨(fun h_ => (ixOf encU_len (by decide) (rd_sl (i := 0) rfl) (by (simp at h_ ⊢; omega)))), (fun h_ => (reads_at0 (vs := [u_ (d1[i2]!)]) encU_len (rd_sl (i := 0) rfl) (getS (by (simp at h_; omega))) (Nat.le_of_ble_eq_true rfl) rfl)), (fun h_ => ((wrap_i64 (e := (i2 : Int) - 1) (by (constructor <;> omega))).trans (by omega : ((i2 : Int) - 1 : Int) = ((i2 - 1 : Nat) : Int)))), (fun h_ => (ixOf encU_len (by decide) (rd_sl (i := 0) rfl) (by (simp; omega)))), (fun h_ => (reads_at0 (vs := [u_ (d1[(i2 - 1 : Nat)]!)]) encU_len (rd_sl (i := 0) rfl) (getS (by omega)) (Nat.le_of_ble_eq_true rfl) rfl)), (fun h_ => (fun ww ss => less_spec (d1[i2]!) (d1[(i2 - 1 : Nat)]!) ww)), trivial⟩ ?_))
    refine A.tn (A.cn ((decide ((i2 : Int) < (b : Int))) && (!(decide ((d1[i2]!) < (d1[(i2 - 1 : Nat)]!))))) (fun e2 => ?_) (fun e2 => ?_))
    · have p2 := e2; try simp only [nrm] at p2
      refine A.skip (A.tn (A.block (A.region (A.gk [.p, .w ((i2 + 1 : Nat) : Int), .p] [32] [(7, c_ (i2 + 1 : Nat))] [] (fun κ => (IntKind.i64.wrap ((i2 : Int) + 1) = ((i2 + 1 : Nat) : Int)) ∧ True) ⟨((wrap_i64 (e := (i2 : Int) + 1) (by (constructor <;> omega))).trans (by rfl : ((i2 : Int) + 1 : Int) = ((i2 + 1 : Nat) : Int))), trivial⟩ ?_))))
      refine A.bn (A.tn ?_)
      have hst_ : scanSorted ltInt d1 b i2 = _ := ss_t e2
      refine A.next ((i2 + 1 : Nat)) ⟨(by exact hst_.symm.trans hs), (by omega)⟩ (by (simp; omega)) ?_
      exact A.hK [0]
    have p2 := e2; try simp only [nrm] at p2
    refine A.exit (A.te (A.te (A.bh (A.tn (A.seq (A.seq ?_))))))
    have hI : scanSorted ltInt d1 b i1 = i2 := (by rw [← hs]; exact ss_f e2)
    refine A.region (A.g [.p, .p, .p] [32] [(37, b_ ((i2 : Int) == (b : Int)))] ?_)
    refine A.tn (A.cn ((i2 : Int) == (b : Int)) (fun e3 => ?_) (fun e3 => ?_))
    · have p3 := e3; try simp only [nrm] at p3
      refine A.sr (A.g [.p] [1, 2, 8, 0, 7, 37] [(6, b_ true)] ?_)
      refine A.tn (A.ret (A.tr (A.br (A.tr (A.tr (A.br (A.tr (A.pK [0] [b_ true] (true, d1) ?_ ?_))))))))
      · rfl
      show partialInsertionSort ltInt d a b = (d1, true) ∧ d1.size = d.size
      (refine ⟨?_, by omega⟩; rw [pins_step (by omega), pi_1 hI (by omega)] at he; exact he.symm)
    have p3 := e3; try simp only [nrm] at p3
    refine A.skip (A.tn (A.seq (A.sr (A.gk [.p, .p, .w ((b - a : Nat) : Int), .p] [37] [(41, b_ (decide (((b - a : Nat) : Int) < 50)))] [] (fun κ => (IntKind.i64.wrap ((b : Int) - (a : Int)) = ((b - a : Nat) : Int)) ∧ True) ⟨((wrap_i64 (e := (b : Int) - (a : Int)) (by (constructor <;> omega))).trans (by omega : ((b : Int) - (a : Int) : Int) = ((b - a : Nat) : Int))), trivial⟩ ?_))))
    refine A.tn (A.cn (decide (((b - a : Nat) : Int) < 50)) (fun e4 => ?_) (fun e4 => ?_))
    · have p4 := of_decide_eq_true e4
      refine A.sr (A.g [.p] [1, 2, 8, 0, 7, 41] [(6, b_ false)] ?_)
      refine A.tn (A.ret (A.tr (A.br (A.tr (A.tr (A.br (A.tr (A.pK [0] [b_ false] (false, d1) ?_ ?_))))))))
      · rfl
      show partialInsertionSort ltInt d a b = (d1, false) ∧ d1.size = d.size
      (refine ⟨?_, by omega⟩; rw [pins_step (by omega), pi_2 hI (by omega) (by omega)] at he; exact he.symm)
    have p4 := of_decide_eq_false e4
    refine A.skip (A.tn (A.seq (A.draw2 [15, 17] 18 (by kernel_rfl) ?_)))
    refine A.dP 3 [.p, .p, .p, .p, .w ((i2 - 1 : Nat) : Int), .p, .p, .w ((i2 - 1 : Nat) : Int), .ix, .rd [u_ (d1[(i2 - 1 : Nat)]!)], .p, .p, .ix, .rd [u_ (d1[i2]!)], .ix] [0, 1, 2, 3, 4, 5, 6, 7, 8, 9, 10, 11, 12, 13, 14] [41] [(44, vS al d1.toList cl), (46, c_ (i2 - 1 : Nat)), (51, u_ (d1[(i2 - 1 : Nat)]!)), (55, u_ (d1[i2]!)), (56, (.pointer (some ((at0 al).add (i2 * 1)))))] [] (fun κ => (IntKind.i64.wrap ((i2 : Int) - 1) = ((i2 - 1 : Nat) : Int)) ∧ (IntKind.i64.wrap ((i2 : Int) - 1) = ((i2 - 1 : Nat) : Int)) ∧ κ.ix al d1.toList.length ((i2 - 1 : Nat) : Int) ∧ κ.rd ((at0 al).add ((i2 - 1 : Nat) * 1)) [u_ (d1[(i2 - 1 : Nat)]!)] ∧ κ.ix al d1.toList.length (i2 : Int) ∧ κ.rd ((at0 al).add (i2 * 1)) [u_ (d1[i2]!)] ∧ κ.ix al d1.toList.length (i2 : Int) ∧ True) ⟨((wrap_i64 (e := (i2 : Int) - 1) (by (constructor <;> omega))).trans (by omega : ((i2 : Int) - 1 : Int) = ((i2 - 1 : Nat) : Int))), (wrap_i64 (e := (i2 : Int) - 1) (by (constructor <;> omega))).trans (by omega : ((i2 : Int) - 1 : Int) = ((i2 - 1 : Nat) : Int)), ixOf encU_len (by decide) (rd_sl (i := 0) rfl) (by (simp; omega)), reads_at0 (vs := [u_ (d1[(i2 - 1 : Nat)]!)]) encU_len (rd_sl (i := 0) rfl) (getS (by omega)) (Nat.le_of_ble_eq_true rfl) rfl, ixOf encU_len (by decide) (rd_sl (i := 0) rfl) (by (simp; omega)), reads_at0 (vs := [u_ (d1[i2]!)]) encU_len (rd_sl (i := 0) rfl) (getS (by omega)) (Nat.le_of_ble_eq_true rfl) rfl, ixOf encU_len (by decide) (rd_sl (i := 0) rfl) (by (simp; omega)), trivial⟩ ?_
    refine A.only2 15 rfl (by kernel_rfl) (A.storeSl (enc := encU) (xs := d1.toList) 0 i2 (d1[(i2 - 1 : Nat)]!) [sU al (d1.toList.set i2 (d1[(i2 - 1 : Nat)]!)) cl] (by kernel_rfl) rfl rfl rfl rfl (by kernel_rfl) (by kernel_rfl) encU_len (by decide) rfl (by (simp; omega)) rfl ?_)
    refine A.sv 0 (vS al (d1.toList.set i2 (d1[(i2 - 1 : Nat)]!)) cl) (cgN (by simp)) (A.sv 44 (vS al (d1.toList.set i2 (d1[(i2 - 1 : Nat)]!)) cl) (cgN (by simp)) ?_)
    refine A.stage ?_
    refine A.dP 1 [.ix] [16] [44, 46, 51, 56] [(57, (.pointer (some ((at0 al).add ((i2 - 1 : Nat) * 1)))))] [] (fun κ => κ.ix al ((d1.toList.set i2 (d1[(i2 - 1 : Nat)]!)).length) ((i2 - 1 : Nat) : Int) ∧ True) ⟨(ixOf encU_len (by decide) (rd_sl (i := 0) rfl) (by (simp; omega))), trivial⟩ ?_
    refine A.only2 17 rfl (by kernel_rfl) (A.storeSl (enc := encU) (xs := (d1.toList.set i2 (d1[(i2 - 1 : Nat)]!))) 0 (i2 - 1 : Nat) (d1[i2]!) [sU al ((d1.toList.set i2 (d1[(i2 - 1 : Nat)]!)).set (i2 - 1 : Nat) (d1[i2]!)) cl] (by kernel_rfl) rfl rfl rfl rfl (by kernel_rfl) (by kernel_rfl) encU_len (by decide) rfl (by (simp; omega)) rfl ?_)
    refine A.sv 0 (vS al ((d1.toList.set i2 (d1[(i2 - 1 : Nat)]!)).set (i2 - 1 : Nat) (d1[i2]!)) cl) (cgN (by simp)) ?_
    refine A.stage ?_
    refine A.fin2 (by kernel_rfl) ?_
    obtain ⟨d101, hdd101⟩ : ∃ z, z = swp d1 i2 (i2 - 1 : Nat) := ⟨_, rfl⟩; have hszd101 : d101.size = d1.size := (by rw [hdd101]; exact swp_sz _ _ _)
    have hcv2 : ((d1.toList.set i2 (d1[(i2 - 1 : Nat)]!)).set (i2 - 1 : Nat) (d1[i2]!)) = d101.toList := by rw [hdd101]; exact swp_list2 _ _ _
    refine A.setH [sU al d101.toList cl] (cc (slC hcv2) rfl) ?_
    refine A.sv 0 (vS al d101.toList cl) (cgL hcv2) ?_
    refine A.tn (A.seq (A.sr (A.gk [.p, .p, .w ((i2 - a : Nat) : Int), .p] [55, 57] [(61, b_ (decide (((i2 - a : Nat) : Int) ≥ 2)))] [] (fun κ => (IntKind.i64.wrap ((i2 : Int) - (a : Int)) = ((i2 - a : Nat) : Int)) ∧ True) ⟨((wrap_i64 (e := (i2 : Int) - (a : Int)) (by (constructor <;> omega))).trans (by omega : ((i2 : Int) - (a : Int) : Int) = ((i2 - a : Nat) : Int))), trivial⟩ ?_)))
    refine A.tn (A.cn (decide (((i2 - a : Nat) : Int) ≥ 2)) (fun e5 => ?_) (fun e5 => ?_))
    · have p5 := of_decide_eq_true e5
      refine A.sr (A.gk [.p, .w ((i2 - 1 : Nat) : Int), .p] [61] [(9, c_ (i2 - 1 : Nat))] [] (fun κ => (IntKind.i64.wrap ((i2 : Int) - 1) = ((i2 - 1 : Nat) : Int)) ∧ True) ⟨((wrap_i64 (e := (i2 : Int) - 1) (by (constructor <;> omega))).trans (by omega : ((i2 : Int) - 1 : Int) = ((i2 - 1 : Nat) : Int))), trivial⟩ ?_)
      refine A.tn (A.block (A.loop (fun (zz : Nat × (Array Int)) => match zz with | (j3, d3) => [(1, c_ a), (2, c_ b), (8, c_ k), (7, c_ i2), (9, c_ j3), (0, vS al d3.toList cl)]) (fun (zz : Nat × (Array Int)) => match zz with | (j3, d3) => [sU al d3.toList cl]) (fun (zz : Nat × (Array Int)) => match zz with | (j3, d3) => (shiftDown ltInt j3 d3 = shiftDown ltInt (i2 - 1) d101) ∧ (d3.size = d.size) ∧ (j3 < b)) (fun (zz : Nat × (Array Int)) => match zz with | (j3, d3) => j3) ((i2 - 1 : Nat), d101) ⟨(by rfl), (by omega), (by omega)⟩ ?_ ?_))
      · exact A.hK [0]
      rintro ⟨j3, d3⟩ ⟨hsd, hz3, hj3⟩
      refine A.seq (A.sr (A.g [.p, .p] [] [(65, b_ (decide ((j3 : Int) ≥ 1)))] ?_))
      refine A.tn (A.cn (decide ((j3 : Int) ≥ 1)) (fun e6 => ?_) (fun e6 => ?_))
      · have p6 := of_decide_eq_true e6
        refine A.skip (A.tn (A.seq (A.block (A.seq (A.seq (A.dA [.p, .p, .ix, .rd [u_ (d3[j3]!)], .p, .p, .w ((j3 - 1 : Nat) : Int), .ix, .rd [u_ (d3[(j3 - 1 : Nat)]!)], .cq (b_ (decide ((d3[j3]!) < (d3[(j3 - 1 : Nat)]!)))), .p] [0, 1, 2, 3, 4, 5, 6, 7, 8, 9, 10] [65] [(78, b_ (!(decide ((d3[j3]!) < (d3[(j3 - 1 : Nat)]!)))))] [] (fun κ => κ.ix al d3.toList.length (j3 : Int) ∧ κ.rd ((at0 al).add (j3 * 1)) [u_ (d3[j3]!)] ∧ (IntKind.i64.wrap ((j3 : Int) - 1) = ((j3 - 1 : Nat) : Int)) ∧ κ.ix al d3.toList.length ((j3 - 1 : Nat) : Int) ∧ κ.rd ((at0 al).add ((j3 - 1 : Nat) * 1)) [u_ (d3[(j3 - 1 : Nat)]!)] ∧ κ.call 155 [u_ (d3[j3]!), u_ (d3[(j3 - 1 : Nat)]!)] (b_ (decide ((d3[j3]!) < (d3[(j3 - 1 : Nat)]!)))) ∧ True) ⟨(ixOf encU_len (by decide) (rd_sl (i := 0) rfl) (by (simp; omega))), reads_at0 (vs := [u_ (d3[j3]!)]) encU_len (rd_sl (i := 0) rfl) (getS (by omega)) (Nat.le_of_ble_eq_true rfl) rfl, (wrap_i64 (e := (j3 : Int) - 1) (by (constructor <;> omega))).trans (by omega : ((j3 : Int) - 1 : Int) = ((j3 - 1 : Nat) : Int)), ixOf encU_len (by decide) (rd_sl (i := 0) rfl) (by (simp; omega)), reads_at0 (vs := [u_ (d3[(j3 - 1 : Nat)]!)]) encU_len (rd_sl (i := 0) rfl) (getS (by omega)) (Nat.le_of_ble_eq_true rfl) rfl, (fun ww ss => less_spec (d3[j3]!) (d3[(j3 - 1 : Nat)]!) ww), trivial⟩ ?_))))))
        refine A.tn (A.cn (!(decide ((d3[j3]!) < (d3[(j3 - 1 : Nat)]!)))) (fun e7 => ?_) (fun e7 => ?_))
        · have p7 := e7; try simp only [nrm] at p7
          refine A.exit (A.te (A.bm rfl ?_))
          refine A.te (A.te (A.bh (A.tn (A.seq ?_))))
          have hF1 : d3 = fixDown ltInt a i2 (swp d1 i2 (i2 - 1)) := (by unfold fixDown; rw [← hdd101]; (rw [if_pos (by omega), ← hsd, shd_f (by omega) (by omega)]; done))
          refine A.region (A.gk [.p, .p, .w ((b - i2 : Nat) : Int), .p] [9, 78] [(98, b_ (decide (((b - i2 : Nat) : Int) ≥ 2)))] [] (fun κ => (IntKind.i64.wrap ((b : Int) - (i2 : Int)) = ((b - i2 : Nat) : Int)) ∧ True) ⟨((wrap_i64 (e := (b : Int) - (i2 : Int)) (by (constructor <;> omega))).trans (by omega : ((b : Int) - (i2 : Int) : Int) = ((b - i2 : Nat) : Int))), trivial⟩ ?_)
          refine A.tn (A.cn (decide (((b - i2 : Nat) : Int) ≥ 2)) (fun e8 => ?_) (fun e8 => ?_))
          · have p8 := of_decide_eq_true e8
            refine A.sr (A.gk [.p, .w ((i2 + 1 : Nat) : Int), .p] [98] [(10, c_ (i2 + 1 : Nat))] [] (fun κ => (IntKind.i64.wrap ((i2 : Int) + 1) = ((i2 + 1 : Nat) : Int)) ∧ True) ⟨((wrap_i64 (e := (i2 : Int) + 1) (by (constructor <;> omega))).trans (by rfl : ((i2 : Int) + 1 : Int) = ((i2 + 1 : Nat) : Int))), trivial⟩ ?_)
            refine A.tn (A.block (A.loop (fun (zz : Nat × (Array Int)) => match zz with | (j4, d4) => [(1, c_ a), (2, c_ b), (8, c_ k), (7, c_ i2), (10, c_ j4), (0, vS al d4.toList cl)]) (fun (zz : Nat × (Array Int)) => match zz with | (j4, d4) => [sU al d4.toList cl]) (fun (zz : Nat × (Array Int)) => match zz with | (j4, d4) => (shiftUp ltInt b j4 d4 = shiftUp ltInt b (i2 + 1) d3) ∧ (d4.size = d.size) ∧ (1 ≤ j4 ∧ j4 ≤ b)) (fun (zz : Nat × (Array Int)) => match zz with | (j4, d4) => b - j4) ((i2 + 1 : Nat), d3) ⟨(by rfl), (by omega), (by omega)⟩ ?_ ?_))
            · exact A.hK [0]
            rintro ⟨j4, d4⟩ ⟨hsu, hz4, hj4⟩
            refine A.seq (A.sr (A.g [.p, .p, .p] [] [(103, b_ (decide ((j4 : Int) < (b : Int))))] ?_))
            refine A.tn (A.cn (decide ((j4 : Int) < (b : Int))) (fun e9 => ?_) (fun e9 => ?_))
            · have p9 := of_decide_eq_true e9
              refine A.skip (A.tn (A.seq (A.block (A.seq (A.seq (A.dA [.p, .p, .ix, .rd [u_ (d4[j4]!)], .p, .p, .w ((j4 - 1 : Nat) : Int), .ix, .rd [u_ (d4[(j4 - 1 : Nat)]!)], .cq (b_ (decide ((d4[j4]!) < (d4[(j4 - 1 : Nat)]!)))), .p] [0, 1, 2, 3, 4, 5, 6, 7, 8, 9, 10] [103] [(116, b_ (!(decide ((d4[j4]!) < (d4[(j4 - 1 : Nat)]!)))))] [] (fun κ => κ.ix al d4.toList.length (j4 : Int) ∧ κ.rd ((at0 al).add (j4 * 1)) [u_ (d4[j4]!)] ∧ (IntKind.i64.wrap ((j4 : Int) - 1) = ((j4 - 1 : Nat) : Int)) ∧ κ.ix al d4.toList.length ((j4 - 1 : Nat) : Int) ∧ κ.rd ((at0 al).add ((j4 - 1 : Nat) * 1)) [u_ (d4[(j4 - 1 : Nat)]!)] ∧ κ.call 155 [u_ (d4[j4]!), u_ (d4[(j4 - 1 : Nat)]!)] (b_ (decide ((d4[j4]!) < (d4[(j4 - 1 : Nat)]!)))) ∧ True) ⟨(ixOf encU_len (by decide) (rd_sl (i := 0) rfl) (by (simp; omega))), reads_at0 (vs := [u_ (d4[j4]!)]) encU_len (rd_sl (i := 0) rfl) (getS (by omega)) (Nat.le_of_ble_eq_true rfl) rfl, (wrap_i64 (e := (j4 : Int) - 1) (by (constructor <;> omega))).trans (by omega : ((j4 : Int) - 1 : Int) = ((j4 - 1 : Nat) : Int)), ixOf encU_len (by decide) (rd_sl (i := 0) rfl) (by (simp; omega)), reads_at0 (vs := [u_ (d4[(j4 - 1 : Nat)]!)]) encU_len (rd_sl (i := 0) rfl) (getS (by omega)) (Nat.le_of_ble_eq_true rfl) rfl, (fun ww ss => less_spec (d4[j4]!) (d4[(j4 - 1 : Nat)]!) ww), trivial⟩ ?_))))))
              refine A.tn (A.cn (!(decide ((d4[j4]!) < (d4[(j4 - 1 : Nat)]!)))) (fun e10 => ?_) (fun e10 => ?_))
              · have p10 := e10; try simp only [nrm] at p10
                refine A.exit (A.te (A.bm rfl ?_))
                refine A.te (A.te (A.bh (A.bn (tr (A.gk [.p, .w ((k + 1 : Nat) : Int), .p] [10, 116] [(8, c_ (k + 1 : Nat))] [] (fun κ => (IntKind.i64.wrap ((k : Int) + 1) = ((k + 1 : Nat) : Int)) ∧ True) ⟨((wrap_i64 (e := (k : Int) + 1) (by (constructor <;> omega))).trans (by rfl : ((k : Int) + 1 : Int) = ((k + 1 : Nat) : Int))), trivial⟩ ?_)))))
                refine A.tn ?_
                have hF2 : d4 = fixUp ltInt b i2 d3 := (by unfold fixUp; (rw [if_pos (by omega), ← hsu, shu_f (by omega) (by omega)]; done))
                have hst_ : partialIns ltInt a b (5 - (k + 1) + 1) i1 d1 = _ := pi_3 (s := 5 - (k + 1)) hI (by omega) (by omega) hF1 hF2
                refine A.next ((k + 1 : Nat), i2, d4) ⟨(by (rw [pins_step (by omega)] at he; exact hst_.symm.trans he)), (by omega), (by omega)⟩ (by (simp; omega)) ?_
                exact A.hK [0]
              have p10 := e10; try simp only [nrm] at p10
              refine A.skip (A.tn (A.draw2 [15, 17] 18 (by kernel_rfl) ?_))
              refine A.dP 3 [.p, .p, .p, .p, .w ((j4 - 1 : Nat) : Int), .p, .p, .w ((j4 - 1 : Nat) : Int), .ix, .rd [u_ (d4[(j4 - 1 : Nat)]!)], .p, .p, .ix, .rd [u_ (d4[j4]!)], .ix] [0, 1, 2, 3, 4, 5, 6, 7, 8, 9, 10, 11, 12, 13, 14] [116] [(119, vS al d4.toList cl), (121, c_ (j4 - 1 : Nat)), (126, u_ (d4[(j4 - 1 : Nat)]!)), (130, u_ (d4[j4]!)), (131, (.pointer (some ((at0 al).add (j4 * 1)))))] [] (fun κ => (IntKind.i64.wrap ((j4 : Int) - 1) = ((j4 - 1 : Nat) : Int)) ∧ (IntKind.i64.wrap ((j4 : Int) - 1) = ((j4 - 1 : Nat) : Int)) ∧ κ.ix al d4.toList.length ((j4 - 1 : Nat) : Int) ∧ κ.rd ((at0 al).add ((j4 - 1 : Nat) * 1)) [u_ (d4[(j4 - 1 : Nat)]!)] ∧ κ.ix al d4.toList.length (j4 : Int) ∧ κ.rd ((at0 al).add (j4 * 1)) [u_ (d4[j4]!)] ∧ κ.ix al d4.toList.length (j4 : Int) ∧ True) ⟨((wrap_i64 (e := (j4 : Int) - 1) (by (constructor <;> omega))).trans (by omega : ((j4 : Int) - 1 : Int) = ((j4 - 1 : Nat) : Int))), (wrap_i64 (e := (j4 : Int) - 1) (by (constructor <;> omega))).trans (by omega : ((j4 : Int) - 1 : Int) = ((j4 - 1 : Nat) : Int)), ixOf encU_len (by decide) (rd_sl (i := 0) rfl) (by (simp; omega)), reads_at0 (vs := [u_ (d4[(j4 - 1 : Nat)]!)]) encU_len (rd_sl (i := 0) rfl) (getS (by omega)) (Nat.le_of_ble_eq_true rfl) rfl, ixOf encU_len (by decide) (rd_sl (i := 0) rfl) (by (simp; omega)), reads_at0 (vs := [u_ (d4[j4]!)]) encU_len (rd_sl (i := 0) rfl) (getS (by omega)) (Nat.le_of_ble_eq_true rfl) rfl, ixOf encU_len (by decide) (rd_sl (i := 0) rfl) (by (simp; omega)), trivial⟩ ?_
              refine A.only2 15 rfl (by kernel_rfl) (A.storeSl (enc := encU) (xs := d4.toList) 0 j4 (d4[(j4 - 1 : Nat)]!) [sU al (d4.toList.set j4 (d4[(j4 - 1 : Nat)]!)) cl] (by kernel_rfl) rfl rfl rfl rfl (by kernel_rfl) (by kernel_rfl) encU_len (by decide) rfl (by (simp; omega)) rfl ?_)
              refine A.sv 0 (vS al (d4.toList.set j4 (d4[(j4 - 1 : Nat)]!)) cl) (cgN (by simp)) (A.sv 119 (vS al (d4.toList.set j4 (d4[(j4 - 1 : Nat)]!)) cl) (cgN (by simp)) ?_)
              refine A.stage ?_
              refine A.dP 1 [.ix] [16] [119, 121, 126, 131] [(132, (.pointer (some ((at0 al).add ((j4 - 1 : Nat) * 1)))))] [] (fun κ => κ.ix al ((d4.toList.set j4 (d4[(j4 - 1 : Nat)]!)).length) ((j4 - 1 : Nat) : Int) ∧ True) ⟨(ixOf encU_len (by decide) (rd_sl (i := 0) rfl) (by (simp; omega))), trivial⟩ ?_
              refine A.only2 17 rfl (by kernel_rfl) (A.storeSl (enc := encU) (xs := (d4.toList.set j4 (d4[(j4 - 1 : Nat)]!))) 0 (j4 - 1 : Nat) (d4[j4]!) [sU al ((d4.toList.set j4 (d4[(j4 - 1 : Nat)]!)).set (j4 - 1 : Nat) (d4[j4]!)) cl] (by kernel_rfl) rfl rfl rfl rfl (by kernel_rfl) (by kernel_rfl) encU_len (by decide) rfl (by (simp; omega)) rfl ?_)
              refine A.sv 0 (vS al ((d4.toList.set j4 (d4[(j4 - 1 : Nat)]!)).set (j4 - 1 : Nat) (d4[j4]!)) cl) (cgN (by simp)) ?_
              refine A.stage ?_
              refine A.fin2 (by kernel_rfl) ?_
              obtain ⟨d103, hdd103⟩ : ∃ z, z = swp d4 j4 (j4 - 1 : Nat) := ⟨_, rfl⟩; have hszd103 : d103.size = d4.size := (by rw [hdd103]; exact swp_sz _ _ _)
              have hcv4 : ((d4.toList.set j4 (d4[(j4 - 1 : Nat)]!)).set (j4 - 1 : Nat) (d4[j4]!)) = d103.toList := by rw [hdd103]; exact swp_list2 _ _ _
              refine A.setH [sU al d103.toList cl] (cc (slC hcv4) rfl) ?_
              refine A.sv 0 (vS al d103.toList cl) (cgL hcv4) ?_
              refine A.bn (tr (A.gk [.p, .w ((j4 + 1 : Nat) : Int), .p] [130, 132] [(10, c_ (j4 + 1 : Nat))] [] (fun κ => (IntKind.i64.wrap ((j4 : Int) + 1) = ((j4 + 1 : Nat) : Int)) ∧ True) ⟨((wrap_i64 (e := (j4 : Int) + 1) (by (constructor <;> omega))).trans (by rfl : ((j4 : Int) + 1 : Int) = ((j4 + 1 : Nat) : Int))), trivial⟩ ?_))
              refine A.tn ?_
              have hst_ : shiftUp ltInt b j4 d4 = _ := shu_t (by omega) (by omega)
              refine A.next ((j4 + 1 : Nat), d103) ⟨(by (rw [hdd103]; exact hst_.symm.trans hsu)), (by omega), (by omega)⟩ (by (simp; omega)) ?_
              exact A.hK [0]
            have p9 := of_decide_eq_false e9
            refine A.exit (A.te (A.te (A.bh (A.bn (tr (A.gk [.p, .w ((k + 1 : Nat) : Int), .p] [10, 103] [(8, c_ (k + 1 : Nat))] [] (fun κ => (IntKind.i64.wrap ((k : Int) + 1) = ((k + 1 : Nat) : Int)) ∧ True) ⟨((wrap_i64 (e := (k : Int) + 1) (by (constructor <;> omega))).trans (by rfl : ((k : Int) + 1 : Int) = ((k + 1 : Nat) : Int))), trivial⟩ ?_))))))
            refine A.tn ?_
            have hF2 : d4 = fixUp ltInt b i2 d3 := (by unfold fixUp; (rw [if_pos (by omega), ← hsu, shu_0 (by omega)]; done))
            have hst_ : partialIns ltInt a b (5 - (k + 1) + 1) i1 d1 = _ := pi_3 (s := 5 - (k + 1)) hI (by omega) (by omega) hF1 hF2
            refine A.next ((k + 1 : Nat), i2, d4) ⟨(by (rw [pins_step (by omega)] at he; exact hst_.symm.trans he)), (by omega), (by omega)⟩ (by (simp; omega)) ?_
            exact A.hK [0]
          have p8 := of_decide_eq_false e8
          refine A.skip (A.bn (tr (A.gk [.p, .w ((k + 1 : Nat) : Int), .p] [98] [(8, c_ (k + 1 : Nat))] [] (fun κ => (IntKind.i64.wrap ((k : Int) + 1) = ((k + 1 : Nat) : Int)) ∧ True) ⟨((wrap_i64 (e := (k : Int) + 1) (by (constructor <;> omega))).trans (by rfl : ((k : Int) + 1 : Int) = ((k + 1 : Nat) : Int))), trivial⟩ ?_)))
          refine A.tn ?_
          have hF2 : d3 = fixUp ltInt b i2 d3 := (by unfold fixUp; (rw [if_neg (by omega)]; done))
          have hst_ : partialIns ltInt a b (5 - (k + 1) + 1) i1 d1 = _ := pi_3 (s := 5 - (k + 1)) hI (by omega) (by omega) hF1 hF2
          refine A.next ((k + 1 : Nat), i2, d3) ⟨(by (rw [pins_step (by omega)] at he; exact hst_.symm.trans he)), (by omega), (by omega)⟩ (by (simp; omega)) ?_
          exact A.hK [0]
        have p7 := e7; try simp only [nrm] at p7
        refine A.skip (A.tn (A.draw2 [15, 17] 18 (by kernel_rfl) ?_))
        refine A.dP 3 [.p, .p, .p, .p, .w ((j3 - 1 : Nat) : Int), .p, .p, .w ((j3 - 1 : Nat) : Int), .ix, .rd [u_ (d3[(j3 - 1 : Nat)]!)], .p, .p, .ix, .rd [u_ (d3[j3]!)], .ix] [0, 1, 2, 3, 4, 5, 6, 7, 8, 9, 10, 11, 12, 13, 14] [78] [(81, vS al d3.toList cl), (83, c_ (j3 - 1 : Nat)), (88, u_ (d3[(j3 - 1 : Nat)]!)), (92, u_ (d3[j3]!)), (93, (.pointer (some ((at0 al).add (j3 * 1)))))] [] (fun κ => (IntKind.i64.wrap ((j3 : Int) - 1) = ((j3 - 1 : Nat) : Int)) ∧ (IntKind.i64.wrap ((j3 : Int) - 1) = ((j3 - 1 : Nat) : Int)) ∧ κ.ix al d3.toList.length ((j3 - 1 : Nat) : Int) ∧ κ.rd ((at0 al).add ((j3 - 1 : Nat) * 1)) [u_ (d3[(j3 - 1 : Nat)]!)] ∧ κ.ix al d3.toList.length (j3 : Int) ∧ κ.rd ((at0 al).add (j3 * 1)) [u_ (d3[j3]!)] ∧ κ.ix al d3.toList.length (j3 : Int) ∧ True) ⟨((wrap_i64 (e := (j3 : Int) - 1) (by (constructor <;> omega))).trans (by omega : ((j3 : Int) - 1 : Int) = ((j3 - 1 : Nat) : Int))), (wrap_i64 (e := (j3 : Int) - 1) (by (constructor <;> omega))).trans (by omega : ((j3 : Int) - 1 : Int) = ((j3 - 1 : Nat) : Int)), ixOf encU_len (by decide) (rd_sl (i := 0) rfl) (by (simp; omega)), reads_at0 (vs := [u_ (d3[(j3 - 1 : Nat)]!)]) encU_len (rd_sl (i := 0) rfl) (getS (by omega)) (Nat.le_of_ble_eq_true rfl) rfl, ixOf encU_len (by decide) (rd_sl (i := 0) rfl) (by (simp; omega)), reads_at0 (vs := [u_ (d3[j3]!)]) encU_len (rd_sl (i := 0) rfl) (getS (by omega)) (Nat.le_of_ble_eq_true rfl) rfl, ixOf encU_len (by decide) (rd_sl (i := 0) rfl) (by (simp; omega)), trivial⟩ ?_
        refine A.only2 15 rfl (by kernel_rfl) (A.storeSl (enc := encU) (xs := d3.toList) 0 j3 (d3[(j3 - 1 : Nat)]!) [sU al (d3.toList.set j3 (d3[(j3 - 1 : Nat)]!)) cl] (by kernel_rfl) rfl rfl rfl rfl (by kernel_rfl) (by kernel_rfl) encU_len (by decide) rfl (by (simp; omega)) rfl ?_)
        refine A.sv 0 (vS al (d3.toList.set j3 (d3[(j3 - 1 : Nat)]!)) cl) (cgN (by simp)) (A.sv 81 (vS al (d3.toList.set j3 (d3[(j3 - 1 : Nat)]!)) cl) (cgN (by simp)) ?_)
        refine A.stage ?_
        refine A.dP 1 [.ix] [16] [81, 83, 88, 93] [(94, (.pointer (some ((at0 al).add ((j3 - 1 : Nat) * 1)))))] [] (fun κ => κ.ix al ((d3.toList.set j3 (d3[(j3 - 1 : Nat)]!)).length) ((j3 - 1 : Nat) : Int) ∧ True) ⟨(ixOf encU_len (by decide) (rd_sl (i := 0) rfl) (by (simp; omega))), trivial⟩ ?_
        refine A.only2 17 rfl (by kernel_rfl) (A.storeSl (enc := encU) (xs := (d3.toList.set j3 (d3[(j3 - 1 : Nat)]!))) 0 (j3 - 1 : Nat) (d3[j3]!) [sU al ((d3.toList.set j3 (d3[(j3 - 1 : Nat)]!)).set (j3 - 1 : Nat) (d3[j3]!)) cl] (by kernel_rfl) rfl rfl rfl rfl (by kernel_rfl) (by kernel_rfl) encU_len (by decide) rfl (by (simp; omega)) rfl ?_)
        refine A.sv 0 (vS al ((d3.toList.set j3 (d3[(j3 - 1 : Nat)]!)).set (j3 - 1 : Nat) (d3[j3]!)) cl) (cgN (by simp)) ?_
        refine A.stage ?_
        refine A.fin2 (by kernel_rfl) ?_
        obtain ⟨d105, hdd105⟩ : ∃ z, z = swp d3 j3 (j3 - 1 : Nat) := ⟨_, rfl⟩; have hszd105 : d105.size = d3.size := (by rw [hdd105]; exact swp_sz _ _ _)
        have hcv6 : ((d3.toList.set j3 (d3[(j3 - 1 : Nat)]!)).set (j3 - 1 : Nat) (d3[j3]!)) = d105.toList := by rw [hdd105]; exact swp_list2 _ _ _
        refine A.setH [sU al d105.toList cl] (cc (slC hcv6) rfl) ?_
        refine A.sv 0 (vS al d105.toList cl) (cgL hcv6) ?_
        refine A.bn (tr (A.gk [.p, .w ((j3 - 1 : Nat) : Int), .p] [92, 94] [(9, c_ (j3 - 1 : Nat))] [] (fun κ => (IntKind.i64.wrap ((j3 : Int) - 1) = ((j3 - 1 : Nat) : Int)) ∧ True) ⟨((wrap_i64 (e := (j3 : Int) - 1) (by (constructor <;> omega))).trans (by omega : ((j3 : Int) - 1 : Int) = ((j3 - 1 : Nat) : Int))), trivial⟩ ?_))
        refine A.tn ?_
        have hst_ : shiftDown ltInt j3 d3 = _ := shd_t (by omega) (by omega)
        refine A.next ((j3 - 1 : Nat), d105) ⟨(by (rw [hdd105]; exact hst_.symm.trans hsd)), (by omega), (by omega)⟩ (by (simp; omega)) ?_
        exact A.hK [0]
      have p6 := of_decide_eq_false e6
      refine A.exit (A.te (A.te (A.bh (A.tn (A.seq ?_)))))
      have hF1 : d3 = fixDown ltInt a i2 (swp d1 i2 (i2 - 1)) := (by unfold fixDown; rw [← hdd101]; (rw [if_pos (by omega), ← hsd, show j3 = 0 by omega]; rfl))
      refine A.region (A.gk [.p, .p, .w ((b - i2 : Nat) : Int), .p] [9, 65] [(98, b_ (decide (((b - i2 : Nat) : Int) ≥ 2)))] [] (fun κ => (IntKind.i64.wrap ((b : Int) - (i2 : Int)) = ((b - i2 : Nat) : Int)) ∧ True) ⟨((wrap_i64 (e := (b : Int) - (i2 : Int)) (by (constructor <;> omega))).trans (by omega : ((b : Int) - (i2 : Int) : Int) = ((b - i2 : Nat) : Int))), trivial⟩ ?_)
      refine A.tn (A.cn (decide (((b - i2 : Nat) : Int) ≥ 2)) (fun e11 => ?_) (fun e11 => ?_))
      · have p11 := of_decide_eq_true e11
        refine A.sr (A.gk [.p, .w ((i2 + 1 : Nat) : Int), .p] [98] [(10, c_ (i2 + 1 : Nat))] [] (fun κ => (IntKind.i64.wrap ((i2 : Int) + 1) = ((i2 + 1 : Nat) : Int)) ∧ True) ⟨((wrap_i64 (e := (i2 : Int) + 1) (by (constructor <;> omega))).trans (by rfl : ((i2 : Int) + 1 : Int) = ((i2 + 1 : Nat) : Int))), trivial⟩ ?_)
        refine A.tn (A.block (A.loop (fun (zz : Nat × (Array Int)) => match zz with | (j4, d4) => [(1, c_ a), (2, c_ b), (8, c_ k), (7, c_ i2), (10, c_ j4), (0, vS al d4.toList cl)]) (fun (zz : Nat × (Array Int)) => match zz with | (j4, d4) => [sU al d4.toList cl]) (fun (zz : Nat × (Array Int)) => match zz with | (j4, d4) => (shiftUp ltInt b j4 d4 = shiftUp ltInt b (i2 + 1) d3) ∧ (d4.size = d.size) ∧ (1 ≤ j4 ∧ j4 ≤ b)) (fun (zz : Nat × (Array Int)) => match zz with | (j4, d4) => b - j4) ((i2 + 1 : Nat), d3) ⟨(by rfl), (by omega), (by omega)⟩ ?_ ?_))
        · exact A.hK [0]
        rintro ⟨j4, d4⟩ ⟨hsu, hz4, hj4⟩
        refine A.seq (A.sr (A.g [.p, .p, .p] [] [(103, b_ (decide ((j4 : Int) < (b : Int))))] ?_))
        refine A.tn (A.cn (decide ((j4 : Int) < (b : Int))) (fun e12 => ?_) (fun e12 => ?_))
        · have p12 := of_decide_eq_true e12
          refine A.skip (A.tn (A.seq (A.block (A.seq (A.seq (A.dA [.p, .p, .ix, .rd [u_ (d4[j4]!)], .p, .p, .w ((j4 - 1 : Nat) : Int), .ix, .rd [u_ (d4[(j4 - 1 : Nat)]!)], .cq (b_ (decide ((d4[j4]!) < (d4[(j4 - 1 : Nat)]!)))), .p] [0, 1, 2, 3, 4, 5, 6, 7, 8, 9, 10] [103] [(116, b_ (!(decide ((d4[j4]!) < (d4[(j4 - 1 : Nat)]!)))))] [] (fun κ => κ.ix al d4.toList.length (j4 : Int) ∧ κ.rd ((at0 al).add (j4 * 1)) [u_ (d4[j4]!)] ∧ (IntKind.i64.wrap ((j4 : Int) - 1) = ((j4 - 1 : Nat) : Int)) ∧ κ.ix al d4.toList.length ((j4 - 1 : Nat) : Int) ∧ κ.rd ((at0 al).add ((j4 - 1 : Nat) * 1)) [u_ (d4[(j4 - 1 : Nat)]!)] ∧ κ.call 155 [u_ (d4[j4]!), u_ (d4[(j4 - 1 : Nat)]!)] (b_ (decide ((d4[j4]!) < (d4[(j4 - 1 : Nat)]!)))) ∧ True) ⟨(ixOf encU_len (by decide) (rd_sl (i := 0) rfl) (by (simp; omega))), reads_at0 (vs := [u_ (d4[j4]!)]) encU_len (rd_sl (i := 0) rfl) (getS (by omega)) (Nat.le_of_ble_eq_true rfl) rfl, (wrap_i64 (e := (j4 : Int) - 1) (by (constructor <;> omega))).trans (by omega : ((j4 : Int) - 1 : Int) = ((j4 - 1 : Nat) : Int)), ixOf encU_len (by decide) (rd_sl (i := 0) rfl) (by (simp; omega)), reads_at0 (vs := [u_ (d4[(j4 - 1 : Nat)]!)]) encU_len (rd_sl (i := 0) rfl) (getS (by omega)) (Nat.le_of_ble_eq_true rfl) rfl, (fun ww ss => less_spec (d4[j4]!) (d4[(j4 - 1 : Nat)]!) ww), trivial⟩ ?_))))))
          refine A.tn (A.cn (!(decide ((d4[j4]!) < (d4[(j4 - 1 : Nat)]!)))) (fun e13 => ?_) (fun e13 => ?_))
          · have p13 := e13; try simp only [nrm] at p13
            refine A.exit (A.te (A.bm rfl ?_))
            refine A.te (A.te (A.bh (A.bn (tr (A.gk [.p, .w ((k + 1 : Nat) : Int), .p] [10, 116] [(8, c_ (k + 1 : Nat))] [] (fun κ => (IntKind.i64.wrap ((k : Int) + 1) = ((k + 1 : Nat) : Int)) ∧ True) ⟨((wrap_i64 (e := (k : Int) + 1) (by (constructor <;> omega))).trans (by rfl : ((k : Int) + 1 : Int) = ((k + 1 : Nat) : Int))), trivial⟩ ?_)))))
            refine A.tn ?_
            have hF2 : d4 = fixUp ltInt b i2 d3 := (by unfold fixUp; (rw [if_pos (by omega), ← hsu, shu_f (by omega) (by omega)]; done))
            have hst_ : partialIns ltInt a b (5 - (k + 1) + 1) i1 d1 = _ := pi_3 (s := 5 - (k + 1)) hI (by omega) (by omega) hF1 hF2
            refine A.next ((k + 1 : Nat), i2, d4) ⟨(by (rw [pins_step (by omega)] at he; exact hst_.symm.trans he)), (by omega), (by omega)⟩ (by (simp; omega)) ?_
            exact A.hK [0]
          have p13 := e13; try simp only [nrm] at p13
          refine A.skip (A.tn (A.draw2 [15, 17] 18 (by kernel_rfl) ?_))
          refine A.dP 3 [.p, .p, .p, .p, .w ((j4 - 1 : Nat) : Int), .p, .p, .w ((j4 - 1 : Nat) : Int), .ix, .rd [u_ (d4[(j4 - 1 : Nat)]!)], .p, .p, .ix, .rd [u_ (d4[j4]!)], .ix] [0, 1, 2, 3, 4, 5, 6, 7, 8, 9, 10, 11, 12, 13, 14] [116] [(119, vS al d4.toList cl), (121, c_ (j4 - 1 : Nat)), (126, u_ (d4[(j4 - 1 : Nat)]!)), (130, u_ (d4[j4]!)), (131, (.pointer (some ((at0 al).add (j4 * 1)))))] [] (fun κ => (IntKind.i64.wrap ((j4 : Int) - 1) = ((j4 - 1 : Nat) : Int)) ∧ (IntKind.i64.wrap ((j4 : Int) - 1) = ((j4 - 1 : Nat) : Int)) ∧ κ.ix al d4.toList.length ((j4 - 1 : Nat) : Int) ∧ κ.rd ((at0 al).add ((j4 - 1 : Nat) * 1)) [u_ (d4[(j4 - 1 : Nat)]!)] ∧ κ.ix al d4.toList.length (j4 : Int) ∧ κ.rd ((at0 al).add (j4 * 1)) [u_ (d4[j4]!)] ∧ κ.ix al d4.toList.length (j4 : Int) ∧ True) ⟨((wrap_i64 (e := (j4 : Int) - 1) (by (constructor <;> omega))).trans (by omega : ((j4 : Int) - 1 : Int) = ((j4 - 1 : Nat) : Int))), (wrap_i64 (e := (j4 : Int) - 1) (by (constructor <;> omega))).trans (by omega : ((j4 : Int) - 1 : Int) = ((j4 - 1 : Nat) : Int)), ixOf encU_len (by decide) (rd_sl (i := 0) rfl) (by (simp; omega)), reads_at0 (vs := [u_ (d4[(j4 - 1 : Nat)]!)]) encU_len (rd_sl (i := 0) rfl) (getS (by omega)) (Nat.le_of_ble_eq_true rfl) rfl, ixOf encU_len (by decide) (rd_sl (i := 0) rfl) (by (simp; omega)), reads_at0 (vs := [u_ (d4[j4]!)]) encU_len (rd_sl (i := 0) rfl) (getS (by omega)) (Nat.le_of_ble_eq_true rfl) rfl, ixOf encU_len (by decide) (rd_sl (i := 0) rfl) (by (simp; omega)), trivial⟩ ?_
          refine A.only2 15 rfl (by kernel_rfl) (A.storeSl (enc := encU) (xs := d4.toList) 0 j4 (d4[(j4 - 1 : Nat)]!) [sU al (d4.toList.set j4 (d4[(j4 - 1 : Nat)]!)) cl] (by kernel_rfl) rfl rfl rfl rfl (by kernel_rfl) (by kernel_rfl) encU_len (by decide) rfl (by (simp; omega)) rfl ?_)
          refine A.sv 0 (vS al (d4.toList.set j4 (d4[(j4 - 1 : Nat)]!)) cl) (cgN (by simp)) (A.sv 119 (vS al (d4.toList.set j4 (d4[(j4 - 1 : Nat)]!)) cl) (cgN (by simp)) ?_)
          refine A.stage ?_
          refine A.dP 1 [.ix] [16] [119, 121, 126, 131] [(132, (.pointer (some ((at0 al).add ((j4 - 1 : Nat) * 1)))))] [] (fun κ => κ.ix al ((d4.toList.set j4 (d4[(j4 - 1 : Nat)]!)).length) ((j4 - 1 : Nat) : Int) ∧ True) ⟨(ixOf encU_len (by decide) (rd_sl (i := 0) rfl) (by (simp; omega))), trivial⟩ ?_
          refine A.only2 17 rfl (by kernel_rfl) (A.storeSl (enc := encU) (xs := (d4.toList.set j4 (d4[(j4 - 1 : Nat)]!))) 0 (j4 - 1 : Nat) (d4[j4]!) [sU al ((d4.toList.set j4 (d4[(j4 - 1 : Nat)]!)).set (j4 - 1 : Nat) (d4[j4]!)) cl] (by kernel_rfl) rfl rfl rfl rfl (by kernel_rfl) (by kernel_rfl) encU_len (by decide) rfl (by (simp; omega)) rfl ?_)
          refine A.sv 0 (vS al ((d4.toList.set j4 (d4[(j4 - 1 : Nat)]!)).set (j4 - 1 : Nat) (d4[j4]!)) cl) (cgN (by simp)) ?_
          refine A.stage ?_
          refine A.fin2 (by kernel_rfl) ?_
          obtain ⟨d107, hdd107⟩ : ∃ z, z = swp d4 j4 (j4 - 1 : Nat) := ⟨_, rfl⟩; have hszd107 : d107.size = d4.size := (by rw [hdd107]; exact swp_sz _ _ _)
          have hcv8 : ((d4.toList.set j4 (d4[(j4 - 1 : Nat)]!)).set (j4 - 1 : Nat) (d4[j4]!)) = d107.toList := by rw [hdd107]; exact swp_list2 _ _ _
          refine A.setH [sU al d107.toList cl] (cc (slC hcv8) rfl) ?_
          refine A.sv 0 (vS al d107.toList cl) (cgL hcv8) ?_
          refine A.bn (tr (A.gk [.p, .w ((j4 + 1 : Nat) : Int), .p] [130, 132] [(10, c_ (j4 + 1 : Nat))] [] (fun κ => (IntKind.i64.wrap ((j4 : Int) + 1) = ((j4 + 1 : Nat) : Int)) ∧ True) ⟨((wrap_i64 (e := (j4 : Int) + 1) (by (constructor <;> omega))).trans (by rfl : ((j4 : Int) + 1 : Int) = ((j4 + 1 : Nat) : Int))), trivial⟩ ?_))
          refine A.tn ?_
          have hst_ : shiftUp ltInt b j4 d4 = _ := shu_t (by omega) (by omega)
          refine A.next ((j4 + 1 : Nat), d107) ⟨(by (rw [hdd107]; exact hst_.symm.trans hsu)), (by omega), (by omega)⟩ (by (simp; omega)) ?_
          exact A.hK [0]
        have p12 := of_decide_eq_false e12
        refine A.exit (A.te (A.te (A.bh (A.bn (tr (A.gk [.p, .w ((k + 1 : Nat) : Int), .p] [10, 103] [(8, c_ (k + 1 : Nat))] [] (fun κ => (IntKind.i64.wrap ((k : Int) + 1) = ((k + 1 : Nat) : Int)) ∧ True) ⟨((wrap_i64 (e := (k : Int) + 1) (by (constructor <;> omega))).trans (by rfl : ((k : Int) + 1 : Int) = ((k + 1 : Nat) : Int))), trivial⟩ ?_))))))
        refine A.tn ?_
        have hF2 : d4 = fixUp ltInt b i2 d3 := (by unfold fixUp; (rw [if_pos (by omega), ← hsu, shu_0 (by omega)]; done))
        have hst_ : partialIns ltInt a b (5 - (k + 1) + 1) i1 d1 = _ := pi_3 (s := 5 - (k + 1)) hI (by omega) (by omega) hF1 hF2
        refine A.next ((k + 1 : Nat), i2, d4) ⟨(by (rw [pins_step (by omega)] at he; exact hst_.symm.trans he)), (by omega), (by omega)⟩ (by (simp; omega)) ?_
        exact A.hK [0]
      have p11 := of_decide_eq_false e11
      refine A.skip (A.bn (tr (A.gk [.p, .w ((k + 1 : Nat) : Int), .p] [98] [(8, c_ (k + 1 : Nat))] [] (fun κ => (IntKind.i64.wrap ((k : Int) + 1) = ((k + 1 : Nat) : Int)) ∧ True) ⟨((wrap_i64 (e := (k : Int) + 1) (by (constructor <;> omega))).trans (by rfl : ((k : Int) + 1 : Int) = ((k + 1 : Nat) : Int))), trivial⟩ ?_)))
      refine A.tn ?_
      have hF2 : d3 = fixUp ltInt b i2 d3 := (by unfold fixUp; (rw [if_neg (by omega)]; done))
      have hst_ : partialIns ltInt a b (5 - (k + 1) + 1) i1 d1 = _ := pi_3 (s := 5 - (k + 1)) hI (by omega) (by omega) hF1 hF2
      refine A.next ((k + 1 : Nat), i2, d3) ⟨(by (rw [pins_step (by omega)] at he; exact hst_.symm.trans he)), (by omega), (by omega)⟩ (by (simp; omega)) ?_
      exact A.hK [0]
    have p5 := of_decide_eq_false e5
    refine A.skip (A.tn (A.seq ?_))
    have hF1 : d101 = fixDown ltInt a i2 (swp d1 i2 (i2 - 1)) := (by unfold fixDown; rw [← hdd101]; (rw [if_neg (by omega)]; done))
    refine A.region (A.gk [.p, .p, .w ((b - i2 : Nat) : Int), .p] [61] [(98, b_ (decide (((b - i2 : Nat) : Int) ≥ 2)))] [] (fun κ => (IntKind.i64.wrap ((b : Int) - (i2 : Int)) = ((b - i2 : Nat) : Int)) ∧ True) ⟨((wrap_i64 (e := (b : Int) - (i2 : Int)) (by (constructor <;> omega))).trans (by omega : ((b : Int) - (i2 : Int) : Int) = ((b - i2 : Nat) : Int))), trivial⟩ ?_)
    refine A.tn (A.cn (decide (((b - i2 : Nat) : Int) ≥ 2)) (fun e14 => ?_) (fun e14 => ?_))
    · have p14 := of_decide_eq_true e14
      refine A.sr (A.gk [.p, .w ((i2 + 1 : Nat) : Int), .p] [98] [(10, c_ (i2 + 1 : Nat))] [] (fun κ => (IntKind.i64.wrap ((i2 : Int) + 1) = ((i2 + 1 : Nat) : Int)) ∧ True) ⟨((wrap_i64 (e := (i2 : Int) + 1) (by (constructor <;> omega))).trans (by rfl : ((i2 : Int) + 1 : Int) = ((i2 + 1 : Nat) : Int))), trivial⟩ ?_)
      refine A.tn (A.block (A.loop (fun (zz : Nat × (Array Int)) => match zz with | (j4, d4) => [(1, c_ a), (2, c_ b), (8, c_ k), (7, c_ i2), (10, c_ j4), (0, vS al d4.toList cl)]) (fun (zz : Nat × (Array Int)) => match zz with | (j4, d4) => [sU al d4.toList cl]) (fun (zz : Nat × (Array Int)) => match zz with | (j4, d4) => (shiftUp ltInt b j4 d4 = shiftUp ltInt b (i2 + 1) d101) ∧ (d4.size = d.size) ∧ (1 ≤ j4 ∧ j4 ≤ b)) (fun (zz : Nat × (Array Int)) => match zz with | (j4, d4) => b - j4) ((i2 + 1 : Nat), d101) ⟨(by rfl), (by omega), (by omega)⟩ ?_ ?_))
      · exact A.hK [0]
      rintro ⟨j4, d4⟩ ⟨hsu, hz4, hj4⟩
      refine A.seq (A.sr (A.g [.p, .p, .p] [] [(103, b_ (decide ((j4 : Int) < (b : Int))))] ?_))
      refine A.tn (A.cn (decide ((j4 : Int) < (b : Int))) (fun e15 => ?_) (fun e15 => ?_))
      · have p15 := of_decide_eq_true e15
        refine A.skip (A.tn (A.seq (A.block (A.seq (A.seq (A.dA [.p, .p, .ix, .rd [u_ (d4[j4]!)], .p, .p, .w ((j4 - 1 : Nat) : Int), .ix, .rd [u_ (d4[(j4 - 1 : Nat)]!)], .cq (b_ (decide ((d4[j4]!) < (d4[(j4 - 1 : Nat)]!)))), .p] [0, 1, 2, 3, 4, 5, 6, 7, 8, 9, 10] [103] [(116, b_ (!(decide ((d4[j4]!) < (d4[(j4 - 1 : Nat)]!)))))] [] (fun κ => κ.ix al d4.toList.length (j4 : Int) ∧ κ.rd ((at0 al).add (j4 * 1)) [u_ (d4[j4]!)] ∧ (IntKind.i64.wrap ((j4 : Int) - 1) = ((j4 - 1 : Nat) : Int)) ∧ κ.ix al d4.toList.length ((j4 - 1 : Nat) : Int) ∧ κ.rd ((at0 al).add ((j4 - 1 : Nat) * 1)) [u_ (d4[(j4 - 1 : Nat)]!)] ∧ κ.call 155 [u_ (d4[j4]!), u_ (d4[(j4 - 1 : Nat)]!)] (b_ (decide ((d4[j4]!) < (d4[(j4 - 1 : Nat)]!)))) ∧ True) ⟨(ixOf encU_len (by decide) (rd_sl (i := 0) rfl) (by (simp; omega))), reads_at0 (vs := [u_ (d4[j4]!)]) encU_len (rd_sl (i := 0) rfl) (getS (by omega)) (Nat.le_of_ble_eq_true rfl) rfl, (wrap_i64 (e := (j4 : Int) - 1) (by (constructor <;> omega))).trans (by omega : ((j4 : Int) - 1 : Int) = ((j4 - 1 : Nat) : Int)), ixOf encU_len (by decide) (rd_sl (i := 0) rfl) (by (simp; omega)), reads_at0 (vs := [u_ (d4[(j4 - 1 : Nat)]!)]) encU_len (rd_sl (i := 0) rfl) (getS (by omega)) (Nat.le_of_ble_eq_true rfl) rfl, (fun ww ss => less_spec (d4[j4]!) (d4[(j4 - 1 : Nat)]!) ww), trivial⟩ ?_))))))
        refine A.tn (A.cn (!(decide ((d4[j4]!) < (d4[(j4 - 1 : Nat)]!)))) (fun e16 => ?_) (fun e16 => ?_))
        · have p16 := e16; try simp only [nrm] at p16
          refine A.exit (A.te (A.bm rfl ?_))
          refine A.te (A.te (A.bh (A.bn (tr (A.gk [.p, .w ((k + 1 : Nat) : Int), .p] [10, 116] [(8, c_ (k + 1 : Nat))] [] (fun κ => (IntKind.i64.wrap ((k : Int) + 1) = ((k + 1 : Nat) : Int)) ∧ True) ⟨((wrap_i64 (e := (k : Int) + 1) (by (constructor <;> omega))).trans (by rfl : ((k : Int) + 1 : Int) = ((k + 1 : Nat) : Int))), trivial⟩ ?_)))))
          refine A.tn ?_
          have hF2 : d4 = fixUp ltInt b i2 d101 := (by unfold fixUp; (rw [if_pos (by omega), ← hsu, shu_f (by omega) (by omega)]; done))
          have hst_ : partialIns ltInt a b (5 - (k + 1) + 1) i1 d1 = _ := pi_3 (s := 5 - (k + 1)) hI (by omega) (by omega) hF1 hF2
          refine A.next ((k + 1 : Nat), i2, d4) ⟨(by (rw [pins_step (by omega)] at he; exact hst_.symm.trans he)), (by omega), (by omega)⟩ (by (simp; omega)) ?_
          exact A.hK [0]
        have p16 := e16; try simp only [nrm] at p16
        refine A.skip (A.tn (A.draw2 [15, 17] 18 (by kernel_rfl) ?_))
        refine A.dP 3 [.p, .p, .p, .p, .w ((j4 - 1 : Nat) : Int), .p, .p, .w ((j4 - 1 : Nat) : Int), .ix, .rd [u_ (d4[(j4 - 1 : Nat)]!)], .p, .p, .ix, .rd [u_ (d4[j4]!)], .ix] [0, 1, 2, 3, 4, 5, 6, 7, 8, 9, 10, 11, 12, 13, 14] [116] [(119, vS al d4.toList cl), (121, c_ (j4 - 1 : Nat)), (126, u_ (d4[(j4 - 1 : Nat)]!)), (130, u_ (d4[j4]!)), (131, (.pointer (some ((at0 al).add (j4 * 1)))))] [] (fun κ => (IntKind.i64.wrap ((j4 : Int) - 1) = ((j4 - 1 : Nat) : Int)) ∧ (IntKind.i64.wrap ((j4 : Int) - 1) = ((j4 - 1 : Nat) : Int)) ∧ κ.ix al d4.toList.length ((j4 - 1 : Nat) : Int) ∧ κ.rd ((at0 al).add ((j4 - 1 : Nat) * 1)) [u_ (d4[(j4 - 1 : Nat)]!)] ∧ κ.ix al d4.toList.length (j4 : Int) ∧ κ.rd ((at0 al).add (j4 * 1)) [u_ (d4[j4]!)] ∧ κ.ix al d4.toList.length (j4 : Int) ∧ True) ⟨((wrap_i64 (e := (j4 : Int) - 1) (by (constructor <;> omega))).trans (by omega : ((j4 : Int) - 1 : Int) = ((j4 - 1 : Nat) : Int))), (wrap_i64 (e := (j4 : Int) - 1) (by (constructor <;> omega))).trans (by omega : ((j4 : Int) - 1 : Int) = ((j4 - 1 : Nat) : Int)), ixOf encU_len (by decide) (rd_sl (i := 0) rfl) (by (simp; omega)), reads_at0 (vs := [u_ (d4[(j4 - 1 : Nat)]!)]) encU_len (rd_sl (i := 0) rfl) (getS (by omega)) (Nat.le_of_ble_eq_true rfl) rfl, ixOf encU_len (by decide) (rd_sl (i := 0) rfl) (by (simp; omega)), reads_at0 (vs := [u_ (d4[j4]!)]) encU_len (rd_sl (i := 0) rfl) (getS (by omega)) (Nat.le_of_ble_eq_true rfl) rfl, ixOf encU_len (by decide) (rd_sl (i := 0) rfl) (by (simp; omega)), trivial⟩ ?_
        refine A.only2 15 rfl (by kernel_rfl) (A.storeSl (enc := encU) (xs := d4.toList) 0 j4 (d4[(j4 - 1 : Nat)]!) [sU al (d4.toList.set j4 (d4[(j4 - 1 : Nat)]!)) cl] (by kernel_rfl) rfl rfl rfl rfl (by kernel_rfl) (by kernel_rfl) encU_len (by decide) rfl (by (simp; omega)) rfl ?_)
        refine A.sv 0 (vS al (d4.toList.set j4 (d4[(j4 - 1 : Nat)]!)) cl) (cgN (by simp)) (A.sv 119 (vS al (d4.toList.set j4 (d4[(j4 - 1 : Nat)]!)) cl) (cgN (by simp)) ?_)
        refine A.stage ?_
        refine A.dP 1 [.ix] [16] [119, 121, 126, 131] [(132, (.pointer (some ((at0 al).add ((j4 - 1 : Nat) * 1)))))] [] (fun κ => κ.ix al ((d4.toList.set j4 (d4[(j4 - 1 : Nat)]!)).length) ((j4 - 1 : Nat) : Int) ∧ True) ⟨(ixOf encU_len (by decide) (rd_sl (i := 0) rfl) (by (simp; omega))), trivial⟩ ?_
        refine A.only2 17 rfl (by kernel_rfl) (A.storeSl (enc := encU) (xs := (d4.toList.set j4 (d4[(j4 - 1 : Nat)]!))) 0 (j4 - 1 : Nat) (d4[j4]!) [sU al ((d4.toList.set j4 (d4[(j4 - 1 : Nat)]!)).set (j4 - 1 : Nat) (d4[j4]!)) cl] (by kernel_rfl) rfl rfl rfl rfl (by kernel_rfl) (by kernel_rfl) encU_len (by decide) rfl (by (simp; omega)) rfl ?_)
        refine A.sv 0 (vS al ((d4.toList.set j4 (d4[(j4 - 1 : Nat)]!)).set (j4 - 1 : Nat) (d4[j4]!)) cl) (cgN (by simp)) ?_
        refine A.stage ?_
        refine A.fin2 (by kernel_rfl) ?_
        obtain ⟨d109, hdd109⟩ : ∃ z, z = swp d4 j4 (j4 - 1 : Nat) := ⟨_, rfl⟩; have hszd109 : d109.size = d4.size := (by rw [hdd109]; exact swp_sz _ _ _)
        have hcv10 : ((d4.toList.set j4 (d4[(j4 - 1 : Nat)]!)).set (j4 - 1 : Nat) (d4[j4]!)) = d109.toList := by rw [hdd109]; exact swp_list2 _ _ _
        refine A.setH [sU al d109.toList cl] (cc (slC hcv10) rfl) ?_
        refine A.sv 0 (vS al d109.toList cl) (cgL hcv10) ?_
        refine A.bn (tr (A.gk [.p, .w ((j4 + 1 : Nat) : Int), .p] [130, 132] [(10, c_ (j4 + 1 : Nat))] [] (fun κ => (IntKind.i64.wrap ((j4 : Int) + 1) = ((j4 + 1 : Nat) : Int)) ∧ True) ⟨((wrap_i64 (e := (j4 : Int) + 1) (by (constructor <;> omega))).trans (by rfl : ((j4 : Int) + 1 : Int) = ((j4 + 1 : Nat) : Int))), trivial⟩ ?_))
        refine A.tn ?_
        have hst_ : shiftUp ltInt b j4 d4 = _ := shu_t (by omega) (by omega)
        refine A.next ((j4 + 1 : Nat), d109) ⟨(by (rw [hdd109]; exact hst_.symm.trans hsu)), (by omega), (by omega)⟩ (by (simp; omega)) ?_
        exact A.hK [0]
      have p15 := of_decide_eq_false e15
      refine A.exit (A.te (A.te (A.bh (A.bn (tr (A.gk [.p, .w ((k + 1 : Nat) : Int), .p] [10, 103] [(8, c_ (k + 1 : Nat))] [] (fun κ => (IntKind.i64.wrap ((k : Int) + 1) = ((k + 1 : Nat) : Int)) ∧ True) ⟨((wrap_i64 (e := (k : Int) + 1) (by (constructor <;> omega))).trans (by rfl : ((k : Int) + 1 : Int) = ((k + 1 : Nat) : Int))), trivial⟩ ?_))))))
      refine A.tn ?_
      have hF2 : d4 = fixUp ltInt b i2 d101 := (by unfold fixUp; (rw [if_pos (by omega), ← hsu, shu_0 (by omega)]; done))
      have hst_ : partialIns ltInt a b (5 - (k + 1) + 1) i1 d1 = _ := pi_3 (s := 5 - (k + 1)) hI (by omega) (by omega) hF1 hF2
      refine A.next ((k + 1 : Nat), i2, d4) ⟨(by (rw [pins_step (by omega)] at he; exact hst_.symm.trans he)), (by omega), (by omega)⟩ (by (simp; omega)) ?_
      exact A.hK [0]
    have p14 := of_decide_eq_false e14
    refine A.skip (A.bn (tr (A.gk [.p, .w ((k + 1 : Nat) : Int), .p] [98] [(8, c_ (k + 1 : Nat))] [] (fun κ => (IntKind.i64.wrap ((k : Int) + 1) = ((k + 1 : Nat) : Int)) ∧ True) ⟨((wrap_i64 (e := (k : Int) + 1) (by (constructor <;> omega))).trans (by rfl : ((k : Int) + 1 : Int) = ((k + 1 : Nat) : Int))), trivial⟩ ?_)))
    refine A.tn ?_
    have hF2 : d101 = fixUp ltInt b i2 d101 := (by unfold fixUp; (rw [if_neg (by omega)]; done))
    have hst_ : partialIns ltInt a b (5 - (k + 1) + 1) i1 d1 = _ := pi_3 (s := 5 - (k + 1)) hI (by omega) (by omega) hF1 hF2
    refine A.next ((k + 1 : Nat), i2, d101) ⟨(by (rw [pins_step (by omega)] at he; exact hst_.symm.trans he)), (by omega), (by omega)⟩ (by omega) ?_
    exact A.hK [0]
  have p1 := of_decide_eq_false e1
  refine A.exit (A.te (A.te (A.bh (tsr (A.g [.p] [1, 2, 8, 7, 0, 14] [(6, b_ false)] ?_)))))
  refine A.tn (A.ret (A.pK [0] [b_ false] (false, d1) ?_ ?_))
  · rfl
  show partialInsertionSort ltInt d a b = (d1, false) ∧ d1.size = d.size
  (refine ⟨?_, by omega⟩; rw [show 5 - k = 0 by omega] at he; exact he.symm)
end Go.Proofs.Ytinnnoimmioaiaa
