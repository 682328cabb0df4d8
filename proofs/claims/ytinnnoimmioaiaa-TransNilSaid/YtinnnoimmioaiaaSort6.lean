/- What the functions of the sort of numbers do, proved operation by operation, for all arguments, under the conditions that each theorem states. -/
import Derived.Sort.LotA
import Derived.Sort.LotB
import Derived.Sort.LotC
import Derived.Sort.LotD1
import Derived.Sort.LotD3
import Derived.Sort.LotD4
import Derived.Test.YtinnnoimmioaiaaProg
import Derived.Test.YtinnnoimmioaiaaSort5
import Derived.Test.YtinnnoimmioaiaaL2
namespace Go.Proofs.Ytinnnoimmioaiaa
open Go V Go.Sort
set_option linter.unusedVariables false
set_option linter.unusedSimpArgs false
set_option maxHeartbeats 4000000
set_option maxRecDepth 100000
def sortU (l : List Int) : List Int := l.mergeSort fun x y => decide (x ≤ y)
theorem sortU_len (l : List Int) : (sortU l).length = l.length := by unfold sortU; simp
theorem sortU_of {l : List Int} {d' : Array Int} (h : PermIn 0 l.length l.toArray d' ∧ SortedIn ltInt 0 l.length d') : d'.toList = sortU l := by
  have e := sorted_unique_holds (lt := ltInt) swo_ltInt (fun x y h1 h2 => by simp only [ltInt, decide_eq_false_iff_not] at h1 h2; omega) l.toArray d' (by simpa using h.1) (by simpa using h.2)
  rw [e]; unfold sortU
  congr 1; funext x y; simp only [ltInt]
  rw [Bool.eq_iff_iff]; simp

theorem pdq_spec_step (al : Option Addr) (d : Array Int) (cl : Nat) (a b lim : Nat) (ih : ∀ (al' : Option Addr) (d' : Array Int) (cl' : Nat) (a' b' lim' : Nat), b' - a' < b - a → ∀ (hb : a' ≤ b' ∧ b' ≤ d'.size) (hS : d'.size ≤ 100000) (hl : lim' ≤ 64) (hB : Below ltInt a' b' d') (w : World) (hs : HS w (feet [sU al' d'.toList cl']) [sU al' d'.toList cl'] w), Calls Try.prog 124 #[vS al' d'.toList cl', c_ a', c_ b', c_ lim'] w fun e w' => ∃ zz, e = .returned ((fun (dz : (Array Int)) => (.tuple #[])) zz) ∧ (fun (dz : (Array Int)) => PermIn a' b' d' dz ∧ SortedIn ltInt a' b' dz) zz ∧ Turn [sU al' d'.toList cl'] ((fun (dz : (Array Int)) => [sU al' dz.toList cl']) zz) w w')  (hb : a ≤ b ∧ b ≤ d.size) (hS : d.size ≤ 100000) (hl : lim ≤ 64) (hB : Below ltInt a b d) (w : World) (hs : HS w (feet [sU al d.toList cl]) [sU al d.toList cl] w) :
    Calls Try.prog 124 #[vS al d.toList cl, c_ a, c_ b, c_ lim] w fun e w' => ∃ zz, e = .returned ((fun (dz : (Array Int)) => (.tuple #[])) zz) ∧ (fun (dz : (Array Int)) => PermIn a b d dz ∧ SortedIn ltInt a b dz) zz ∧ Turn [sU al d.toList cl] ((fun (dz : (Array Int)) => [sU al dz.toList cl]) zz) w w' := by
  refine calls_of (args := [vS al d.toList cl, c_ a, c_ b, c_ lim]) (penv [vS al d.toList cl, c_ a, c_ b, c_ lim]) (feet [sU al d.toList cl]) [sU al d.toList cl] Try.func124 rfl rfl (look_penv _) hs ?_
  refine A.sr (A.g [.p] [] [(8, b_ true)] ?_)
  refine tsr (A.g [.p] [] [(9, b_ true)] ?_)
  refine A.tn (A.block (A.loop (fun (zz : Nat × Nat × Nat × (Array Int) × Bool × Bool) => match zz with | (a2, b2, l2, d2, wb, wp) => [(1, c_ a2), (2, c_ b2), (3, c_ l2), (0, vS al d2.toList cl), (8, b_ wb), (9, b_ wp)]) (fun (zz : Nat × Nat × Nat × (Array Int) × Bool × Bool) => match zz with | (a2, b2, l2, d2, wb, wp) => [sU al d2.toList cl]) (fun (zz : Nat × Nat × Nat × (Array Int) × Bool × Bool) => match zz with | (a2, b2, l2, d2, wb, wp) => (∀ R, PermIn a2 b2 d2 R → SortedIn ltInt a2 b2 R → PermIn a b d R ∧ SortedIn ltInt a b R) ∧ (d2.size = d.size) ∧ (Below ltInt a2 b2 d2) ∧ (a ≤ a2 ∧ a2 ≤ b2 ∧ b2 ≤ b ∧ l2 ≤ 64)) (fun (zz : Nat × Nat × Nat × (Array Int) × Bool × Bool) => match zz with | (a2, b2, l2, d2, wb, wp) => b2 - a2) (a, b, lim, d, true, true) ⟨(by exact fun R h1 h2 => ⟨h1, h2⟩), (by rfl), (by exact hB), (by omega)⟩ ?_ ?_))
  · exact A.hK [0]
  rintro ⟨a2, b2, l2, d2, wb, wp⟩ ⟨he, hz, hB2, hr⟩
  refine A.block (A.sr (A.gk [.p, .p, .w ((b2 - a2 : Nat) : Int), .p] [] [(10, c_ (b2 - a2 : Nat))] [] (fun κ => (IntKind.i64.wrap ((b2 : Int) - (a2 : Int)) = ((b2 - a2 : Nat) : Int)) ∧ True) ⟨((wrap_i64 (e := (b2 : Int) - (a2 : Int)) (by (constructor <;> omega))).trans (by omega : ((b2 : Int) - (a2 : Int) : Int) = ((b2 - a2 : Nat) : Int))), trivial⟩ ?_))
  refine A.tn (A.seq (A.sr (A.g [.p, .p] [] [(23, b_ (decide (((b2 - a2 : Nat) : Int) ≤ 12)))] ?_)))
  refine A.tn (A.cn (decide (((b2 - a2 : Nat) : Int) ≤ 12)) (fun e1 => ?_) (fun e1 => ?_))
  · have p1 := of_decide_eq_true e1
    refine A.sr (A.gp [.p, .p, .p] [1, 2, 3, 0, 8, 9, 10, 23] [(24, vS al d2.toList cl), (25, c_ a2), (26, c_ b2)] ?_)
    refine A.cons (A.cT (some 27) [vS al d2.toList cl, c_ a2, c_ b2] [0] ((fun d'1 => (.tuple #[]))) ((fun d'1 => d'1 = insertionSort ltInt d2 a2 b2 ∧ d'1.size = d2.size)) ((fun d'1 => [sU al d'1.toList cl])) (fun ww ss hh => insS_spec al d2 cl a2 b2 (by omega) (by omega) ww hh) ?_)
    rintro d'1 hz2
    refine A.sv 24 (vS al d'1.toList cl) (cgN (by (simp only [Array.length_toList]; exact hz2.2.symm))) ?_
    refine A.done ?_
    refine A.tn (A.ret (A.tr (A.br (A.tr (A.br (A.postK [0] [] (fun aa ww rr ss => trivial) (d'1) ?_ ?_ (by kernel_rfl)))))))
    · rfl
    show PermIn a b d d'1 ∧ SortedIn ltInt a b d'1
    (have h_ := (by assumption : _ = insertionSort ltInt d2 a2 b2 ∧ _); rw [h_.1]; have h2_ := insertionSort_holds (lt := ltInt) swo_ltInt d2 a2 b2 (by omega) (by omega); exact he _ h2_.1 h2_.2)
  have p1 := of_decide_eq_false e1
  refine A.skip (A.tn (A.seq (A.sr (A.g [.p, .p] [23] [(29, b_ ((l2 : Int) == 0))] ?_))))
  refine A.tn (A.cn ((l2 : Int) == 0) (fun e3 => ?_) (fun e3 => ?_))
  · have p3 := e3; try simp only [nrm] at p3
    refine A.sr (A.gp [.p, .p, .p] [1, 2, 3, 0, 8, 9, 10, 29] [(30, vS al d2.toList cl), (31, c_ a2), (32, c_ b2)] ?_)
    refine A.cons (A.cT (some 33) [vS al d2.toList cl, c_ a2, c_ b2] [0] ((fun d'2 => (.tuple #[]))) ((fun d'2 => d'2 = heapSort ltInt d2 a2 b2 ∧ d'2.size = d2.size)) ((fun d'2 => [sU al d'2.toList cl])) (fun ww ss hh => heapS_spec al d2 cl a2 b2 (by omega) (by omega) ww hh) ?_)
    rintro d'2 hz4
    refine A.sv 30 (vS al d'2.toList cl) (cgN (by (simp only [Array.length_toList]; exact hz4.2.symm))) ?_
    refine A.done ?_
    refine A.tn (A.ret (A.tr (A.br (A.tr (A.br (A.postK [0] [] (fun aa ww rr ss => trivial) (d'2) ?_ ?_ (by kernel_rfl)))))))
    · rfl
    show PermIn a b d d'2 ∧ SortedIn ltInt a b d'2
    (have h_ := (by assumption : _ = heapSort ltInt d2 a2 b2 ∧ _); rw [h_.1]; have h2_ := heapSort_holds (lt := ltInt) swo_ltInt d2 a2 b2 (by omega) (by omega); exact he _ h2_.1 h2_.2)
  have p3 := e3; try simp only [nrm] at p3
  refine A.skip (A.tn (A.cutx (fun (zz : Nat × (Array Int)) => match zz with | (l3, d3) => [(1, c_ a2), (2, c_ b2), (8, b_ wb), (9, b_ wp), (10, c_ (b2 - a2 : Nat)), (3, c_ l3), (0, vS al d3.toList cl)]) (fun (zz : Nat × (Array Int)) => match zz with | (l3, d3) => [sU al d3.toList cl]) (fun (zz : Nat × (Array Int)) => match zz with | (l3, d3) => (PermIn a2 b2 d2 d3 ∧ d3.size = d.size) ∧ (l3 ≤ 64)) ?_ ?_))
  · refine A.sr (A.g [.p, .p] [29] [(35, b_ (!wb))] ?_)
    refine A.tn (A.cn (!wb) (fun e5 => ?_) (fun e5 => ?_))
    · have p5 := e5; try simp only [nrm] at p5
      refine A.sr (A.gp [.p, .p, .p] [35] [(36, vS al d2.toList cl), (37, c_ a2), (38, c_ b2)] ?_)
      refine A.cons (A.cT (some 39) [vS al d2.toList cl, c_ a2, c_ b2] [0] ((fun d'3 => (.tuple #[]))) ((fun d'3 => PermIn a2 b2 d2 d'3 ∧ d'3.size = d2.size)) ((fun d'3 => [sU al d'3.toList cl])) (fun ww ss hh => brk_spec al d2 cl a2 b2 (by omega) (by omega) ww hh) ?_)
      rintro d'3 hz6
      refine A.sv 0 (vS al d'3.toList cl) (cgN (by (simp only [Array.length_toList]; exact hz6.2.symm))) (A.sv 36 (vS al d'3.toList cl) (cgN (by (simp only [Array.length_toList]; exact hz6.2.symm))) ?_)
      refine A.done ?_
      refine tr (A.gk [.p, .w ((l2 - 1 : Nat) : Int), .p] [36, 37, 38, 39] [(3, c_ (l2 - 1 : Nat))] [] (fun κ => (IntKind.i64.wrap ((l2 : Int) - 1) = ((l2 - 1 : Nat) : Int)) ∧ True) ⟨((wrap_i64 (e := (l2 : Int) - 1) (by (constructor <;> omega))).trans (by omega : ((l2 : Int) - 1 : Int) = ((l2 - 1 : Nat) : Int))), trivial⟩ ?_)
      refine A.tn (A.meet ((l2 - 1 : Nat), d'3) ⟨(by (have h_ := (by assumption : PermIn a2 b2 d2 _ ∧ _); exact ⟨h_.1, by omega⟩)), (by omega)⟩ ?_)
      exact A.hK [0]
    have p5 := e5; try simp only [nrm] at p5
    refine A.skip (A.tn (A.meet (l2, d2) ⟨(by exact ⟨permIn_refl _ _ _, hz⟩), (by omega)⟩ ?_))
    exact A.hK [0]
  rintro ⟨l3, d3⟩ ⟨hp3, hl3⟩
  refine A.sr (A.gp [.p, .p, .p] [] [(43, vS al d3.toList cl), (44, c_ a2), (45, c_ b2)] ?_)
  refine A.cons (A.cT (some 46) [vS al d3.toList cl, c_ a2, c_ b2] [0] ((fun _ => (.tuple #[i_ ((rawPivot ltInt d3 a2 b2).1 : Int), i_ (hintCode (hintOf (rawPivot ltInt d3 a2 b2).2))]))) ((fun _ => True)) ((fun _ => [sU al d3.toList cl])) (fun ww ss hh => piv_spec al d3 cl a2 b2 (by omega) (by omega) ww hh) ?_)
  rintro ⟨⟩ -
  refine A.g [.p, .p, .p, .p, .p] [43, 44, 45, 46] [(11, i_ ((rawPivot ltInt d3 a2 b2).1 : Int)), (12, i_ (hintCode (hintOf (rawPivot ltInt d3 a2 b2).2)))] ?_
  refine A.tn (A.cutx (fun (zz : Nat × Int × (Array Int)) => match zz with | (p4, h4, d4) => [(1, c_ a2), (2, c_ b2), (8, b_ wb), (9, b_ wp), (10, c_ (b2 - a2 : Nat)), (3, c_ l3), (11, c_ p4), (12, i_ h4), (0, vS al d4.toList cl)]) (fun (zz : Nat × Int × (Array Int)) => match zz with | (p4, h4, d4) => [sU al d4.toList cl]) (fun (zz : Nat × Int × (Array Int)) => match zz with | (p4, h4, d4) => (PermIn a2 b2 d2 d4 ∧ d4.size = d.size) ∧ (a2 ≤ p4 ∧ p4 < b2)) ?_ ?_)
  · refine A.seq ?_
    have hcp := choosePivot_holds ltInt d3 a2 b2 (by omega); rw [choosePivot_eq] at hcp; simp only [] at hcp
    obtain ⟨pv, hpv_⟩ : ∃ z, z = (rawPivot ltInt d3 a2 b2).1 := ⟨_, rfl⟩; rw [← hpv_] at hcp
    refine A.sv 11 (c_ pv) (cgI (by rw [hpv_])) ?_
    obtain ⟨hc, hhc_⟩ : ∃ z, z = (hintCode (hintOf (rawPivot ltInt d3 a2 b2).2)) := ⟨_, rfl⟩
    refine A.sv 12 (i_ hc) (cgI (by rw [hhc_])) ?_
    refine A.region (A.g [.p, .p] [] [(50, b_ (hc == 2))] ?_)
    refine A.tn (A.cn (hc == 2) (fun e8 => ?_) (fun e8 => ?_))
    · have p8 := e8; try simp only [nrm] at p8
      refine A.sr (A.gp [.p, .p, .p] [12, 50] [(51, vS al d3.toList cl), (52, c_ a2), (53, c_ b2)] ?_)
      refine A.cons (A.cT (some 54) [vS al d3.toList cl, c_ a2, c_ b2] [0] ((fun d'4 => (.tuple #[]))) ((fun d'4 => d'4 = reverseRange d3 a2 b2 ∧ d'4.size = d3.size)) ((fun d'4 => [sU al d'4.toList cl])) (fun ww ss hh => revS_spec al d3 cl a2 b2 (by omega) (by omega) ww hh) ?_)
      rintro d'4 hz9
      refine A.sv 0 (vS al d'4.toList cl) (cgN (by (simp only [Array.length_toList]; exact hz9.2.symm))) (A.sv 51 (vS al d'4.toList cl) (cgN (by (simp only [Array.length_toList]; exact hz9.2.symm))) ?_)
      refine A.done ?_
      refine tsr (A.gk [.p, .w ((b2 - 1 : Nat) : Int), .p, .p, .w ((pv - a2 : Nat) : Int), .w (((b2 - 1) - (pv - a2) : Nat) : Int), .p] [51, 52, 53, 54] [(11, c_ ((b2 - 1) - (pv - a2) : Nat))] [] (fun κ => (IntKind.i64.wrap ((b2 : Int) - 1) = ((b2 - 1 : Nat) : Int)) ∧ (IntKind.i64.wrap ((pv : Int) - (a2 : Int)) = ((pv - a2 : Nat) : Int)) ∧ (IntKind.i64.wrap (((b2 - 1 : Nat) : Int) - ((pv - a2 : Nat) : Int)) = (((b2 - 1) - (pv - a2) : Nat) : Int)) ∧ True) ⟨((wrap_i64 (e := (b2 : Int) - 1) (by (constructor <;> omega))).trans (by omega : ((b2 : Int) - 1 : Int) = ((b2 - 1 : Nat) : Int))), (wrap_i64 (e := (pv : Int) - (a2 : Int)) (by (constructor <;> omega))).trans (by omega : ((pv : Int) - (a2 : Int) : Int) = ((pv - a2 : Nat) : Int)), (wrap_i64 (e := ((b2 - 1 : Nat) : Int) - ((pv - a2 : Nat) : Int)) (by (constructor <;> omega))).trans (by omega : (((b2 - 1 : Nat) : Int) - ((pv - a2 : Nat) : Int) : Int) = (((b2 - 1) - (pv - a2) : Nat) : Int)), trivial⟩ ?_)
      refine tr (A.g [.p] [] [(12, i_ 1)] ?_)
      refine A.tn (A.meet (((b2 - 1) - (pv - a2) : Nat), 1, d'4) ⟨(by (have h_ := (by assumption : _ = reverseRange d3 a2 b2 ∧ _); refine ⟨permIn_trans _ _ _ a2 b2 hp3.1 ?_, by omega⟩; rw [h_.1]; exact reverseRange_holds d3 a2 b2 (by omega) (by omega))), (by omega)⟩ ?_)
      exact A.hK [0]
    have p8 := e8; try simp only [nrm] at p8
    refine A.skip (A.tn (A.meet (pv, hc, d3) ⟨(by exact hp3), (by omega)⟩ ?_))
    exact A.hK [0]
  rintro ⟨p4, h4, d4⟩ ⟨hp4, hpv⟩
  refine A.cutx (fun (zz : (Array Int)) => match zz with | d5 => [(1, c_ a2), (2, c_ b2), (8, b_ wb), (9, b_ wp), (10, c_ (b2 - a2 : Nat)), (3, c_ l3), (11, c_ p4), (0, vS al d5.toList cl)]) (fun (zz : (Array Int)) => match zz with | d5 => [sU al d5.toList cl]) (fun (zz : (Array Int)) => match zz with | d5 => (PermIn a2 b2 d2 d5 ∧ d5.size = d.size)) ?_ ?_
  · refine A.sr (A.g [.p, .p, .o, .p, .cl, .p, .o, .p, .p, .cl] [12] [(68, b_ ((wb && wp) && (h4 == 1)))] ?_)
    refine A.tn (A.cn ((wb && wp) && (h4 == 1)) (fun e10 => ?_) (fun e10 => ?_))
    · have p10 := e10; try simp only [nrm] at p10
      refine A.sr (A.gp [.p, .p, .p] [68] [(69, vS al d4.toList cl), (70, c_ a2), (71, c_ b2)] ?_)
      refine A.cons (A.cT (some 72) [vS al d4.toList cl, c_ a2, c_ b2] [0] ((fun zz => match zz with | (q'5, d'6) => (b_ q'5))) ((fun zz => match zz with | (q'5, d'6) => partialInsertionSort ltInt d4 a2 b2 = (d'6, q'5) ∧ d'6.size = d4.size)) ((fun zz => match zz with | (q'5, d'6) => [sU al d'6.toList cl])) (fun ww ss hh => pins_spec al d4 cl a2 b2 (by omega) (by omega) ww hh) ?_)
      rintro ⟨q'5, d'6⟩ hz11
      refine A.sv 0 (vS al d'6.toList cl) (cgN (by (simp only [Array.length_toList]; exact hz11.2.symm))) (A.sv 69 (vS al d'6.toList cl) (cgN (by (simp only [Array.length_toList]; exact hz11.2.symm))) ?_)
      refine A.done ?_
      refine A.tn (A.cn (q'5) (fun e12 => ?_) (fun e12 => ?_))
      · have p12 := e12; try simp only [nrm] at p12
        refine A.ret (A.tr (A.br (A.tr (A.br (A.postK [0] [] (fun aa ww rr ss => trivial) (d'6) ?_ ?_ (by kernel_rfl))))))
        · rfl
        show PermIn a b d d'6 ∧ SortedIn ltInt a b d'6
        (have h_ := (by assumption : partialInsertionSort ltInt d4 a2 b2 = _ ∧ _); have h2_ := partialInsertionSort_holds (lt := ltInt) swo_ltInt d4 a2 b2 (by omega) (by omega) (hB2.perm (by omega) hp4.1); rw [h_.1] at h2_; exact he _ (permIn_trans _ _ _ a2 b2 hp4.1 h2_.1) (h2_.2 (by assumption)))
      have p12 := e12; try simp only [nrm] at p12
      refine A.skip (A.tn (A.meet (d'6) (by (have h_ := (by assumption : partialInsertionSort ltInt d4 a2 b2 = _ ∧ _); have h2_ := partialInsertionSort_holds (lt := ltInt) swo_ltInt d4 a2 b2 (by omega) (by omega) (hB2.perm (by omega) hp4.1); rw [h_.1] at h2_; exact ⟨permIn_trans _ _ _ a2 b2 hp4.1 h2_.1, by omega⟩)) ?_))
      exact A.hK [0]
    have p10 := e10; try simp only [nrm] at p10
    refine A.skip (A.tn (A.meet (d4) (by exact hp4) ?_))
    exact A.hK [0]
  rintro d5 hp5
  have hp5 : PermIn a2 b2 d2 d5 ∧ d5.size = d.size := hp5
  have hB5 : Below ltInt a2 b2 d5 := hB2.perm (by omega) hp5.1
  refine A.seq (A.seq (A.dA [.p, .p, .p, .o, .p, .p, .w ((a2 - 1 : Nat) : Int), .ix, .rd [u_ (d5[(a2 - 1 : Nat)]!)], .p, .p, .ix, .rd [u_ (d5[p4]!)], .cq (b_ (decide ((d5[(a2 - 1 : Nat)]!) < (d5[p4]!)))), .p, .cl] [0, 1, 2, 3, 4, 5, 6, 7, 8, 9, 10, 11, 12, 13, 14] [] [(87, b_ ((decide ((a2 : Int) > 0)) && (!(decide ((d5[(a2 - 1 : Nat)]!) < (d5[p4]!))))))] [] (fun κ => ((true && ((decide ((a2 : Int) > 0)) == true)) = true → (IntKind.i64.wrap ((a2 : Int) - 1) = ((a2 - 1 : Nat) : Int))) ∧ ((true && ((decide ((a2 : Int) > 0)) == true)) = true → κ.ix al d5.toList.length ((a2 - 1 : Nat) : Int)) ∧ ((true && ((decide ((a2 : Int) > 0)) == true)) = true → κ.rd ((at0 al).add ((a2 - 1 : Nat) * 1)) [u_ (d5[(a2 - 1 : Nat)]!)]) ∧ ((true && ((decide ((a2 : Int) > 0)) == true)) = true → κ.ix al d5.toList.length (p4 : Int)) ∧ ((true && ((decide ((a2 : Int) > 0)) == true)) = true → κ.rd ((at0 al).add (p4 * 1)) [u_ (d5[p4]!)]) ∧ ((true && ((decide ((a2 : Int) > 0)) == true)) = true → κ.call 155 [u_ (d5[(a2 - 1 : Nat)]!), u_ (d5[p4]!)] (b_ (decide ((d5[(a2 - 1 : Nat)]!) < (d5[p4]!))))) ∧ True) ⟨(fun h_ => ((wrap_i64 (e := (a2 : Int) - 1) (by (constructor <;> omega))).trans (by (simp at h_; omega) : ((a2 : Int) - 1 : Int) = ((a2 - 1 : Nat) : Int)))), (fun h_ => (ixOf encU_len (by decide) (rd_sl (i := 0) rfl) (by (simp; omega)))), (fun h_ => (reads_at0 (vs := [u_ (d5[(a2 - 1 : Nat)]!)]) encU_len (rd_sl (i := 0) rfl) (getS (by omega)) (Nat.le_of_ble_eq_true rfl) rfl)), (fun h_ => (ixOf encU_len (by decide) (rd_sl (i := 0) rfl) (by (simp; omega)))), (fun h_ => (reads_at0 (vs := [u_ (d5[p4]!)]) encU_len (rd_sl (i := 0) rfl) (getS (by omega)) (Nat.le_of_ble_eq_true rfl) rfl)), (fun h_ => (fun ww ss => less_spec (d5[(a2 - 1 : Nat)]!) (d5[p4]!) ww)), trivial⟩ ?_))
  refine A.tn (A.cn ((decide ((a2 : Int) > 0)) && (!(decide ((d5[(a2 - 1 : Nat)]!) < (d5[p4]!))))) (fun e13 => ?_) (fun e13 => ?_))
  · have p13 := e13; try simp only [nrm] at p13
    refine A.sr (A.gp [.p, .p, .p, .p] [1, 10, 11, 87] [(88, vS al d5.toList cl), (89, c_ a2), (90, c_ b2), (91, c_ p4)] ?_)
    refine A.cons (A.cT (some 92) [vS al d5.toList cl, c_ a2, c_ b2, c_ p4] [0] ((fun zz => match zz with | (m'7, d'8) => (c_ m'7))) ((fun zz => match zz with | (m'7, d'8) => partitionEqual ltInt d5 a2 b2 p4 = (m'7, d'8) ∧ d'8.size = d5.size)) ((fun zz => match zz with | (m'7, d'8) => [sU al d'8.toList cl])) (fun ww ss hh => partE_spec al d5 cl a2 b2 p4 (by omega) (by omega) ww hh) ?_)
    rintro ⟨m'7, d'8⟩ hz14
    refine A.sv 0 (vS al d'8.toList cl) (cgN (by (simp only [Array.length_toList]; exact hz14.2.symm))) (A.sv 88 (vS al d'8.toList cl) (cgN (by (simp only [Array.length_toList]; exact hz14.2.symm))) ?_)
    refine A.g [.p] [88, 89, 90, 91, 92] [(13, c_ m'7)] ?_
    refine A.tn (A.seq ?_)
    have hx_ := (by assumption : partitionEqual ltInt d5 a2 b2 p4 = _ ∧ _); have hnl_ : ltInt d5[a2 - 1]! d5[p4]! = false := (by unfold ltInt; simp_all); obtain ⟨rq1, rq2, rqS, rqB, rqE⟩ := round_eq swo_ltInt (partitionEqual_holds (lt := ltInt)) (by omega) hpv.1 hpv.2 (by omega) hB5 hnl_ hx_.1
    refine A.region (A.g [.p, .p] [13] [(1, c_ m'7)] ?_)
    refine A.tn (A.exit (A.te (A.bh (A.tn (A.next (m'7, b2, l3, d'8, wb, wp) ⟨(by exact fun R h1 h2 => he R (permIn_trans _ _ _ a2 b2 hp5.1 (rqE R h1 h2).1) (rqE R h1 h2).2), (by omega), (by exact rqB), (by omega)⟩ (by (simp; omega)) ?_)))))
    exact A.hK [0]
  have p13 := e13; try simp only [nrm] at p13
  refine A.skip (tsr (A.gp [.p, .p, .p, .p] [8, 9, 11, 87] [(95, vS al d5.toList cl), (96, c_ a2), (97, c_ b2), (98, c_ p4)] ?_))
  refine A.cons (A.cT (some 99) [vS al d5.toList cl, c_ a2, c_ b2, c_ p4] [0] ((fun zz => match zz with | (m'9, q'10, d'11) => (.tuple #[c_ m'9, b_ q'10]))) ((fun zz => match zz with | (m'9, q'10, d'11) => partition ltInt d5 a2 b2 p4 = (m'9, q'10, d'11) ∧ d'11.size = d5.size)) ((fun zz => match zz with | (m'9, q'10, d'11) => [sU al d'11.toList cl])) (fun ww ss hh => part_spec al d5 cl a2 b2 p4 (by omega) (by omega) ww hh) ?_)
  rintro ⟨m'9, q'10, d'11⟩ hz15
  refine A.sv 0 (vS al d'11.toList cl) (cgN (by (simp only [Array.length_toList]; exact hz15.2.symm))) (A.sv 95 (vS al d'11.toList cl) (cgN (by (simp only [Array.length_toList]; exact hz15.2.symm))) ?_)
  refine A.g [.p, .p, .p, .p, .p] [95, 96, 97, 98, 99] [(14, c_ m'9), (15, b_ q'10)] ?_
  refine tsr (A.g [.p, .p] [15] [(9, b_ q'10)] ?_)
  refine A.tn (A.seq ?_)
  have hx_ := (by assumption : partition ltInt d5 a2 b2 p4 = _ ∧ _); obtain ⟨rp1, rp2, rp3, rp4, rp5, rpL, rpR⟩ := round_part swo_ltInt (partition_holds (lt := ltInt)) hpv.1 hpv.2 (by omega) hB5 hx_.1
  refine A.region (A.gk [.p, .p, .w ((m'9 - a2 : Nat) : Int), .p, .p, .w ((b2 - m'9 : Nat) : Int), .p, .p] [] [(16, c_ (m'9 - a2 : Nat)), (17, c_ (b2 - m'9 : Nat))] [] (fun κ => (IntKind.i64.wrap ((m'9 : Int) - (a2 : Int)) = ((m'9 - a2 : Nat) : Int)) ∧ (IntKind.i64.wrap ((b2 : Int) - (m'9 : Int)) = ((b2 - m'9 : Nat) : Int)) ∧ True) ⟨((wrap_i64 (e := (m'9 : Int) - (a2 : Int)) (by (constructor <;> omega))).trans (by omega : ((m'9 : Int) - (a2 : Int) : Int) = ((m'9 - a2 : Nat) : Int))), (wrap_i64 (e := (b2 : Int) - (m'9 : Int)) (by (constructor <;> omega))).trans (by omega : ((b2 : Int) - (m'9 : Int) : Int) = ((b2 - m'9 : Nat) : Int)), trivial⟩ ?_)
  refine tsr (A.gk [.p, .w (((b2 - a2) / 8 : Nat) : Int), .p] [10] [(18, c_ ((b2 - a2) / 8 : Nat))] [] (fun κ => (IntKind.i64.wrap (((b2 - a2 : Nat) : Int).tdiv 8) = (((b2 - a2) / 8 : Nat) : Int)) ∧ True) ⟨((wrap_i64 (e := ((b2 - a2 : Nat) : Int).tdiv 8) (by (rw [tdivN8]; constructor <;> omega))).trans (by rfl : (((b2 - a2 : Nat) : Int).tdiv 8 : Int) = (((b2 - a2) / 8 : Nat) : Int))), trivial⟩ ?_)
  refine tsr (A.g [.p, .p, .p] [] [(113, b_ (decide (((m'9 - a2 : Nat) : Int) < ((b2 - m'9 : Nat) : Int))))] ?_)
  refine A.tn (A.cn (decide (((m'9 - a2 : Nat) : Int) < ((b2 - m'9 : Nat) : Int))) (fun e16 => ?_) (fun e16 => ?_))
  · have p16 := of_decide_eq_true e16
    refine A.sr (A.g [.p, .p, .p, .p] [16, 17, 18, 113] [(8, b_ (decide (((m'9 - a2 : Nat) : Int) ≥ (((b2 - a2) / 8 : Nat) : Int))))] ?_)
    refine tsr (A.goP [.p, .p, .p, .p] [(2, c_ b2), (3, c_ l3), (0, vS al d'11.toList cl), (14, c_ m'9), (9, b_ q'10), (8, b_ (decide (((m'9 - a2 : Nat) : Int) ≥ (((b2 - a2) / 8 : Nat) : Int)))), (117, vS al d'11.toList cl), (118, c_ a2), (119, c_ m'9), (120, c_ l3)] [] T0 (by kernel_rfl) trivial ?_)
    refine A.cons (A.cT (some 121) [vS al d'11.toList cl, c_ a2, c_ m'9, c_ l3] [0] ((fun dz12 => (.tuple #[]))) ((fun dz12 => PermIn a2 m'9 d'11 dz12 ∧ SortedIn ltInt a2 m'9 dz12)) ((fun dz12 => [sU al dz12.toList cl])) (fun ww ss hh => ih al d'11 cl a2 m'9 l3 (by omega) (by omega) (by omega) (by assumption) (by assumption) ww hh) ?_)
    rintro dz12 hz17
    refine A.sv 0 (vS al dz12.toList cl) (cgN (by (simp only [Array.length_toList]; exact hz17.1.1.symm))) (A.sv 117 (vS al dz12.toList cl) (cgN (by (simp only [Array.length_toList]; exact hz17.1.1.symm))) ?_)
    refine A.done ?_
    refine A.tn ?_
    have hy_ := (by assumption : PermIn a2 _ _ _ ∧ SortedIn ltInt a2 _ _); have rqL := rpL _ hy_.1 hy_.2; have rqS := hy_.1.1
    refine A.region (A.gk [.p, .w ((m'9 + 1 : Nat) : Int), .p] [14, 117, 118, 119, 120, 121] [(1, c_ (m'9 + 1 : Nat))] [] (fun κ => (IntKind.i64.wrap ((m'9 : Int) + 1) = ((m'9 + 1 : Nat) : Int)) ∧ True) ⟨((wrap_i64 (e := (m'9 : Int) + 1) (by (constructor <;> omega))).trans (by rfl : ((m'9 : Int) + 1 : Int) = ((m'9 + 1 : Nat) : Int))), trivial⟩ ?_)
    refine A.bn (A.tn (A.next ((m'9 + 1 : Nat), b2, l3, dz12, decide (((m'9 - a2 : Nat) : Int) ≥ (((b2 - a2) / 8 : Nat) : Int)), q'10) ⟨(by exact fun R h1 h2 => he R (permIn_trans _ _ _ a2 b2 hp5.1 (rqL.2 R h1 h2).1) (rqL.2 R h1 h2).2), (by omega), (by exact rqL.1), (by omega)⟩ (by (simp; omega)) ?_))
    exact A.hK [0]
  have p16 := of_decide_eq_false e16
  refine A.sr (A.g [.p, .p, .p, .p] [16, 17, 18, 113] [(8, b_ (decide (((b2 - m'9 : Nat) : Int) ≥ (((b2 - a2) / 8 : Nat) : Int))))] ?_)
  refine tsr (A.goP [.p, .p, .w ((m'9 + 1 : Nat) : Int), .p, .p] [(1, c_ a2), (3, c_ l3), (0, vS al d'11.toList cl), (14, c_ m'9), (9, b_ q'10), (8, b_ (decide (((b2 - m'9 : Nat) : Int) ≥ (((b2 - a2) / 8 : Nat) : Int)))), (127, vS al d'11.toList cl), (129, c_ (m'9 + 1 : Nat)), (130, c_ b2), (131, c_ l3)] [] (fun κ => (IntKind.i64.wrap ((m'9 : Int) + 1) = ((m'9 + 1 : Nat) : Int)) ∧ True) (by kernel_rfl) ⟨((wrap_i64 (e := (m'9 : Int) + 1) (by (constructor <;> omega))).trans (by rfl : ((m'9 : Int) + 1 : Int) = ((m'9 + 1 : Nat) : Int))), trivial⟩ ?_)
  refine A.cons (A.cT (some 132) [vS al d'11.toList cl, c_ (m'9 + 1 : Nat), c_ b2, c_ l3] [0] ((fun dz13 => (.tuple #[]))) ((fun dz13 => PermIn (m'9 + 1 : Nat) b2 d'11 dz13 ∧ SortedIn ltInt (m'9 + 1 : Nat) b2 dz13)) ((fun dz13 => [sU al dz13.toList cl])) (fun ww ss hh => ih al d'11 cl (m'9 + 1 : Nat) b2 l3 (by omega) (by omega) (by omega) (by assumption) (by assumption) ww hh) ?_)
  rintro dz13 hz18
  refine A.sv 0 (vS al dz13.toList cl) (cgN (by (simp only [Array.length_toList]; exact hz18.1.1.symm))) (A.sv 127 (vS al dz13.toList cl) (cgN (by (simp only [Array.length_toList]; exact hz18.1.1.symm))) ?_)
  refine A.done ?_
  refine A.tn ?_
  have hy_ := (by assumption : PermIn _ b2 _ _ ∧ SortedIn ltInt _ b2 _); have rqL := rpR _ hy_.1 hy_.2; have rqS := hy_.1.1
  refine A.region (A.g [.p, .p] [14, 127, 129, 130, 131, 132] [(2, c_ m'9)] ?_)
  refine A.bn (A.tn (A.next (a2, m'9, l3, dz13, decide (((b2 - m'9 : Nat) : Int) ≥ (((b2 - a2) / 8 : Nat) : Int)), q'10) ⟨(by exact fun R h1 h2 => he R (permIn_trans _ _ _ a2 b2 hp5.1 (rqL.2 R h1 h2).1) (rqL.2 R h1 h2).2), (by omega), (by exact rqL.1), (by omega)⟩ (by (simp; omega)) ?_))
  exact A.hK [0]

theorem pdq_spec  (al : Option Addr) (d : Array Int) (cl : Nat) (a b lim : Nat) (hb : a ≤ b ∧ b ≤ d.size) (hS : d.size ≤ 100000) (hl : lim ≤ 64) (hB : Below ltInt a b d) (w : World) (hs : HS w (feet [sU al d.toList cl]) [sU al d.toList cl] w) :
    Calls Try.prog 124 #[vS al d.toList cl, c_ a, c_ b, c_ lim] w fun e w' => ∃ zz, e = .returned ((fun (dz : (Array Int)) => (.tuple #[])) zz) ∧ (fun (dz : (Array Int)) => PermIn a b d dz ∧ SortedIn ltInt a b dz) zz ∧ Turn [sU al d.toList cl] ((fun (dz : (Array Int)) => [sU al dz.toList cl]) zz) w w' :=
  pdq_spec_step al d cl a b lim (fun al' d' cl' a' b' lim' hlt_ g0_ g1_ g2_ g3_ w_  y_ => pdq_spec al' d' cl' a' b' lim' g0_ g1_ g2_ g3_ w_  y_) hb hS hl hB w  hs
termination_by b - a
decreasing_by exact hlt_

theorem sortU_spec (ah : Option Addr) (l : List Int) (c : Nat) (hl : l.length ≤ 100000) (w : World) (hs : HS w (feet [sU ah l c]) [sU ah l c] w) :
    Calls Try.prog 87 #[vS ah l c] w fun e w' => ∃ zz, e = .returned ((fun (zz : Unit) => (.tuple #[])) zz) ∧ (fun (zz : Unit) => True) zz ∧ Turn [sU ah l c] ((fun (zz : Unit) => [sU ah (sortU l) c]) zz) w w' := by
  have hbl : Lib.bitLen l.length ≤ 64 := (by rcases Nat.eq_zero_or_pos l.length with h | h; (rw [h]; decide); (have := bitLen_64 l.length h hl; omega))
  refine calls_of (args := [vS ah l c]) (penv [vS ah l c]) (feet [sU ah l c]) [sU ah l c] Try.func87 rfl rfl (look_penv _) hs ?_
  refine A.sr (A.g [.p, .p, .p] [] [(2, c_ l.length)] ?_)
  refine A.tn ?_
  have hcv1 : l = l.toArray.toList := by simp
  refine A.setH [sU ah l.toArray.toList c] (cc (slC hcv1) rfl) ?_
  refine A.sv 0 (vS ah l.toArray.toList c) (cgL hcv1) ?_
  refine A.region (A.gpk [.p, .p, .p, .w (l.length : Int), .cq (i_ (Lib.bitLen l.length : Int))] [0, 2] [(5, vS ah l.toArray.toList c), (6, c_ l.length), (9, i_ (Lib.bitLen l.length : Int))] [] (fun κ => (IntKind.u64.wrap (l.length : Int) = (l.length : Int)) ∧ κ.call 110 [u_ (l.length : Int)] (i_ (Lib.bitLen l.length : Int)) ∧ True) ⟨(wrap_u64 (e := (l.length : Int)) (by constructor <;> omega)), (fun ww ss => len_spec l.length (by omega) ww), trivial⟩ ?_)
  refine A.cons (A.cT (some 10) [vS ah l.toArray.toList c, i_ 0, c_ l.length, i_ (Lib.bitLen l.length : Int)] [0] ((fun dz2 => (.tuple #[]))) ((fun dz2 => PermIn 0 l.length l.toArray dz2 ∧ SortedIn ltInt 0 l.length dz2)) ((fun dz2 => [sU ah dz2.toList c])) (fun ww ss hh => pdq_spec ah l.toArray c 0 l.length (Lib.bitLen l.length) (by (constructor <;> simp)) (by assumption) (by assumption) (by exact .inl rfl) ww hh) ?_)
  rintro dz2 hz1
  refine A.sv 5 (vS ah dz2.toList c) (cgN (by (simp only [Array.length_toList]; exact hz1.1.1.symm))) ?_
  refine A.done ?_
  refine A.setH [sU ah (sortU l) c] (cc (slC (by exact sortU_of (by assumption) : dz2.toList = (sortU l))) rfl) ?_
  refine A.postKn [0] [] (fun aa ww rr ss => trivial) () ?_ ?_ (by kernel_rfl)
  · rfl
  trivial
end Go.Proofs.Ytinnnoimmioaiaa
