/- What the functions of this layer do, proved operation by operation, for all arguments, under the conditions that each theorem states. -/
import Derived.Test.YtlhchmmjkokamaaProg
import Derived.Test.YtlhchmmjkokamaaStat2
namespace Go.Proofs.Ytlhchmmjkokamaa
open Go V
set_option linter.unusedVariables false
set_option linter.unusedSimpArgs false
structure Pk where
  pc : Int
  pa : Int
  pd : Int
  pl : Int
  pr : Bool
  pg : Bool
  deriving Inhabited, DecidableEq
def encPk (x : Pk) : List Value := [(i_ x.pc), (u_ x.pa), (u_ x.pd), (i_ x.pl), (b_ x.pr), (b_ x.pg)]
theorem encPk_len (x : Pk) : (encPk x).length = 6 := rfl
theorem encPk_one (x : Pk) : (encPk x).all Value.oneCell' = true := rfl
theorem take_snoc {α : Type} {l : List α} {k : Nat} {x : α} (hx : l[k]? = some x) : l.take (k + 1) = l.take k ++ [x] := by rw [List.take_add_one, hx]; rfl
def oI : Option Nat → Int
  | none => -1
  | some i => (i : Int)
def fst (a : Int) (l : List Pk) : Option Nat := l.findIdx? fun p => decide (p.pc = a) && !p.pg
theorem fst_none {a : Int} {l : List Pk} (h : ∀ p ∈ l, (decide (p.pc = a) && !p.pg) = false) : oI (fst a l) = -1 := by
  unfold fst; rw [List.findIdx?_eq_none_iff.2 h]; rfl
theorem fst_at {a : Int} {l : List Pk} {k : Nat} {x : Pk} (hx : l[k]? = some x) (hk : (decide (x.pc = a) && !x.pg) = true) (h : ∀ p ∈ l.take k, (decide (p.pc = a) && !p.pg) = false) : oI (fst a l) = (k : Int) := by
  unfold fst
  obtain ⟨hl, he⟩ := List.getElem?_eq_some_iff.1 hx
  rw [List.findIdx?_eq_some_iff_getElem.2 ⟨hl, by rw [he]; exact hk, fun j hj => by
    rw [h l[j] (List.mem_iff_getElem?.2 ⟨j, by rw [List.getElem?_take, if_pos hj]; exact List.getElem?_eq_getElem _⟩)]; simp⟩]; rfl
theorem fst_lt {a : Int} {l : List Pk} {i : Nat} (h : fst a l = some i) : i < l.length := by
  unfold fst at h; exact (List.findIdx?_eq_some_iff_getElem.1 h).1
def wentR (l : List Pk) (a dn nb : Int) : Int := match fst a l with
  | none => 6
  | some i => if nb < 1 then 26 else if dn < (l[i]?.getD default).pa then 27 else 0
theorem wentR_none {l : List Pk} {a dn nb : Int} (h : fst a l = none) : wentR l a dn nb = 6 := by unfold wentR; rw [h]
theorem wentR_at {l : List Pk} {a dn nb : Int} {i : Nat} {x : Pk} (h : fst a l = some i) (hx : l[i]? = some x) : wentR l a dn nb = if nb < 1 then 26 else if dn < x.pa then 27 else 0 := by unfold wentR; rw [h]; simp only [hx]; rfl
def wtR (a : Int) (l : List Pk) : Nat → Int
  | 0 => 0
  | k + 1 => match l[k]? with
    | none => wtR a l k
    | some p => if (decide (p.pc = a) && !p.pg) = true then wtR a l k + 1 else wtR a l k
theorem wtR_le (a : Int) (l : List Pk) : ∀ k, 0 ≤ wtR a l k ∧ wtR a l k ≤ k
  | 0 => by simp [wtR]
  | k + 1 => by
    have := wtR_le a l k
    rw [wtR]; split
    · omega
    · split <;> omega
def addC (o : SR) (p : Pk) : SR := ⟨IntKind.u64.wrap (o.sp + 1), IntKind.u64.wrap (o.sb + IntKind.u64.wrap p.pl), if p.pr then IntKind.u64.wrap (o.sr + 1) else o.sr, IntKind.u64.wrap (IntKind.u64.wrap (o.sw + p.pd) - p.pa), if IntKind.u64.wrap (p.pd - p.pa) > o.sg then IntKind.u64.wrap (p.pd - p.pa) else o.sg⟩
def cntR (a : Int) (tt : Bool) (l : List Pk) : Nat → SR
  | 0 => sr0
  | k + 1 => match l[k]? with
    | none => cntR a tt l k
    | some p => if (!p.pg || (!tt && (p.pc != a))) = true then cntR a tt l k else addC (cntR a tt l k) p

set_option maxHeartbeats 4000000 in
set_option maxRecDepth 100000 in
theorem fst_spec (al : Option Addr) (l : List Pk) (cl : Nat) (a : Int) (hl : l.length ≤ 100000) (w : World) (r0 : arrAt w al (V.flat encPk l)) :
    Calls Try.prog 12 #[(.slice al l.length cl), (i_ a)] w fun e w' => e = .returned (i_ (oI (fst a l))) ∧ Fr [] w w' := by
  refine calls_of (args := [(.slice al l.length cl), (i_ a)]) (penv [(.slice al l.length cl), (i_ a)]) [] [] Try.func12 rfl rfl (look_penv _) (HS.nil w) ?_
  refine A.norm [(0, (.slice al l.length cl)), (1, (i_ a))] [] (by exact ⟨rfl, rfl, trivial⟩) rfl ?_
  refine A.seq ?_
  refine A.region (A.goA [.p] [(0, (.slice al l.length cl)), (1, (i_ a)), (4, (i_ 0))] [] T0 (by kernel_rfl) trivial ?_)
  refine A.tn ?_
  refine A.seq ?_
  refine A.seq ?_
  refine A.region (A.goA [.p, .p, .p] [(0, (.slice al l.length cl)), (1, (i_ a)), (4, (i_ 0)), (7, (.slice al l.length cl)), (8, (i_ (l.length : Int))), (9, (i_ 0))] [] T0 (by kernel_rfl) trivial ?_)
  refine A.tn ?_
  refine A.block ?_
  refine A.loop (fun (zz : Nat) => match zz with | k => [(1, (i_ a)), (7, (.slice al l.length cl)), (8, (i_ (l.length : Int))), (9, (i_ (k : Int)))]) (fun (zz : Nat) => match zz with | k => []) (fun (zz : Nat) => match zz with | k => (k ≤ l.length) ∧ (∀ p ∈ l.take k, (decide (p.pc = a) && !p.pg) = false)) (fun (zz : Nat) => match zz with | k => l.length - k) (0 : Nat) ⟨(by first | assumption | omega | (simp_all; done) | (simp_all; omega) | grind), (by simp)⟩ ?_ ?_
  · exact A.hereK [] (by exact ⟨rfl, rfl, rfl, rfl, trivial⟩) (by kernel_rfl)
  · rintro k ⟨hk, hn⟩
    refine A.norm [(1, (i_ a)), (7, (.slice al l.length cl)), (8, (i_ (l.length : Int))), (9, (i_ (k : Int)))] [] (by exact ⟨rfl, rfl, rfl, rfl, trivial⟩) rfl ?_
    refine A.seq ?_
    refine A.region (A.goA [.p] [(1, (i_ a)), (7, (.slice al l.length cl)), (8, (i_ (l.length : Int))), (9, (i_ (k : Int))), (10, (b_ (decide ((k : Int) < (l.length : Int)))))] [] T0 (by kernel_rfl) trivial ?_)
    refine A.tn ?_
    refine A.seq ?_
    refine A.cond (E := decide ((k : Int) < (l.length : Int))) rfl (fun e1 => ?_) (fun e1 => ?_)
    · skip
      have p1 := of_decide_eq_true e1
      refine A.skip ?_
      refine A.tn ?_
      refine A.seq ?_
      refine A.block ?_
      refine A.seq ?_
      refine A.region (A.goP [.p, .ix] [(1, (i_ a)), (7, (.slice al l.length cl)), (8, (i_ (l.length : Int))), (9, (i_ (k : Int))), (10, (b_ (decide ((k : Int) < (l.length : Int))))), (11, (i_ (k : Int))), (12, (.pointer (some ((at0 al).add (k * 6)))))] [] (fun κ => κ.ix al l.length (k : Int) ∧ True) (by kernel_rfl) ⟨(ixOf encPk_len (by decide) (rd_old r0 (by simp [feet])) (by first | omega | (simp; omega) | (simp; done))), trivial⟩ ?_)
      obtain ⟨x1, hx1⟩ : ∃ x, (l)[k]? = some x := ⟨_, List.getElem?_eq_getElem (by omega)⟩
      refine A.goA1 [.rd [(i_ x1.pc), (u_ x1.pa), (u_ x1.pd), (i_ x1.pl), (b_ x1.pr), (b_ x1.pg)], .al, .p, .st 0] [1, 7, 8, 9, 10, 6, 5] (fun b2 => [(1, (i_ a)), (7, (.slice al l.length cl)), (8, (i_ (l.length : Int))), (9, (i_ (k : Int))), (10, (b_ (decide ((k : Int) < (l.length : Int))))), (6, (p_ b2)), (5, (i_ (k : Int)))]) (fun b2 => [blk b2 [(i_ x1.pc), (u_ x1.pa), (u_ x1.pd), (i_ x1.pl), (b_ x1.pr), (b_ x1.pg)] 33]) (fun b2 => [b2]) (fun _ => (fun κ => κ.rd ((at0 al).add (k * 6)) [(i_ x1.pc), (u_ x1.pa), (u_ x1.pd), (i_ x1.pl), (b_ x1.pr), (b_ x1.pg)] ∧ True)) (fun _ => by kernel_rfl) (fun b2 => ⟨(reads_at0 (vs := [(i_ x1.pc), (u_ x1.pa), (u_ x1.pd), (i_ x1.pl), (b_ x1.pr), (b_ x1.pg)]) encPk_len (rd_old r0 (by simp [feet])) hx1 (by simp) rfl), trivial⟩) ?_
      intro b2
      refine A.tn ?_
      refine A.seq ?_
      refine A.region (A.goA [.p, .ld 0, .p, .p, .p, .o, .p, .ld 0, .p, .cl] [(1, (i_ a)), (7, (.slice al l.length cl)), (8, (i_ (l.length : Int))), (9, (i_ (k : Int))), (10, (b_ (decide ((k : Int) < (l.length : Int))))), (6, (p_ b2)), (5, (i_ (k : Int))), (22, (b_ ((x1.pc == a) && (!x1.pg))))] [b2, b2] T0 (by kernel_rfl) trivial ?_)
      refine A.tn ?_
      refine A.cond (E := (x1.pc == a) && (!x1.pg)) rfl (fun e2 => ?_) (fun e2 => ?_)
      · skip
        have p2 := e2; try simp only [decide_eq_true_eq, decide_eq_false_iff_not, beq_iff_eq, beq_eq_false_iff_ne, bne_iff_ne, bne_eq_false_iff_eq, ne_eq, Bool.and_eq_true, Bool.or_eq_true, Bool.or_eq_false_iff, Bool.not_eq_true', Bool.not_eq_false', Int.not_lt, Int.not_le, gt_iff_lt, ge_iff_le, Classical.not_not] at p2
        refine A.seq ?_
        refine A.region (A.goA [.p, .p] [(1, (i_ a)), (7, (.slice al l.length cl)), (8, (i_ (l.length : Int))), (9, (i_ (k : Int))), (10, (b_ (decide ((k : Int) < (l.length : Int))))), (6, (p_ b2)), (5, (i_ (k : Int))), (22, (b_ ((x1.pc == a) && (!x1.pg)))), (4, (i_ (k : Int)))] [] T0 (by kernel_rfl) trivial ?_)
        refine A.tn ?_
        refine A.ret ?_
        refine A.br ?_
        refine A.tr ?_
        refine A.tr ?_
        refine A.br ?_
        refine A.tr ?_
        refine A.postQ [(i_ (k : Int))] (fun aa ww rr ss => ⟨rv_tmp rr rfl, trivial⟩) ?_
        show ((i_ (k : Int)) : Value) = (i_ (oI (fst a l)))
        refine congrArg (Value.int .i64) ?_; first | exact (fst_at (by assumption) (by simp_all) hn).symm | (rw [List.take_of_length_le (by omega)] at hn; exact (fst_none hn).symm)
      · skip
        have p2 := e2; try simp only [decide_eq_true_eq, decide_eq_false_iff_not, beq_iff_eq, beq_eq_false_iff_ne, bne_iff_ne, bne_eq_false_iff_eq, ne_eq, Bool.and_eq_true, Bool.or_eq_true, Bool.or_eq_false_iff, Bool.not_eq_true', Bool.not_eq_false', Int.not_lt, Int.not_le, gt_iff_lt, ge_iff_le, Classical.not_not] at p2
        refine A.skip ?_
        refine A.bn ?_
        refine A.tn ?_
        refine A.region (A.goA [.w ((k : Int) + 1), .p] [(1, (i_ a)), (7, (.slice al l.length cl)), (8, (i_ (l.length : Int))), (9, (i_ ((k : Int) + 1))), (10, (b_ (decide ((k : Int) < (l.length : Int))))), (6, (p_ b2)), (5, (i_ (k : Int))), (22, (b_ ((x1.pc == a) && (!x1.pg))))] [] (fun κ => (IntKind.i64.wrap ((k : Int) + 1) = ((k : Int) + 1)) ∧ True) (by kernel_rfl) ⟨(wrap_i64 (e := (k : Int) + 1) (by constructor <;> omega)), trivial⟩ ?_)
        refine A.tn ?_
        refine A.next (k + 1) ⟨(by first | assumption | omega | (simp_all; done) | (simp_all; omega) | grind), (by rw [take_snoc (by assumption)]; intro y hy; rcases List.mem_append.1 hy with hy | hy; exact hn y hy; (simp at hy; subst hy; simp_all))⟩ (by first | omega | (simp; omega) | (simp_all; omega)) ?_
        exact A.hereK [] (by exact ⟨rfl, rfl, rfl, rfl, trivial⟩) (by kernel_rfl)
    · skip
      have p1 := of_decide_eq_false e1
      refine A.exit ?_
      refine A.te ?_
      refine A.te ?_
      refine A.bh ?_
      refine A.tn ?_
      refine A.seq ?_
      refine A.region (A.goA [.p] [(1, (i_ a)), (7, (.slice al l.length cl)), (8, (i_ (l.length : Int))), (9, (i_ (k : Int))), (10, (b_ (decide ((k : Int) < (l.length : Int))))), (4, (i_ (-1)))] [] T0 (by kernel_rfl) trivial ?_)
      refine A.tn ?_
      refine A.ret ?_
      refine A.postQ [(i_ (-1))] (fun aa ww rr ss => ⟨rv_tmp rr rfl, trivial⟩) ?_
      show ((i_ (-1)) : Value) = (i_ (oI (fst a l)))
      refine congrArg (Value.int .i64) ?_; first | exact (fst_at (by assumption) (by simp_all) hn).symm | (rw [List.take_of_length_le (by omega)] at hn; exact (fst_none hn).symm)

set_option maxHeartbeats 4000000 in
set_option maxRecDepth 100000 in
theorem rwent_spec (al : Option Addr) (l : List Pk) (cl : Nat) (a dn nb : Int) (hl : l.length ≤ 100000) (w : World) (r0 : arrAt w al (V.flat encPk l)) :
    Calls Try.prog 9 #[(.slice al l.length cl), (i_ a), (u_ dn), (i_ nb)] w fun e w' => e = .returned (i_ (wentR l a dn nb)) ∧ Fr [] w w' := by
  refine calls_of (args := [(.slice al l.length cl), (i_ a), (u_ dn), (i_ nb)]) (penv [(.slice al l.length cl), (i_ a), (u_ dn), (i_ nb)]) [] [] Try.func9 rfl rfl (look_penv _) (HS.nil w) ?_
  refine A.norm [(0, (.slice al l.length cl)), (1, (i_ a)), (2, (u_ dn)), (3, (i_ nb))] [] (by exact ⟨rfl, rfl, rfl, rfl, trivial⟩) rfl ?_
  refine A.seq ?_
  refine A.region (A.goA [.p] [(0, (.slice al l.length cl)), (1, (i_ a)), (2, (u_ dn)), (3, (i_ nb)), (8, (i_ 0))] [] T0 (by kernel_rfl) trivial ?_)
  refine A.tn ?_
  refine A.seq ?_
  refine A.region (A.goA [.p, .p, .cq (i_ (oI (fst a l))), .p] [(0, (.slice al l.length cl)), (1, (i_ a)), (2, (u_ dn)), (3, (i_ nb)), (8, (i_ 0)), (9, (i_ (oI (fst a l))))] [] (fun κ => κ.call 12 [(.slice al l.length cl), (i_ a)] (i_ (oI (fst a l))) ∧ True) (by kernel_rfl) ⟨(fun ww ss => fst_spec al l cl a (by first | assumption | omega) ww ((rd_old r0 (by simp [feet])) ww ss)), trivial⟩ ?_)
  refine A.tn ?_
  refine A.seq ?_
  refine A.seq ?_
  by_cases ho : fst a l = none
  · skip
    refine A.sub [(0, (.slice al l.length cl)), (1, (i_ a)), (2, (u_ dn)), (3, (i_ nb)), (8, (i_ 0)), (9, (i_ (-1)))] (by exact ⟨rfl, rfl, rfl, rfl, rfl, (congrArg (fun z_ => some (i_ z_)) (by rw [ho]; rfl : (oI (fst a l)) = -1)), trivial⟩) ?_
    refine A.region (A.goA [.p, .p] [(0, (.slice al l.length cl)), (1, (i_ a)), (2, (u_ dn)), (3, (i_ nb)), (8, (i_ 0)), (9, (i_ (-1))), (14, (b_ true))] [] T0 (by kernel_rfl) trivial ?_)
    refine A.tn ?_
    refine A.cond_t rfl ?_
    refine A.seq ?_
    refine A.region (A.goA [.p] [(0, (.slice al l.length cl)), (1, (i_ a)), (2, (u_ dn)), (3, (i_ nb)), (8, (i_ 6)), (9, (i_ (-1))), (14, (b_ true))] [] T0 (by kernel_rfl) trivial ?_)
    refine A.tn ?_
    refine A.ret ?_
    refine A.tr ?_
    refine A.postQ [(i_ 6)] (fun aa ww rr ss => ⟨rv_tmp rr rfl, trivial⟩) ?_
    show ((i_ 6) : Value) = (i_ (wentR l a dn nb))
    refine congrArg (Value.int .i64) ?_; first | exact (wentR_none ho).symm | (rw [wentR_at hi (by assumption)]; first | (rw [if_pos (by omega)]; done) | (rw [if_neg (by omega), if_pos (by omega)]; done) | (rw [if_neg (by omega), if_neg (by omega)]; done)) | (rw [wentR_at hi (List.getElem?_eq_getElem hlt), if_pos (by omega)])
  · skip
    obtain ⟨i, hi⟩ := Option.ne_none_iff_exists'.1 ho; have hlt := fst_lt hi
    refine A.sub [(0, (.slice al l.length cl)), (1, (i_ a)), (2, (u_ dn)), (3, (i_ nb)), (8, (i_ 0)), (9, (i_ (i : Int)))] (by exact ⟨rfl, rfl, rfl, rfl, rfl, (congrArg (fun z_ => some (i_ z_)) (by rw [hi]; rfl : (oI (fst a l)) = (i : Int))), trivial⟩) ?_
    refine A.region (A.goA [.p, .p] [(0, (.slice al l.length cl)), (1, (i_ a)), (2, (u_ dn)), (3, (i_ nb)), (8, (i_ 0)), (9, (i_ (i : Int))), (14, (b_ (decide ((i : Int) < 0))))] [] T0 (by kernel_rfl) trivial ?_)
    refine A.tn ?_
    refine A.cond (E := decide ((i : Int) < 0)) rfl (fun e1 => ?_) (fun e1 => ?_)
    · exact absurd e1 (by simp)
    · skip
      have p1 := of_decide_eq_false e1
      refine A.skip ?_
      refine A.tn ?_
      refine A.seq ?_
      refine A.seq ?_
      refine A.region (A.goA [.p, .p] [(0, (.slice al l.length cl)), (1, (i_ a)), (2, (u_ dn)), (3, (i_ nb)), (8, (i_ 0)), (9, (i_ (i : Int))), (14, (b_ (decide ((i : Int) < 0)))), (16, (b_ (decide (nb < 1))))] [] T0 (by kernel_rfl) trivial ?_)
      refine A.tn ?_
      refine A.cond (E := decide (nb < 1)) rfl (fun e2 => ?_) (fun e2 => ?_)
      · skip
        have p2 := of_decide_eq_true e2
        refine A.seq ?_
        refine A.region (A.goA [.p] [(0, (.slice al l.length cl)), (1, (i_ a)), (2, (u_ dn)), (3, (i_ nb)), (8, (i_ 26)), (9, (i_ (i : Int))), (14, (b_ (decide ((i : Int) < 0)))), (16, (b_ (decide (nb < 1))))] [] T0 (by kernel_rfl) trivial ?_)
        refine A.tn ?_
        refine A.ret ?_
        refine A.tr ?_
        refine A.postQ [(i_ 26)] (fun aa ww rr ss => ⟨rv_tmp rr rfl, trivial⟩) ?_
        show ((i_ 26) : Value) = (i_ (wentR l a dn nb))
        refine congrArg (Value.int .i64) ?_; first | exact (wentR_none ho).symm | (rw [wentR_at hi (by assumption)]; first | (rw [if_pos (by omega)]; done) | (rw [if_neg (by omega), if_pos (by omega)]; done) | (rw [if_neg (by omega), if_neg (by omega)]; done)) | (rw [wentR_at hi (List.getElem?_eq_getElem hlt), if_pos (by omega)])
      · skip
        have p2 := of_decide_eq_false e2
        refine A.skip ?_
        refine A.tn ?_
        refine A.seq ?_
        refine A.seq ?_
        refine A.region (A.goP [.p, .p, .p, .ix, .p] [(0, (.slice al l.length cl)), (1, (i_ a)), (2, (u_ dn)), (3, (i_ nb)), (8, (i_ 0)), (9, (i_ (i : Int))), (14, (b_ (decide ((i : Int) < 0)))), (16, (b_ (decide (nb < 1)))), (17, (u_ dn)), (21, (.pointer (some (((at0 al).add (i * 6)).add 1))))] [] (fun κ => κ.ix al l.length (i : Int) ∧ True) (by kernel_rfl) ⟨(ixOf encPk_len (by decide) (rd_old r0 (by simp [feet])) (by first | omega | (simp; omega) | (simp; done))), trivial⟩ ?_)
        obtain ⟨x1, hx1⟩ : ∃ x, (l)[i]? = some x := ⟨_, List.getElem?_eq_getElem (by omega)⟩
        refine A.goA [.rd [(u_ x1.pa)], .p] [(0, (.slice al l.length cl)), (1, (i_ a)), (2, (u_ dn)), (3, (i_ nb)), (8, (i_ 0)), (9, (i_ (i : Int))), (14, (b_ (decide ((i : Int) < 0)))), (16, (b_ (decide (nb < 1)))), (23, (b_ (decide (dn < x1.pa))))] [] (fun κ => κ.rd (((at0 al).add (i * 6)).add 1) [(u_ x1.pa)] ∧ True) (by kernel_rfl) ⟨(reads_at2 (f := 1) (vs := [(u_ x1.pa)]) encPk_len (rd_old r0 (by simp [feet])) hx1 (by simp) rfl), trivial⟩ ?_
        refine A.tn ?_
        refine A.cond (E := decide (dn < x1.pa)) rfl (fun e3 => ?_) (fun e3 => ?_)
        · skip
          have p3 := of_decide_eq_true e3
          refine A.seq ?_
          refine A.region (A.goA [.p] [(0, (.slice al l.length cl)), (1, (i_ a)), (2, (u_ dn)), (3, (i_ nb)), (8, (i_ 27)), (9, (i_ (i : Int))), (14, (b_ (decide ((i : Int) < 0)))), (16, (b_ (decide (nb < 1)))), (23, (b_ (decide (dn < x1.pa))))] [] T0 (by kernel_rfl) trivial ?_)
          refine A.tn ?_
          refine A.ret ?_
          refine A.tr ?_
          refine A.postQ [(i_ 27)] (fun aa ww rr ss => ⟨rv_tmp rr rfl, trivial⟩) ?_
          show ((i_ 27) : Value) = (i_ (wentR l a dn nb))
          refine congrArg (Value.int .i64) ?_; first | exact (wentR_none ho).symm | (rw [wentR_at hi (by assumption)]; first | (rw [if_pos (by omega)]; done) | (rw [if_neg (by omega), if_pos (by omega)]; done) | (rw [if_neg (by omega), if_neg (by omega)]; done)) | (rw [wentR_at hi (List.getElem?_eq_getElem hlt), if_pos (by omega)])
        · skip
          have p3 := of_decide_eq_false e3
          refine A.skip ?_
          refine A.tn ?_
          refine A.seq ?_
          refine A.region (A.goA [.p] [(0, (.slice al l.length cl)), (1, (i_ a)), (2, (u_ dn)), (3, (i_ nb)), (8, (i_ 0)), (9, (i_ (i : Int))), (14, (b_ (decide ((i : Int) < 0)))), (16, (b_ (decide (nb < 1)))), (23, (b_ (decide (dn < x1.pa))))] [] T0 (by kernel_rfl) trivial ?_)
          refine A.tn ?_
          refine A.ret ?_
          refine A.postQ [(i_ 0)] (fun aa ww rr ss => ⟨rv_tmp rr rfl, trivial⟩) ?_
          show ((i_ 0) : Value) = (i_ (wentR l a dn nb))
          refine congrArg (Value.int .i64) ?_; first | exact (wentR_none ho).symm | (rw [wentR_at hi (by assumption)]; first | (rw [if_pos (by omega)]; done) | (rw [if_neg (by omega), if_pos (by omega)]; done) | (rw [if_neg (by omega), if_neg (by omega)]; done)) | (rw [wentR_at hi (List.getElem?_eq_getElem hlt), if_pos (by omega)])

set_option maxHeartbeats 4000000 in
set_option maxRecDepth 100000 in
theorem rwait_spec (al : Option Addr) (l : List Pk) (cl : Nat) (a : Int) (hl : l.length ≤ 100000) (w : World) (r0 : arrAt w al (V.flat encPk l)) :
    Calls Try.prog 17 #[(.slice al l.length cl), (i_ a)] w fun e w' => e = .returned (i_ (wtR a l l.length)) ∧ Fr [] w w' := by
  refine calls_of (args := [(.slice al l.length cl), (i_ a)]) (penv [(.slice al l.length cl), (i_ a)]) [] [] Try.func17 rfl rfl (look_penv _) (HS.nil w) ?_
  refine A.norm [(0, (.slice al l.length cl)), (1, (i_ a))] [] (by exact ⟨rfl, rfl, trivial⟩) rfl ?_
  refine A.seq ?_
  refine A.region (A.goA [.p] [(0, (.slice al l.length cl)), (1, (i_ a)), (4, (i_ 0))] [] T0 (by kernel_rfl) trivial ?_)
  refine A.tn ?_
  refine A.seq ?_
  refine A.region (A.goA [.p] [(0, (.slice al l.length cl)), (1, (i_ a)), (4, (i_ 0)), (5, (i_ 0))] [] T0 (by kernel_rfl) trivial ?_)
  refine A.tn ?_
  refine A.seq ?_
  refine A.seq ?_
  refine A.region (A.goA [.p, .p, .p] [(0, (.slice al l.length cl)), (1, (i_ a)), (4, (i_ 0)), (5, (i_ 0)), (8, (.slice al l.length cl)), (9, (i_ (l.length : Int))), (10, (i_ 0))] [] T0 (by kernel_rfl) trivial ?_)
  refine A.tn ?_
  refine A.block ?_
  refine A.sub [(0, (.slice al l.length cl)), (1, (i_ a)), (4, (i_ 0)), (5, (i_ (wtR a l 0))), (8, (.slice al l.length cl)), (9, (i_ (l.length : Int))), (10, (i_ 0))] (by exact ⟨rfl, rfl, rfl, (congrArg (fun z_ => some (i_ z_)) (by first | rfl | (rw [wtR, (by assumption : l[k]? = some _)]; simp only []; first | (rw [if_pos (by simp_all)]; done) | (rw [if_neg (by simp_all)]; done)) : 0 = (wtR a l 0))), rfl, rfl, rfl, trivial⟩) ?_
  refine A.loop (fun (zz : Nat) => match zz with | k => [(1, (i_ a)), (4, (i_ 0)), (8, (.slice al l.length cl)), (9, (i_ (l.length : Int))), (10, (i_ (k : Int))), (5, (i_ (wtR a l k)))]) (fun (zz : Nat) => match zz with | k => []) (fun (zz : Nat) => match zz with | k => (k ≤ l.length)) (fun (zz : Nat) => match zz with | k => l.length - k) (0 : Nat) (by first | assumption | omega | (simp_all; done) | (simp_all; omega) | grind) ?_ ?_
  · exact A.hereK [] (by exact ⟨rfl, rfl, rfl, rfl, rfl, rfl, trivial⟩) (by kernel_rfl)
  · rintro k hk
    have hk : k ≤ l.length := hk
    have hwt := wtR_le a l k
    refine A.norm [(1, (i_ a)), (4, (i_ 0)), (8, (.slice al l.length cl)), (9, (i_ (l.length : Int))), (10, (i_ (k : Int))), (5, (i_ (wtR a l k)))] [] (by exact ⟨rfl, rfl, rfl, rfl, rfl, rfl, trivial⟩) rfl ?_
    refine A.seq ?_
    refine A.region (A.goA [.p] [(1, (i_ a)), (4, (i_ 0)), (8, (.slice al l.length cl)), (9, (i_ (l.length : Int))), (10, (i_ (k : Int))), (5, (i_ (wtR a l k))), (11, (b_ (decide ((k : Int) < (l.length : Int)))))] [] T0 (by kernel_rfl) trivial ?_)
    refine A.tn ?_
    refine A.seq ?_
    refine A.cond (E := decide ((k : Int) < (l.length : Int))) rfl (fun e1 => ?_) (fun e1 => ?_)
    · skip
      have p1 := of_decide_eq_true e1
      refine A.skip ?_
      refine A.tn ?_
      refine A.seq ?_
      refine A.block ?_
      refine A.seq ?_
      refine A.region (A.goP [.ix] [(1, (i_ a)), (4, (i_ 0)), (8, (.slice al l.length cl)), (9, (i_ (l.length : Int))), (10, (i_ (k : Int))), (5, (i_ (wtR a l k))), (11, (b_ (decide ((k : Int) < (l.length : Int))))), (12, (.pointer (some ((at0 al).add (k * 6)))))] [] (fun κ => κ.ix al l.length (k : Int) ∧ True) (by kernel_rfl) ⟨(ixOf encPk_len (by decide) (rd_old r0 (by simp [feet])) (by first | omega | (simp; omega) | (simp; done))), trivial⟩ ?_)
      obtain ⟨x1, hx1⟩ : ∃ x, (l)[k]? = some x := ⟨_, List.getElem?_eq_getElem (by omega)⟩
      refine A.goA1 [.rd [(i_ x1.pc), (u_ x1.pa), (u_ x1.pd), (i_ x1.pl), (b_ x1.pr), (b_ x1.pg)], .al, .st 0] [1, 4, 8, 9, 10, 5, 11, 7] (fun b2 => [(1, (i_ a)), (4, (i_ 0)), (8, (.slice al l.length cl)), (9, (i_ (l.length : Int))), (10, (i_ (k : Int))), (5, (i_ (wtR a l k))), (11, (b_ (decide ((k : Int) < (l.length : Int))))), (7, (p_ b2))]) (fun b2 => [blk b2 [(i_ x1.pc), (u_ x1.pa), (u_ x1.pd), (i_ x1.pl), (b_ x1.pr), (b_ x1.pg)] 33]) (fun b2 => [b2]) (fun _ => (fun κ => κ.rd ((at0 al).add (k * 6)) [(i_ x1.pc), (u_ x1.pa), (u_ x1.pd), (i_ x1.pl), (b_ x1.pr), (b_ x1.pg)] ∧ True)) (fun _ => by kernel_rfl) (fun b2 => ⟨(reads_at0 (vs := [(i_ x1.pc), (u_ x1.pa), (u_ x1.pd), (i_ x1.pl), (b_ x1.pr), (b_ x1.pg)]) encPk_len (rd_old r0 (by simp [feet])) hx1 (by simp) rfl), trivial⟩) ?_
      intro b2
      refine A.tn ?_
      refine A.seq ?_
      refine A.region (A.goA [.p, .ld 0, .p, .p, .p, .o, .p, .ld 0, .p, .cl] [(1, (i_ a)), (4, (i_ 0)), (8, (.slice al l.length cl)), (9, (i_ (l.length : Int))), (10, (i_ (k : Int))), (5, (i_ (wtR a l k))), (11, (b_ (decide ((k : Int) < (l.length : Int))))), (7, (p_ b2)), (22, (b_ ((x1.pc == a) && (!x1.pg))))] [b2, b2] T0 (by kernel_rfl) trivial ?_)
      refine A.tn ?_
      refine A.cond (E := (x1.pc == a) && (!x1.pg)) rfl (fun e2 => ?_) (fun e2 => ?_)
      · skip
        have p2 := e2; try simp only [decide_eq_true_eq, decide_eq_false_iff_not, beq_iff_eq, beq_eq_false_iff_ne, bne_iff_ne, bne_eq_false_iff_eq, ne_eq, Bool.and_eq_true, Bool.or_eq_true, Bool.or_eq_false_iff, Bool.not_eq_true', Bool.not_eq_false', Int.not_lt, Int.not_le, gt_iff_lt, ge_iff_le, Classical.not_not] at p2
        refine A.region (A.goA [.p, .w ((wtR a l k) + 1), .p] [(1, (i_ a)), (4, (i_ 0)), (8, (.slice al l.length cl)), (9, (i_ (l.length : Int))), (10, (i_ (k : Int))), (5, (i_ ((wtR a l k) + 1))), (11, (b_ (decide ((k : Int) < (l.length : Int))))), (7, (p_ b2)), (22, (b_ ((x1.pc == a) && (!x1.pg))))] [] (fun κ => (IntKind.i64.wrap ((wtR a l k) + 1) = ((wtR a l k) + 1)) ∧ True) (by kernel_rfl) ⟨(wrap_i64 (e := (wtR a l k) + 1) (by constructor <;> omega)), trivial⟩ ?_)
        refine A.bn ?_
        refine A.tn ?_
        refine A.region (A.goA [.w ((k : Int) + 1), .p] [(1, (i_ a)), (4, (i_ 0)), (8, (.slice al l.length cl)), (9, (i_ (l.length : Int))), (10, (i_ ((k : Int) + 1))), (5, (i_ ((wtR a l k) + 1))), (11, (b_ (decide ((k : Int) < (l.length : Int))))), (7, (p_ b2)), (22, (b_ ((x1.pc == a) && (!x1.pg))))] [] (fun κ => (IntKind.i64.wrap ((k : Int) + 1) = ((k : Int) + 1)) ∧ True) (by kernel_rfl) ⟨(wrap_i64 (e := (k : Int) + 1) (by constructor <;> omega)), trivial⟩ ?_)
        refine A.tn ?_
        refine A.sub [(1, (i_ a)), (4, (i_ 0)), (8, (.slice al l.length cl)), (9, (i_ (l.length : Int))), (10, (i_ ((k : Int) + 1))), (5, (i_ (wtR a l (k + 1)))), (11, (b_ (decide ((k : Int) < (l.length : Int))))), (7, (p_ b2)), (22, (b_ ((x1.pc == a) && (!x1.pg))))] (by exact ⟨rfl, rfl, rfl, rfl, rfl, (congrArg (fun z_ => some (i_ z_)) (by first | rfl | (rw [wtR, (by assumption : l[k]? = some _)]; simp only []; first | (rw [if_pos (by simp_all)]; done) | (rw [if_neg (by simp_all)]; done)) : (wtR a l k) + 1 = (wtR a l (k + 1)))), rfl, rfl, rfl, trivial⟩) ?_
        refine A.next (k + 1) (by first | assumption | omega | (simp_all; done) | (simp_all; omega) | grind) (by first | omega | (simp; omega) | (simp_all; omega)) ?_
        exact A.hereK [] (by exact ⟨rfl, rfl, rfl, rfl, rfl, rfl, trivial⟩) (by kernel_rfl)
      · skip
        have p2 := e2; try simp only [decide_eq_true_eq, decide_eq_false_iff_not, beq_iff_eq, beq_eq_false_iff_ne, bne_iff_ne, bne_eq_false_iff_eq, ne_eq, Bool.and_eq_true, Bool.or_eq_true, Bool.or_eq_false_iff, Bool.not_eq_true', Bool.not_eq_false', Int.not_lt, Int.not_le, gt_iff_lt, ge_iff_le, Classical.not_not] at p2
        refine A.skip ?_
        refine A.bn ?_
        refine A.tn ?_
        refine A.region (A.goA [.w ((k : Int) + 1), .p] [(1, (i_ a)), (4, (i_ 0)), (8, (.slice al l.length cl)), (9, (i_ (l.length : Int))), (10, (i_ ((k : Int) + 1))), (5, (i_ (wtR a l k))), (11, (b_ (decide ((k : Int) < (l.length : Int))))), (7, (p_ b2)), (22, (b_ ((x1.pc == a) && (!x1.pg))))] [] (fun κ => (IntKind.i64.wrap ((k : Int) + 1) = ((k : Int) + 1)) ∧ True) (by kernel_rfl) ⟨(wrap_i64 (e := (k : Int) + 1) (by constructor <;> omega)), trivial⟩ ?_)
        refine A.tn ?_
        refine A.sub [(1, (i_ a)), (4, (i_ 0)), (8, (.slice al l.length cl)), (9, (i_ (l.length : Int))), (10, (i_ ((k : Int) + 1))), (5, (i_ (wtR a l (k + 1)))), (11, (b_ (decide ((k : Int) < (l.length : Int))))), (7, (p_ b2)), (22, (b_ ((x1.pc == a) && (!x1.pg))))] (by exact ⟨rfl, rfl, rfl, rfl, rfl, (congrArg (fun z_ => some (i_ z_)) (by first | rfl | (rw [wtR, (by assumption : l[k]? = some _)]; simp only []; first | (rw [if_pos (by simp_all)]; done) | (rw [if_neg (by simp_all)]; done)) : (wtR a l k) = (wtR a l (k + 1)))), rfl, rfl, rfl, trivial⟩) ?_
        refine A.next (k + 1) (by first | assumption | omega | (simp_all; done) | (simp_all; omega) | grind) (by first | omega | (simp; omega) | (simp_all; omega)) ?_
        exact A.hereK [] (by exact ⟨rfl, rfl, rfl, rfl, rfl, rfl, trivial⟩) (by kernel_rfl)
    · skip
      have p1 := of_decide_eq_false e1
      refine A.exit ?_
      refine A.te ?_
      refine A.te ?_
      refine A.bh ?_
      refine A.tn ?_
      refine A.seq ?_
      refine A.region (A.goA [.p, .p] [(1, (i_ a)), (4, (i_ (wtR a l k))), (8, (.slice al l.length cl)), (9, (i_ (l.length : Int))), (10, (i_ (k : Int))), (5, (i_ (wtR a l k))), (11, (b_ (decide ((k : Int) < (l.length : Int)))))] [] T0 (by kernel_rfl) trivial ?_)
      refine A.tn ?_
      refine A.ret ?_
      refine A.postQ [(i_ (wtR a l k))] (fun aa ww rr ss => ⟨rv_tmp rr rfl, trivial⟩) ?_
      show ((i_ (wtR a l k)) : Value) = (i_ (wtR a l l.length))
      rw [show k = l.length by omega]

set_option maxHeartbeats 4000000 in
set_option maxRecDepth 100000 in
theorem cnt_spec (al : Option Addr) (l : List Pk) (cl : Nat) (a : Int) (tt : Bool) (hl : l.length ≤ 100000) (w : World) (r0 : arrAt w al (V.flat encPk l)) :
    Calls Try.prog 15 #[(.slice al l.length cl), (i_ a), (b_ tt)] w fun e w' => e = .returned (.agg #[(u_ ((cntR a tt l l.length).sp)), (u_ ((cntR a tt l l.length).sb)), (u_ ((cntR a tt l l.length).sr)), (u_ ((cntR a tt l l.length).sw)), (u_ ((cntR a tt l l.length).sg))]) ∧ Fr [] w w' := by
  refine calls_of (args := [(.slice al l.length cl), (i_ a), (b_ tt)]) (penv [(.slice al l.length cl), (i_ a), (b_ tt)]) [] [] Try.func15 rfl rfl (look_penv _) (HS.nil w) ?_
  refine A.norm [(0, (.slice al l.length cl)), (1, (i_ a)), (2, (b_ tt))] [] (by exact ⟨rfl, rfl, rfl, trivial⟩) rfl ?_
  refine A.seq ?_
  refine A.region (A.goA1 [.al] [0, 1, 2, 6] (fun b1 => [(0, (.slice al l.length cl)), (1, (i_ a)), (2, (b_ tt)), (6, (p_ b1))]) (fun b1 => [blk b1 [(u_ 0), (u_ 0), (u_ 0), (u_ 0), (u_ 0)] 43]) (fun b1 => []) (fun _ => T0) (fun _ => by kernel_rfl) (fun b1 => trivial) ?_)
  intro b1
  refine A.tn ?_
  refine A.seq ?_
  refine A.region (A.goA1 [.p, .al, .st 1] [0, 1, 2, 6, 7] (fun b2 => [(0, (.slice al l.length cl)), (1, (i_ a)), (2, (b_ tt)), (6, (p_ b1)), (7, (p_ b2))]) (fun b2 => [blk b1 [(u_ 0), (u_ 0), (u_ 0), (u_ 0), (u_ 0)] 43, blk b2 [(u_ 0), (u_ 0), (u_ 0), (u_ 0), (u_ 0)] 43]) (fun b2 => [b2]) (fun _ => T0) (fun _ => by kernel_rfl) (fun b2 => trivial) ?_)
  intro b2
  refine A.tn ?_
  refine A.seq ?_
  refine A.seq ?_
  refine A.region (A.goA [.p, .p, .p] [(0, (.slice al l.length cl)), (1, (i_ a)), (2, (b_ tt)), (6, (p_ b1)), (7, (p_ b2)), (11, (.slice al l.length cl)), (12, (i_ (l.length : Int))), (13, (i_ 0))] [] T0 (by kernel_rfl) trivial ?_)
  refine A.tn ?_
  refine A.block ?_
  refine A.setH [blk b1 [(u_ 0), (u_ 0), (u_ 0), (u_ 0), (u_ 0)] 43, blk b2 [(u_ ((cntR a tt l 0).sp)), (u_ ((cntR a tt l 0).sb)), (u_ ((cntR a tt l 0).sr)), (u_ ((cntR a tt l 0).sw)), (u_ ((cntR a tt l 0).sg))] 43] (cc rfl (cc (blkC (cc (congrArg u_ (by first | rfl | (rw [cntR, (by assumption : l[k]? = some _)]; simp only []; first | (rw [if_pos (by assumption)]; done) | (rw [if_neg (by rw [Bool.not_eq_true]; assumption)]; simp only [addC]; done) | (rw [if_neg (by rw [Bool.not_eq_true]; assumption)]; simp only [addC]; first | rfl | (rw [if_pos (by assumption)]; done) | (rw [if_neg (by simp only [Bool.not_eq_true]; assumption)]; done) | (rw [if_neg (by omega)]; done))) : 0 = (cntR a tt l 0).sp)) (cc (congrArg u_ (by first | rfl | (rw [cntR, (by assumption : l[k]? = some _)]; simp only []; first | (rw [if_pos (by assumption)]; done) | (rw [if_neg (by rw [Bool.not_eq_true]; assumption)]; simp only [addC]; done) | (rw [if_neg (by rw [Bool.not_eq_true]; assumption)]; simp only [addC]; first | rfl | (rw [if_pos (by assumption)]; done) | (rw [if_neg (by simp only [Bool.not_eq_true]; assumption)]; done) | (rw [if_neg (by omega)]; done))) : 0 = (cntR a tt l 0).sb)) (cc (congrArg u_ (by first | rfl | (rw [cntR, (by assumption : l[k]? = some _)]; simp only []; first | (rw [if_pos (by assumption)]; done) | (rw [if_neg (by rw [Bool.not_eq_true]; assumption)]; simp only [addC]; done) | (rw [if_neg (by rw [Bool.not_eq_true]; assumption)]; simp only [addC]; first | rfl | (rw [if_pos (by assumption)]; done) | (rw [if_neg (by simp only [Bool.not_eq_true]; assumption)]; done) | (rw [if_neg (by omega)]; done))) : 0 = (cntR a tt l 0).sr)) (cc (congrArg u_ (by first | rfl | (rw [cntR, (by assumption : l[k]? = some _)]; simp only []; first | (rw [if_pos (by assumption)]; done) | (rw [if_neg (by rw [Bool.not_eq_true]; assumption)]; simp only [addC]; done) | (rw [if_neg (by rw [Bool.not_eq_true]; assumption)]; simp only [addC]; first | rfl | (rw [if_pos (by assumption)]; done) | (rw [if_neg (by simp only [Bool.not_eq_true]; assumption)]; done) | (rw [if_neg (by omega)]; done))) : 0 = (cntR a tt l 0).sw)) (cc (congrArg u_ (by first | rfl | (rw [cntR, (by assumption : l[k]? = some _)]; simp only []; first | (rw [if_pos (by assumption)]; done) | (rw [if_neg (by rw [Bool.not_eq_true]; assumption)]; simp only [addC]; done) | (rw [if_neg (by rw [Bool.not_eq_true]; assumption)]; simp only [addC]; first | rfl | (rw [if_pos (by assumption)]; done) | (rw [if_neg (by simp only [Bool.not_eq_true]; assumption)]; done) | (rw [if_neg (by omega)]; done))) : 0 = (cntR a tt l 0).sg)) rfl)))))) rfl)) ?_
  refine A.loop (fun (zz : Nat) => match zz with | k => [(1, (i_ a)), (2, (b_ tt)), (6, (p_ b1)), (7, (p_ b2)), (11, (.slice al l.length cl)), (12, (i_ (l.length : Int))), (13, (i_ (k : Int)))]) (fun (zz : Nat) => match zz with | k => [blk b2 [(u_ ((cntR a tt l k).sp)), (u_ ((cntR a tt l k).sb)), (u_ ((cntR a tt l k).sr)), (u_ ((cntR a tt l k).sw)), (u_ ((cntR a tt l k).sg))] 43, blk b1 [(u_ 0), (u_ 0), (u_ 0), (u_ 0), (u_ 0)] 43]) (fun (zz : Nat) => match zz with | k => (k ≤ l.length)) (fun (zz : Nat) => match zz with | k => l.length - k) (0 : Nat) (by first | assumption | omega | (simp_all; done) | (simp_all; omega) | grind) ?_ ?_
  · exact A.hereK [1, 0] (by exact ⟨rfl, rfl, rfl, rfl, rfl, rfl, rfl, trivial⟩) (by kernel_rfl)
  · rintro k hk
    have hk : k ≤ l.length := hk
    refine A.norm [(1, (i_ a)), (2, (b_ tt)), (6, (p_ b1)), (7, (p_ b2)), (11, (.slice al l.length cl)), (12, (i_ (l.length : Int))), (13, (i_ (k : Int)))] [blk b2 [(u_ ((cntR a tt l k).sp)), (u_ ((cntR a tt l k).sb)), (u_ ((cntR a tt l k).sr)), (u_ ((cntR a tt l k).sw)), (u_ ((cntR a tt l k).sg))] 43, blk b1 [(u_ 0), (u_ 0), (u_ 0), (u_ 0), (u_ 0)] 43] (by exact ⟨rfl, rfl, rfl, rfl, rfl, rfl, rfl, trivial⟩) rfl ?_
    refine A.seq ?_
    refine A.region (A.goA [.p] [(1, (i_ a)), (2, (b_ tt)), (6, (p_ b1)), (7, (p_ b2)), (11, (.slice al l.length cl)), (12, (i_ (l.length : Int))), (13, (i_ (k : Int))), (14, (b_ (decide ((k : Int) < (l.length : Int)))))] [] T0 (by kernel_rfl) trivial ?_)
    refine A.tn ?_
    refine A.seq ?_
    refine A.cond (E := decide ((k : Int) < (l.length : Int))) rfl (fun e1 => ?_) (fun e1 => ?_)
    · skip
      have p1 := of_decide_eq_true e1
      refine A.skip ?_
      refine A.tn ?_
      refine A.seq ?_
      refine A.block ?_
      refine A.seq ?_
      refine A.region (A.goP [.ix] [(1, (i_ a)), (2, (b_ tt)), (6, (p_ b1)), (7, (p_ b2)), (11, (.slice al l.length cl)), (12, (i_ (l.length : Int))), (13, (i_ (k : Int))), (14, (b_ (decide ((k : Int) < (l.length : Int))))), (15, (.pointer (some ((at0 al).add (k * 6)))))] [] (fun κ => κ.ix al l.length (k : Int) ∧ True) (by kernel_rfl) ⟨(ixOf encPk_len (by decide) (rd_old r0 (by simp [feet])) (by first | omega | (simp; omega) | (simp; done))), trivial⟩ ?_)
      obtain ⟨x3, hx3⟩ : ∃ x, (l)[k]? = some x := ⟨_, List.getElem?_eq_getElem (by omega)⟩
      refine A.goA1 [.rd [(i_ x3.pc), (u_ x3.pa), (u_ x3.pd), (i_ x3.pl), (b_ x3.pr), (b_ x3.pg)], .al, .st 2] [1, 2, 6, 7, 11, 12, 13, 14, 9] (fun b4 => [(1, (i_ a)), (2, (b_ tt)), (6, (p_ b1)), (7, (p_ b2)), (11, (.slice al l.length cl)), (12, (i_ (l.length : Int))), (13, (i_ (k : Int))), (14, (b_ (decide ((k : Int) < (l.length : Int))))), (9, (p_ b4))]) (fun b4 => [blk b2 [(u_ ((cntR a tt l k).sp)), (u_ ((cntR a tt l k).sb)), (u_ ((cntR a tt l k).sr)), (u_ ((cntR a tt l k).sw)), (u_ ((cntR a tt l k).sg))] 43, blk b1 [(u_ 0), (u_ 0), (u_ 0), (u_ 0), (u_ 0)] 43, blk b4 [(i_ x3.pc), (u_ x3.pa), (u_ x3.pd), (i_ x3.pl), (b_ x3.pr), (b_ x3.pg)] 33]) (fun b4 => [b4]) (fun _ => (fun κ => κ.rd ((at0 al).add (k * 6)) [(i_ x3.pc), (u_ x3.pa), (u_ x3.pd), (i_ x3.pl), (b_ x3.pr), (b_ x3.pg)] ∧ True)) (fun _ => by kernel_rfl) (fun b4 => ⟨(reads_at0 (vs := [(i_ x3.pc), (u_ x3.pa), (u_ x3.pd), (i_ x3.pl), (b_ x3.pr), (b_ x3.pg)]) encPk_len (rd_old r0 (by simp [feet])) hx3 (by simp) rfl), trivial⟩) ?_
      intro b4
      refine A.tn ?_
      refine A.seq ?_
      refine A.seq ?_
      refine A.region (A.goA [.p, .ld 2, .p, .p, .o, .p, .p, .p, .o, .p, .ld 2, .p, .p, .cl, .cl] [(1, (i_ a)), (2, (b_ tt)), (6, (p_ b1)), (7, (p_ b2)), (11, (.slice al l.length cl)), (12, (i_ (l.length : Int))), (13, (i_ (k : Int))), (14, (b_ (decide ((k : Int) < (l.length : Int))))), (9, (p_ b4)), (29, (b_ ((!x3.pg) || ((!tt) && (x3.pc != a)))))] [b4, b4] T0 (by kernel_rfl) trivial ?_)
      refine A.tn ?_
      refine A.cond (E := (!x3.pg) || ((!tt) && (x3.pc != a))) rfl (fun e2 => ?_) (fun e2 => ?_)
      · skip
        have p2 := e2; try simp only [decide_eq_true_eq, decide_eq_false_iff_not, beq_iff_eq, beq_eq_false_iff_ne, bne_iff_ne, bne_eq_false_iff_eq, ne_eq, Bool.and_eq_true, Bool.or_eq_true, Bool.or_eq_false_iff, Bool.not_eq_true', Bool.not_eq_false', Int.not_lt, Int.not_le, gt_iff_lt, ge_iff_le, Classical.not_not] at p2
        refine A.exit ?_
        refine A.te ?_
        refine A.bh ?_
        refine A.tn ?_
        refine A.region (A.goA [.w ((k : Int) + 1), .p] [(1, (i_ a)), (2, (b_ tt)), (6, (p_ b1)), (7, (p_ b2)), (11, (.slice al l.length cl)), (12, (i_ (l.length : Int))), (13, (i_ ((k : Int) + 1))), (14, (b_ (decide ((k : Int) < (l.length : Int))))), (9, (p_ b4)), (29, (b_ ((!x3.pg) || ((!tt) && (x3.pc != a)))))] [] (fun κ => (IntKind.i64.wrap ((k : Int) + 1) = ((k : Int) + 1)) ∧ True) (by kernel_rfl) ⟨(wrap_i64 (e := (k : Int) + 1) (by constructor <;> omega)), trivial⟩ ?_)
        refine A.tn ?_
        refine A.setH [blk b2 [(u_ ((cntR a tt l (k + 1)).sp)), (u_ ((cntR a tt l (k + 1)).sb)), (u_ ((cntR a tt l (k + 1)).sr)), (u_ ((cntR a tt l (k + 1)).sw)), (u_ ((cntR a tt l (k + 1)).sg))] 43, blk b1 [(u_ 0), (u_ 0), (u_ 0), (u_ 0), (u_ 0)] 43, blk b4 [(i_ x3.pc), (u_ x3.pa), (u_ x3.pd), (i_ x3.pl), (b_ x3.pr), (b_ x3.pg)] 33] (cc (blkC (cc (congrArg u_ (by first | rfl | (rw [cntR, (by assumption : l[k]? = some _)]; simp only []; first | (rw [if_pos (by assumption)]; done) | (rw [if_neg (by rw [Bool.not_eq_true]; assumption)]; simp only [addC]; done) | (rw [if_neg (by rw [Bool.not_eq_true]; assumption)]; simp only [addC]; first | rfl | (rw [if_pos (by assumption)]; done) | (rw [if_neg (by simp only [Bool.not_eq_true]; assumption)]; done) | (rw [if_neg (by omega)]; done))) : (cntR a tt l k).sp = (cntR a tt l (k + 1)).sp)) (cc (congrArg u_ (by first | rfl | (rw [cntR, (by assumption : l[k]? = some _)]; simp only []; first | (rw [if_pos (by assumption)]; done) | (rw [if_neg (by rw [Bool.not_eq_true]; assumption)]; simp only [addC]; done) | (rw [if_neg (by rw [Bool.not_eq_true]; assumption)]; simp only [addC]; first | rfl | (rw [if_pos (by assumption)]; done) | (rw [if_neg (by simp only [Bool.not_eq_true]; assumption)]; done) | (rw [if_neg (by omega)]; done))) : (cntR a tt l k).sb = (cntR a tt l (k + 1)).sb)) (cc (congrArg u_ (by first | rfl | (rw [cntR, (by assumption : l[k]? = some _)]; simp only []; first | (rw [if_pos (by assumption)]; done) | (rw [if_neg (by rw [Bool.not_eq_true]; assumption)]; simp only [addC]; done) | (rw [if_neg (by rw [Bool.not_eq_true]; assumption)]; simp only [addC]; first | rfl | (rw [if_pos (by assumption)]; done) | (rw [if_neg (by simp only [Bool.not_eq_true]; assumption)]; done) | (rw [if_neg (by omega)]; done))) : (cntR a tt l k).sr = (cntR a tt l (k + 1)).sr)) (cc (congrArg u_ (by first | rfl | (rw [cntR, (by assumption : l[k]? = some _)]; simp only []; first | (rw [if_pos (by assumption)]; done) | (rw [if_neg (by rw [Bool.not_eq_true]; assumption)]; simp only [addC]; done) | (rw [if_neg (by rw [Bool.not_eq_true]; assumption)]; simp only [addC]; first | rfl | (rw [if_pos (by assumption)]; done) | (rw [if_neg (by simp only [Bool.not_eq_true]; assumption)]; done) | (rw [if_neg (by omega)]; done))) : (cntR a tt l k).sw = (cntR a tt l (k + 1)).sw)) (cc (congrArg u_ (by first | rfl | (rw [cntR, (by assumption : l[k]? = some _)]; simp only []; first | (rw [if_pos (by assumption)]; done) | (rw [if_neg (by rw [Bool.not_eq_true]; assumption)]; simp only [addC]; done) | (rw [if_neg (by rw [Bool.not_eq_true]; assumption)]; simp only [addC]; first | rfl | (rw [if_pos (by assumption)]; done) | (rw [if_neg (by simp only [Bool.not_eq_true]; assumption)]; done) | (rw [if_neg (by omega)]; done))) : (cntR a tt l k).sg = (cntR a tt l (k + 1)).sg)) rfl)))))) rfl) ?_
        refine A.next (k + 1) (by first | assumption | omega | (simp_all; done) | (simp_all; omega) | grind) (by first | omega | (simp; omega) | (simp_all; omega)) ?_
        exact A.hereK [0, 0] (by exact ⟨rfl, rfl, rfl, rfl, rfl, rfl, rfl, trivial⟩) (by kernel_rfl)
      · skip
        have p2 := e2; try simp only [decide_eq_true_eq, decide_eq_false_iff_not, beq_iff_eq, beq_eq_false_iff_ne, bne_iff_ne, bne_eq_false_iff_eq, ne_eq, Bool.and_eq_true, Bool.or_eq_true, Bool.or_eq_false_iff, Bool.not_eq_true', Bool.not_eq_false', Int.not_lt, Int.not_le, gt_iff_lt, ge_iff_le, Classical.not_not] at p2
        refine A.skip ?_
        refine A.tn ?_
        refine A.seq ?_
        refine A.region (A.goAS [.p, .ld 0, .p, .p, .st 0] [(1, (i_ a)), (2, (b_ tt)), (6, (p_ b1)), (7, (p_ b2)), (11, (.slice al l.length cl)), (12, (i_ (l.length : Int))), (13, (i_ (k : Int))), (14, (b_ (decide ((k : Int) < (l.length : Int))))), (9, (p_ b4)), (29, (b_ ((!x3.pg) || ((!tt) && (x3.pc != a)))))] [blk b2 [(u_ (IntKind.u64.wrap (((cntR a tt l k).sp) + 1))), (u_ ((cntR a tt l k).sb)), (u_ ((cntR a tt l k).sr)), (u_ ((cntR a tt l k).sw)), (u_ ((cntR a tt l k).sg))] 43, blk b1 [(u_ 0), (u_ 0), (u_ 0), (u_ 0), (u_ 0)] 43, blk b4 [(i_ x3.pc), (u_ x3.pa), (u_ x3.pd), (i_ x3.pl), (b_ x3.pr), (b_ x3.pg)] 33] [b2, b2] T0 (by kernel_rfl) trivial ?_)
        refine A.tn ?_
        refine A.seq ?_
        refine A.region (A.goAS [.p, .ld 0, .p, .ld 2, .p, .p, .p, .st 0] [(1, (i_ a)), (2, (b_ tt)), (6, (p_ b1)), (7, (p_ b2)), (11, (.slice al l.length cl)), (12, (i_ (l.length : Int))), (13, (i_ (k : Int))), (14, (b_ (decide ((k : Int) < (l.length : Int))))), (9, (p_ b4)), (29, (b_ ((!x3.pg) || ((!tt) && (x3.pc != a)))))] [blk b2 [(u_ (IntKind.u64.wrap (((cntR a tt l k).sp) + 1))), (u_ (IntKind.u64.wrap (((cntR a tt l k).sb) + (IntKind.u64.wrap (x3.pl))))), (u_ ((cntR a tt l k).sr)), (u_ ((cntR a tt l k).sw)), (u_ ((cntR a tt l k).sg))] 43, blk b1 [(u_ 0), (u_ 0), (u_ 0), (u_ 0), (u_ 0)] 43, blk b4 [(i_ x3.pc), (u_ x3.pa), (u_ x3.pd), (i_ x3.pl), (b_ x3.pr), (b_ x3.pg)] 33] [b2, b4, b2] T0 (by kernel_rfl) trivial ?_)
        refine A.tn ?_
        refine A.seq ?_
        refine A.seq ?_
        refine A.region (A.goA [.p, .ld 2] [(1, (i_ a)), (2, (b_ tt)), (6, (p_ b1)), (7, (p_ b2)), (11, (.slice al l.length cl)), (12, (i_ (l.length : Int))), (13, (i_ (k : Int))), (14, (b_ (decide ((k : Int) < (l.length : Int))))), (9, (p_ b4)), (29, (b_ ((!x3.pg) || ((!tt) && (x3.pc != a))))), (42, (b_ x3.pr))] [b4] T0 (by kernel_rfl) trivial ?_)
        refine A.tn ?_
        refine A.cond (E := x3.pr) rfl (fun e3 => ?_) (fun e3 => ?_)
        · skip
          have p3 := e3; try simp only [decide_eq_true_eq, decide_eq_false_iff_not, beq_iff_eq, beq_eq_false_iff_ne, bne_iff_ne, bne_eq_false_iff_eq, ne_eq, Bool.and_eq_true, Bool.or_eq_true, Bool.or_eq_false_iff, Bool.not_eq_true', Bool.not_eq_false', Int.not_lt, Int.not_le, gt_iff_lt, ge_iff_le, Classical.not_not] at p3
          refine A.region (A.goAS [.p, .ld 0, .p, .p, .st 0] [(1, (i_ a)), (2, (b_ tt)), (6, (p_ b1)), (7, (p_ b2)), (11, (.slice al l.length cl)), (12, (i_ (l.length : Int))), (13, (i_ (k : Int))), (14, (b_ (decide ((k : Int) < (l.length : Int))))), (9, (p_ b4)), (29, (b_ ((!x3.pg) || ((!tt) && (x3.pc != a))))), (42, (b_ x3.pr))] [blk b2 [(u_ (IntKind.u64.wrap (((cntR a tt l k).sp) + 1))), (u_ (IntKind.u64.wrap (((cntR a tt l k).sb) + (IntKind.u64.wrap (x3.pl))))), (u_ (IntKind.u64.wrap (((cntR a tt l k).sr) + 1))), (u_ ((cntR a tt l k).sw)), (u_ ((cntR a tt l k).sg))] 43, blk b1 [(u_ 0), (u_ 0), (u_ 0), (u_ 0), (u_ 0)] 43, blk b4 [(i_ x3.pc), (u_ x3.pa), (u_ x3.pd), (i_ x3.pl), (b_ x3.pr), (b_ x3.pg)] 33] [b2, b2] T0 (by kernel_rfl) trivial ?_)
          refine A.tn ?_
          refine A.seq ?_
          refine A.region (A.goAS [.p, .ld 0, .p, .ld 2, .p, .p, .ld 2, .p, .p, .st 0] [(1, (i_ a)), (2, (b_ tt)), (6, (p_ b1)), (7, (p_ b2)), (11, (.slice al l.length cl)), (12, (i_ (l.length : Int))), (13, (i_ (k : Int))), (14, (b_ (decide ((k : Int) < (l.length : Int))))), (9, (p_ b4)), (29, (b_ ((!x3.pg) || ((!tt) && (x3.pc != a))))), (42, (b_ x3.pr))] [blk b2 [(u_ (IntKind.u64.wrap (((cntR a tt l k).sp) + 1))), (u_ (IntKind.u64.wrap (((cntR a tt l k).sb) + (IntKind.u64.wrap (x3.pl))))), (u_ (IntKind.u64.wrap (((cntR a tt l k).sr) + 1))), (u_ (IntKind.u64.wrap ((IntKind.u64.wrap (((cntR a tt l k).sw) + x3.pd)) - x3.pa))), (u_ ((cntR a tt l k).sg))] 43, blk b1 [(u_ 0), (u_ 0), (u_ 0), (u_ 0), (u_ 0)] 43, blk b4 [(i_ x3.pc), (u_ x3.pa), (u_ x3.pd), (i_ x3.pl), (b_ x3.pr), (b_ x3.pg)] 33] [b2, b4, b4, b2] T0 (by kernel_rfl) trivial ?_)
          refine A.tn ?_
          refine A.seq ?_
          refine A.region (A.goA [.p, .ld 2, .p, .ld 2, .p, .p, .ld 0, .p] [(1, (i_ a)), (2, (b_ tt)), (6, (p_ b1)), (7, (p_ b2)), (11, (.slice al l.length cl)), (12, (i_ (l.length : Int))), (13, (i_ (k : Int))), (14, (b_ (decide ((k : Int) < (l.length : Int))))), (9, (p_ b4)), (29, (b_ ((!x3.pg) || ((!tt) && (x3.pc != a))))), (42, (b_ x3.pr)), (63, (b_ (decide ((IntKind.u64.wrap (x3.pd - x3.pa)) > ((cntR a tt l k).sg)))))] [b4, b4, b2] T0 (by kernel_rfl) trivial ?_)
          refine A.tn ?_
          refine A.cond (E := decide ((IntKind.u64.wrap (x3.pd - x3.pa)) > ((cntR a tt l k).sg))) rfl (fun e4 => ?_) (fun e4 => ?_)
          · skip
            have p4 := of_decide_eq_true e4
            refine A.region (A.goAS [.p, .ld 2, .p, .ld 2, .p, .p, .st 0] [(1, (i_ a)), (2, (b_ tt)), (6, (p_ b1)), (7, (p_ b2)), (11, (.slice al l.length cl)), (12, (i_ (l.length : Int))), (13, (i_ (k : Int))), (14, (b_ (decide ((k : Int) < (l.length : Int))))), (9, (p_ b4)), (29, (b_ ((!x3.pg) || ((!tt) && (x3.pc != a))))), (42, (b_ x3.pr)), (63, (b_ (decide ((IntKind.u64.wrap (x3.pd - x3.pa)) > ((cntR a tt l k).sg)))))] [blk b2 [(u_ (IntKind.u64.wrap (((cntR a tt l k).sp) + 1))), (u_ (IntKind.u64.wrap (((cntR a tt l k).sb) + (IntKind.u64.wrap (x3.pl))))), (u_ (IntKind.u64.wrap (((cntR a tt l k).sr) + 1))), (u_ (IntKind.u64.wrap ((IntKind.u64.wrap (((cntR a tt l k).sw) + x3.pd)) - x3.pa))), (u_ (IntKind.u64.wrap (x3.pd - x3.pa)))] 43, blk b1 [(u_ 0), (u_ 0), (u_ 0), (u_ 0), (u_ 0)] 43, blk b4 [(i_ x3.pc), (u_ x3.pa), (u_ x3.pd), (i_ x3.pl), (b_ x3.pr), (b_ x3.pg)] 33] [b4, b4, b2] T0 (by kernel_rfl) trivial ?_)
            refine A.bn ?_
            refine A.tn ?_
            refine A.region (A.goA [.w ((k : Int) + 1), .p] [(1, (i_ a)), (2, (b_ tt)), (6, (p_ b1)), (7, (p_ b2)), (11, (.slice al l.length cl)), (12, (i_ (l.length : Int))), (13, (i_ ((k : Int) + 1))), (14, (b_ (decide ((k : Int) < (l.length : Int))))), (9, (p_ b4)), (29, (b_ ((!x3.pg) || ((!tt) && (x3.pc != a))))), (42, (b_ x3.pr)), (63, (b_ (decide ((IntKind.u64.wrap (x3.pd - x3.pa)) > ((cntR a tt l k).sg)))))] [] (fun κ => (IntKind.i64.wrap ((k : Int) + 1) = ((k : Int) + 1)) ∧ True) (by kernel_rfl) ⟨(wrap_i64 (e := (k : Int) + 1) (by constructor <;> omega)), trivial⟩ ?_)
            refine A.tn ?_
            refine A.setH [blk b2 [(u_ ((cntR a tt l (k + 1)).sp)), (u_ ((cntR a tt l (k + 1)).sb)), (u_ ((cntR a tt l (k + 1)).sr)), (u_ ((cntR a tt l (k + 1)).sw)), (u_ ((cntR a tt l (k + 1)).sg))] 43, blk b1 [(u_ 0), (u_ 0), (u_ 0), (u_ 0), (u_ 0)] 43, blk b4 [(i_ x3.pc), (u_ x3.pa), (u_ x3.pd), (i_ x3.pl), (b_ x3.pr), (b_ x3.pg)] 33] (cc (blkC (cc (congrArg u_ (by first | rfl | (rw [cntR, (by assumption : l[k]? = some _)]; simp only []; first | (rw [if_pos (by assumption)]; done) | (rw [if_neg (by rw [Bool.not_eq_true]; assumption)]; simp only [addC]; done) | (rw [if_neg (by rw [Bool.not_eq_true]; assumption)]; simp only [addC]; first | rfl | (rw [if_pos (by assumption)]; done) | (rw [if_neg (by simp only [Bool.not_eq_true]; assumption)]; done) | (rw [if_neg (by omega)]; done))) : IntKind.u64.wrap (((cntR a tt l k).sp) + 1) = (cntR a tt l (k + 1)).sp)) (cc (congrArg u_ (by first | rfl | (rw [cntR, (by assumption : l[k]? = some _)]; simp only []; first | (rw [if_pos (by assumption)]; done) | (rw [if_neg (by rw [Bool.not_eq_true]; assumption)]; simp only [addC]; done) | (rw [if_neg (by rw [Bool.not_eq_true]; assumption)]; simp only [addC]; first | rfl | (rw [if_pos (by assumption)]; done) | (rw [if_neg (by simp only [Bool.not_eq_true]; assumption)]; done) | (rw [if_neg (by omega)]; done))) : IntKind.u64.wrap (((cntR a tt l k).sb) + (IntKind.u64.wrap (x3.pl))) = (cntR a tt l (k + 1)).sb)) (cc (congrArg u_ (by first | rfl | (rw [cntR, (by assumption : l[k]? = some _)]; simp only []; first | (rw [if_pos (by assumption)]; done) | (rw [if_neg (by rw [Bool.not_eq_true]; assumption)]; simp only [addC]; done) | (rw [if_neg (by rw [Bool.not_eq_true]; assumption)]; simp only [addC]; first | rfl | (rw [if_pos (by assumption)]; done) | (rw [if_neg (by simp only [Bool.not_eq_true]; assumption)]; done) | (rw [if_neg (by omega)]; done))) : IntKind.u64.wrap (((cntR a tt l k).sr) + 1) = (cntR a tt l (k + 1)).sr)) (cc (congrArg u_ (by first | rfl | (rw [cntR, (by assumption : l[k]? = some _)]; simp only []; first | (rw [if_pos (by assumption)]; done) | (rw [if_neg (by rw [Bool.not_eq_true]; assumption)]; simp only [addC]; done) | (rw [if_neg (by rw [Bool.not_eq_true]; assumption)]; simp only [addC]; first | rfl | (rw [if_pos (by assumption)]; done) | (rw [if_neg (by simp only [Bool.not_eq_true]; assumption)]; done) | (rw [if_neg (by omega)]; done))) : IntKind.u64.wrap ((IntKind.u64.wrap (((cntR a tt l k).sw) + x3.pd)) - x3.pa) = (cntR a tt l (k + 1)).sw)) (cc (congrArg u_ (by first | rfl | (rw [cntR, (by assumption : l[k]? = some _)]; simp only []; first | (rw [if_pos (by assumption)]; done) | (rw [if_neg (by rw [Bool.not_eq_true]; assumption)]; simp only [addC]; done) | (rw [if_neg (by rw [Bool.not_eq_true]; assumption)]; simp only [addC]; first | rfl | (rw [if_pos (by assumption)]; done) | (rw [if_neg (by simp only [Bool.not_eq_true]; assumption)]; done) | (rw [if_neg (by omega)]; done))) : IntKind.u64.wrap (x3.pd - x3.pa) = (cntR a tt l (k + 1)).sg)) rfl)))))) rfl) ?_
            refine A.next (k + 1) (by first | assumption | omega | (simp_all; done) | (simp_all; omega) | grind) (by first | omega | (simp; omega) | (simp_all; omega)) ?_
            exact A.hereK [0, 0] (by exact ⟨rfl, rfl, rfl, rfl, rfl, rfl, rfl, trivial⟩) (by kernel_rfl)
          · skip
            have p4 := of_decide_eq_false e4
            refine A.skip ?_
            refine A.bn ?_
            refine A.tn ?_
            refine A.region (A.goA [.w ((k : Int) + 1), .p] [(1, (i_ a)), (2, (b_ tt)), (6, (p_ b1)), (7, (p_ b2)), (11, (.slice al l.length cl)), (12, (i_ (l.length : Int))), (13, (i_ ((k : Int) + 1))), (14, (b_ (decide ((k : Int) < (l.length : Int))))), (9, (p_ b4)), (29, (b_ ((!x3.pg) || ((!tt) && (x3.pc != a))))), (42, (b_ x3.pr)), (63, (b_ (decide ((IntKind.u64.wrap (x3.pd - x3.pa)) > ((cntR a tt l k).sg)))))] [] (fun κ => (IntKind.i64.wrap ((k : Int) + 1) = ((k : Int) + 1)) ∧ True) (by kernel_rfl) ⟨(wrap_i64 (e := (k : Int) + 1) (by constructor <;> omega)), trivial⟩ ?_)
            refine A.tn ?_
            refine A.setH [blk b2 [(u_ ((cntR a tt l (k + 1)).sp)), (u_ ((cntR a tt l (k + 1)).sb)), (u_ ((cntR a tt l (k + 1)).sr)), (u_ ((cntR a tt l (k + 1)).sw)), (u_ ((cntR a tt l (k + 1)).sg))] 43, blk b1 [(u_ 0), (u_ 0), (u_ 0), (u_ 0), (u_ 0)] 43, blk b4 [(i_ x3.pc), (u_ x3.pa), (u_ x3.pd), (i_ x3.pl), (b_ x3.pr), (b_ x3.pg)] 33] (cc (blkC (cc (congrArg u_ (by first | rfl | (rw [cntR, (by assumption : l[k]? = some _)]; simp only []; first | (rw [if_pos (by assumption)]; done) | (rw [if_neg (by rw [Bool.not_eq_true]; assumption)]; simp only [addC]; done) | (rw [if_neg (by rw [Bool.not_eq_true]; assumption)]; simp only [addC]; first | rfl | (rw [if_pos (by assumption)]; done) | (rw [if_neg (by simp only [Bool.not_eq_true]; assumption)]; done) | (rw [if_neg (by omega)]; done))) : IntKind.u64.wrap (((cntR a tt l k).sp) + 1) = (cntR a tt l (k + 1)).sp)) (cc (congrArg u_ (by first | rfl | (rw [cntR, (by assumption : l[k]? = some _)]; simp only []; first | (rw [if_pos (by assumption)]; done) | (rw [if_neg (by rw [Bool.not_eq_true]; assumption)]; simp only [addC]; done) | (rw [if_neg (by rw [Bool.not_eq_true]; assumption)]; simp only [addC]; first | rfl | (rw [if_pos (by assumption)]; done) | (rw [if_neg (by simp only [Bool.not_eq_true]; assumption)]; done) | (rw [if_neg (by omega)]; done))) : IntKind.u64.wrap (((cntR a tt l k).sb) + (IntKind.u64.wrap (x3.pl))) = (cntR a tt l (k + 1)).sb)) (cc (congrArg u_ (by first | rfl | (rw [cntR, (by assumption : l[k]? = some _)]; simp only []; first | (rw [if_pos (by assumption)]; done) | (rw [if_neg (by rw [Bool.not_eq_true]; assumption)]; simp only [addC]; done) | (rw [if_neg (by rw [Bool.not_eq_true]; assumption)]; simp only [addC]; first | rfl | (rw [if_pos (by assumption)]; done) | (rw [if_neg (by simp only [Bool.not_eq_true]; assumption)]; done) | (rw [if_neg (by omega)]; done))) : IntKind.u64.wrap (((cntR a tt l k).sr) + 1) = (cntR a tt l (k + 1)).sr)) (cc (congrArg u_ (by first | rfl | (rw [cntR, (by assumption : l[k]? = some _)]; simp only []; first | (rw [if_pos (by assumption)]; done) | (rw [if_neg (by rw [Bool.not_eq_true]; assumption)]; simp only [addC]; done) | (rw [if_neg (by rw [Bool.not_eq_true]; assumption)]; simp only [addC]; first | rfl | (rw [if_pos (by assumption)]; done) | (rw [if_neg (by simp only [Bool.not_eq_true]; assumption)]; done) | (rw [if_neg (by omega)]; done))) : IntKind.u64.wrap ((IntKind.u64.wrap (((cntR a tt l k).sw) + x3.pd)) - x3.pa) = (cntR a tt l (k + 1)).sw)) (cc (congrArg u_ (by first | rfl | (rw [cntR, (by assumption : l[k]? = some _)]; simp only []; first | (rw [if_pos (by assumption)]; done) | (rw [if_neg (by rw [Bool.not_eq_true]; assumption)]; simp only [addC]; done) | (rw [if_neg (by rw [Bool.not_eq_true]; assumption)]; simp only [addC]; first | rfl | (rw [if_pos (by assumption)]; done) | (rw [if_neg (by simp only [Bool.not_eq_true]; assumption)]; done) | (rw [if_neg (by omega)]; done))) : (cntR a tt l k).sg = (cntR a tt l (k + 1)).sg)) rfl)))))) rfl) ?_
            refine A.next (k + 1) (by first | assumption | omega | (simp_all; done) | (simp_all; omega) | grind) (by first | omega | (simp; omega) | (simp_all; omega)) ?_
            exact A.hereK [0, 0] (by exact ⟨rfl, rfl, rfl, rfl, rfl, rfl, rfl, trivial⟩) (by kernel_rfl)
        · skip
          have p3 := e3; try simp only [decide_eq_true_eq, decide_eq_false_iff_not, beq_iff_eq, beq_eq_false_iff_ne, bne_iff_ne, bne_eq_false_iff_eq, ne_eq, Bool.and_eq_true, Bool.or_eq_true, Bool.or_eq_false_iff, Bool.not_eq_true', Bool.not_eq_false', Int.not_lt, Int.not_le, gt_iff_lt, ge_iff_le, Classical.not_not] at p3
          refine A.skip ?_
          refine A.tn ?_
          refine A.seq ?_
          refine A.region (A.goAS [.p, .ld 0, .p, .ld 2, .p, .p, .ld 2, .p, .p, .st 0] [(1, (i_ a)), (2, (b_ tt)), (6, (p_ b1)), (7, (p_ b2)), (11, (.slice al l.length cl)), (12, (i_ (l.length : Int))), (13, (i_ (k : Int))), (14, (b_ (decide ((k : Int) < (l.length : Int))))), (9, (p_ b4)), (29, (b_ ((!x3.pg) || ((!tt) && (x3.pc != a))))), (42, (b_ x3.pr))] [blk b2 [(u_ (IntKind.u64.wrap (((cntR a tt l k).sp) + 1))), (u_ (IntKind.u64.wrap (((cntR a tt l k).sb) + (IntKind.u64.wrap (x3.pl))))), (u_ ((cntR a tt l k).sr)), (u_ (IntKind.u64.wrap ((IntKind.u64.wrap (((cntR a tt l k).sw) + x3.pd)) - x3.pa))), (u_ ((cntR a tt l k).sg))] 43, blk b1 [(u_ 0), (u_ 0), (u_ 0), (u_ 0), (u_ 0)] 43, blk b4 [(i_ x3.pc), (u_ x3.pa), (u_ x3.pd), (i_ x3.pl), (b_ x3.pr), (b_ x3.pg)] 33] [b2, b4, b4, b2] T0 (by kernel_rfl) trivial ?_)
          refine A.tn ?_
          refine A.seq ?_
          refine A.region (A.goA [.p, .ld 2, .p, .ld 2, .p, .p, .ld 0, .p] [(1, (i_ a)), (2, (b_ tt)), (6, (p_ b1)), (7, (p_ b2)), (11, (.slice al l.length cl)), (12, (i_ (l.length : Int))), (13, (i_ (k : Int))), (14, (b_ (decide ((k : Int) < (l.length : Int))))), (9, (p_ b4)), (29, (b_ ((!x3.pg) || ((!tt) && (x3.pc != a))))), (42, (b_ x3.pr)), (63, (b_ (decide ((IntKind.u64.wrap (x3.pd - x3.pa)) > ((cntR a tt l k).sg)))))] [b4, b4, b2] T0 (by kernel_rfl) trivial ?_)
          refine A.tn ?_
          refine A.cond (E := decide ((IntKind.u64.wrap (x3.pd - x3.pa)) > ((cntR a tt l k).sg))) rfl (fun e5 => ?_) (fun e5 => ?_)
          · skip
            have p5 := of_decide_eq_true e5
            refine A.region (A.goAS [.p, .ld 2, .p, .ld 2, .p, .p, .st 0] [(1, (i_ a)), (2, (b_ tt)), (6, (p_ b1)), (7, (p_ b2)), (11, (.slice al l.length cl)), (12, (i_ (l.length : Int))), (13, (i_ (k : Int))), (14, (b_ (decide ((k : Int) < (l.length : Int))))), (9, (p_ b4)), (29, (b_ ((!x3.pg) || ((!tt) && (x3.pc != a))))), (42, (b_ x3.pr)), (63, (b_ (decide ((IntKind.u64.wrap (x3.pd - x3.pa)) > ((cntR a tt l k).sg)))))] [blk b2 [(u_ (IntKind.u64.wrap (((cntR a tt l k).sp) + 1))), (u_ (IntKind.u64.wrap (((cntR a tt l k).sb) + (IntKind.u64.wrap (x3.pl))))), (u_ ((cntR a tt l k).sr)), (u_ (IntKind.u64.wrap ((IntKind.u64.wrap (((cntR a tt l k).sw) + x3.pd)) - x3.pa))), (u_ (IntKind.u64.wrap (x3.pd - x3.pa)))] 43, blk b1 [(u_ 0), (u_ 0), (u_ 0), (u_ 0), (u_ 0)] 43, blk b4 [(i_ x3.pc), (u_ x3.pa), (u_ x3.pd), (i_ x3.pl), (b_ x3.pr), (b_ x3.pg)] 33] [b4, b4, b2] T0 (by kernel_rfl) trivial ?_)
            refine A.bn ?_
            refine A.tn ?_
            refine A.region (A.goA [.w ((k : Int) + 1), .p] [(1, (i_ a)), (2, (b_ tt)), (6, (p_ b1)), (7, (p_ b2)), (11, (.slice al l.length cl)), (12, (i_ (l.length : Int))), (13, (i_ ((k : Int) + 1))), (14, (b_ (decide ((k : Int) < (l.length : Int))))), (9, (p_ b4)), (29, (b_ ((!x3.pg) || ((!tt) && (x3.pc != a))))), (42, (b_ x3.pr)), (63, (b_ (decide ((IntKind.u64.wrap (x3.pd - x3.pa)) > ((cntR a tt l k).sg)))))] [] (fun κ => (IntKind.i64.wrap ((k : Int) + 1) = ((k : Int) + 1)) ∧ True) (by kernel_rfl) ⟨(wrap_i64 (e := (k : Int) + 1) (by constructor <;> omega)), trivial⟩ ?_)
            refine A.tn ?_
            refine A.setH [blk b2 [(u_ ((cntR a tt l (k + 1)).sp)), (u_ ((cntR a tt l (k + 1)).sb)), (u_ ((cntR a tt l (k + 1)).sr)), (u_ ((cntR a tt l (k + 1)).sw)), (u_ ((cntR a tt l (k + 1)).sg))] 43, blk b1 [(u_ 0), (u_ 0), (u_ 0), (u_ 0), (u_ 0)] 43, blk b4 [(i_ x3.pc), (u_ x3.pa), (u_ x3.pd), (i_ x3.pl), (b_ x3.pr), (b_ x3.pg)] 33] (cc (blkC (cc (congrArg u_ (by first | rfl | (rw [cntR, (by assumption : l[k]? = some _)]; simp only []; first | (rw [if_pos (by assumption)]; done) | (rw [if_neg (by rw [Bool.not_eq_true]; assumption)]; simp only [addC]; done) | (rw [if_neg (by rw [Bool.not_eq_true]; assumption)]; simp only [addC]; first | rfl | (rw [if_pos (by assumption)]; done) | (rw [if_neg (by simp only [Bool.not_eq_true]; assumption)]; done) | (rw [if_neg (by omega)]; done))) : IntKind.u64.wrap (((cntR a tt l k).sp) + 1) = (cntR a tt l (k + 1)).sp)) (cc (congrArg u_ (by first | rfl | (rw [cntR, (by assumption : l[k]? = some _)]; simp only []; first | (rw [if_pos (by assumption)]; done) | (rw [if_neg (by rw [Bool.not_eq_true]; assumption)]; simp only [addC]; done) | (rw [if_neg (by rw [Bool.not_eq_true]; assumption)]; simp only [addC]; first | rfl | (rw [if_pos (by assumption)]; done) | (rw [if_neg (by simp only [Bool.not_eq_true]; assumption)]; done) | (rw [if_neg (by omega)]; done))) : IntKind.u64.wrap (((cntR a tt l k).sb) + (IntKind.u64.wrap (x3.pl))) = (cntR a tt l (k + 1)).sb)) (cc (congrArg u_ (by first | rfl | (rw [cntR, (by assumption : l[k]? = some _)]; simp only []; first | (rw [if_pos (by assumption)]; done) | (rw [if_neg (by rw [Bool.not_eq_true]; assumption)]; simp only [addC]; done) | (rw [if_neg (by rw [Bool.not_eq_true]; assumption)]; simp only [addC]; first | rfl | (rw [if_pos (by assumption)]; done) | (rw [if_neg (by simp only [Bool.not_eq_true]; assumption)]; done) | (rw [if_neg (by omega)]; done))) : (cntR a tt l k).sr = (cntR a tt l (k + 1)).sr)) (cc (congrArg u_ (by first | rfl | (rw [cntR, (by assumption : l[k]? = some _)]; simp only []; first | (rw [if_pos (by assumption)]; done) | (rw [if_neg (by rw [Bool.not_eq_true]; assumption)]; simp only [addC]; done) | (rw [if_neg (by rw [Bool.not_eq_true]; assumption)]; simp only [addC]; first | rfl | (rw [if_pos (by assumption)]; done) | (rw [if_neg (by simp only [Bool.not_eq_true]; assumption)]; done) | (rw [if_neg (by omega)]; done))) : IntKind.u64.wrap ((IntKind.u64.wrap (((cntR a tt l k).sw) + x3.pd)) - x3.pa) = (cntR a tt l (k + 1)).sw)) (cc (congrArg u_ (by first | rfl | (rw [cntR, (by assumption : l[k]? = some _)]; simp only []; first | (rw [if_pos (by assumption)]; done) | (rw [if_neg (by rw [Bool.not_eq_true]; assumption)]; simp only [addC]; done) | (rw [if_neg (by rw [Bool.not_eq_true]; assumption)]; simp only [addC]; first | rfl | (rw [if_pos (by assumption)]; done) | (rw [if_neg (by simp only [Bool.not_eq_true]; assumption)]; done) | (rw [if_neg (by omega)]; done))) : IntKind.u64.wrap (x3.pd - x3.pa) = (cntR a tt l (k + 1)).sg)) rfl)))))) rfl) ?_
            refine A.next (k + 1) (by first | assumption | omega | (simp_all; done) | (simp_all; omega) | grind) (by first | omega | (simp; omega) | (simp_all; omega)) ?_
            exact A.hereK [0, 0] (by exact ⟨rfl, rfl, rfl, rfl, rfl, rfl, rfl, trivial⟩) (by kernel_rfl)
          · skip
            have p5 := of_decide_eq_false e5
            refine A.skip ?_
            refine A.bn ?_
            refine A.tn ?_
            refine A.region (A.goA [.w ((k : Int) + 1), .p] [(1, (i_ a)), (2, (b_ tt)), (6, (p_ b1)), (7, (p_ b2)), (11, (.slice al l.length cl)), (12, (i_ (l.length : Int))), (13, (i_ ((k : Int) + 1))), (14, (b_ (decide ((k : Int) < (l.length : Int))))), (9, (p_ b4)), (29, (b_ ((!x3.pg) || ((!tt) && (x3.pc != a))))), (42, (b_ x3.pr)), (63, (b_ (decide ((IntKind.u64.wrap (x3.pd - x3.pa)) > ((cntR a tt l k).sg)))))] [] (fun κ => (IntKind.i64.wrap ((k : Int) + 1) = ((k : Int) + 1)) ∧ True) (by kernel_rfl) ⟨(wrap_i64 (e := (k : Int) + 1) (by constructor <;> omega)), trivial⟩ ?_)
            refine A.tn ?_
            refine A.setH [blk b2 [(u_ ((cntR a tt l (k + 1)).sp)), (u_ ((cntR a tt l (k + 1)).sb)), (u_ ((cntR a tt l (k + 1)).sr)), (u_ ((cntR a tt l (k + 1)).sw)), (u_ ((cntR a tt l (k + 1)).sg))] 43, blk b1 [(u_ 0), (u_ 0), (u_ 0), (u_ 0), (u_ 0)] 43, blk b4 [(i_ x3.pc), (u_ x3.pa), (u_ x3.pd), (i_ x3.pl), (b_ x3.pr), (b_ x3.pg)] 33] (cc (blkC (cc (congrArg u_ (by first | rfl | (rw [cntR, (by assumption : l[k]? = some _)]; simp only []; first | (rw [if_pos (by assumption)]; done) | (rw [if_neg (by rw [Bool.not_eq_true]; assumption)]; simp only [addC]; done) | (rw [if_neg (by rw [Bool.not_eq_true]; assumption)]; simp only [addC]; first | rfl | (rw [if_pos (by assumption)]; done) | (rw [if_neg (by simp only [Bool.not_eq_true]; assumption)]; done) | (rw [if_neg (by omega)]; done))) : IntKind.u64.wrap (((cntR a tt l k).sp) + 1) = (cntR a tt l (k + 1)).sp)) (cc (congrArg u_ (by first | rfl | (rw [cntR, (by assumption : l[k]? = some _)]; simp only []; first | (rw [if_pos (by assumption)]; done) | (rw [if_neg (by rw [Bool.not_eq_true]; assumption)]; simp only [addC]; done) | (rw [if_neg (by rw [Bool.not_eq_true]; assumption)]; simp only [addC]; first | rfl | (rw [if_pos (by assumption)]; done) | (rw [if_neg (by simp only [Bool.not_eq_true]; assumption)]; done) | (rw [if_neg (by omega)]; done))) : IntKind.u64.wrap (((cntR a tt l k).sb) + (IntKind.u64.wrap (x3.pl))) = (cntR a tt l (k + 1)).sb)) (cc (congrArg u_ (by first | rfl | (rw [cntR, (by assumption : l[k]? = some _)]; simp only []; first | (rw [if_pos (by assumption)]; done) | (rw [if_neg (by rw [Bool.not_eq_true]; assumption)]; simp only [addC]; done) | (rw [if_neg (by rw [Bool.not_eq_true]; assumption)]; simp only [addC]; first | rfl | (rw [if_pos (by assumption)]; done) | (rw [if_neg (by simp only [Bool.not_eq_true]; assumption)]; done) | (rw [if_neg (by omega)]; done))) : (cntR a tt l k).sr = (cntR a tt l (k + 1)).sr)) (cc (congrArg u_ (by first | rfl | (rw [cntR, (by assumption : l[k]? = some _)]; simp only []; first | (rw [if_pos (by assumption)]; done) | (rw [if_neg (by rw [Bool.not_eq_true]; assumption)]; simp only [addC]; done) | (rw [if_neg (by rw [Bool.not_eq_true]; assumption)]; simp only [addC]; first | rfl | (rw [if_pos (by assumption)]; done) | (rw [if_neg (by simp only [Bool.not_eq_true]; assumption)]; done) | (rw [if_neg (by omega)]; done))) : IntKind.u64.wrap ((IntKind.u64.wrap (((cntR a tt l k).sw) + x3.pd)) - x3.pa) = (cntR a tt l (k + 1)).sw)) (cc (congrArg u_ (by first | rfl | (rw [cntR, (by assumption : l[k]? = some _)]; simp only []; first | (rw [if_pos (by assumption)]; done) | (rw [if_neg (by rw [Bool.not_eq_true]; assumption)]; simp only [addC]; done) | (rw [if_neg (by rw [Bool.not_eq_true]; assumption)]; simp only [addC]; first | rfl | (rw [if_pos (by assumption)]; done) | (rw [if_neg (by simp only [Bool.not_eq_true]; assumption)]; done) | (rw [if_neg (by omega)]; done))) : (cntR a tt l k).sg = (cntR a tt l (k + 1)).sg)) rfl)))))) rfl) ?_
            refine A.next (k + 1) (by first | assumption | omega | (simp_all; done) | (simp_all; omega) | grind) (by first | omega | (simp; omega) | (simp_all; omega)) ?_
            exact A.hereK [0, 0] (by exact ⟨rfl, rfl, rfl, rfl, rfl, rfl, rfl, trivial⟩) (by kernel_rfl)
    · skip
      have p1 := of_decide_eq_false e1
      refine A.exit ?_
      refine A.te ?_
      refine A.te ?_
      refine A.bh ?_
      refine A.tn ?_
      refine A.seq ?_
      refine A.region (A.goAS [.ld 0, .st 1] [(1, (i_ a)), (2, (b_ tt)), (6, (p_ b1)), (7, (p_ b2)), (11, (.slice al l.length cl)), (12, (i_ (l.length : Int))), (13, (i_ (k : Int))), (14, (b_ (decide ((k : Int) < (l.length : Int)))))] [blk b2 [(u_ ((cntR a tt l k).sp)), (u_ ((cntR a tt l k).sb)), (u_ ((cntR a tt l k).sr)), (u_ ((cntR a tt l k).sw)), (u_ ((cntR a tt l k).sg))] 43, blk b1 [(u_ ((cntR a tt l k).sp)), (u_ ((cntR a tt l k).sb)), (u_ ((cntR a tt l k).sr)), (u_ ((cntR a tt l k).sw)), (u_ ((cntR a tt l k).sg))] 43] [b2, b1] T0 (by kernel_rfl) trivial ?_)
      refine A.tn ?_
      refine A.ret ?_
      refine A.postQ [(.agg #[(u_ ((cntR a tt l k).sp)), (u_ ((cntR a tt l k).sb)), (u_ ((cntR a tt l k).sr)), (u_ ((cntR a tt l k).sw)), (u_ ((cntR a tt l k).sg))])] (fun aa ww rr ss => ⟨rv_cellN (vs := [(u_ ((cntR a tt l k).sp)), (u_ ((cntR a tt l k).sb)), (u_ ((cntR a tt l k).sr)), (u_ ((cntR a tt l k).sw)), (u_ ((cntR a tt l k).sg))]) rr ss rfl (by kernel_rfl) (reads_blk (i := 1) rfl rfl), trivial⟩) ?_
      show ((.agg #[(u_ ((cntR a tt l k).sp)), (u_ ((cntR a tt l k).sb)), (u_ ((cntR a tt l k).sr)), (u_ ((cntR a tt l k).sw)), (u_ ((cntR a tt l k).sg))]) : Value) = (.agg #[(u_ ((cntR a tt l l.length).sp)), (u_ ((cntR a tt l l.length).sb)), (u_ ((cntR a tt l l.length).sr)), (u_ ((cntR a tt l l.length).sw)), (u_ ((cntR a tt l l.length).sg))])
      rw [show k = l.length by omega]
end Go.Proofs.Ytlhchmmjkokamaa
