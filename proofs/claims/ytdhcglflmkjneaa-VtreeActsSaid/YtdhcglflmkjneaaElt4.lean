/- What the functions of this layer do, proved operation by operation, for all arguments, under the conditions that each theorem states. -/
import Derived.Test.YtdhcglflmkjneaaProg
import Derived.Test.YtdhcglflmkjneaaElt3
namespace Go.Proofs.Ytdhcglflmkjneaa
open Go V
set_option linter.unusedVariables false
set_option linter.unusedSimpArgs false
structure Rw where
  ri : Int
  ra : Int
  rb : Int
  deriving Inhabited, DecidableEq
def encRw (x : Rw) : List Value := [(i_ x.ri), (u_ x.ra), (u_ x.rb)]
theorem encRw_len (x : Rw) : (encRw x).length = 3 := rfl
theorem encRw_one (x : Rw) : (encRw x).all Value.oneCell' = true := rfl
def RwOk (x : Rw) : Prop := ((-9223372036854775808) ≤ x.ri ∧ x.ri ≤ 9223372036854775807) ∧ (0 ≤ x.ra ∧ x.ra ≤ 18446744073709551615) ∧ (0 ≤ x.rb ∧ x.rb ≤ 18446744073709551615)
def ksRw : List FK := [.int .i64, .int .u64, .int .u64]
theorem openRw (cs : List Value) (h : FitsL ksRw cs) : ∃ x, cs = encRw x ∧ RwOk x := by
  unfold ksRw at h
  obtain ⟨v0, cs0, rfl, h0, g0⟩ := fitsL_cons h
  obtain ⟨a0, rfl, r0⟩ := fit_i64 h0
  obtain ⟨v1, cs1, rfl, h1, g1⟩ := fitsL_cons g0
  obtain ⟨a1, rfl, r1⟩ := fit_u64 h1
  obtain ⟨v2, cs2, rfl, h2, g2⟩ := fitsL_cons g1
  obtain ⟨a2, rfl, r2⟩ := fit_u64 h2
  obtain rfl := fitsL_nil g2
  exact ⟨⟨a0, a1, a2⟩, rfl, r0, r1, r2⟩
def fdI (a : Int) (l : List Rw) : Int := match l.findIdx? (fun r => decide (r.ri = a)) with | some k => (k : Int) | none => -1
theorem fdI_none {a : Int} {l : List Rw} (h : ∀ y ∈ l, ¬ y.ri = a) : fdI a l = -1 := by
  unfold fdI; rw [List.findIdx?_eq_none_iff.2 (by simpa using h)]
theorem fdI_at {a : Int} {l : List Rw} {k : Nat} {x : Rw} (hx : l[k]? = some x) (hk : x.ri = a) (h : ∀ y ∈ l.take k, ¬ y.ri = a) : fdI a l = (k : Int) := by
  unfold fdI
  obtain ⟨hl, he⟩ := List.getElem?_eq_some_iff.1 hx
  rw [List.findIdx?_eq_some_iff_getElem.2 ⟨hl, by simp [he, hk], fun j hj => by
    have := h l[j] (List.mem_iff_getElem?.2 ⟨j, by rw [List.getElem?_take, if_pos hj]; exact List.getElem?_eq_getElem _⟩); simpa using this⟩]
theorem fdI_pos {a : Int} {l : List Rw} : 0 ≤ fdI a l ↔ ∃ y ∈ l, y.ri = a := by
  constructor
  · intro h
    rcases Classical.em (∃ y ∈ l, y.ri = a) with g | g
    · exact g
    · rw [fdI_none fun y hy e => g ⟨y, hy, e⟩] at h; omega
  · rintro ⟨y, hy, e⟩
    unfold fdI; split
    · omega
    · rename_i h; have := List.findIdx?_eq_none_iff.1 h y hy; simp [e] at this
def wo (a : Int) (l : List Rw) : List Rw := l.filter (fun r => !decide (r.ri = a))
theorem wo_snoc {a : Int} {l : List Rw} {x : Rw} : wo a (l ++ [x]) = wo a l ++ (if x.ri = a then [] else [x]) := by
  unfold wo; rw [List.filter_append]; by_cases h : x.ri = a <;> simp [h]
def sfo (x : Rw) (l : List Rw) : Nat → List Rw × Bool
  | 0 => ([], false)
  | k + 1 => match l[k]? with
    | none => sfo x l k
    | some r =>
      (if r.ri ≠ x.ri then (if !(sfo x l k).2 && decide (r.ri ≥ x.ri) then (sfo x l k).1 ++ [x] else (sfo x l k).1) ++ [r] else (if !(sfo x l k).2 && decide (r.ri ≥ x.ri) then (sfo x l k).1 ++ [x] else (sfo x l k).1),
        (sfo x l k).2 || (!(sfo x l k).2 && decide (r.ri ≥ x.ri)))
theorem sfo_succ {x r : Rw} {l : List Rw} {k : Nat} (h : l[k]? = some r) : sfo x l (k + 1) =
      (if r.ri ≠ x.ri then (if !(sfo x l k).2 && decide (r.ri ≥ x.ri) then (sfo x l k).1 ++ [x] else (sfo x l k).1) ++ [r] else (if !(sfo x l k).2 && decide (r.ri ≥ x.ri) then (sfo x l k).1 ++ [x] else (sfo x l k).1),
        (sfo x l k).2 || (!(sfo x l k).2 && decide (r.ri ≥ x.ri))) := by rw [sfo, h]
theorem sfo_len (x : Rw) (l : List Rw) : ∀ k, (sfo x l k).1.length ≤ k + (if (sfo x l k).2 then 1 else 0)
  | 0 => by simp [sfo]
  | k + 1 => by
    have ih := sfo_len x l k
    cases hr : l[k]? with
    | none => rw [show sfo x l (k + 1) = sfo x l k by rw [sfo, hr]]; split <;> split at ih <;> first | omega | simp_all
    | some r =>
      rw [sfo_succ hr]
      cases hp : (sfo x l k).2 <;> rw [hp] at ih <;> by_cases h1 : r.ri = x.ri <;> by_cases h2 : x.ri ≤ r.ri <;> simp [h1, h2] at ih ⊢ <;> omega
theorem sfo_len1 (x : Rw) (l : List Rw) (k : Nat) : (sfo x l k).1.length ≤ k + 1 := by have := sfo_len x l k; split at this <;> omega
def setL (x : Rw) (l : List Rw) : List Rw := if (sfo x l l.length).2 then (sfo x l l.length).1 else (sfo x l l.length).1 ++ [x]
def oI : Option Nat → Int
  | none => -1
  | some i => (i : Int)
def wnever : Int := 9223372036854775808
def betO (l : List Rw) (r : Rw) : Option Nat → Bool
  | none => true
  | some i => decide (r.rb < (l[i]?.getD default).rb)
def pickO (n : Int) (l : List Rw) : Nat → Option Nat
  | 0 => none
  | k + 1 => match l[k]? with
    | none => pickO n l k
    | some r => if r.ra ≤ n ∧ r.ra < wnever ∧ betO l r (pickO n l k) = true then some k else pickO n l k
theorem pickO_lt {n : Int} {l : List Rw} : ∀ {k i : Nat}, pickO n l k = some i → i < k ∧ i < l.length
  | 0, i, h => by simp [pickO] at h
  | k + 1, i, h => by
    rw [pickO] at h; split at h
    · have := pickO_lt h; omega
    · rename_i r hr; split at h
      · cases h; have := (List.getElem?_eq_some_iff.1 hr).1; omega
      · have := pickO_lt h; omega
theorem pickO_t {n : Int} {l : List Rw} {k : Nat} {r : Rw} (hr : l[k]? = some r) (h : r.ra ≤ n ∧ r.ra < wnever ∧ betO l r (pickO n l k) = true) : (k : Int) = oI (pickO n l (k + 1)) := by
  rw [pickO, hr]; simp only; rw [if_pos h]; rfl
theorem pickO_f {n : Int} {l : List Rw} {k : Nat} {r : Rw} (hr : l[k]? = some r) (h : ¬ (r.ra ≤ n ∧ r.ra < wnever ∧ betO l r (pickO n l k) = true)) : oI (pickO n l k) = oI (pickO n l (k + 1)) := by
  rw [pickO, hr]; simp only; rw [if_neg h]
theorem pickO_t2 {n : Int} {l : List Rw} {k i : Nat} {r y : Rw} (hr : l[k]? = some r) (hi : pickO n l k = some i) (hy : l[i]? = some y) (h : (r.ra ≤ n ∧ r.ra < 9223372036854775808) ∧ ((i : Int) < 0 ∨ r.rb < y.rb)) : (k : Int) = oI (pickO n l (k + 1)) := by
  refine pickO_t hr ⟨h.1.1, h.1.2, ?_⟩
  rw [hi]; simp only [betO, hy]; simp; omega
def nxR (l : List Rw) : Nat → Int
  | 0 => wnever
  | k + 1 => match l[k]? with
    | none => nxR l k
    | some r => if r.ra < nxR l k then r.ra else nxR l k
def trn (r : Rw) : Rw := ⟨r.ri, r.rb, r.ra⟩
def mkI (l : List Rw) : Option Nat → Int
  | none => 0
  | some i => (l[i]?.getD default).ri
def lowR (l : List Rw) : Nat → Int
  | 0 => 0
  | k + 1 => match l[k]? with
    | none => lowR l k
    | some r => if k = 0 ∨ r.ra < lowR l k then r.ra else lowR l k
theorem eq_lists {xs ys : List Int} (h : xs.length = ys.length) (hn : ∀ j, j < xs.length → xs[j]? = ys[j]?) : true = (xs == ys) := by
  have : xs = ys := List.ext_getElem? fun j => by
    rcases Nat.lt_or_ge j xs.length with g | g
    · exact hn j g
    · rw [List.getElem?_eq_none g, List.getElem?_eq_none (by omega)]
  simp [this]
theorem ne_lists {xs ys : List Int} {k : Nat} {x y : Int} (hx : xs[k]? = some x) (hy : ys[k]? = some y) (h : ¬ x = y) : false = (xs == ys) := by
  symm; rw [beq_eq_false_iff_ne]; rintro rfl; rw [hx] at hy; cases hy; exact h rfl
theorem ne_len {xs ys : List Int} (h : ¬ (xs.length : Int) = ys.length) : false = (xs == ys) := by
  symm; rw [beq_eq_false_iff_ne]; rintro rfl; exact h rfl

set_option maxHeartbeats 4000000 in
set_option maxRecDepth 100000 in
theorem wfind_spec (al : Option Addr) (l : List Rw) (cl : Nat) (a : Int) (hl : l.length ≤ 100000) (w : World) (r0 : arrAt w al (V.flat encRw l)) :
    Calls Try.prog 11 #[(.slice al l.length cl), (i_ a)] w fun e w' => e = .returned (i_ (fdI a l)) ∧ Fr [] w w' := by
  refine calls_of (args := [(.slice al l.length cl), (i_ a)]) (penv [(.slice al l.length cl), (i_ a)]) [] [] Try.func11 rfl rfl (look_penv _) (HS.nil w) ?_
  refine A.norm [(0, (.slice al l.length cl)), (1, (i_ a))] [] (by exact ⟨rfl, rfl, trivial⟩) rfl ?_
  refine A.seq ?_
  refine A.region (A.goA [.p] [(0, (.slice al l.length cl)), (1, (i_ a)), (4, (i_ 0))] [] T0 (by kernel_rfl) trivial ?_)
  refine A.tn ?_
  refine A.seq ?_
  refine A.seq ?_
  refine A.region (A.goA [.p, .p, .p] [(0, (.slice al l.length cl)), (1, (i_ a)), (4, (i_ 0)), (7, (.slice al l.length cl)), (8, (i_ (l.length : Int))), (9, (i_ 0))] [] T0 (by kernel_rfl) trivial ?_)
  refine A.tn ?_
  refine A.block ?_
  refine A.loop (fun (zz : Nat) => match zz with | k => [(1, (i_ a)), (7, (.slice al l.length cl)), (8, (i_ (l.length : Int))), (9, (i_ (k : Int)))]) (fun (zz : Nat) => match zz with | k => []) (fun (zz : Nat) => match zz with | k => (k ≤ l.length) ∧ (∀ y ∈ l.take k, ¬ y.ri = a)) (fun (zz : Nat) => match zz with | k => l.length - k) (0 : Nat) ⟨(by first | assumption | omega | (simp_all; done) | (simp_all; omega) | grind), (by simp)⟩ ?_ ?_
  · exact A.hereK [] (by exact ⟨rfl, rfl, rfl, rfl, trivial⟩) (by kernel_rfl)
  · rintro k ⟨hk, hn⟩
    refine A.norm [(1, (i_ a)), (7, (.slice al l.length cl)), (8, (i_ (l.length : Int))), (9, (i_ (k : Int)))] [] (by exact ⟨rfl, rfl, rfl, rfl, trivial⟩) rfl ?_
    refine A.seq ?_
    refine A.region (A.goA [.p] [(1, (i_ a)), (7, (.slice al l.length cl)), (8, (i_ (l.length : Int))), (9, (i_ (k : Int))), (10, (b_ (decide ((k : Int) < (l.length : Int)))))] [] T0 (by kernel_rfl) trivial ?_)
    refine A.tn ?_
    refine A.seq ?_
    refine A.cond (E := decide ((k : Int) < (l.length : Int))) rfl (fun e1 => ?_) (fun e1 => ?_)
    · skip
      have p1 := of_decide_eq_true e1
      refine A.skip ?_
      refine A.tn ?_
      refine A.seq ?_
      refine A.block ?_
      refine A.seq ?_
      refine A.region (A.goP [.p, .ix] [(1, (i_ a)), (7, (.slice al l.length cl)), (8, (i_ (l.length : Int))), (9, (i_ (k : Int))), (10, (b_ (decide ((k : Int) < (l.length : Int))))), (11, (i_ (k : Int))), (12, (.pointer (some ((at0 al).add (k * 3)))))] [] (fun κ => κ.ix al l.length (k : Int) ∧ True) (by kernel_rfl) ⟨(ixOf encRw_len (by decide) (rd_old r0 (by simp [feet])) (by first | omega | (simp; done))), trivial⟩ ?_)
      obtain ⟨x1, hx1⟩ : ∃ x, (l)[k]? = some x := ⟨_, List.getElem?_eq_getElem (by omega)⟩
      refine A.goA1 [.rd [(i_ x1.ri), (u_ x1.ra), (u_ x1.rb)], .al, .p, .st 0] [1, 7, 8, 9, 10, 6, 5] (fun b2 => [(1, (i_ a)), (7, (.slice al l.length cl)), (8, (i_ (l.length : Int))), (9, (i_ (k : Int))), (10, (b_ (decide ((k : Int) < (l.length : Int))))), (6, (p_ b2)), (5, (i_ (k : Int)))]) (fun b2 => [blk b2 [(i_ x1.ri), (u_ x1.ra), (u_ x1.rb)] 37]) (fun b2 => [b2]) (fun _ => (fun κ => κ.rd ((at0 al).add (k * 3)) [(i_ x1.ri), (u_ x1.ra), (u_ x1.rb)] ∧ True)) (fun _ => by kernel_rfl) (fun b2 => ⟨(reads_at0 (vs := [(i_ x1.ri), (u_ x1.ra), (u_ x1.rb)]) encRw_len (rd_old r0 (by simp [feet])) hx1 (by simp) rfl), trivial⟩) ?_
      intro b2
      refine A.tn ?_
      refine A.seq ?_
      refine A.region (A.goA [.p, .ld 0, .p, .p] [(1, (i_ a)), (7, (.slice al l.length cl)), (8, (i_ (l.length : Int))), (9, (i_ (k : Int))), (10, (b_ (decide ((k : Int) < (l.length : Int))))), (6, (p_ b2)), (5, (i_ (k : Int))), (17, (b_ (x1.ri == a)))] [b2] T0 (by kernel_rfl) trivial ?_)
      refine A.tn ?_
      refine A.cond (E := x1.ri == a) rfl (fun e2 => ?_) (fun e2 => ?_)
      · skip
        have p2 := e2; try simp only [decide_eq_true_eq, decide_eq_false_iff_not, beq_iff_eq, beq_eq_false_iff_ne, bne_iff_ne, bne_eq_false_iff_eq, ne_eq, Bool.and_eq_true, Bool.or_eq_true, Bool.or_eq_false_iff, Bool.not_eq_true', Bool.not_eq_false', Int.not_lt, Int.not_le, gt_iff_lt, ge_iff_le, Classical.not_not] at p2
        refine A.seq ?_
        refine A.region (A.goA [.p, .p] [(1, (i_ a)), (7, (.slice al l.length cl)), (8, (i_ (l.length : Int))), (9, (i_ (k : Int))), (10, (b_ (decide ((k : Int) < (l.length : Int))))), (6, (p_ b2)), (5, (i_ (k : Int))), (17, (b_ (x1.ri == a))), (4, (i_ (k : Int)))] [] T0 (by kernel_rfl) trivial ?_)
        refine A.tn ?_
        refine A.ret ?_
        refine A.br ?_
        refine A.tr ?_
        refine A.tr ?_
        refine A.br ?_
        refine A.tr ?_
        refine A.postQ [(i_ (k : Int))] (fun aa ww rr ss => ⟨rv_tmp rr rfl, trivial⟩) ?_
        show ((i_ (k : Int)) : Value) = (i_ (fdI a l))
        refine congrArg (Value.int .i64) ?_; first | exact (fdI_at (by assumption) (by simp_all) hn).symm | (rw [List.take_of_length_le (by omega)] at hn; exact (fdI_none hn).symm)
      · skip
        have p2 := e2; try simp only [decide_eq_true_eq, decide_eq_false_iff_not, beq_iff_eq, beq_eq_false_iff_ne, bne_iff_ne, bne_eq_false_iff_eq, ne_eq, Bool.and_eq_true, Bool.or_eq_true, Bool.or_eq_false_iff, Bool.not_eq_true', Bool.not_eq_false', Int.not_lt, Int.not_le, gt_iff_lt, ge_iff_le, Classical.not_not] at p2
        refine A.skip ?_
        refine A.bn ?_
        refine A.tn ?_
        refine A.region (A.goA [.w ((k : Int) + 1), .p] [(1, (i_ a)), (7, (.slice al l.length cl)), (8, (i_ (l.length : Int))), (9, (i_ ((k : Int) + 1))), (10, (b_ (decide ((k : Int) < (l.length : Int))))), (6, (p_ b2)), (5, (i_ (k : Int))), (17, (b_ (x1.ri == a)))] [] (fun κ => (IntKind.i64.wrap ((k : Int) + 1) = ((k : Int) + 1)) ∧ True) (by kernel_rfl) ⟨(wrap_i64 (e := (k : Int) + 1) (by constructor <;> omega)), trivial⟩ ?_)
        refine A.tn ?_
        refine A.next (k + 1) ⟨(by first | assumption | omega | (simp_all; done) | (simp_all; omega) | grind), (by rw [take_snoc (by assumption)]; intro y hy; rcases List.mem_append.1 hy with hy | hy; exact hn y hy; (simp at hy; subst hy; simp_all))⟩ (by first | omega | (simp; omega) | (simp_all; omega)) ?_
        exact A.hereK [] (by exact ⟨rfl, rfl, rfl, rfl, trivial⟩) (by kernel_rfl)
    · skip
      have p1 := of_decide_eq_false e1
      refine A.exit ?_
      refine A.te ?_
      refine A.te ?_
      refine A.bh ?_
      refine A.tn ?_
      refine A.seq ?_
      refine A.region (A.goA [.p] [(1, (i_ a)), (7, (.slice al l.length cl)), (8, (i_ (l.length : Int))), (9, (i_ (k : Int))), (10, (b_ (decide ((k : Int) < (l.length : Int))))), (4, (i_ (-1)))] [] T0 (by kernel_rfl) trivial ?_)
      refine A.tn ?_
      refine A.ret ?_
      refine A.postQ [(i_ (-1))] (fun aa ww rr ss => ⟨rv_tmp rr rfl, trivial⟩) ?_
      show ((i_ (-1)) : Value) = (i_ (fdI a l))
      refine congrArg (Value.int .i64) ?_; first | exact (fdI_at (by assumption) (by simp_all) hn).symm | (rw [List.take_of_length_le (by omega)] at hn; exact (fdI_none hn).symm)

set_option maxHeartbeats 4000000 in
set_option maxRecDepth 100000 in
theorem wwithout_spec (al : Option Addr) (l : List Rw) (cl : Nat) (a : Int) (hl : l.length ≤ 100000) (w : World) (r0 : arrAt w al (V.flat encRw l)) (hs : HS w (feet []) [] w) :
    Calls Try.prog 13 #[(.slice al l.length cl), (i_ a)] w fun e w' => ∃ zz, e = .returned ((fun (zz : (Option Addr) × Nat) => match zz with | (al', cl') => (.slice al' ((wo a l).length) cl')) zz) ∧ (fun (zz : (Option Addr) × Nat) => match zz with | (al', cl') => True) zz ∧ Turn [] ((fun (zz : (Option Addr) × Nat) => match zz with | (al', cl') => [sl al' ((wo a l).length) cl' 37 3 (V.flat encRw (wo a l))]) zz) w w' := by
  refine calls_of (args := [(.slice al l.length cl), (i_ a)]) (penv [(.slice al l.length cl), (i_ a)]) (feet []) [] Try.func13 rfl rfl (look_penv _) hs ?_
  refine A.norm [(0, (.slice al l.length cl)), (1, (i_ a))] [] (by exact ⟨rfl, rfl, trivial⟩) rfl ?_
  refine A.seq ?_
  refine A.region (A.goA [.p] [(0, (.slice al l.length cl)), (1, (i_ a)), (4, e_)] [] T0 (by kernel_rfl) trivial ?_)
  refine A.tn ?_
  refine A.seq ?_
  refine A.region (A.goA [.p] [(0, (.slice al l.length cl)), (1, (i_ a)), (4, e_), (5, e_)] [] T0 (by kernel_rfl) trivial ?_)
  refine A.tn ?_
  refine A.seq ?_
  refine A.seq ?_
  refine A.region (A.goA [.p, .p, .p] [(0, (.slice al l.length cl)), (1, (i_ a)), (4, e_), (5, e_), (8, (.slice al l.length cl)), (9, (i_ (l.length : Int))), (10, (i_ 0))] [] T0 (by kernel_rfl) trivial ?_)
  refine A.tn ?_
  refine A.block ?_
  refine A.ownNil 37 3 [sl none (([] : List Rw).length) 0 37 3 (V.flat encRw ([] : List Rw))] rfl ?_
  refine A.setH [sl none ((wo a (l.take 0)).length) 0 37 3 (V.flat encRw (wo a (l.take 0)))] (cc (slC (by first | (rw [take_snoc (by assumption), wo_snoc]; simp_all; done) | (simp [wo]; done) | (rw [List.take_of_length_le (by omega)]) : ([] : List Rw) = (wo a (l.take 0)))) rfl) ?_
  refine A.sub [(0, (.slice al l.length cl)), (1, (i_ a)), (4, e_), (5, (.slice none ((wo a (l.take 0)).length) 0)), (8, (.slice al l.length cl)), (9, (i_ (l.length : Int))), (10, (i_ 0))] (by exact ⟨rfl, rfl, rfl, (congrArg (fun z_ : List Rw => some (Value.slice none z_.length 0)) (by first | (rw [take_snoc (by assumption), wo_snoc]; simp_all; done) | (simp [wo]; done) | (rw [List.take_of_length_le (by omega)]) : ([] : List Rw) = (wo a (l.take 0)))), rfl, rfl, rfl, trivial⟩) ?_
  refine A.loop (fun (zz : Nat × (Option Addr) × Nat) => match zz with | (k, ao, co) => [(1, (i_ a)), (4, e_), (8, (.slice al l.length cl)), (9, (i_ (l.length : Int))), (10, (i_ (k : Int))), (5, (.slice ao ((wo a (l.take k)).length) co))]) (fun (zz : Nat × (Option Addr) × Nat) => match zz with | (k, ao, co) => [sl ao ((wo a (l.take k)).length) co 37 3 (V.flat encRw (wo a (l.take k)))]) (fun (zz : Nat × (Option Addr) × Nat) => match zz with | (k, ao, co) => (k ≤ l.length)) (fun (zz : Nat × (Option Addr) × Nat) => match zz with | (k, ao, co) => l.length - k) (0, none, 0) (by first | assumption | omega | (simp_all; done) | (simp_all; omega) | grind) ?_ ?_
  · exact A.hereK [0] (by exact ⟨rfl, rfl, rfl, rfl, rfl, rfl, trivial⟩) (by kernel_rfl)
  · rintro ⟨k, ao, co⟩ hk
    have hk : k ≤ l.length := hk
    have hdl : (wo a (l.take k)).length ≤ k := Nat.le_trans (List.length_filter_le _ _) (by simp; omega)
    refine A.norm [(1, (i_ a)), (4, e_), (8, (.slice al l.length cl)), (9, (i_ (l.length : Int))), (10, (i_ (k : Int))), (5, (.slice ao ((wo a (l.take k)).length) co))] [sl ao ((wo a (l.take k)).length) co 37 3 (V.flat encRw (wo a (l.take k)))] (by exact ⟨rfl, rfl, rfl, rfl, rfl, rfl, trivial⟩) rfl ?_
    refine A.seq ?_
    refine A.region (A.goA [.p] [(1, (i_ a)), (4, e_), (8, (.slice al l.length cl)), (9, (i_ (l.length : Int))), (10, (i_ (k : Int))), (5, (.slice ao ((wo a (l.take k)).length) co)), (11, (b_ (decide ((k : Int) < (l.length : Int)))))] [] T0 (by kernel_rfl) trivial ?_)
    refine A.tn ?_
    refine A.seq ?_
    refine A.cond (E := decide ((k : Int) < (l.length : Int))) rfl (fun e1 => ?_) (fun e1 => ?_)
    · skip
      have p1 := of_decide_eq_true e1
      refine A.skip ?_
      refine A.tn ?_
      refine A.seq ?_
      refine A.block ?_
      refine A.seq ?_
      refine A.region (A.goP [.ix] [(1, (i_ a)), (4, e_), (8, (.slice al l.length cl)), (9, (i_ (l.length : Int))), (10, (i_ (k : Int))), (5, (.slice ao ((wo a (l.take k)).length) co)), (11, (b_ (decide ((k : Int) < (l.length : Int))))), (12, (.pointer (some ((at0 al).add (k * 3)))))] [] (fun κ => κ.ix al l.length (k : Int) ∧ True) (by kernel_rfl) ⟨(ixOf encRw_len (by decide) (rd_old r0 (by simp [feet])) (by first | omega | (simp; done))), trivial⟩ ?_)
      obtain ⟨x2, hx2⟩ : ∃ x, (l)[k]? = some x := ⟨_, List.getElem?_eq_getElem (by omega)⟩
      refine A.goA1 [.rd [(i_ x2.ri), (u_ x2.ra), (u_ x2.rb)], .al, .st 1] [1, 4, 8, 9, 10, 5, 11, 7] (fun b3 => [(1, (i_ a)), (4, e_), (8, (.slice al l.length cl)), (9, (i_ (l.length : Int))), (10, (i_ (k : Int))), (5, (.slice ao ((wo a (l.take k)).length) co)), (11, (b_ (decide ((k : Int) < (l.length : Int))))), (7, (p_ b3))]) (fun b3 => [sl ao ((wo a (l.take k)).length) co 37 3 (V.flat encRw (wo a (l.take k))), blk b3 [(i_ x2.ri), (u_ x2.ra), (u_ x2.rb)] 37]) (fun b3 => [b3]) (fun _ => (fun κ => κ.rd ((at0 al).add (k * 3)) [(i_ x2.ri), (u_ x2.ra), (u_ x2.rb)] ∧ True)) (fun _ => by kernel_rfl) (fun b3 => ⟨(reads_at0 (vs := [(i_ x2.ri), (u_ x2.ra), (u_ x2.rb)]) encRw_len (rd_old r0 (by simp [feet])) hx2 (by simp) rfl), trivial⟩) ?_
      intro b3
      refine A.tn ?_
      refine A.seq ?_
      refine A.region (A.goA [.p, .ld 1, .p, .p] [(1, (i_ a)), (4, e_), (8, (.slice al l.length cl)), (9, (i_ (l.length : Int))), (10, (i_ (k : Int))), (5, (.slice ao ((wo a (l.take k)).length) co)), (11, (b_ (decide ((k : Int) < (l.length : Int))))), (7, (p_ b3)), (17, (b_ (x2.ri != a)))] [b3] T0 (by kernel_rfl) trivial ?_)
      refine A.tn ?_
      refine A.cond (E := x2.ri != a) rfl (fun e2 => ?_) (fun e2 => ?_)
      · skip
        have p2 := e2; try simp only [decide_eq_true_eq, decide_eq_false_iff_not, beq_iff_eq, beq_eq_false_iff_ne, bne_iff_ne, bne_eq_false_iff_eq, ne_eq, Bool.and_eq_true, Bool.or_eq_true, Bool.or_eq_false_iff, Bool.not_eq_true', Bool.not_eq_false', Int.not_lt, Int.not_le, gt_iff_lt, ge_iff_le, Classical.not_not] at p2
        refine A.region (A.goP [.p, .ld 1] [(1, (i_ a)), (4, e_), (8, (.slice al l.length cl)), (9, (i_ (l.length : Int))), (10, (i_ (k : Int))), (5, (.slice ao ((wo a (l.take k)).length) co)), (11, (b_ (decide ((k : Int) < (l.length : Int))))), (7, (p_ b3)), (17, (b_ (x2.ri != a))), (18, (.slice ao ((wo a (l.take k)).length) co)), (19, (.agg #[(i_ x2.ri), (u_ x2.ra), (u_ x2.rb)]))] [b3] T0 (by kernel_rfl) trivial ?_)
        refine A.cons (A.buildSlice 20 (e := 37) [(i_ x2.ri), (u_ x2.ra), (u_ x2.rb)] (by kernel_rfl) rfl (fun _ => by kernel_rfl) (fun b4 => [sl ao ((wo a (l.take k)).length) co 37 3 (V.flat encRw (wo a (l.take k))), blk b3 [(i_ x2.ri), (u_ x2.ra), (u_ x2.rb)] 37, blk b4 [(i_ x2.ri), (u_ x2.ra), (u_ x2.rb)] 37]) (fun _ => rfl) ?_)
        intro b4
        refine A.cons (A.appendC (enc := encRw) (xs := (wo a (l.take k))) ([x2]) 0 21 (e := 37) (z := (.agg #[(i_ 0), (u_ 0), (u_ 0)])) (sz := 3) (by_ := 24) (by kernel_rfl) rfl rfl rfl (by kernel_rfl) (by kernel_rfl) (by rfl) (by decide) encRw_len encRw_one rfl (rd_blk (i := 2) rfl) (by simp; omega) (fun A5 c5 => [sl A5 (((wo a (l.take k)) ++ ([x2])).length) c5 37 3 (V.flat encRw ((wo a (l.take k)) ++ ([x2]))), blk b3 [(i_ x2.ri), (u_ x2.ra), (u_ x2.rb)] 37, blk b4 [(i_ x2.ri), (u_ x2.ra), (u_ x2.rb)] 37]) (fun _ _ => rfl) ?_)
        intro A5 c5
        refine A.goA [.p] [(1, (i_ a)), (4, e_), (8, (.slice al l.length cl)), (9, (i_ (l.length : Int))), (10, (i_ (k : Int))), (5, (.slice A5 (((wo a (l.take k)) ++ ([x2])).length) c5)), (11, (b_ (decide ((k : Int) < (l.length : Int))))), (7, (p_ b3)), (17, (b_ (x2.ri != a)))] [] T0 (by kernel_rfl) trivial ?_
        refine A.bn ?_
        refine A.tn ?_
        refine A.region (A.goA [.w ((k : Int) + 1), .p] [(1, (i_ a)), (4, e_), (8, (.slice al l.length cl)), (9, (i_ (l.length : Int))), (10, (i_ ((k : Int) + 1))), (5, (.slice A5 (((wo a (l.take k)) ++ ([x2])).length) c5)), (11, (b_ (decide ((k : Int) < (l.length : Int))))), (7, (p_ b3)), (17, (b_ (x2.ri != a)))] [] (fun κ => (IntKind.i64.wrap ((k : Int) + 1) = ((k : Int) + 1)) ∧ True) (by kernel_rfl) ⟨(wrap_i64 (e := (k : Int) + 1) (by constructor <;> omega)), trivial⟩ ?_)
        refine A.tn ?_
        refine A.setH [sl A5 ((wo a (l.take (k + 1))).length) c5 37 3 (V.flat encRw (wo a (l.take (k + 1)))), blk b3 [(i_ x2.ri), (u_ x2.ra), (u_ x2.rb)] 37, blk b4 [(i_ x2.ri), (u_ x2.ra), (u_ x2.rb)] 37] (cc (slC (by first | (rw [take_snoc (by assumption), wo_snoc]; simp_all; done) | (simp [wo]; done) | (rw [List.take_of_length_le (by omega)]) : (wo a (l.take k)) ++ ([x2]) = (wo a (l.take (k + 1))))) rfl) ?_
        refine A.sub [(1, (i_ a)), (4, e_), (8, (.slice al l.length cl)), (9, (i_ (l.length : Int))), (10, (i_ ((k : Int) + 1))), (5, (.slice A5 ((wo a (l.take (k + 1))).length) c5)), (11, (b_ (decide ((k : Int) < (l.length : Int))))), (7, (p_ b3)), (17, (b_ (x2.ri != a)))] (by exact ⟨rfl, rfl, rfl, rfl, rfl, (congrArg (fun z_ : List Rw => some (Value.slice A5 z_.length c5)) (by first | (rw [take_snoc (by assumption), wo_snoc]; simp_all; done) | (simp [wo]; done) | (rw [List.take_of_length_le (by omega)]) : (wo a (l.take k)) ++ ([x2]) = (wo a (l.take (k + 1))))), rfl, rfl, rfl, trivial⟩) ?_
        refine A.next (k + 1, A5, c5) (by first | assumption | omega | (simp_all; done) | (simp_all; omega) | grind) (by first | omega | (simp; omega) | (simp_all; omega)) ?_
        exact A.hereK [0] (by exact ⟨rfl, rfl, rfl, rfl, rfl, rfl, trivial⟩) (by kernel_rfl)
      · skip
        have p2 := e2; try simp only [decide_eq_true_eq, decide_eq_false_iff_not, beq_iff_eq, beq_eq_false_iff_ne, bne_iff_ne, bne_eq_false_iff_eq, ne_eq, Bool.and_eq_true, Bool.or_eq_true, Bool.or_eq_false_iff, Bool.not_eq_true', Bool.not_eq_false', Int.not_lt, Int.not_le, gt_iff_lt, ge_iff_le, Classical.not_not] at p2
        refine A.skip ?_
        refine A.bn ?_
        refine A.tn ?_
        refine A.region (A.goA [.w ((k : Int) + 1), .p] [(1, (i_ a)), (4, e_), (8, (.slice al l.length cl)), (9, (i_ (l.length : Int))), (10, (i_ ((k : Int) + 1))), (5, (.slice ao ((wo a (l.take k)).length) co)), (11, (b_ (decide ((k : Int) < (l.length : Int))))), (7, (p_ b3)), (17, (b_ (x2.ri != a)))] [] (fun κ => (IntKind.i64.wrap ((k : Int) + 1) = ((k : Int) + 1)) ∧ True) (by kernel_rfl) ⟨(wrap_i64 (e := (k : Int) + 1) (by constructor <;> omega)), trivial⟩ ?_)
        refine A.tn ?_
        refine A.setH [sl ao ((wo a (l.take (k + 1))).length) co 37 3 (V.flat encRw (wo a (l.take (k + 1)))), blk b3 [(i_ x2.ri), (u_ x2.ra), (u_ x2.rb)] 37] (cc (slC (by first | (rw [take_snoc (by assumption), wo_snoc]; simp_all; done) | (simp [wo]; done) | (rw [List.take_of_length_le (by omega)]) : (wo a (l.take k)) = (wo a (l.take (k + 1))))) rfl) ?_
        refine A.sub [(1, (i_ a)), (4, e_), (8, (.slice al l.length cl)), (9, (i_ (l.length : Int))), (10, (i_ ((k : Int) + 1))), (5, (.slice ao ((wo a (l.take (k + 1))).length) co)), (11, (b_ (decide ((k : Int) < (l.length : Int))))), (7, (p_ b3)), (17, (b_ (x2.ri != a)))] (by exact ⟨rfl, rfl, rfl, rfl, rfl, (congrArg (fun z_ : List Rw => some (Value.slice ao z_.length co)) (by first | (rw [take_snoc (by assumption), wo_snoc]; simp_all; done) | (simp [wo]; done) | (rw [List.take_of_length_le (by omega)]) : (wo a (l.take k)) = (wo a (l.take (k + 1))))), rfl, rfl, rfl, trivial⟩) ?_
        refine A.next (k + 1, ao, co) (by first | assumption | omega | (simp_all; done) | (simp_all; omega) | grind) (by first | omega | (simp; omega) | (simp_all; omega)) ?_
        exact A.hereK [0] (by exact ⟨rfl, rfl, rfl, rfl, rfl, rfl, trivial⟩) (by kernel_rfl)
    · skip
      have p1 := of_decide_eq_false e1
      refine A.exit ?_
      refine A.te ?_
      refine A.te ?_
      refine A.bh ?_
      refine A.tn ?_
      refine A.seq ?_
      refine A.region (A.goA [.p, .p] [(1, (i_ a)), (4, (.slice ao ((wo a (l.take k)).length) co)), (8, (.slice al l.length cl)), (9, (i_ (l.length : Int))), (10, (i_ (k : Int))), (5, (.slice ao ((wo a (l.take k)).length) co)), (11, (b_ (decide ((k : Int) < (l.length : Int)))))] [] T0 (by kernel_rfl) trivial ?_)
      refine A.tn ?_
      refine A.ret ?_
      refine A.setH [sl ao ((wo a l).length) co 37 3 (V.flat encRw (wo a l))] (cc (slC (by first | (rw [take_snoc (by assumption), wo_snoc]; simp_all; done) | (simp [wo]; done) | (rw [List.take_of_length_le (by omega)]) : (wo a (l.take k)) = (wo a l))) rfl) ?_
      refine A.postK [0] [(.slice ao ((wo a (l.take k)).length) co)] (fun aa ww rr ss => ⟨rv_tmp rr rfl, trivial⟩) (ao, co) ?_ ?_ (by kernel_rfl)
      · show ((.slice ao ((wo a (l.take k)).length) co) : Value) = (.slice ao ((wo a l).length) co)
        rw [List.take_of_length_le (by omega)]
      · trivial

set_option maxHeartbeats 4000000 in
set_option maxRecDepth 100000 in
theorem wset_spec (al : Option Addr) (l : List Rw) (cl : Nat) (x : Rw) (hl : l.length ≤ 100000) (w : World) (r0 : arrAt w al (V.flat encRw l)) (hs : HS w (feet []) [] w) :
    Calls Try.prog 15 #[(.slice al l.length cl), (.agg #[(i_ x.ri), (u_ x.ra), (u_ x.rb)])] w fun e w' => ∃ zz, e = .returned ((fun (zz : (Option Addr) × Nat) => match zz with | (al', cl') => (.slice al' ((setL x l).length) cl')) zz) ∧ (fun (zz : (Option Addr) × Nat) => match zz with | (al', cl') => True) zz ∧ Turn [] ((fun (zz : (Option Addr) × Nat) => match zz with | (al', cl') => [sl al' ((setL x l).length) cl' 37 3 (V.flat encRw (setL x l))]) zz) w w' := by
  refine calls_of (args := [(.slice al l.length cl), (.agg #[(i_ x.ri), (u_ x.ra), (u_ x.rb)])]) (penv [(.slice al l.length cl), (.agg #[(i_ x.ri), (u_ x.ra), (u_ x.rb)])]) (feet []) [] Try.func15 rfl rfl (look_penv _) hs ?_
  refine A.norm [(0, (.slice al l.length cl)), (1, (.agg #[(i_ x.ri), (u_ x.ra), (u_ x.rb)]))] [] (by exact ⟨rfl, rfl, trivial⟩) rfl ?_
  refine A.seq ?_
  refine A.region (A.goA1 [.al, .p] [0, 1, 3, 4] (fun b1 => [(0, (.slice al l.length cl)), (1, (.agg #[(i_ x.ri), (u_ x.ra), (u_ x.rb)])), (3, (p_ b1)), (4, e_)]) (fun b1 => [blk b1 [(i_ x.ri), (u_ x.ra), (u_ x.rb)] 37]) (fun b1 => []) (fun _ => T0) (fun _ => by kernel_rfl) (fun b1 => trivial) ?_)
  intro b1
  refine A.tn ?_
  refine A.seq ?_
  refine A.region (A.goA [.p] [(0, (.slice al l.length cl)), (1, (.agg #[(i_ x.ri), (u_ x.ra), (u_ x.rb)])), (3, (p_ b1)), (4, e_), (5, e_)] [] T0 (by kernel_rfl) trivial ?_)
  refine A.tn ?_
  refine A.seq ?_
  refine A.region (A.goA [.p] [(0, (.slice al l.length cl)), (1, (.agg #[(i_ x.ri), (u_ x.ra), (u_ x.rb)])), (3, (p_ b1)), (4, e_), (5, e_), (6, (b_ false))] [] T0 (by kernel_rfl) trivial ?_)
  refine A.tn ?_
  refine A.seq ?_
  refine A.seq ?_
  refine A.region (A.goA [.p, .p, .p] [(0, (.slice al l.length cl)), (1, (.agg #[(i_ x.ri), (u_ x.ra), (u_ x.rb)])), (3, (p_ b1)), (4, e_), (5, e_), (6, (b_ false)), (9, (.slice al l.length cl)), (10, (i_ (l.length : Int))), (11, (i_ 0))] [] T0 (by kernel_rfl) trivial ?_)
  refine A.tn ?_
  refine A.block ?_
  refine A.ownNil 37 3 [blk b1 [(i_ x.ri), (u_ x.ra), (u_ x.rb)] 37, sl none (([] : List Rw).length) 0 37 3 (V.flat encRw ([] : List Rw))] rfl ?_
  refine A.sub [(0, (.slice al l.length cl)), (1, (.agg #[(i_ x.ri), (u_ x.ra), (u_ x.rb)])), (3, (p_ b1)), (4, e_), (5, (.slice none (([] : List Rw).length) 0)), (6, (b_ ((sfo x l 0).2))), (9, (.slice al l.length cl)), (10, (i_ (l.length : Int))), (11, (i_ 0))] (by exact ⟨rfl, rfl, rfl, rfl, rfl, (congrArg (fun z_ => some (b_ z_)) (by first | rfl | (rw [sfo_succ (by assumption)]; simp_all; done) | (rw [sfo_succ (by assumption)]; (try simp only [*]); rfl) | ((have hk2 : k = l.length := by omega); subst hk2; unfold setL; simp_all; done) : false = (sfo x l 0).2)), rfl, rfl, rfl, trivial⟩) ?_
  refine A.setH [blk b1 [(i_ x.ri), (u_ x.ra), (u_ x.rb)] 37, sl none (((sfo x l 0).1).length) 0 37 3 (V.flat encRw ((sfo x l 0).1))] (cc rfl (cc (slC (by first | rfl | (rw [sfo_succ (by assumption)]; simp_all; done) | (rw [sfo_succ (by assumption)]; (try simp only [*]); rfl) | ((have hk2 : k = l.length := by omega); subst hk2; unfold setL; simp_all; done) : ([] : List Rw) = (sfo x l 0).1)) rfl)) ?_
  refine A.sub [(0, (.slice al l.length cl)), (1, (.agg #[(i_ x.ri), (u_ x.ra), (u_ x.rb)])), (3, (p_ b1)), (4, e_), (5, (.slice none (((sfo x l 0).1).length) 0)), (6, (b_ ((sfo x l 0).2))), (9, (.slice al l.length cl)), (10, (i_ (l.length : Int))), (11, (i_ 0))] (by exact ⟨rfl, rfl, rfl, rfl, (congrArg (fun z_ : List Rw => some (Value.slice none z_.length 0)) (by first | rfl | (rw [sfo_succ (by assumption)]; simp_all; done) | (rw [sfo_succ (by assumption)]; (try simp only [*]); rfl) | ((have hk2 : k = l.length := by omega); subst hk2; unfold setL; simp_all; done) : ([] : List Rw) = (sfo x l 0).1)), rfl, rfl, rfl, rfl, trivial⟩) ?_
  refine A.loop (fun (zz : Nat × (Option Addr) × Nat) => match zz with | (k, ao, co) => [(3, (p_ b1)), (4, e_), (9, (.slice al l.length cl)), (10, (i_ (l.length : Int))), (11, (i_ (k : Int))), (5, (.slice ao (((sfo x l k).1).length) co)), (6, (b_ ((sfo x l k).2)))]) (fun (zz : Nat × (Option Addr) × Nat) => match zz with | (k, ao, co) => [sl ao (((sfo x l k).1).length) co 37 3 (V.flat encRw ((sfo x l k).1)), blk b1 [(i_ x.ri), (u_ x.ra), (u_ x.rb)] 37]) (fun (zz : Nat × (Option Addr) × Nat) => match zz with | (k, ao, co) => (k ≤ l.length)) (fun (zz : Nat × (Option Addr) × Nat) => match zz with | (k, ao, co) => l.length - k) (0, none, 0) (by first | assumption | omega | (simp_all; done) | (simp_all; omega) | grind) ?_ ?_
  · exact A.hereK [1, 0] (by exact ⟨rfl, rfl, rfl, rfl, rfl, rfl, rfl, trivial⟩) (by kernel_rfl)
  · rintro ⟨k, ao, co⟩ hk
    have hk : k ≤ l.length := hk
    have hsl := sfo_len1 x l k
    refine A.norm [(3, (p_ b1)), (4, e_), (9, (.slice al l.length cl)), (10, (i_ (l.length : Int))), (11, (i_ (k : Int))), (5, (.slice ao (((sfo x l k).1).length) co)), (6, (b_ ((sfo x l k).2)))] [sl ao (((sfo x l k).1).length) co 37 3 (V.flat encRw ((sfo x l k).1)), blk b1 [(i_ x.ri), (u_ x.ra), (u_ x.rb)] 37] (by exact ⟨rfl, rfl, rfl, rfl, rfl, rfl, rfl, trivial⟩) rfl ?_
    refine A.seq ?_
    refine A.region (A.goA [.p] [(3, (p_ b1)), (4, e_), (9, (.slice al l.length cl)), (10, (i_ (l.length : Int))), (11, (i_ (k : Int))), (5, (.slice ao (((sfo x l k).1).length) co)), (6, (b_ ((sfo x l k).2))), (12, (b_ (decide ((k : Int) < (l.length : Int)))))] [] T0 (by kernel_rfl) trivial ?_)
    refine A.tn ?_
    refine A.seq ?_
    refine A.cond (E := decide ((k : Int) < (l.length : Int))) rfl (fun e1 => ?_) (fun e1 => ?_)
    · skip
      have p1 := of_decide_eq_true e1
      refine A.skip ?_
      refine A.tn ?_
      refine A.seq ?_
      refine A.block ?_
      refine A.seq ?_
      refine A.region (A.goP [.ix] [(3, (p_ b1)), (4, e_), (9, (.slice al l.length cl)), (10, (i_ (l.length : Int))), (11, (i_ (k : Int))), (5, (.slice ao (((sfo x l k).1).length) co)), (6, (b_ ((sfo x l k).2))), (12, (b_ (decide ((k : Int) < (l.length : Int))))), (13, (.pointer (some ((at0 al).add (k * 3)))))] [] (fun κ => κ.ix al l.length (k : Int) ∧ True) (by kernel_rfl) ⟨(ixOf encRw_len (by decide) (rd_old r0 (by simp [feet])) (by first | omega | (simp; done))), trivial⟩ ?_)
      obtain ⟨x3, hx3⟩ : ∃ x, (l)[k]? = some x := ⟨_, List.getElem?_eq_getElem (by omega)⟩
      refine A.goA1 [.rd [(i_ x3.ri), (u_ x3.ra), (u_ x3.rb)], .al, .st 2] [3, 4, 9, 10, 11, 5, 6, 12, 8] (fun b4 => [(3, (p_ b1)), (4, e_), (9, (.slice al l.length cl)), (10, (i_ (l.length : Int))), (11, (i_ (k : Int))), (5, (.slice ao (((sfo x l k).1).length) co)), (6, (b_ ((sfo x l k).2))), (12, (b_ (decide ((k : Int) < (l.length : Int))))), (8, (p_ b4))]) (fun b4 => [sl ao (((sfo x l k).1).length) co 37 3 (V.flat encRw ((sfo x l k).1)), blk b1 [(i_ x.ri), (u_ x.ra), (u_ x.rb)] 37, blk b4 [(i_ x3.ri), (u_ x3.ra), (u_ x3.rb)] 37]) (fun b4 => [b4]) (fun _ => (fun κ => κ.rd ((at0 al).add (k * 3)) [(i_ x3.ri), (u_ x3.ra), (u_ x3.rb)] ∧ True)) (fun _ => by kernel_rfl) (fun b4 => ⟨(reads_at0 (vs := [(i_ x3.ri), (u_ x3.ra), (u_ x3.rb)]) encRw_len (rd_old r0 (by simp [feet])) hx3 (by simp) rfl), trivial⟩) ?_
      intro b4
      refine A.tn ?_
      refine A.seq ?_
      refine A.seq ?_
      refine A.region (A.goA [.p, .p, .p, .o, .p, .ld 2, .p, .ld 1, .p, .cl] [(3, (p_ b1)), (4, e_), (9, (.slice al l.length cl)), (10, (i_ (l.length : Int))), (11, (i_ (k : Int))), (5, (.slice ao (((sfo x l k).1).length) co)), (6, (b_ ((sfo x l k).2))), (12, (b_ (decide ((k : Int) < (l.length : Int))))), (8, (p_ b4)), (23, (b_ ((!((sfo x l k).2)) && (decide (x3.ri ≥ x.ri)))))] [b4, b1] T0 (by kernel_rfl) trivial ?_)
      refine A.tn ?_
      refine A.cond (E := (!((sfo x l k).2)) && (decide (x3.ri ≥ x.ri))) rfl (fun e2 => ?_) (fun e2 => ?_)
      · skip
        have p2 := e2; try simp only [decide_eq_true_eq, decide_eq_false_iff_not, beq_iff_eq, beq_eq_false_iff_ne, bne_iff_ne, bne_eq_false_iff_eq, ne_eq, Bool.and_eq_true, Bool.or_eq_true, Bool.or_eq_false_iff, Bool.not_eq_true', Bool.not_eq_false', Int.not_lt, Int.not_le, gt_iff_lt, ge_iff_le, Classical.not_not] at p2
        refine A.seq ?_
        refine A.region (A.goP [.p, .ld 1] [(3, (p_ b1)), (4, e_), (9, (.slice al l.length cl)), (10, (i_ (l.length : Int))), (11, (i_ (k : Int))), (5, (.slice ao (((sfo x l k).1).length) co)), (6, (b_ ((sfo x l k).2))), (12, (b_ (decide ((k : Int) < (l.length : Int))))), (8, (p_ b4)), (23, (b_ ((!((sfo x l k).2)) && (decide (x3.ri ≥ x.ri))))), (24, (.slice ao (((sfo x l k).1).length) co)), (25, (.agg #[(i_ x.ri), (u_ x.ra), (u_ x.rb)]))] [b1] T0 (by kernel_rfl) trivial ?_)
        refine A.cons (A.buildSlice 26 (e := 37) [(i_ x.ri), (u_ x.ra), (u_ x.rb)] (by kernel_rfl) rfl (fun _ => by kernel_rfl) (fun b5 => [sl ao (((sfo x l k).1).length) co 37 3 (V.flat encRw ((sfo x l k).1)), blk b1 [(i_ x.ri), (u_ x.ra), (u_ x.rb)] 37, blk b4 [(i_ x3.ri), (u_ x3.ra), (u_ x3.rb)] 37, blk b5 [(i_ x.ri), (u_ x.ra), (u_ x.rb)] 37]) (fun _ => rfl) ?_)
        intro b5
        refine A.cons (A.appendC (enc := encRw) (xs := (sfo x l k).1) ([x]) 0 27 (e := 37) (z := (.agg #[(i_ 0), (u_ 0), (u_ 0)])) (sz := 3) (by_ := 24) (by kernel_rfl) rfl rfl rfl (by kernel_rfl) (by kernel_rfl) (by rfl) (by decide) encRw_len encRw_one rfl (rd_blk (i := 3) rfl) (by simp; omega) (fun A6 c6 => [sl A6 ((((sfo x l k).1) ++ ([x])).length) c6 37 3 (V.flat encRw (((sfo x l k).1) ++ ([x]))), blk b1 [(i_ x.ri), (u_ x.ra), (u_ x.rb)] 37, blk b4 [(i_ x3.ri), (u_ x3.ra), (u_ x3.rb)] 37, blk b5 [(i_ x.ri), (u_ x.ra), (u_ x.rb)] 37]) (fun _ _ => rfl) ?_)
        intro A6 c6
        refine A.goA [.p] [(3, (p_ b1)), (4, e_), (9, (.slice al l.length cl)), (10, (i_ (l.length : Int))), (11, (i_ (k : Int))), (5, (.slice A6 ((((sfo x l k).1) ++ ([x])).length) c6)), (6, (b_ ((sfo x l k).2))), (12, (b_ (decide ((k : Int) < (l.length : Int))))), (8, (p_ b4)), (23, (b_ ((!((sfo x l k).2)) && (decide (x3.ri ≥ x.ri)))))] [] T0 (by kernel_rfl) trivial ?_
        refine A.tn ?_
        refine A.region (A.goA [.p] [(3, (p_ b1)), (4, e_), (9, (.slice al l.length cl)), (10, (i_ (l.length : Int))), (11, (i_ (k : Int))), (5, (.slice A6 ((((sfo x l k).1) ++ ([x])).length) c6)), (6, (b_ true)), (12, (b_ (decide ((k : Int) < (l.length : Int))))), (8, (p_ b4)), (23, (b_ ((!((sfo x l k).2)) && (decide (x3.ri ≥ x.ri)))))] [] T0 (by kernel_rfl) trivial ?_)
        refine A.tn ?_
        refine A.seq ?_
        refine A.region (A.goA [.p, .ld 2, .p, .ld 1, .p] [(3, (p_ b1)), (4, e_), (9, (.slice al l.length cl)), (10, (i_ (l.length : Int))), (11, (i_ (k : Int))), (5, (.slice A6 ((((sfo x l k).1) ++ ([x])).length) c6)), (6, (b_ true)), (12, (b_ (decide ((k : Int) < (l.length : Int))))), (8, (p_ b4)), (23, (b_ ((!((sfo x l k).2)) && (decide (x3.ri ≥ x.ri))))), (32, (b_ (x3.ri != x.ri)))] [b4, b1] T0 (by kernel_rfl) trivial ?_)
        refine A.tn ?_
        refine A.cond (E := x3.ri != x.ri) rfl (fun e3 => ?_) (fun e3 => ?_)
        · skip
          have p3 := e3; try simp only [decide_eq_true_eq, decide_eq_false_iff_not, beq_iff_eq, beq_eq_false_iff_ne, bne_iff_ne, bne_eq_false_iff_eq, ne_eq, Bool.and_eq_true, Bool.or_eq_true, Bool.or_eq_false_iff, Bool.not_eq_true', Bool.not_eq_false', Int.not_lt, Int.not_le, gt_iff_lt, ge_iff_le, Classical.not_not] at p3
          refine A.region (A.goP [.p, .ld 2] [(3, (p_ b1)), (4, e_), (9, (.slice al l.length cl)), (10, (i_ (l.length : Int))), (11, (i_ (k : Int))), (5, (.slice A6 ((((sfo x l k).1) ++ ([x])).length) c6)), (6, (b_ true)), (12, (b_ (decide ((k : Int) < (l.length : Int))))), (8, (p_ b4)), (23, (b_ ((!((sfo x l k).2)) && (decide (x3.ri ≥ x.ri))))), (32, (b_ (x3.ri != x.ri))), (33, (.slice A6 ((((sfo x l k).1) ++ ([x])).length) c6)), (34, (.agg #[(i_ x3.ri), (u_ x3.ra), (u_ x3.rb)]))] [b4] T0 (by kernel_rfl) trivial ?_)
          refine A.cons (A.buildSlice 35 (e := 37) [(i_ x3.ri), (u_ x3.ra), (u_ x3.rb)] (by kernel_rfl) rfl (fun _ => by kernel_rfl) (fun b7 => [sl A6 ((((sfo x l k).1) ++ ([x])).length) c6 37 3 (V.flat encRw (((sfo x l k).1) ++ ([x]))), blk b1 [(i_ x.ri), (u_ x.ra), (u_ x.rb)] 37, blk b4 [(i_ x3.ri), (u_ x3.ra), (u_ x3.rb)] 37, blk b5 [(i_ x.ri), (u_ x.ra), (u_ x.rb)] 37, blk b7 [(i_ x3.ri), (u_ x3.ra), (u_ x3.rb)] 37]) (fun _ => rfl) ?_)
          intro b7
          refine A.cons (A.appendC (enc := encRw) (xs := ((sfo x l k).1) ++ ([x])) ([x3]) 0 36 (e := 37) (z := (.agg #[(i_ 0), (u_ 0), (u_ 0)])) (sz := 3) (by_ := 24) (by kernel_rfl) rfl rfl rfl (by kernel_rfl) (by kernel_rfl) (by rfl) (by decide) encRw_len encRw_one rfl (rd_blk (i := 4) rfl) (by simp; omega) (fun A8 c8 => [sl A8 (((((sfo x l k).1) ++ ([x])) ++ ([x3])).length) c8 37 3 (V.flat encRw ((((sfo x l k).1) ++ ([x])) ++ ([x3]))), blk b1 [(i_ x.ri), (u_ x.ra), (u_ x.rb)] 37, blk b4 [(i_ x3.ri), (u_ x3.ra), (u_ x3.rb)] 37, blk b5 [(i_ x.ri), (u_ x.ra), (u_ x.rb)] 37, blk b7 [(i_ x3.ri), (u_ x3.ra), (u_ x3.rb)] 37]) (fun _ _ => rfl) ?_)
          intro A8 c8
          refine A.goA [.p] [(3, (p_ b1)), (4, e_), (9, (.slice al l.length cl)), (10, (i_ (l.length : Int))), (11, (i_ (k : Int))), (5, (.slice A8 (((((sfo x l k).1) ++ ([x])) ++ ([x3])).length) c8)), (6, (b_ true)), (12, (b_ (decide ((k : Int) < (l.length : Int))))), (8, (p_ b4)), (23, (b_ ((!((sfo x l k).2)) && (decide (x3.ri ≥ x.ri))))), (32, (b_ (x3.ri != x.ri)))] [] T0 (by kernel_rfl) trivial ?_
          refine A.bn ?_
          refine A.tn ?_
          refine A.region (A.goA [.w ((k : Int) + 1), .p] [(3, (p_ b1)), (4, e_), (9, (.slice al l.length cl)), (10, (i_ (l.length : Int))), (11, (i_ ((k : Int) + 1))), (5, (.slice A8 (((((sfo x l k).1) ++ ([x])) ++ ([x3])).length) c8)), (6, (b_ true)), (12, (b_ (decide ((k : Int) < (l.length : Int))))), (8, (p_ b4)), (23, (b_ ((!((sfo x l k).2)) && (decide (x3.ri ≥ x.ri))))), (32, (b_ (x3.ri != x.ri)))] [] (fun κ => (IntKind.i64.wrap ((k : Int) + 1) = ((k : Int) + 1)) ∧ True) (by kernel_rfl) ⟨(wrap_i64 (e := (k : Int) + 1) (by constructor <;> omega)), trivial⟩ ?_)
          refine A.tn ?_
          refine A.sub [(3, (p_ b1)), (4, e_), (9, (.slice al l.length cl)), (10, (i_ (l.length : Int))), (11, (i_ ((k : Int) + 1))), (5, (.slice A8 (((((sfo x l k).1) ++ ([x])) ++ ([x3])).length) c8)), (6, (b_ ((sfo x l (k + 1)).2))), (12, (b_ (decide ((k : Int) < (l.length : Int))))), (8, (p_ b4)), (23, (b_ ((!((sfo x l k).2)) && (decide (x3.ri ≥ x.ri))))), (32, (b_ (x3.ri != x.ri)))] (by exact ⟨rfl, rfl, rfl, rfl, rfl, rfl, (congrArg (fun z_ => some (b_ z_)) (by first | rfl | (rw [sfo_succ (by assumption)]; simp_all; done) | (rw [sfo_succ (by assumption)]; (try simp only [*]); rfl) | ((have hk2 : k = l.length := by omega); subst hk2; unfold setL; simp_all; done) : true = (sfo x l (k + 1)).2)), rfl, rfl, rfl, rfl, trivial⟩) ?_
          refine A.setH [sl A8 (((sfo x l (k + 1)).1).length) c8 37 3 (V.flat encRw ((sfo x l (k + 1)).1)), blk b1 [(i_ x.ri), (u_ x.ra), (u_ x.rb)] 37, blk b4 [(i_ x3.ri), (u_ x3.ra), (u_ x3.rb)] 37, blk b5 [(i_ x.ri), (u_ x.ra), (u_ x.rb)] 37, blk b7 [(i_ x3.ri), (u_ x3.ra), (u_ x3.rb)] 37] (cc (slC (by first | rfl | (rw [sfo_succ (by assumption)]; simp_all; done) | (rw [sfo_succ (by assumption)]; (try simp only [*]); rfl) | ((have hk2 : k = l.length := by omega); subst hk2; unfold setL; simp_all; done) : (((sfo x l k).1) ++ ([x])) ++ ([x3]) = (sfo x l (k + 1)).1)) rfl) ?_
          refine A.sub [(3, (p_ b1)), (4, e_), (9, (.slice al l.length cl)), (10, (i_ (l.length : Int))), (11, (i_ ((k : Int) + 1))), (5, (.slice A8 (((sfo x l (k + 1)).1).length) c8)), (6, (b_ ((sfo x l (k + 1)).2))), (12, (b_ (decide ((k : Int) < (l.length : Int))))), (8, (p_ b4)), (23, (b_ ((!((sfo x l k).2)) && (decide (x3.ri ≥ x.ri))))), (32, (b_ (x3.ri != x.ri)))] (by exact ⟨rfl, rfl, rfl, rfl, rfl, (congrArg (fun z_ : List Rw => some (Value.slice A8 z_.length c8)) (by first | rfl | (rw [sfo_succ (by assumption)]; simp_all; done) | (rw [sfo_succ (by assumption)]; (try simp only [*]); rfl) | ((have hk2 : k = l.length := by omega); subst hk2; unfold setL; simp_all; done) : (((sfo x l k).1) ++ ([x])) ++ ([x3]) = (sfo x l (k + 1)).1)), rfl, rfl, rfl, rfl, rfl, trivial⟩) ?_
          refine A.next (k + 1, A8, c8) (by first | assumption | omega | (simp_all; done) | (simp_all; omega) | grind) (by first | omega | (simp; omega) | (simp_all; omega)) ?_
          exact A.hereK [0, 0] (by exact ⟨rfl, rfl, rfl, rfl, rfl, rfl, rfl, trivial⟩) (by kernel_rfl)
        · skip
          have p3 := e3; try simp only [decide_eq_true_eq, decide_eq_false_iff_not, beq_iff_eq, beq_eq_false_iff_ne, bne_iff_ne, bne_eq_false_iff_eq, ne_eq, Bool.and_eq_true, Bool.or_eq_true, Bool.or_eq_false_iff, Bool.not_eq_true', Bool.not_eq_false', Int.not_lt, Int.not_le, gt_iff_lt, ge_iff_le, Classical.not_not] at p3
          refine A.skip ?_
          refine A.bn ?_
          refine A.tn ?_
          refine A.region (A.goA [.w ((k : Int) + 1), .p] [(3, (p_ b1)), (4, e_), (9, (.slice al l.length cl)), (10, (i_ (l.length : Int))), (11, (i_ ((k : Int) + 1))), (5, (.slice A6 ((((sfo x l k).1) ++ ([x])).length) c6)), (6, (b_ true)), (12, (b_ (decide ((k : Int) < (l.length : Int))))), (8, (p_ b4)), (23, (b_ ((!((sfo x l k).2)) && (decide (x3.ri ≥ x.ri))))), (32, (b_ (x3.ri != x.ri)))] [] (fun κ => (IntKind.i64.wrap ((k : Int) + 1) = ((k : Int) + 1)) ∧ True) (by kernel_rfl) ⟨(wrap_i64 (e := (k : Int) + 1) (by constructor <;> omega)), trivial⟩ ?_)
          refine A.tn ?_
          refine A.sub [(3, (p_ b1)), (4, e_), (9, (.slice al l.length cl)), (10, (i_ (l.length : Int))), (11, (i_ ((k : Int) + 1))), (5, (.slice A6 ((((sfo x l k).1) ++ ([x])).length) c6)), (6, (b_ ((sfo x l (k + 1)).2))), (12, (b_ (decide ((k : Int) < (l.length : Int))))), (8, (p_ b4)), (23, (b_ ((!((sfo x l k).2)) && (decide (x3.ri ≥ x.ri))))), (32, (b_ (x3.ri != x.ri)))] (by exact ⟨rfl, rfl, rfl, rfl, rfl, rfl, (congrArg (fun z_ => some (b_ z_)) (by first | rfl | (rw [sfo_succ (by assumption)]; simp_all; done) | (rw [sfo_succ (by assumption)]; (try simp only [*]); rfl) | ((have hk2 : k = l.length := by omega); subst hk2; unfold setL; simp_all; done) : true = (sfo x l (k + 1)).2)), rfl, rfl, rfl, rfl, trivial⟩) ?_
          refine A.setH [sl A6 (((sfo x l (k + 1)).1).length) c6 37 3 (V.flat encRw ((sfo x l (k + 1)).1)), blk b1 [(i_ x.ri), (u_ x.ra), (u_ x.rb)] 37, blk b4 [(i_ x3.ri), (u_ x3.ra), (u_ x3.rb)] 37, blk b5 [(i_ x.ri), (u_ x.ra), (u_ x.rb)] 37] (cc (slC (by first | rfl | (rw [sfo_succ (by assumption)]; simp_all; done) | (rw [sfo_succ (by assumption)]; (try simp only [*]); rfl) | ((have hk2 : k = l.length := by omega); subst hk2; unfold setL; simp_all; done) : ((sfo x l k).1) ++ ([x]) = (sfo x l (k + 1)).1)) rfl) ?_
          refine A.sub [(3, (p_ b1)), (4, e_), (9, (.slice al l.length cl)), (10, (i_ (l.length : Int))), (11, (i_ ((k : Int) + 1))), (5, (.slice A6 (((sfo x l (k + 1)).1).length) c6)), (6, (b_ ((sfo x l (k + 1)).2))), (12, (b_ (decide ((k : Int) < (l.length : Int))))), (8, (p_ b4)), (23, (b_ ((!((sfo x l k).2)) && (decide (x3.ri ≥ x.ri))))), (32, (b_ (x3.ri != x.ri)))] (by exact ⟨rfl, rfl, rfl, rfl, rfl, (congrArg (fun z_ : List Rw => some (Value.slice A6 z_.length c6)) (by first | rfl | (rw [sfo_succ (by assumption)]; simp_all; done) | (rw [sfo_succ (by assumption)]; (try simp only [*]); rfl) | ((have hk2 : k = l.length := by omega); subst hk2; unfold setL; simp_all; done) : ((sfo x l k).1) ++ ([x]) = (sfo x l (k + 1)).1)), rfl, rfl, rfl, rfl, rfl, trivial⟩) ?_
          refine A.next (k + 1, A6, c6) (by first | assumption | omega | (simp_all; done) | (simp_all; omega) | grind) (by first | omega | (simp; omega) | (simp_all; omega)) ?_
          exact A.hereK [0, 0] (by exact ⟨rfl, rfl, rfl, rfl, rfl, rfl, rfl, trivial⟩) (by kernel_rfl)
      · skip
        have p2 := e2; try simp only [decide_eq_true_eq, decide_eq_false_iff_not, beq_iff_eq, beq_eq_false_iff_ne, bne_iff_ne, bne_eq_false_iff_eq, ne_eq, Bool.and_eq_true, Bool.or_eq_true, Bool.or_eq_false_iff, Bool.not_eq_true', Bool.not_eq_false', Int.not_lt, Int.not_le, gt_iff_lt, ge_iff_le, Classical.not_not] at p2
        refine A.skip ?_
        refine A.tn ?_
        refine A.seq ?_
        refine A.region (A.goA [.p, .ld 2, .p, .ld 1, .p] [(3, (p_ b1)), (4, e_), (9, (.slice al l.length cl)), (10, (i_ (l.length : Int))), (11, (i_ (k : Int))), (5, (.slice ao (((sfo x l k).1).length) co)), (6, (b_ ((sfo x l k).2))), (12, (b_ (decide ((k : Int) < (l.length : Int))))), (8, (p_ b4)), (23, (b_ ((!((sfo x l k).2)) && (decide (x3.ri ≥ x.ri))))), (32, (b_ (x3.ri != x.ri)))] [b4, b1] T0 (by kernel_rfl) trivial ?_)
        refine A.tn ?_
        refine A.cond (E := x3.ri != x.ri) rfl (fun e4 => ?_) (fun e4 => ?_)
        · skip
          have p4 := e4; try simp only [decide_eq_true_eq, decide_eq_false_iff_not, beq_iff_eq, beq_eq_false_iff_ne, bne_iff_ne, bne_eq_false_iff_eq, ne_eq, Bool.and_eq_true, Bool.or_eq_true, Bool.or_eq_false_iff, Bool.not_eq_true', Bool.not_eq_false', Int.not_lt, Int.not_le, gt_iff_lt, ge_iff_le, Classical.not_not] at p4
          refine A.region (A.goP [.p, .ld 2] [(3, (p_ b1)), (4, e_), (9, (.slice al l.length cl)), (10, (i_ (l.length : Int))), (11, (i_ (k : Int))), (5, (.slice ao (((sfo x l k).1).length) co)), (6, (b_ ((sfo x l k).2))), (12, (b_ (decide ((k : Int) < (l.length : Int))))), (8, (p_ b4)), (23, (b_ ((!((sfo x l k).2)) && (decide (x3.ri ≥ x.ri))))), (32, (b_ (x3.ri != x.ri))), (33, (.slice ao (((sfo x l k).1).length) co)), (34, (.agg #[(i_ x3.ri), (u_ x3.ra), (u_ x3.rb)]))] [b4] T0 (by kernel_rfl) trivial ?_)
          refine A.cons (A.buildSlice 35 (e := 37) [(i_ x3.ri), (u_ x3.ra), (u_ x3.rb)] (by kernel_rfl) rfl (fun _ => by kernel_rfl) (fun b9 => [sl ao (((sfo x l k).1).length) co 37 3 (V.flat encRw ((sfo x l k).1)), blk b1 [(i_ x.ri), (u_ x.ra), (u_ x.rb)] 37, blk b4 [(i_ x3.ri), (u_ x3.ra), (u_ x3.rb)] 37, blk b9 [(i_ x3.ri), (u_ x3.ra), (u_ x3.rb)] 37]) (fun _ => rfl) ?_)
          intro b9
          refine A.cons (A.appendC (enc := encRw) (xs := (sfo x l k).1) ([x3]) 0 36 (e := 37) (z := (.agg #[(i_ 0), (u_ 0), (u_ 0)])) (sz := 3) (by_ := 24) (by kernel_rfl) rfl rfl rfl (by kernel_rfl) (by kernel_rfl) (by rfl) (by decide) encRw_len encRw_one rfl (rd_blk (i := 3) rfl) (by simp; omega) (fun A10 c10 => [sl A10 ((((sfo x l k).1) ++ ([x3])).length) c10 37 3 (V.flat encRw (((sfo x l k).1) ++ ([x3]))), blk b1 [(i_ x.ri), (u_ x.ra), (u_ x.rb)] 37, blk b4 [(i_ x3.ri), (u_ x3.ra), (u_ x3.rb)] 37, blk b9 [(i_ x3.ri), (u_ x3.ra), (u_ x3.rb)] 37]) (fun _ _ => rfl) ?_)
          intro A10 c10
          refine A.goA [.p] [(3, (p_ b1)), (4, e_), (9, (.slice al l.length cl)), (10, (i_ (l.length : Int))), (11, (i_ (k : Int))), (5, (.slice A10 ((((sfo x l k).1) ++ ([x3])).length) c10)), (6, (b_ ((sfo x l k).2))), (12, (b_ (decide ((k : Int) < (l.length : Int))))), (8, (p_ b4)), (23, (b_ ((!((sfo x l k).2)) && (decide (x3.ri ≥ x.ri))))), (32, (b_ (x3.ri != x.ri)))] [] T0 (by kernel_rfl) trivial ?_
          refine A.bn ?_
          refine A.tn ?_
          refine A.region (A.goA [.w ((k : Int) + 1), .p] [(3, (p_ b1)), (4, e_), (9, (.slice al l.length cl)), (10, (i_ (l.length : Int))), (11, (i_ ((k : Int) + 1))), (5, (.slice A10 ((((sfo x l k).1) ++ ([x3])).length) c10)), (6, (b_ ((sfo x l k).2))), (12, (b_ (decide ((k : Int) < (l.length : Int))))), (8, (p_ b4)), (23, (b_ ((!((sfo x l k).2)) && (decide (x3.ri ≥ x.ri))))), (32, (b_ (x3.ri != x.ri)))] [] (fun κ => (IntKind.i64.wrap ((k : Int) + 1) = ((k : Int) + 1)) ∧ True) (by kernel_rfl) ⟨(wrap_i64 (e := (k : Int) + 1) (by constructor <;> omega)), trivial⟩ ?_)
          refine A.tn ?_
          refine A.sub [(3, (p_ b1)), (4, e_), (9, (.slice al l.length cl)), (10, (i_ (l.length : Int))), (11, (i_ ((k : Int) + 1))), (5, (.slice A10 ((((sfo x l k).1) ++ ([x3])).length) c10)), (6, (b_ ((sfo x l (k + 1)).2))), (12, (b_ (decide ((k : Int) < (l.length : Int))))), (8, (p_ b4)), (23, (b_ ((!((sfo x l k).2)) && (decide (x3.ri ≥ x.ri))))), (32, (b_ (x3.ri != x.ri)))] (by exact ⟨rfl, rfl, rfl, rfl, rfl, rfl, (congrArg (fun z_ => some (b_ z_)) (by first | rfl | (rw [sfo_succ (by assumption)]; simp_all; done) | (rw [sfo_succ (by assumption)]; (try simp only [*]); rfl) | ((have hk2 : k = l.length := by omega); subst hk2; unfold setL; simp_all; done) : (sfo x l k).2 = (sfo x l (k + 1)).2)), rfl, rfl, rfl, rfl, trivial⟩) ?_
          refine A.setH [sl A10 (((sfo x l (k + 1)).1).length) c10 37 3 (V.flat encRw ((sfo x l (k + 1)).1)), blk b1 [(i_ x.ri), (u_ x.ra), (u_ x.rb)] 37, blk b4 [(i_ x3.ri), (u_ x3.ra), (u_ x3.rb)] 37, blk b9 [(i_ x3.ri), (u_ x3.ra), (u_ x3.rb)] 37] (cc (slC (by first | rfl | (rw [sfo_succ (by assumption)]; simp_all; done) | (rw [sfo_succ (by assumption)]; (try simp only [*]); rfl) | ((have hk2 : k = l.length := by omega); subst hk2; unfold setL; simp_all; done) : ((sfo x l k).1) ++ ([x3]) = (sfo x l (k + 1)).1)) rfl) ?_
          refine A.sub [(3, (p_ b1)), (4, e_), (9, (.slice al l.length cl)), (10, (i_ (l.length : Int))), (11, (i_ ((k : Int) + 1))), (5, (.slice A10 (((sfo x l (k + 1)).1).length) c10)), (6, (b_ ((sfo x l (k + 1)).2))), (12, (b_ (decide ((k : Int) < (l.length : Int))))), (8, (p_ b4)), (23, (b_ ((!((sfo x l k).2)) && (decide (x3.ri ≥ x.ri))))), (32, (b_ (x3.ri != x.ri)))] (by exact ⟨rfl, rfl, rfl, rfl, rfl, (congrArg (fun z_ : List Rw => some (Value.slice A10 z_.length c10)) (by first | rfl | (rw [sfo_succ (by assumption)]; simp_all; done) | (rw [sfo_succ (by assumption)]; (try simp only [*]); rfl) | ((have hk2 : k = l.length := by omega); subst hk2; unfold setL; simp_all; done) : ((sfo x l k).1) ++ ([x3]) = (sfo x l (k + 1)).1)), rfl, rfl, rfl, rfl, rfl, trivial⟩) ?_
          refine A.next (k + 1, A10, c10) (by first | assumption | omega | (simp_all; done) | (simp_all; omega) | grind) (by first | omega | (simp; omega) | (simp_all; omega)) ?_
          exact A.hereK [0, 0] (by exact ⟨rfl, rfl, rfl, rfl, rfl, rfl, rfl, trivial⟩) (by kernel_rfl)
        · skip
          have p4 := e4; try simp only [decide_eq_true_eq, decide_eq_false_iff_not, beq_iff_eq, beq_eq_false_iff_ne, bne_iff_ne, bne_eq_false_iff_eq, ne_eq, Bool.and_eq_true, Bool.or_eq_true, Bool.or_eq_false_iff, Bool.not_eq_true', Bool.not_eq_false', Int.not_lt, Int.not_le, gt_iff_lt, ge_iff_le, Classical.not_not] at p4
          refine A.skip ?_
          refine A.bn ?_
          refine A.tn ?_
          refine A.region (A.goA [.w ((k : Int) + 1), .p] [(3, (p_ b1)), (4, e_), (9, (.slice al l.length cl)), (10, (i_ (l.length : Int))), (11, (i_ ((k : Int) + 1))), (5, (.slice ao (((sfo x l k).1).length) co)), (6, (b_ ((sfo x l k).2))), (12, (b_ (decide ((k : Int) < (l.length : Int))))), (8, (p_ b4)), (23, (b_ ((!((sfo x l k).2)) && (decide (x3.ri ≥ x.ri))))), (32, (b_ (x3.ri != x.ri)))] [] (fun κ => (IntKind.i64.wrap ((k : Int) + 1) = ((k : Int) + 1)) ∧ True) (by kernel_rfl) ⟨(wrap_i64 (e := (k : Int) + 1) (by constructor <;> omega)), trivial⟩ ?_)
          refine A.tn ?_
          refine A.sub [(3, (p_ b1)), (4, e_), (9, (.slice al l.length cl)), (10, (i_ (l.length : Int))), (11, (i_ ((k : Int) + 1))), (5, (.slice ao (((sfo x l k).1).length) co)), (6, (b_ ((sfo x l (k + 1)).2))), (12, (b_ (decide ((k : Int) < (l.length : Int))))), (8, (p_ b4)), (23, (b_ ((!((sfo x l k).2)) && (decide (x3.ri ≥ x.ri))))), (32, (b_ (x3.ri != x.ri)))] (by exact ⟨rfl, rfl, rfl, rfl, rfl, rfl, (congrArg (fun z_ => some (b_ z_)) (by first | rfl | (rw [sfo_succ (by assumption)]; simp_all; done) | (rw [sfo_succ (by assumption)]; (try simp only [*]); rfl) | ((have hk2 : k = l.length := by omega); subst hk2; unfold setL; simp_all; done) : (sfo x l k).2 = (sfo x l (k + 1)).2)), rfl, rfl, rfl, rfl, trivial⟩) ?_
          refine A.setH [sl ao (((sfo x l (k + 1)).1).length) co 37 3 (V.flat encRw ((sfo x l (k + 1)).1)), blk b1 [(i_ x.ri), (u_ x.ra), (u_ x.rb)] 37, blk b4 [(i_ x3.ri), (u_ x3.ra), (u_ x3.rb)] 37] (cc (slC (by first | rfl | (rw [sfo_succ (by assumption)]; simp_all; done) | (rw [sfo_succ (by assumption)]; (try simp only [*]); rfl) | ((have hk2 : k = l.length := by omega); subst hk2; unfold setL; simp_all; done) : (sfo x l k).1 = (sfo x l (k + 1)).1)) rfl) ?_
          refine A.sub [(3, (p_ b1)), (4, e_), (9, (.slice al l.length cl)), (10, (i_ (l.length : Int))), (11, (i_ ((k : Int) + 1))), (5, (.slice ao (((sfo x l (k + 1)).1).length) co)), (6, (b_ ((sfo x l (k + 1)).2))), (12, (b_ (decide ((k : Int) < (l.length : Int))))), (8, (p_ b4)), (23, (b_ ((!((sfo x l k).2)) && (decide (x3.ri ≥ x.ri))))), (32, (b_ (x3.ri != x.ri)))] (by exact ⟨rfl, rfl, rfl, rfl, rfl, (congrArg (fun z_ : List Rw => some (Value.slice ao z_.length co)) (by first | rfl | (rw [sfo_succ (by assumption)]; simp_all; done) | (rw [sfo_succ (by assumption)]; (try simp only [*]); rfl) | ((have hk2 : k = l.length := by omega); subst hk2; unfold setL; simp_all; done) : (sfo x l k).1 = (sfo x l (k + 1)).1)), rfl, rfl, rfl, rfl, rfl, trivial⟩) ?_
          refine A.next (k + 1, ao, co) (by first | assumption | omega | (simp_all; done) | (simp_all; omega) | grind) (by first | omega | (simp; omega) | (simp_all; omega)) ?_
          exact A.hereK [0, 0] (by exact ⟨rfl, rfl, rfl, rfl, rfl, rfl, rfl, trivial⟩) (by kernel_rfl)
    · skip
      have p1 := of_decide_eq_false e1
      refine A.exit ?_
      refine A.te ?_
      refine A.te ?_
      refine A.bh ?_
      refine A.tn ?_
      refine A.seq ?_
      refine A.seq ?_
      refine A.region (A.goA [.p, .p] [(3, (p_ b1)), (4, e_), (9, (.slice al l.length cl)), (10, (i_ (l.length : Int))), (11, (i_ (k : Int))), (5, (.slice ao (((sfo x l k).1).length) co)), (6, (b_ ((sfo x l k).2))), (12, (b_ (decide ((k : Int) < (l.length : Int))))), (39, (b_ (!((sfo x l k).2))))] [] T0 (by kernel_rfl) trivial ?_)
      refine A.tn ?_
      refine A.cond (E := !((sfo x l k).2)) rfl (fun e5 => ?_) (fun e5 => ?_)
      · skip
        have p5 := e5; try simp only [decide_eq_true_eq, decide_eq_false_iff_not, beq_iff_eq, beq_eq_false_iff_ne, bne_iff_ne, bne_eq_false_iff_eq, ne_eq, Bool.and_eq_true, Bool.or_eq_true, Bool.or_eq_false_iff, Bool.not_eq_true', Bool.not_eq_false', Int.not_lt, Int.not_le, gt_iff_lt, ge_iff_le, Classical.not_not] at p5
        refine A.region (A.goP [.p, .ld 1] [(3, (p_ b1)), (4, e_), (9, (.slice al l.length cl)), (10, (i_ (l.length : Int))), (11, (i_ (k : Int))), (5, (.slice ao (((sfo x l k).1).length) co)), (6, (b_ ((sfo x l k).2))), (12, (b_ (decide ((k : Int) < (l.length : Int))))), (39, (b_ (!((sfo x l k).2)))), (40, (.slice ao (((sfo x l k).1).length) co)), (41, (.agg #[(i_ x.ri), (u_ x.ra), (u_ x.rb)]))] [b1] T0 (by kernel_rfl) trivial ?_)
        refine A.cons (A.buildSlice 42 (e := 37) [(i_ x.ri), (u_ x.ra), (u_ x.rb)] (by kernel_rfl) rfl (fun _ => by kernel_rfl) (fun b11 => [sl ao (((sfo x l k).1).length) co 37 3 (V.flat encRw ((sfo x l k).1)), blk b1 [(i_ x.ri), (u_ x.ra), (u_ x.rb)] 37, blk b11 [(i_ x.ri), (u_ x.ra), (u_ x.rb)] 37]) (fun _ => rfl) ?_)
        intro b11
        refine A.cons (A.appendC (enc := encRw) (xs := (sfo x l k).1) ([x]) 0 43 (e := 37) (z := (.agg #[(i_ 0), (u_ 0), (u_ 0)])) (sz := 3) (by_ := 24) (by kernel_rfl) rfl rfl rfl (by kernel_rfl) (by kernel_rfl) (by rfl) (by decide) encRw_len encRw_one rfl (rd_blk (i := 2) rfl) (by simp; omega) (fun A12 c12 => [sl A12 ((((sfo x l k).1) ++ ([x])).length) c12 37 3 (V.flat encRw (((sfo x l k).1) ++ ([x]))), blk b1 [(i_ x.ri), (u_ x.ra), (u_ x.rb)] 37, blk b11 [(i_ x.ri), (u_ x.ra), (u_ x.rb)] 37]) (fun _ _ => rfl) ?_)
        intro A12 c12
        refine A.goA [.p] [(3, (p_ b1)), (4, e_), (9, (.slice al l.length cl)), (10, (i_ (l.length : Int))), (11, (i_ (k : Int))), (5, (.slice A12 ((((sfo x l k).1) ++ ([x])).length) c12)), (6, (b_ ((sfo x l k).2))), (12, (b_ (decide ((k : Int) < (l.length : Int))))), (39, (b_ (!((sfo x l k).2))))] [] T0 (by kernel_rfl) trivial ?_
        refine A.tn ?_
        refine A.seq ?_
        refine A.region (A.goA [.p, .p] [(3, (p_ b1)), (4, (.slice A12 ((((sfo x l k).1) ++ ([x])).length) c12)), (9, (.slice al l.length cl)), (10, (i_ (l.length : Int))), (11, (i_ (k : Int))), (5, (.slice A12 ((((sfo x l k).1) ++ ([x])).length) c12)), (6, (b_ ((sfo x l k).2))), (12, (b_ (decide ((k : Int) < (l.length : Int))))), (39, (b_ (!((sfo x l k).2))))] [] T0 (by kernel_rfl) trivial ?_)
        refine A.tn ?_
        refine A.ret ?_
        refine A.setH [sl A12 ((setL x l).length) c12 37 3 (V.flat encRw (setL x l)), blk b1 [(i_ x.ri), (u_ x.ra), (u_ x.rb)] 37, blk b11 [(i_ x.ri), (u_ x.ra), (u_ x.rb)] 37] (cc (slC (by first | rfl | (rw [sfo_succ (by assumption)]; simp_all; done) | (rw [sfo_succ (by assumption)]; (try simp only [*]); rfl) | ((have hk2 : k = l.length := by omega); subst hk2; unfold setL; simp_all; done) : ((sfo x l k).1) ++ ([x]) = (setL x l))) rfl) ?_
        refine A.postK [0] [(.slice A12 ((((sfo x l k).1) ++ ([x])).length) c12)] (fun aa ww rr ss => ⟨rv_tmp rr rfl, trivial⟩) (A12, c12) ?_ ?_ (by kernel_rfl)
        · show ((.slice A12 ((((sfo x l k).1) ++ ([x])).length) c12) : Value) = (.slice A12 ((setL x l).length) c12)
          (have hk2 : k = l.length := by omega); subst hk2; unfold setL; simp_all
        · trivial
      · skip
        have p5 := e5; try simp only [decide_eq_true_eq, decide_eq_false_iff_not, beq_iff_eq, beq_eq_false_iff_ne, bne_iff_ne, bne_eq_false_iff_eq, ne_eq, Bool.and_eq_true, Bool.or_eq_true, Bool.or_eq_false_iff, Bool.not_eq_true', Bool.not_eq_false', Int.not_lt, Int.not_le, gt_iff_lt, ge_iff_le, Classical.not_not] at p5
        refine A.skip ?_
        refine A.tn ?_
        refine A.seq ?_
        refine A.region (A.goA [.p, .p] [(3, (p_ b1)), (4, (.slice ao (((sfo x l k).1).length) co)), (9, (.slice al l.length cl)), (10, (i_ (l.length : Int))), (11, (i_ (k : Int))), (5, (.slice ao (((sfo x l k).1).length) co)), (6, (b_ ((sfo x l k).2))), (12, (b_ (decide ((k : Int) < (l.length : Int))))), (39, (b_ (!((sfo x l k).2))))] [] T0 (by kernel_rfl) trivial ?_)
        refine A.tn ?_
        refine A.ret ?_
        refine A.setH [sl ao ((setL x l).length) co 37 3 (V.flat encRw (setL x l)), blk b1 [(i_ x.ri), (u_ x.ra), (u_ x.rb)] 37] (cc (slC (by first | rfl | (rw [sfo_succ (by assumption)]; simp_all; done) | (rw [sfo_succ (by assumption)]; (try simp only [*]); rfl) | ((have hk2 : k = l.length := by omega); subst hk2; unfold setL; simp_all; done) : (sfo x l k).1 = (setL x l))) rfl) ?_
        refine A.postK [0] [(.slice ao (((sfo x l k).1).length) co)] (fun aa ww rr ss => ⟨rv_tmp rr rfl, trivial⟩) (ao, co) ?_ ?_ (by kernel_rfl)
        · show ((.slice ao (((sfo x l k).1).length) co) : Value) = (.slice ao ((setL x l).length) co)
          (have hk2 : k = l.length := by omega); subst hk2; unfold setL; simp_all
        · trivial

set_option maxHeartbeats 4000000 in
set_option maxRecDepth 100000 in
theorem wpick_spec (al : Option Addr) (l : List Rw) (cl : Nat) (n : Int) (hl : l.length ≤ 100000) (w : World) (r0 : arrAt w al (V.flat encRw l)) :
    Calls Try.prog 36 #[(.slice al l.length cl), (u_ n)] w fun e w' => e = .returned (i_ (oI (pickO n l l.length))) ∧ Fr [] w w' := by
  refine calls_of (args := [(.slice al l.length cl), (u_ n)]) (penv [(.slice al l.length cl), (u_ n)]) [] [] Try.func36 rfl rfl (look_penv _) (HS.nil w) ?_
  refine A.norm [(0, (.slice al l.length cl)), (1, (u_ n))] [] (by exact ⟨rfl, rfl, trivial⟩) rfl ?_
  refine A.seq ?_
  refine A.region (A.goA [.p] [(0, (.slice al l.length cl)), (1, (u_ n)), (4, (i_ 0))] [] T0 (by kernel_rfl) trivial ?_)
  refine A.tn ?_
  refine A.seq ?_
  refine A.region (A.goA [.p] [(0, (.slice al l.length cl)), (1, (u_ n)), (4, (i_ 0)), (5, (i_ (-1)))] [] T0 (by kernel_rfl) trivial ?_)
  refine A.tn ?_
  refine A.seq ?_
  refine A.seq ?_
  refine A.region (A.goA [.p, .p, .p] [(0, (.slice al l.length cl)), (1, (u_ n)), (4, (i_ 0)), (5, (i_ (-1))), (8, (.slice al l.length cl)), (9, (i_ (l.length : Int))), (10, (i_ 0))] [] T0 (by kernel_rfl) trivial ?_)
  refine A.tn ?_
  refine A.block ?_
  refine A.sub [(0, (.slice al l.length cl)), (1, (u_ n)), (4, (i_ 0)), (5, (i_ (oI (pickO n l 0)))), (8, (.slice al l.length cl)), (9, (i_ (l.length : Int))), (10, (i_ 0))] (by exact ⟨rfl, rfl, rfl, (congrArg (fun z_ => some (i_ z_)) (by first | rfl | exact pickO_t2 (by assumption) (by assumption) (by assumption) (by assumption) | exact pickO_t (by assumption) (by simp_all [wnever, betO]; done) | exact pickO_t (by assumption) (by simp_all [wnever, betO]; omega) | (rw [← pickO_f (by assumption) (by simp_all [wnever, betO])]; simp [*, oI]; done) | (rw [show k = l.length by omega]) : (-1) = (oI (pickO n l 0)))), rfl, rfl, rfl, trivial⟩) ?_
  refine A.loop (fun (zz : Nat) => match zz with | k => [(0, (.slice al l.length cl)), (1, (u_ n)), (4, (i_ 0)), (8, (.slice al l.length cl)), (9, (i_ (l.length : Int))), (10, (i_ (k : Int))), (5, (i_ (oI (pickO n l k))))]) (fun (zz : Nat) => match zz with | k => []) (fun (zz : Nat) => match zz with | k => (k ≤ l.length)) (fun (zz : Nat) => match zz with | k => l.length - k) (0 : Nat) (by first | assumption | omega | (simp_all; done) | (simp_all; omega) | grind) ?_ ?_
  · exact A.hereK [] (by exact ⟨rfl, rfl, rfl, rfl, rfl, rfl, rfl, trivial⟩) (by kernel_rfl)
  · rintro k hk
    have hk : k ≤ l.length := hk
    refine A.norm [(0, (.slice al l.length cl)), (1, (u_ n)), (4, (i_ 0)), (8, (.slice al l.length cl)), (9, (i_ (l.length : Int))), (10, (i_ (k : Int))), (5, (i_ (oI (pickO n l k))))] [] (by exact ⟨rfl, rfl, rfl, rfl, rfl, rfl, rfl, trivial⟩) rfl ?_
    refine A.seq ?_
    refine A.region (A.goA [.p] [(0, (.slice al l.length cl)), (1, (u_ n)), (4, (i_ 0)), (8, (.slice al l.length cl)), (9, (i_ (l.length : Int))), (10, (i_ (k : Int))), (5, (i_ (oI (pickO n l k)))), (11, (b_ (decide ((k : Int) < (l.length : Int)))))] [] T0 (by kernel_rfl) trivial ?_)
    refine A.tn ?_
    refine A.seq ?_
    refine A.cond (E := decide ((k : Int) < (l.length : Int))) rfl (fun e1 => ?_) (fun e1 => ?_)
    · skip
      have p1 := of_decide_eq_true e1
      refine A.skip ?_
      refine A.tn ?_
      refine A.seq ?_
      refine A.block ?_
      refine A.seq ?_
      refine A.region (A.goP [.p, .ix] [(0, (.slice al l.length cl)), (1, (u_ n)), (4, (i_ 0)), (8, (.slice al l.length cl)), (9, (i_ (l.length : Int))), (10, (i_ (k : Int))), (5, (i_ (oI (pickO n l k)))), (11, (b_ (decide ((k : Int) < (l.length : Int))))), (12, (i_ (k : Int))), (13, (.pointer (some ((at0 al).add (k * 3)))))] [] (fun κ => κ.ix al l.length (k : Int) ∧ True) (by kernel_rfl) ⟨(ixOf encRw_len (by decide) (rd_old r0 (by simp [feet])) (by first | omega | (simp; done))), trivial⟩ ?_)
      obtain ⟨x1, hx1⟩ : ∃ x, (l)[k]? = some x := ⟨_, List.getElem?_eq_getElem (by omega)⟩
      refine A.goA1 [.rd [(i_ x1.ri), (u_ x1.ra), (u_ x1.rb)], .al, .p, .st 0] [0, 1, 4, 8, 9, 10, 5, 11, 7, 6] (fun b2 => [(0, (.slice al l.length cl)), (1, (u_ n)), (4, (i_ 0)), (8, (.slice al l.length cl)), (9, (i_ (l.length : Int))), (10, (i_ (k : Int))), (5, (i_ (oI (pickO n l k)))), (11, (b_ (decide ((k : Int) < (l.length : Int))))), (7, (p_ b2)), (6, (i_ (k : Int)))]) (fun b2 => [blk b2 [(i_ x1.ri), (u_ x1.ra), (u_ x1.rb)] 37]) (fun b2 => [b2]) (fun _ => (fun κ => κ.rd ((at0 al).add (k * 3)) [(i_ x1.ri), (u_ x1.ra), (u_ x1.rb)] ∧ True)) (fun _ => by kernel_rfl) (fun b2 => ⟨(reads_at0 (vs := [(i_ x1.ri), (u_ x1.ra), (u_ x1.rb)]) encRw_len (rd_old r0 (by simp [feet])) hx1 (by simp) rfl), trivial⟩) ?_
      intro b2
      refine A.tn ?_
      refine A.seq ?_
      by_cases ho : (pickO n l k) = none
      · skip
        refine A.sub [(0, (.slice al l.length cl)), (1, (u_ n)), (4, (i_ 0)), (8, (.slice al l.length cl)), (9, (i_ (l.length : Int))), (10, (i_ (k : Int))), (5, (i_ (-1))), (11, (b_ (decide ((k : Int) < (l.length : Int))))), (7, (p_ b2)), (6, (i_ (k : Int)))] (by exact ⟨rfl, rfl, rfl, rfl, rfl, rfl, (congrArg (fun z_ => some (i_ z_)) (by rw [ho]; rfl : (oI (pickO n l k)) = -1)), rfl, rfl, rfl, trivial⟩) ?_
        refine A.draw2 [] 23 (by kernel_rfl) ?_
        refine A.drawP 13 [.p, .ld 0, .p, .p, .p, .o, .p, .ld 0, .p, .cl, .p] [0, 1, 2, 3, 4, 5, 6, 7, 8, 9] [(0, (.slice al l.length cl)), (1, (u_ n)), (4, (i_ 0)), (8, (.slice al l.length cl)), (9, (i_ (l.length : Int))), (10, (i_ (k : Int))), (5, (i_ (-1))), (11, (b_ (decide ((k : Int) < (l.length : Int))))), (7, (p_ b2)), (6, (i_ (k : Int))), (24, (b_ ((decide (x1.ra ≤ n)) && (decide (x1.ra < 9223372036854775808)))))] [b2, b2] T0 (by kernel_rfl) trivial ?_
        refine A.bool ((decide (x1.ra ≤ n)) && (decide (x1.ra < 9223372036854775808))) (fun e2 => ?_) (fun e2 => ?_)
        · skip
          refine A.sub [(0, (.slice al l.length cl)), (1, (u_ n)), (4, (i_ 0)), (8, (.slice al l.length cl)), (9, (i_ (l.length : Int))), (10, (i_ (k : Int))), (5, (i_ (-1))), (11, (b_ (decide ((k : Int) < (l.length : Int))))), (7, (p_ b2)), (6, (i_ (k : Int))), (24, (b_ true))] (by exact ⟨rfl, rfl, rfl, rfl, rfl, rfl, rfl, rfl, rfl, rfl, (congrArg (fun z => some (Value.bool z)) e2), trivial⟩) ?_
          refine A.drawP 0 [.p, .p, .p, .sk, .sk, .sk, .sk, .sk, .sk, .sk, .sk, .p, .p] [10, 11, 12, 13, 14, 15, 16, 17, 18, 19, 20, 21, 22] [(0, (.slice al l.length cl)), (1, (u_ n)), (4, (i_ 0)), (8, (.slice al l.length cl)), (9, (i_ (l.length : Int))), (10, (i_ (k : Int))), (5, (i_ (-1))), (11, (b_ (decide ((k : Int) < (l.length : Int))))), (7, (p_ b2)), (6, (i_ (k : Int))), (37, (b_ true))] [] T0 (by kernel_rfl) trivial ?_
          refine A.fin2 (by kernel_rfl) ?_
          refine A.tn ?_
          refine A.cond_t rfl ?_
          refine A.region (A.goA [.p, .p] [(0, (.slice al l.length cl)), (1, (u_ n)), (4, (i_ 0)), (8, (.slice al l.length cl)), (9, (i_ (l.length : Int))), (10, (i_ (k : Int))), (5, (i_ (k : Int))), (11, (b_ (decide ((k : Int) < (l.length : Int))))), (7, (p_ b2)), (6, (i_ (k : Int))), (37, (b_ true))] [] T0 (by kernel_rfl) trivial ?_)
          refine A.bn ?_
          refine A.tn ?_
          refine A.region (A.goA [.w ((k : Int) + 1), .p] [(0, (.slice al l.length cl)), (1, (u_ n)), (4, (i_ 0)), (8, (.slice al l.length cl)), (9, (i_ (l.length : Int))), (10, (i_ ((k : Int) + 1))), (5, (i_ (k : Int))), (11, (b_ (decide ((k : Int) < (l.length : Int))))), (7, (p_ b2)), (6, (i_ (k : Int))), (37, (b_ true))] [] (fun κ => (IntKind.i64.wrap ((k : Int) + 1) = ((k : Int) + 1)) ∧ True) (by kernel_rfl) ⟨(wrap_i64 (e := (k : Int) + 1) (by constructor <;> omega)), trivial⟩ ?_)
          refine A.tn ?_
          refine A.sub [(0, (.slice al l.length cl)), (1, (u_ n)), (4, (i_ 0)), (8, (.slice al l.length cl)), (9, (i_ (l.length : Int))), (10, (i_ ((k : Int) + 1))), (5, (i_ (oI (pickO n l (k + 1))))), (11, (b_ (decide ((k : Int) < (l.length : Int))))), (7, (p_ b2)), (6, (i_ (k : Int))), (37, (b_ true))] (by exact ⟨rfl, rfl, rfl, rfl, rfl, rfl, (congrArg (fun z_ => some (i_ z_)) (by first | rfl | exact pickO_t2 (by assumption) (by assumption) (by assumption) (by assumption) | exact pickO_t (by assumption) (by simp_all [wnever, betO]; done) | exact pickO_t (by assumption) (by simp_all [wnever, betO]; omega) | (rw [← pickO_f (by assumption) (by simp_all [wnever, betO])]; simp [*, oI]; done) | (rw [show k = l.length by omega]) : (k : Int) = (oI (pickO n l (k + 1))))), rfl, rfl, rfl, rfl, trivial⟩) ?_
          refine A.next (k + 1) (by first | assumption | omega | (simp_all; done) | (simp_all; omega) | grind) (by first | omega | (simp; omega) | (simp_all; omega)) ?_
          exact A.hereK [] (by exact ⟨rfl, rfl, rfl, rfl, rfl, rfl, rfl, trivial⟩) (by kernel_rfl)
        · skip
          refine A.sub [(0, (.slice al l.length cl)), (1, (u_ n)), (4, (i_ 0)), (8, (.slice al l.length cl)), (9, (i_ (l.length : Int))), (10, (i_ (k : Int))), (5, (i_ (-1))), (11, (b_ (decide ((k : Int) < (l.length : Int))))), (7, (p_ b2)), (6, (i_ (k : Int))), (24, (b_ false))] (by exact ⟨rfl, rfl, rfl, rfl, rfl, rfl, rfl, rfl, rfl, rfl, (congrArg (fun z => some (Value.bool z)) e2), trivial⟩) ?_
          refine A.drawP 0 [.sk, .sk, .sk, .sk, .sk, .sk, .sk, .sk, .sk, .sk, .sk, .sk, .p] [10, 11, 12, 13, 14, 15, 16, 17, 18, 19, 20, 21, 22] [(0, (.slice al l.length cl)), (1, (u_ n)), (4, (i_ 0)), (8, (.slice al l.length cl)), (9, (i_ (l.length : Int))), (10, (i_ (k : Int))), (5, (i_ (-1))), (11, (b_ (decide ((k : Int) < (l.length : Int))))), (7, (p_ b2)), (6, (i_ (k : Int))), (37, (b_ false))] [] T0 (by kernel_rfl) trivial ?_
          refine A.fin2 (by kernel_rfl) ?_
          refine A.tn ?_
          refine A.cond_f rfl ?_
          refine A.skip ?_
          refine A.bn ?_
          refine A.tn ?_
          refine A.region (A.goA [.w ((k : Int) + 1), .p] [(0, (.slice al l.length cl)), (1, (u_ n)), (4, (i_ 0)), (8, (.slice al l.length cl)), (9, (i_ (l.length : Int))), (10, (i_ ((k : Int) + 1))), (5, (i_ (-1))), (11, (b_ (decide ((k : Int) < (l.length : Int))))), (7, (p_ b2)), (6, (i_ (k : Int))), (37, (b_ false))] [] (fun κ => (IntKind.i64.wrap ((k : Int) + 1) = ((k : Int) + 1)) ∧ True) (by kernel_rfl) ⟨(wrap_i64 (e := (k : Int) + 1) (by constructor <;> omega)), trivial⟩ ?_)
          refine A.tn ?_
          refine A.sub [(0, (.slice al l.length cl)), (1, (u_ n)), (4, (i_ 0)), (8, (.slice al l.length cl)), (9, (i_ (l.length : Int))), (10, (i_ ((k : Int) + 1))), (5, (i_ (oI (pickO n l (k + 1))))), (11, (b_ (decide ((k : Int) < (l.length : Int))))), (7, (p_ b2)), (6, (i_ (k : Int))), (37, (b_ false))] (by exact ⟨rfl, rfl, rfl, rfl, rfl, rfl, (congrArg (fun z_ => some (i_ z_)) (by first | rfl | exact pickO_t2 (by assumption) (by assumption) (by assumption) (by assumption) | exact pickO_t (by assumption) (by simp_all [wnever, betO]; done) | exact pickO_t (by assumption) (by simp_all [wnever, betO]; omega) | (rw [← pickO_f (by assumption) (by simp_all [wnever, betO])]; simp [*, oI]; done) | (rw [show k = l.length by omega]) : -1 = (oI (pickO n l (k + 1))))), rfl, rfl, rfl, rfl, trivial⟩) ?_
          refine A.next (k + 1) (by first | assumption | omega | (simp_all; done) | (simp_all; omega) | grind) (by first | omega | (simp; omega) | (simp_all; omega)) ?_
          exact A.hereK [] (by exact ⟨rfl, rfl, rfl, rfl, rfl, rfl, rfl, trivial⟩) (by kernel_rfl)
      · skip
        obtain ⟨i, hi⟩ := Option.ne_none_iff_exists'.1 ho; have hlt := pickO_lt hi
        refine A.sub [(0, (.slice al l.length cl)), (1, (u_ n)), (4, (i_ 0)), (8, (.slice al l.length cl)), (9, (i_ (l.length : Int))), (10, (i_ (k : Int))), (5, (i_ (i : Int))), (11, (b_ (decide ((k : Int) < (l.length : Int))))), (7, (p_ b2)), (6, (i_ (k : Int)))] (by exact ⟨rfl, rfl, rfl, rfl, rfl, rfl, (congrArg (fun z_ => some (i_ z_)) (by rw [hi]; rfl : (oI (pickO n l k)) = (i : Int))), rfl, rfl, rfl, trivial⟩) ?_
        obtain ⟨x3, hx3⟩ : ∃ x, (l)[i]? = some x := ⟨_, List.getElem?_eq_getElem (by omega)⟩
        refine A.drawA [.p, .ld 0, .p, .p, .p, .o, .p, .ld 0, .p, .cl, .p, .o, .p, .p, .p, .o, .p, .ld 0, .p, .p, .ix, .p, .rd [(u_ x3.rb)], .p, .cl, .cl] [0, 1, 2, 3, 4, 5, 6, 7, 8, 9, 10, 11, 12, 13, 14, 15, 16, 17, 18, 19, 20, 21, 22] [(0, (.slice al l.length cl)), (1, (u_ n)), (4, (i_ 0)), (8, (.slice al l.length cl)), (9, (i_ (l.length : Int))), (10, (i_ (k : Int))), (5, (i_ (i : Int))), (11, (b_ (decide ((k : Int) < (l.length : Int))))), (7, (p_ b2)), (6, (i_ (k : Int))), (37, (b_ (((decide (x1.ra ≤ n)) && (decide (x1.ra < 9223372036854775808))) && ((decide ((i : Int) < 0)) || (decide (x1.rb < x3.rb))))))] [b2, b2, b2] (fun κ => (((true && (((decide (x1.ra ≤ n)) && (decide (x1.ra < 9223372036854775808))) == true)) && ((decide ((i : Int) < 0)) == false)) = true → κ.ix al l.length (i : Int)) ∧ (((true && (((decide (x1.ra ≤ n)) && (decide (x1.ra < 9223372036854775808))) == true)) && ((decide ((i : Int) < 0)) == false)) = true → κ.rd (((at0 al).add (i * 3)).add 2) [(u_ x3.rb)]) ∧ True) (by kernel_rfl) (by kernel_rfl) ⟨(fun h_ => (ixOf encRw_len (by decide) (rd_old r0 (by simp [feet])) (by first | omega | (simp; done)))), (fun h_ => (reads_at2 (f := 2) (vs := [(u_ x3.rb)]) encRw_len (rd_old r0 (by simp [feet])) hx3 (by simp) rfl)), trivial⟩ ?_
        refine A.tn ?_
        refine A.cond (E := ((decide (x1.ra ≤ n)) && (decide (x1.ra < 9223372036854775808))) && ((decide ((i : Int) < 0)) || (decide (x1.rb < x3.rb)))) rfl (fun e3 => ?_) (fun e3 => ?_)
        · skip
          have p3 := e3; try simp only [decide_eq_true_eq, decide_eq_false_iff_not, beq_iff_eq, beq_eq_false_iff_ne, bne_iff_ne, bne_eq_false_iff_eq, ne_eq, Bool.and_eq_true, Bool.or_eq_true, Bool.or_eq_false_iff, Bool.not_eq_true', Bool.not_eq_false', Int.not_lt, Int.not_le, gt_iff_lt, ge_iff_le, Classical.not_not] at p3
          refine A.region (A.goA [.p, .p] [(0, (.slice al l.length cl)), (1, (u_ n)), (4, (i_ 0)), (8, (.slice al l.length cl)), (9, (i_ (l.length : Int))), (10, (i_ (k : Int))), (5, (i_ (k : Int))), (11, (b_ (decide ((k : Int) < (l.length : Int))))), (7, (p_ b2)), (6, (i_ (k : Int))), (37, (b_ (((decide (x1.ra ≤ n)) && (decide (x1.ra < 9223372036854775808))) && ((decide ((i : Int) < 0)) || (decide (x1.rb < x3.rb))))))] [] T0 (by kernel_rfl) trivial ?_)
          refine A.bn ?_
          refine A.tn ?_
          refine A.region (A.goA [.w ((k : Int) + 1), .p] [(0, (.slice al l.length cl)), (1, (u_ n)), (4, (i_ 0)), (8, (.slice al l.length cl)), (9, (i_ (l.length : Int))), (10, (i_ ((k : Int) + 1))), (5, (i_ (k : Int))), (11, (b_ (decide ((k : Int) < (l.length : Int))))), (7, (p_ b2)), (6, (i_ (k : Int))), (37, (b_ (((decide (x1.ra ≤ n)) && (decide (x1.ra < 9223372036854775808))) && ((decide ((i : Int) < 0)) || (decide (x1.rb < x3.rb))))))] [] (fun κ => (IntKind.i64.wrap ((k : Int) + 1) = ((k : Int) + 1)) ∧ True) (by kernel_rfl) ⟨(wrap_i64 (e := (k : Int) + 1) (by constructor <;> omega)), trivial⟩ ?_)
          refine A.tn ?_
          refine A.sub [(0, (.slice al l.length cl)), (1, (u_ n)), (4, (i_ 0)), (8, (.slice al l.length cl)), (9, (i_ (l.length : Int))), (10, (i_ ((k : Int) + 1))), (5, (i_ (oI (pickO n l (k + 1))))), (11, (b_ (decide ((k : Int) < (l.length : Int))))), (7, (p_ b2)), (6, (i_ (k : Int))), (37, (b_ (((decide (x1.ra ≤ n)) && (decide (x1.ra < 9223372036854775808))) && ((decide ((i : Int) < 0)) || (decide (x1.rb < x3.rb))))))] (by exact ⟨rfl, rfl, rfl, rfl, rfl, rfl, (congrArg (fun z_ => some (i_ z_)) (by first | rfl | exact pickO_t2 (by assumption) (by assumption) (by assumption) (by assumption) | exact pickO_t (by assumption) (by simp_all [wnever, betO]; done) | exact pickO_t (by assumption) (by simp_all [wnever, betO]; omega) | (rw [← pickO_f (by assumption) (by simp_all [wnever, betO])]; simp [*, oI]; done) | (rw [show k = l.length by omega]) : (k : Int) = (oI (pickO n l (k + 1))))), rfl, rfl, rfl, rfl, trivial⟩) ?_
          refine A.next (k + 1) (by first | assumption | omega | (simp_all; done) | (simp_all; omega) | grind) (by first | omega | (simp; omega) | (simp_all; omega)) ?_
          exact A.hereK [] (by exact ⟨rfl, rfl, rfl, rfl, rfl, rfl, rfl, trivial⟩) (by kernel_rfl)
        · skip
          have p3 := e3; try simp only [decide_eq_true_eq, decide_eq_false_iff_not, beq_iff_eq, beq_eq_false_iff_ne, bne_iff_ne, bne_eq_false_iff_eq, ne_eq, Bool.and_eq_true, Bool.or_eq_true, Bool.or_eq_false_iff, Bool.not_eq_true', Bool.not_eq_false', Int.not_lt, Int.not_le, gt_iff_lt, ge_iff_le, Classical.not_not] at p3
          refine A.skip ?_
          refine A.bn ?_
          refine A.tn ?_
          refine A.region (A.goA [.w ((k : Int) + 1), .p] [(0, (.slice al l.length cl)), (1, (u_ n)), (4, (i_ 0)), (8, (.slice al l.length cl)), (9, (i_ (l.length : Int))), (10, (i_ ((k : Int) + 1))), (5, (i_ (i : Int))), (11, (b_ (decide ((k : Int) < (l.length : Int))))), (7, (p_ b2)), (6, (i_ (k : Int))), (37, (b_ (((decide (x1.ra ≤ n)) && (decide (x1.ra < 9223372036854775808))) && ((decide ((i : Int) < 0)) || (decide (x1.rb < x3.rb))))))] [] (fun κ => (IntKind.i64.wrap ((k : Int) + 1) = ((k : Int) + 1)) ∧ True) (by kernel_rfl) ⟨(wrap_i64 (e := (k : Int) + 1) (by constructor <;> omega)), trivial⟩ ?_)
          refine A.tn ?_
          refine A.sub [(0, (.slice al l.length cl)), (1, (u_ n)), (4, (i_ 0)), (8, (.slice al l.length cl)), (9, (i_ (l.length : Int))), (10, (i_ ((k : Int) + 1))), (5, (i_ (oI (pickO n l (k + 1))))), (11, (b_ (decide ((k : Int) < (l.length : Int))))), (7, (p_ b2)), (6, (i_ (k : Int))), (37, (b_ (((decide (x1.ra ≤ n)) && (decide (x1.ra < 9223372036854775808))) && ((decide ((i : Int) < 0)) || (decide (x1.rb < x3.rb))))))] (by exact ⟨rfl, rfl, rfl, rfl, rfl, rfl, (congrArg (fun z_ => some (i_ z_)) (by first | rfl | exact pickO_t2 (by assumption) (by assumption) (by assumption) (by assumption) | exact pickO_t (by assumption) (by simp_all [wnever, betO]; done) | exact pickO_t (by assumption) (by simp_all [wnever, betO]; omega) | (rw [← pickO_f (by assumption) (by simp_all [wnever, betO])]; simp [*, oI]; done) | (rw [show k = l.length by omega]) : (i : Int) = (oI (pickO n l (k + 1))))), rfl, rfl, rfl, rfl, trivial⟩) ?_
          refine A.next (k + 1) (by first | assumption | omega | (simp_all; done) | (simp_all; omega) | grind) (by first | omega | (simp; omega) | (simp_all; omega)) ?_
          exact A.hereK [] (by exact ⟨rfl, rfl, rfl, rfl, rfl, rfl, rfl, trivial⟩) (by kernel_rfl)
    · skip
      have p1 := of_decide_eq_false e1
      refine A.exit ?_
      refine A.te ?_
      refine A.te ?_
      refine A.bh ?_
      refine A.tn ?_
      refine A.seq ?_
      refine A.region (A.goA [.p, .p] [(0, (.slice al l.length cl)), (1, (u_ n)), (4, (i_ (oI (pickO n l k)))), (8, (.slice al l.length cl)), (9, (i_ (l.length : Int))), (10, (i_ (k : Int))), (5, (i_ (oI (pickO n l k)))), (11, (b_ (decide ((k : Int) < (l.length : Int)))))] [] T0 (by kernel_rfl) trivial ?_)
      refine A.tn ?_
      refine A.ret ?_
      refine A.postQ [(i_ (oI (pickO n l k)))] (fun aa ww rr ss => ⟨rv_tmp rr rfl, trivial⟩) ?_
      show ((i_ (oI (pickO n l k))) : Value) = (i_ (oI (pickO n l l.length)))
      rw [show k = l.length by omega]

set_option maxHeartbeats 4000000 in
set_option maxRecDepth 100000 in
theorem wnext_spec (al : Option Addr) (l : List Rw) (cl : Nat) (hl : l.length ≤ 100000) (w : World) (r0 : arrAt w al (V.flat encRw l)) :
    Calls Try.prog 38 #[(.slice al l.length cl)] w fun e w' => e = .returned (u_ (nxR l l.length)) ∧ Fr [] w w' := by
  refine calls_of (args := [(.slice al l.length cl)]) (penv [(.slice al l.length cl)]) [] [] Try.func38 rfl rfl (look_penv _) (HS.nil w) ?_
  refine A.norm [(0, (.slice al l.length cl))] [] (by exact ⟨rfl, trivial⟩) rfl ?_
  refine A.seq ?_
  refine A.region (A.goA [.p] [(0, (.slice al l.length cl)), (2, (u_ 0))] [] T0 (by kernel_rfl) trivial ?_)
  refine A.tn ?_
  refine A.seq ?_
  refine A.region (A.goA [.p] [(0, (.slice al l.length cl)), (2, (u_ 0)), (3, (u_ 9223372036854775808))] [] T0 (by kernel_rfl) trivial ?_)
  refine A.tn ?_
  refine A.seq ?_
  refine A.seq ?_
  refine A.region (A.goA [.p, .p, .p] [(0, (.slice al l.length cl)), (2, (u_ 0)), (3, (u_ 9223372036854775808)), (6, (.slice al l.length cl)), (7, (i_ (l.length : Int))), (8, (i_ 0))] [] T0 (by kernel_rfl) trivial ?_)
  refine A.tn ?_
  refine A.block ?_
  refine A.sub [(0, (.slice al l.length cl)), (2, (u_ 0)), (3, (u_ (nxR l 0))), (6, (.slice al l.length cl)), (7, (i_ (l.length : Int))), (8, (i_ 0))] (by exact ⟨rfl, rfl, (congrArg (fun z_ => some (u_ z_)) (by first | rfl | (rw [nxR, (by assumption : l[k]? = some _)]; simp only []; first | (rw [if_pos (by assumption)]; done) | (rw [if_neg (by omega)]; done)) : 9223372036854775808 = (nxR l 0))), rfl, rfl, rfl, trivial⟩) ?_
  refine A.loop (fun (zz : Nat) => match zz with | k => [(2, (u_ 0)), (6, (.slice al l.length cl)), (7, (i_ (l.length : Int))), (8, (i_ (k : Int))), (3, (u_ (nxR l k)))]) (fun (zz : Nat) => match zz with | k => []) (fun (zz : Nat) => match zz with | k => (k ≤ l.length)) (fun (zz : Nat) => match zz with | k => l.length - k) (0 : Nat) (by first | assumption | omega | (simp_all; done) | (simp_all; omega) | grind) ?_ ?_
  · exact A.hereK [] (by exact ⟨rfl, rfl, rfl, rfl, rfl, trivial⟩) (by kernel_rfl)
  · rintro k hk
    have hk : k ≤ l.length := hk
    refine A.norm [(2, (u_ 0)), (6, (.slice al l.length cl)), (7, (i_ (l.length : Int))), (8, (i_ (k : Int))), (3, (u_ (nxR l k)))] [] (by exact ⟨rfl, rfl, rfl, rfl, rfl, trivial⟩) rfl ?_
    refine A.seq ?_
    refine A.region (A.goA [.p] [(2, (u_ 0)), (6, (.slice al l.length cl)), (7, (i_ (l.length : Int))), (8, (i_ (k : Int))), (3, (u_ (nxR l k))), (9, (b_ (decide ((k : Int) < (l.length : Int)))))] [] T0 (by kernel_rfl) trivial ?_)
    refine A.tn ?_
    refine A.seq ?_
    refine A.cond (E := decide ((k : Int) < (l.length : Int))) rfl (fun e1 => ?_) (fun e1 => ?_)
    · skip
      have p1 := of_decide_eq_true e1
      refine A.skip ?_
      refine A.tn ?_
      refine A.seq ?_
      refine A.block ?_
      refine A.seq ?_
      refine A.region (A.goP [.ix] [(2, (u_ 0)), (6, (.slice al l.length cl)), (7, (i_ (l.length : Int))), (8, (i_ (k : Int))), (3, (u_ (nxR l k))), (9, (b_ (decide ((k : Int) < (l.length : Int))))), (10, (.pointer (some ((at0 al).add (k * 3)))))] [] (fun κ => κ.ix al l.length (k : Int) ∧ True) (by kernel_rfl) ⟨(ixOf encRw_len (by decide) (rd_old r0 (by simp [feet])) (by first | omega | (simp; done))), trivial⟩ ?_)
      obtain ⟨x1, hx1⟩ : ∃ x, (l)[k]? = some x := ⟨_, List.getElem?_eq_getElem (by omega)⟩
      refine A.goA1 [.rd [(i_ x1.ri), (u_ x1.ra), (u_ x1.rb)], .al, .st 0] [2, 6, 7, 8, 3, 9, 5] (fun b2 => [(2, (u_ 0)), (6, (.slice al l.length cl)), (7, (i_ (l.length : Int))), (8, (i_ (k : Int))), (3, (u_ (nxR l k))), (9, (b_ (decide ((k : Int) < (l.length : Int))))), (5, (p_ b2))]) (fun b2 => [blk b2 [(i_ x1.ri), (u_ x1.ra), (u_ x1.rb)] 37]) (fun b2 => [b2]) (fun _ => (fun κ => κ.rd ((at0 al).add (k * 3)) [(i_ x1.ri), (u_ x1.ra), (u_ x1.rb)] ∧ True)) (fun _ => by kernel_rfl) (fun b2 => ⟨(reads_at0 (vs := [(i_ x1.ri), (u_ x1.ra), (u_ x1.rb)]) encRw_len (rd_old r0 (by simp [feet])) hx1 (by simp) rfl), trivial⟩) ?_
      intro b2
      refine A.tn ?_
      refine A.seq ?_
      refine A.region (A.goA [.p, .ld 0, .p, .p] [(2, (u_ 0)), (6, (.slice al l.length cl)), (7, (i_ (l.length : Int))), (8, (i_ (k : Int))), (3, (u_ (nxR l k))), (9, (b_ (decide ((k : Int) < (l.length : Int))))), (5, (p_ b2)), (15, (b_ (decide (x1.ra < (nxR l k)))))] [b2] T0 (by kernel_rfl) trivial ?_)
      refine A.tn ?_
      refine A.cond (E := decide (x1.ra < (nxR l k))) rfl (fun e2 => ?_) (fun e2 => ?_)
      · skip
        have p2 := of_decide_eq_true e2
        refine A.region (A.goA [.p, .ld 0, .p] [(2, (u_ 0)), (6, (.slice al l.length cl)), (7, (i_ (l.length : Int))), (8, (i_ (k : Int))), (3, (u_ x1.ra)), (9, (b_ (decide ((k : Int) < (l.length : Int))))), (5, (p_ b2)), (15, (b_ (decide (x1.ra < (nxR l k)))))] [b2] T0 (by kernel_rfl) trivial ?_)
        refine A.bn ?_
        refine A.tn ?_
        refine A.region (A.goA [.w ((k : Int) + 1), .p] [(2, (u_ 0)), (6, (.slice al l.length cl)), (7, (i_ (l.length : Int))), (8, (i_ ((k : Int) + 1))), (3, (u_ x1.ra)), (9, (b_ (decide ((k : Int) < (l.length : Int))))), (5, (p_ b2)), (15, (b_ (decide (x1.ra < (nxR l k)))))] [] (fun κ => (IntKind.i64.wrap ((k : Int) + 1) = ((k : Int) + 1)) ∧ True) (by kernel_rfl) ⟨(wrap_i64 (e := (k : Int) + 1) (by constructor <;> omega)), trivial⟩ ?_)
        refine A.tn ?_
        refine A.sub [(2, (u_ 0)), (6, (.slice al l.length cl)), (7, (i_ (l.length : Int))), (8, (i_ ((k : Int) + 1))), (3, (u_ (nxR l (k + 1)))), (9, (b_ (decide ((k : Int) < (l.length : Int))))), (5, (p_ b2)), (15, (b_ (decide (x1.ra < (nxR l k)))))] (by exact ⟨rfl, rfl, rfl, rfl, (congrArg (fun z_ => some (u_ z_)) (by first | rfl | (rw [nxR, (by assumption : l[k]? = some _)]; simp only []; first | (rw [if_pos (by assumption)]; done) | (rw [if_neg (by omega)]; done)) : x1.ra = (nxR l (k + 1)))), rfl, rfl, rfl, trivial⟩) ?_
        refine A.next (k + 1) (by first | assumption | omega | (simp_all; done) | (simp_all; omega) | grind) (by first | omega | (simp; omega) | (simp_all; omega)) ?_
        exact A.hereK [] (by exact ⟨rfl, rfl, rfl, rfl, rfl, trivial⟩) (by kernel_rfl)
      · skip
        have p2 := of_decide_eq_false e2
        refine A.skip ?_
        refine A.bn ?_
        refine A.tn ?_
        refine A.region (A.goA [.w ((k : Int) + 1), .p] [(2, (u_ 0)), (6, (.slice al l.length cl)), (7, (i_ (l.length : Int))), (8, (i_ ((k : Int) + 1))), (3, (u_ (nxR l k))), (9, (b_ (decide ((k : Int) < (l.length : Int))))), (5, (p_ b2)), (15, (b_ (decide (x1.ra < (nxR l k)))))] [] (fun κ => (IntKind.i64.wrap ((k : Int) + 1) = ((k : Int) + 1)) ∧ True) (by kernel_rfl) ⟨(wrap_i64 (e := (k : Int) + 1) (by constructor <;> omega)), trivial⟩ ?_)
        refine A.tn ?_
        refine A.sub [(2, (u_ 0)), (6, (.slice al l.length cl)), (7, (i_ (l.length : Int))), (8, (i_ ((k : Int) + 1))), (3, (u_ (nxR l (k + 1)))), (9, (b_ (decide ((k : Int) < (l.length : Int))))), (5, (p_ b2)), (15, (b_ (decide (x1.ra < (nxR l k)))))] (by exact ⟨rfl, rfl, rfl, rfl, (congrArg (fun z_ => some (u_ z_)) (by first | rfl | (rw [nxR, (by assumption : l[k]? = some _)]; simp only []; first | (rw [if_pos (by assumption)]; done) | (rw [if_neg (by omega)]; done)) : (nxR l k) = (nxR l (k + 1)))), rfl, rfl, rfl, trivial⟩) ?_
        refine A.next (k + 1) (by first | assumption | omega | (simp_all; done) | (simp_all; omega) | grind) (by first | omega | (simp; omega) | (simp_all; omega)) ?_
        exact A.hereK [] (by exact ⟨rfl, rfl, rfl, rfl, rfl, trivial⟩) (by kernel_rfl)
    · skip
      have p1 := of_decide_eq_false e1
      refine A.exit ?_
      refine A.te ?_
      refine A.te ?_
      refine A.bh ?_
      refine A.tn ?_
      refine A.seq ?_
      refine A.region (A.goA [.p, .p] [(2, (u_ (nxR l k))), (6, (.slice al l.length cl)), (7, (i_ (l.length : Int))), (8, (i_ (k : Int))), (3, (u_ (nxR l k))), (9, (b_ (decide ((k : Int) < (l.length : Int)))))] [] T0 (by kernel_rfl) trivial ?_)
      refine A.tn ?_
      refine A.ret ?_
      refine A.postQ [(u_ (nxR l k))] (fun aa ww rr ss => ⟨rv_tmp rr rfl, trivial⟩) ?_
      show ((u_ (nxR l k)) : Value) = (u_ (nxR l l.length))
      rw [show k = l.length by omega]

set_option maxHeartbeats 4000000 in
set_option maxRecDepth 100000 in
theorem wturned_spec (al : Option Addr) (l : List Rw) (cl : Nat) (hl : l.length ≤ 100000) (w : World) (r0 : arrAt w al (V.flat encRw l)) (hs : HS w (feet []) [] w) :
    Calls Try.prog 44 #[(.slice al l.length cl)] w fun e w' => ∃ zz, e = .returned ((fun (zz : (Option Addr) × Nat) => match zz with | (al', cl') => (.slice al' ((l.map trn).length) cl')) zz) ∧ (fun (zz : (Option Addr) × Nat) => match zz with | (al', cl') => True) zz ∧ Turn [] ((fun (zz : (Option Addr) × Nat) => match zz with | (al', cl') => [sl al' ((l.map trn).length) cl' 37 3 (V.flat encRw (l.map trn))]) zz) w w' := by
  refine calls_of (args := [(.slice al l.length cl)]) (penv [(.slice al l.length cl)]) (feet []) [] Try.func44 rfl rfl (look_penv _) hs ?_
  refine A.norm [(0, (.slice al l.length cl))] [] (by exact ⟨rfl, trivial⟩) rfl ?_
  refine A.seq ?_
  refine A.region (A.goA [.p] [(0, (.slice al l.length cl)), (2, e_)] [] T0 (by kernel_rfl) trivial ?_)
  refine A.tn ?_
  refine A.seq ?_
  refine A.region (A.goA [.p] [(0, (.slice al l.length cl)), (2, e_), (3, e_)] [] T0 (by kernel_rfl) trivial ?_)
  refine A.tn ?_
  refine A.seq ?_
  refine A.seq ?_
  refine A.region (A.goA [.p, .p, .p] [(0, (.slice al l.length cl)), (2, e_), (3, e_), (6, (.slice al l.length cl)), (7, (i_ (l.length : Int))), (8, (i_ 0))] [] T0 (by kernel_rfl) trivial ?_)
  refine A.tn ?_
  refine A.block ?_
  refine A.ownNil 37 3 [sl none (([] : List Rw).length) 0 37 3 (V.flat encRw ([] : List Rw))] rfl ?_
  refine A.setH [sl none (((l.take 0).map trn).length) 0 37 3 (V.flat encRw ((l.take 0).map trn))] (cc (slC (by first | (rw [take_snoc (by assumption)]; simp [trn]; done) | (simp; done) | (rw [List.take_of_length_le (by omega)]) : ([] : List Rw) = ((l.take 0).map trn))) rfl) ?_
  refine A.sub [(0, (.slice al l.length cl)), (2, e_), (3, (.slice none (((l.take 0).map trn).length) 0)), (6, (.slice al l.length cl)), (7, (i_ (l.length : Int))), (8, (i_ 0))] (by exact ⟨rfl, rfl, (congrArg (fun z_ : List Rw => some (Value.slice none z_.length 0)) (by first | (rw [take_snoc (by assumption)]; simp [trn]; done) | (simp; done) | (rw [List.take_of_length_le (by omega)]) : ([] : List Rw) = ((l.take 0).map trn))), rfl, rfl, rfl, trivial⟩) ?_
  refine A.loop (fun (zz : Nat × (Option Addr) × Nat) => match zz with | (k, ao, co) => [(2, e_), (6, (.slice al l.length cl)), (7, (i_ (l.length : Int))), (8, (i_ (k : Int))), (3, (.slice ao (((l.take k).map trn).length) co))]) (fun (zz : Nat × (Option Addr) × Nat) => match zz with | (k, ao, co) => [sl ao (((l.take k).map trn).length) co 37 3 (V.flat encRw ((l.take k).map trn))]) (fun (zz : Nat × (Option Addr) × Nat) => match zz with | (k, ao, co) => (k ≤ l.length)) (fun (zz : Nat × (Option Addr) × Nat) => match zz with | (k, ao, co) => l.length - k) (0, none, 0) (by first | assumption | omega | (simp_all; done) | (simp_all; omega) | grind) ?_ ?_
  · exact A.hereK [0] (by exact ⟨rfl, rfl, rfl, rfl, rfl, trivial⟩) (by kernel_rfl)
  · rintro ⟨k, ao, co⟩ hk
    have hk : k ≤ l.length := hk
    refine A.norm [(2, e_), (6, (.slice al l.length cl)), (7, (i_ (l.length : Int))), (8, (i_ (k : Int))), (3, (.slice ao (((l.take k).map trn).length) co))] [sl ao (((l.take k).map trn).length) co 37 3 (V.flat encRw ((l.take k).map trn))] (by exact ⟨rfl, rfl, rfl, rfl, rfl, trivial⟩) rfl ?_
    refine A.seq ?_
    refine A.region (A.goA [.p] [(2, e_), (6, (.slice al l.length cl)), (7, (i_ (l.length : Int))), (8, (i_ (k : Int))), (3, (.slice ao (((l.take k).map trn).length) co)), (9, (b_ (decide ((k : Int) < (l.length : Int)))))] [] T0 (by kernel_rfl) trivial ?_)
    refine A.tn ?_
    refine A.seq ?_
    refine A.cond (E := decide ((k : Int) < (l.length : Int))) rfl (fun e1 => ?_) (fun e1 => ?_)
    · skip
      have p1 := of_decide_eq_true e1
      refine A.skip ?_
      refine A.tn ?_
      refine A.seq ?_
      refine A.block ?_
      refine A.seq ?_
      refine A.region (A.goP [.ix] [(2, e_), (6, (.slice al l.length cl)), (7, (i_ (l.length : Int))), (8, (i_ (k : Int))), (3, (.slice ao (((l.take k).map trn).length) co)), (9, (b_ (decide ((k : Int) < (l.length : Int))))), (10, (.pointer (some ((at0 al).add (k * 3)))))] [] (fun κ => κ.ix al l.length (k : Int) ∧ True) (by kernel_rfl) ⟨(ixOf encRw_len (by decide) (rd_old r0 (by simp [feet])) (by first | omega | (simp; done))), trivial⟩ ?_)
      obtain ⟨x2, hx2⟩ : ∃ x, (l)[k]? = some x := ⟨_, List.getElem?_eq_getElem (by omega)⟩
      refine A.goA1 [.rd [(i_ x2.ri), (u_ x2.ra), (u_ x2.rb)], .al, .st 1] [2, 6, 7, 8, 3, 9, 5] (fun b3 => [(2, e_), (6, (.slice al l.length cl)), (7, (i_ (l.length : Int))), (8, (i_ (k : Int))), (3, (.slice ao (((l.take k).map trn).length) co)), (9, (b_ (decide ((k : Int) < (l.length : Int))))), (5, (p_ b3))]) (fun b3 => [sl ao (((l.take k).map trn).length) co 37 3 (V.flat encRw ((l.take k).map trn)), blk b3 [(i_ x2.ri), (u_ x2.ra), (u_ x2.rb)] 37]) (fun b3 => [b3]) (fun _ => (fun κ => κ.rd ((at0 al).add (k * 3)) [(i_ x2.ri), (u_ x2.ra), (u_ x2.rb)] ∧ True)) (fun _ => by kernel_rfl) (fun b3 => ⟨(reads_at0 (vs := [(i_ x2.ri), (u_ x2.ra), (u_ x2.rb)]) encRw_len (rd_old r0 (by simp [feet])) hx2 (by simp) rfl), trivial⟩) ?_
      intro b3
      refine A.tn ?_
      refine A.region (A.goP [.p, .p, .ld 1, .p, .ld 1, .p, .ld 1, .p] [(2, e_), (6, (.slice al l.length cl)), (7, (i_ (l.length : Int))), (8, (i_ (k : Int))), (3, (.slice ao (((l.take k).map trn).length) co)), (9, (b_ (decide ((k : Int) < (l.length : Int))))), (5, (p_ b3)), (12, (.slice ao (((l.take k).map trn).length) co)), (19, (.agg #[(i_ x2.ri), (u_ x2.rb), (u_ x2.ra)]))] [b3, b3, b3] T0 (by kernel_rfl) trivial ?_)
      refine A.cons (A.buildSlice 20 (e := 37) [(i_ x2.ri), (u_ x2.rb), (u_ x2.ra)] (by kernel_rfl) rfl (fun _ => by kernel_rfl) (fun b4 => [sl ao (((l.take k).map trn).length) co 37 3 (V.flat encRw ((l.take k).map trn)), blk b3 [(i_ x2.ri), (u_ x2.ra), (u_ x2.rb)] 37, blk b4 [(i_ x2.ri), (u_ x2.rb), (u_ x2.ra)] 37]) (fun _ => rfl) ?_)
      intro b4
      refine A.cons (A.appendC (enc := encRw) (xs := ((l.take k).map trn)) ([(⟨x2.ri, x2.rb, x2.ra⟩ : Rw)]) 0 21 (e := 37) (z := (.agg #[(i_ 0), (u_ 0), (u_ 0)])) (sz := 3) (by_ := 24) (by kernel_rfl) rfl rfl rfl (by kernel_rfl) (by kernel_rfl) (by rfl) (by decide) encRw_len encRw_one rfl (rd_blk (i := 2) rfl) (by simp; omega) (fun A5 c5 => [sl A5 ((((l.take k).map trn) ++ ([(⟨x2.ri, x2.rb, x2.ra⟩ : Rw)])).length) c5 37 3 (V.flat encRw (((l.take k).map trn) ++ ([(⟨x2.ri, x2.rb, x2.ra⟩ : Rw)]))), blk b3 [(i_ x2.ri), (u_ x2.ra), (u_ x2.rb)] 37, blk b4 [(i_ x2.ri), (u_ x2.rb), (u_ x2.ra)] 37]) (fun _ _ => rfl) ?_)
      intro A5 c5
      refine A.goA [.p] [(2, e_), (6, (.slice al l.length cl)), (7, (i_ (l.length : Int))), (8, (i_ (k : Int))), (3, (.slice A5 ((((l.take k).map trn) ++ ([(⟨x2.ri, x2.rb, x2.ra⟩ : Rw)])).length) c5)), (9, (b_ (decide ((k : Int) < (l.length : Int))))), (5, (p_ b3))] [] T0 (by kernel_rfl) trivial ?_
      refine A.bn ?_
      refine A.tn ?_
      refine A.region (A.goA [.w ((k : Int) + 1), .p] [(2, e_), (6, (.slice al l.length cl)), (7, (i_ (l.length : Int))), (8, (i_ ((k : Int) + 1))), (3, (.slice A5 ((((l.take k).map trn) ++ ([(⟨x2.ri, x2.rb, x2.ra⟩ : Rw)])).length) c5)), (9, (b_ (decide ((k : Int) < (l.length : Int))))), (5, (p_ b3))] [] (fun κ => (IntKind.i64.wrap ((k : Int) + 1) = ((k : Int) + 1)) ∧ True) (by kernel_rfl) ⟨(wrap_i64 (e := (k : Int) + 1) (by constructor <;> omega)), trivial⟩ ?_)
      refine A.tn ?_
      refine A.setH [sl A5 (((l.take (k + 1)).map trn).length) c5 37 3 (V.flat encRw ((l.take (k + 1)).map trn)), blk b3 [(i_ x2.ri), (u_ x2.ra), (u_ x2.rb)] 37, blk b4 [(i_ x2.ri), (u_ x2.rb), (u_ x2.ra)] 37] (cc (slC (by first | (rw [take_snoc (by assumption)]; simp [trn]; done) | (simp; done) | (rw [List.take_of_length_le (by omega)]) : ((l.take k).map trn) ++ ([(⟨x2.ri, x2.rb, x2.ra⟩ : Rw)]) = ((l.take (k + 1)).map trn))) rfl) ?_
      refine A.sub [(2, e_), (6, (.slice al l.length cl)), (7, (i_ (l.length : Int))), (8, (i_ ((k : Int) + 1))), (3, (.slice A5 (((l.take (k + 1)).map trn).length) c5)), (9, (b_ (decide ((k : Int) < (l.length : Int))))), (5, (p_ b3))] (by exact ⟨rfl, rfl, rfl, rfl, (congrArg (fun z_ : List Rw => some (Value.slice A5 z_.length c5)) (by first | (rw [take_snoc (by assumption)]; simp [trn]; done) | (simp; done) | (rw [List.take_of_length_le (by omega)]) : ((l.take k).map trn) ++ ([(⟨x2.ri, x2.rb, x2.ra⟩ : Rw)]) = ((l.take (k + 1)).map trn))), rfl, rfl, trivial⟩) ?_
      refine A.next (k + 1, A5, c5) (by first | assumption | omega | (simp_all; done) | (simp_all; omega) | grind) (by first | omega | (simp; omega) | (simp_all; omega)) ?_
      exact A.hereK [0] (by exact ⟨rfl, rfl, rfl, rfl, rfl, trivial⟩) (by kernel_rfl)
    · skip
      have p1 := of_decide_eq_false e1
      refine A.exit ?_
      refine A.te ?_
      refine A.te ?_
      refine A.bh ?_
      refine A.tn ?_
      refine A.seq ?_
      refine A.region (A.goA [.p, .p] [(2, (.slice ao (((l.take k).map trn).length) co)), (6, (.slice al l.length cl)), (7, (i_ (l.length : Int))), (8, (i_ (k : Int))), (3, (.slice ao (((l.take k).map trn).length) co)), (9, (b_ (decide ((k : Int) < (l.length : Int)))))] [] T0 (by kernel_rfl) trivial ?_)
      refine A.tn ?_
      refine A.ret ?_
      refine A.setH [sl ao ((l.map trn).length) co 37 3 (V.flat encRw (l.map trn))] (cc (slC (by first | (rw [take_snoc (by assumption)]; simp [trn]; done) | (simp; done) | (rw [List.take_of_length_le (by omega)]) : ((l.take k).map trn) = (l.map trn))) rfl) ?_
      refine A.postK [0] [(.slice ao (((l.take k).map trn).length) co)] (fun aa ww rr ss => ⟨rv_tmp rr rfl, trivial⟩) (ao, co) ?_ ?_ (by kernel_rfl)
      · show ((.slice ao (((l.take k).map trn).length) co) : Value) = (.slice ao ((l.map trn).length) co)
        rw [List.take_of_length_le (by omega)]
      · trivial

set_option maxHeartbeats 4000000 in
set_option maxRecDepth 100000 in
theorem low_spec (al : Option Addr) (l : List Rw) (cl : Nat) (hl : l.length ≤ 100000) (w : World) (r0 : arrAt w al (V.flat encRw l)) :
    Calls Try.prog 45 #[(.slice al l.length cl)] w fun e w' => e = .returned (u_ (lowR l l.length)) ∧ Fr [] w w' := by
  refine calls_of (args := [(.slice al l.length cl)]) (penv [(.slice al l.length cl)]) [] [] Try.func45 rfl rfl (look_penv _) (HS.nil w) ?_
  refine A.norm [(0, (.slice al l.length cl))] [] (by exact ⟨rfl, trivial⟩) rfl ?_
  refine A.seq ?_
  refine A.region (A.goA [.p] [(0, (.slice al l.length cl)), (2, (u_ 0))] [] T0 (by kernel_rfl) trivial ?_)
  refine A.tn ?_
  refine A.seq ?_
  refine A.region (A.goA [.p] [(0, (.slice al l.length cl)), (2, (u_ 0)), (3, (u_ 0))] [] T0 (by kernel_rfl) trivial ?_)
  refine A.tn ?_
  refine A.seq ?_
  refine A.seq ?_
  refine A.region (A.goA [.p, .p, .p] [(0, (.slice al l.length cl)), (2, (u_ 0)), (3, (u_ 0)), (6, (.slice al l.length cl)), (7, (i_ (l.length : Int))), (8, (i_ 0))] [] T0 (by kernel_rfl) trivial ?_)
  refine A.tn ?_
  refine A.block ?_
  refine A.sub [(0, (.slice al l.length cl)), (2, (u_ 0)), (3, (u_ (lowR l 0))), (6, (.slice al l.length cl)), (7, (i_ (l.length : Int))), (8, (i_ 0))] (by exact ⟨rfl, rfl, (congrArg (fun z_ => some (u_ z_)) (by first | rfl | (rw [lowR, (by assumption : l[k]? = some _)]; simp only []; first | (rw [if_pos (by omega)]; done) | (rw [if_neg (by omega)]; done)) : 0 = (lowR l 0))), rfl, rfl, rfl, trivial⟩) ?_
  refine A.loop (fun (zz : Nat) => match zz with | k => [(2, (u_ 0)), (6, (.slice al l.length cl)), (7, (i_ (l.length : Int))), (8, (i_ (k : Int))), (3, (u_ (lowR l k)))]) (fun (zz : Nat) => match zz with | k => []) (fun (zz : Nat) => match zz with | k => (k ≤ l.length)) (fun (zz : Nat) => match zz with | k => l.length - k) (0 : Nat) (by first | assumption | omega | (simp_all; done) | (simp_all; omega) | grind) ?_ ?_
  · exact A.hereK [] (by exact ⟨rfl, rfl, rfl, rfl, rfl, trivial⟩) (by kernel_rfl)
  · rintro k hk
    have hk : k ≤ l.length := hk
    refine A.norm [(2, (u_ 0)), (6, (.slice al l.length cl)), (7, (i_ (l.length : Int))), (8, (i_ (k : Int))), (3, (u_ (lowR l k)))] [] (by exact ⟨rfl, rfl, rfl, rfl, rfl, trivial⟩) rfl ?_
    refine A.seq ?_
    refine A.region (A.goA [.p] [(2, (u_ 0)), (6, (.slice al l.length cl)), (7, (i_ (l.length : Int))), (8, (i_ (k : Int))), (3, (u_ (lowR l k))), (9, (b_ (decide ((k : Int) < (l.length : Int)))))] [] T0 (by kernel_rfl) trivial ?_)
    refine A.tn ?_
    refine A.seq ?_
    refine A.cond (E := decide ((k : Int) < (l.length : Int))) rfl (fun e1 => ?_) (fun e1 => ?_)
    · skip
      have p1 := of_decide_eq_true e1
      refine A.skip ?_
      refine A.tn ?_
      refine A.seq ?_
      refine A.block ?_
      refine A.seq ?_
      refine A.region (A.goP [.p, .ix] [(2, (u_ 0)), (6, (.slice al l.length cl)), (7, (i_ (l.length : Int))), (8, (i_ (k : Int))), (3, (u_ (lowR l k))), (9, (b_ (decide ((k : Int) < (l.length : Int))))), (10, (i_ (k : Int))), (11, (.pointer (some ((at0 al).add (k * 3)))))] [] (fun κ => κ.ix al l.length (k : Int) ∧ True) (by kernel_rfl) ⟨(ixOf encRw_len (by decide) (rd_old r0 (by simp [feet])) (by first | omega | (simp; done))), trivial⟩ ?_)
      obtain ⟨x1, hx1⟩ : ∃ x, (l)[k]? = some x := ⟨_, List.getElem?_eq_getElem (by omega)⟩
      refine A.goA1 [.rd [(i_ x1.ri), (u_ x1.ra), (u_ x1.rb)], .al, .p, .st 0] [2, 6, 7, 8, 3, 9, 5, 4] (fun b2 => [(2, (u_ 0)), (6, (.slice al l.length cl)), (7, (i_ (l.length : Int))), (8, (i_ (k : Int))), (3, (u_ (lowR l k))), (9, (b_ (decide ((k : Int) < (l.length : Int))))), (5, (p_ b2)), (4, (i_ (k : Int)))]) (fun b2 => [blk b2 [(i_ x1.ri), (u_ x1.ra), (u_ x1.rb)] 37]) (fun b2 => [b2]) (fun _ => (fun κ => κ.rd ((at0 al).add (k * 3)) [(i_ x1.ri), (u_ x1.ra), (u_ x1.rb)] ∧ True)) (fun _ => by kernel_rfl) (fun b2 => ⟨(reads_at0 (vs := [(i_ x1.ri), (u_ x1.ra), (u_ x1.rb)]) encRw_len (rd_old r0 (by simp [feet])) hx1 (by simp) rfl), trivial⟩) ?_
      intro b2
      refine A.tn ?_
      refine A.seq ?_
      refine A.region (A.goA [.p, .p, .p, .o, .p, .ld 0, .p, .p, .cl] [(2, (u_ 0)), (6, (.slice al l.length cl)), (7, (i_ (l.length : Int))), (8, (i_ (k : Int))), (3, (u_ (lowR l k))), (9, (b_ (decide ((k : Int) < (l.length : Int))))), (5, (p_ b2)), (4, (i_ (k : Int))), (20, (b_ (((k : Int) == 0) || (decide (x1.ra < (lowR l k))))))] [b2] T0 (by kernel_rfl) trivial ?_)
      refine A.tn ?_
      refine A.cond (E := ((k : Int) == 0) || (decide (x1.ra < (lowR l k)))) rfl (fun e2 => ?_) (fun e2 => ?_)
      · skip
        have p2 := e2; try simp only [decide_eq_true_eq, decide_eq_false_iff_not, beq_iff_eq, beq_eq_false_iff_ne, bne_iff_ne, bne_eq_false_iff_eq, ne_eq, Bool.and_eq_true, Bool.or_eq_true, Bool.or_eq_false_iff, Bool.not_eq_true', Bool.not_eq_false', Int.not_lt, Int.not_le, gt_iff_lt, ge_iff_le, Classical.not_not] at p2
        refine A.region (A.goA [.p, .ld 0, .p] [(2, (u_ 0)), (6, (.slice al l.length cl)), (7, (i_ (l.length : Int))), (8, (i_ (k : Int))), (3, (u_ x1.ra)), (9, (b_ (decide ((k : Int) < (l.length : Int))))), (5, (p_ b2)), (4, (i_ (k : Int))), (20, (b_ (((k : Int) == 0) || (decide (x1.ra < (lowR l k))))))] [b2] T0 (by kernel_rfl) trivial ?_)
        refine A.bn ?_
        refine A.tn ?_
        refine A.region (A.goA [.w ((k : Int) + 1), .p] [(2, (u_ 0)), (6, (.slice al l.length cl)), (7, (i_ (l.length : Int))), (8, (i_ ((k : Int) + 1))), (3, (u_ x1.ra)), (9, (b_ (decide ((k : Int) < (l.length : Int))))), (5, (p_ b2)), (4, (i_ (k : Int))), (20, (b_ (((k : Int) == 0) || (decide (x1.ra < (lowR l k))))))] [] (fun κ => (IntKind.i64.wrap ((k : Int) + 1) = ((k : Int) + 1)) ∧ True) (by kernel_rfl) ⟨(wrap_i64 (e := (k : Int) + 1) (by constructor <;> omega)), trivial⟩ ?_)
        refine A.tn ?_
        refine A.sub [(2, (u_ 0)), (6, (.slice al l.length cl)), (7, (i_ (l.length : Int))), (8, (i_ ((k : Int) + 1))), (3, (u_ (lowR l (k + 1)))), (9, (b_ (decide ((k : Int) < (l.length : Int))))), (5, (p_ b2)), (4, (i_ (k : Int))), (20, (b_ (((k : Int) == 0) || (decide (x1.ra < (lowR l k))))))] (by exact ⟨rfl, rfl, rfl, rfl, (congrArg (fun z_ => some (u_ z_)) (by first | rfl | (rw [lowR, (by assumption : l[k]? = some _)]; simp only []; first | (rw [if_pos (by omega)]; done) | (rw [if_neg (by omega)]; done)) : x1.ra = (lowR l (k + 1)))), rfl, rfl, rfl, rfl, trivial⟩) ?_
        refine A.next (k + 1) (by first | assumption | omega | (simp_all; done) | (simp_all; omega) | grind) (by first | omega | (simp; omega) | (simp_all; omega)) ?_
        exact A.hereK [] (by exact ⟨rfl, rfl, rfl, rfl, rfl, trivial⟩) (by kernel_rfl)
      · skip
        have p2 := e2; try simp only [decide_eq_true_eq, decide_eq_false_iff_not, beq_iff_eq, beq_eq_false_iff_ne, bne_iff_ne, bne_eq_false_iff_eq, ne_eq, Bool.and_eq_true, Bool.or_eq_true, Bool.or_eq_false_iff, Bool.not_eq_true', Bool.not_eq_false', Int.not_lt, Int.not_le, gt_iff_lt, ge_iff_le, Classical.not_not] at p2
        refine A.skip ?_
        refine A.bn ?_
        refine A.tn ?_
        refine A.region (A.goA [.w ((k : Int) + 1), .p] [(2, (u_ 0)), (6, (.slice al l.length cl)), (7, (i_ (l.length : Int))), (8, (i_ ((k : Int) + 1))), (3, (u_ (lowR l k))), (9, (b_ (decide ((k : Int) < (l.length : Int))))), (5, (p_ b2)), (4, (i_ (k : Int))), (20, (b_ (((k : Int) == 0) || (decide (x1.ra < (lowR l k))))))] [] (fun κ => (IntKind.i64.wrap ((k : Int) + 1) = ((k : Int) + 1)) ∧ True) (by kernel_rfl) ⟨(wrap_i64 (e := (k : Int) + 1) (by constructor <;> omega)), trivial⟩ ?_)
        refine A.tn ?_
        refine A.sub [(2, (u_ 0)), (6, (.slice al l.length cl)), (7, (i_ (l.length : Int))), (8, (i_ ((k : Int) + 1))), (3, (u_ (lowR l (k + 1)))), (9, (b_ (decide ((k : Int) < (l.length : Int))))), (5, (p_ b2)), (4, (i_ (k : Int))), (20, (b_ (((k : Int) == 0) || (decide (x1.ra < (lowR l k))))))] (by exact ⟨rfl, rfl, rfl, rfl, (congrArg (fun z_ => some (u_ z_)) (by first | rfl | (rw [lowR, (by assumption : l[k]? = some _)]; simp only []; first | (rw [if_pos (by omega)]; done) | (rw [if_neg (by omega)]; done)) : (lowR l k) = (lowR l (k + 1)))), rfl, rfl, rfl, rfl, trivial⟩) ?_
        refine A.next (k + 1) (by first | assumption | omega | (simp_all; done) | (simp_all; omega) | grind) (by first | omega | (simp; omega) | (simp_all; omega)) ?_
        exact A.hereK [] (by exact ⟨rfl, rfl, rfl, rfl, rfl, trivial⟩) (by kernel_rfl)
    · skip
      have p1 := of_decide_eq_false e1
      refine A.exit ?_
      refine A.te ?_
      refine A.te ?_
      refine A.bh ?_
      refine A.tn ?_
      refine A.seq ?_
      refine A.region (A.goA [.p, .p] [(2, (u_ (lowR l k))), (6, (.slice al l.length cl)), (7, (i_ (l.length : Int))), (8, (i_ (k : Int))), (3, (u_ (lowR l k))), (9, (b_ (decide ((k : Int) < (l.length : Int)))))] [] T0 (by kernel_rfl) trivial ?_)
      refine A.tn ?_
      refine A.ret ?_
      refine A.postQ [(u_ (lowR l k))] (fun aa ww rr ss => ⟨rv_tmp rr rfl, trivial⟩) ?_
      show ((u_ (lowR l k)) : Value) = (u_ (lowR l l.length))
      rw [show k = l.length by omega]

set_option maxHeartbeats 4000000 in
set_option maxRecDepth 100000 in
theorem ints_spec (al : Option Addr) (xs : List Int) (cl : Nat) (bl : Option Addr) (ys : List Int) (dl : Nat) (hl : xs.length ≤ 100000) (w : World) (r0 : arrAt w al (V.flat encI xs)) (r1 : arrAt w bl (V.flat encI ys)) :
    Calls Try.prog 39 #[(.slice al xs.length cl), (.slice bl ys.length dl)] w fun e w' => e = .returned (b_ (xs == ys)) ∧ Fr [] w w' := by
  refine calls_of (args := [(.slice al xs.length cl), (.slice bl ys.length dl)]) (penv [(.slice al xs.length cl), (.slice bl ys.length dl)]) [] [] Try.func39 rfl rfl (look_penv _) (HS.nil w) ?_
  refine A.norm [(0, (.slice al xs.length cl)), (1, (.slice bl ys.length dl))] [] (by exact ⟨rfl, rfl, trivial⟩) rfl ?_
  refine A.seq ?_
  refine A.region (A.goA [.p] [(0, (.slice al xs.length cl)), (1, (.slice bl ys.length dl)), (4, (b_ false))] [] T0 (by kernel_rfl) trivial ?_)
  refine A.tn ?_
  refine A.seq ?_
  refine A.seq ?_
  refine A.region (A.goA [.p, .p, .p, .p, .p] [(0, (.slice al xs.length cl)), (1, (.slice bl ys.length dl)), (4, (b_ false)), (10, (b_ ((xs.length : Int) != (ys.length : Int))))] [] T0 (by kernel_rfl) trivial ?_)
  refine A.tn ?_
  refine A.cond (E := (xs.length : Int) != (ys.length : Int)) rfl (fun e1 => ?_) (fun e1 => ?_)
  · skip
    have p1 := e1; try simp only [decide_eq_true_eq, decide_eq_false_iff_not, beq_iff_eq, beq_eq_false_iff_ne, bne_iff_ne, bne_eq_false_iff_eq, ne_eq, Bool.and_eq_true, Bool.or_eq_true, Bool.or_eq_false_iff, Bool.not_eq_true', Bool.not_eq_false', Int.not_lt, Int.not_le, gt_iff_lt, ge_iff_le, Classical.not_not] at p1
    refine A.seq ?_
    refine A.region (A.goA [.p] [(0, (.slice al xs.length cl)), (1, (.slice bl ys.length dl)), (4, (b_ false)), (10, (b_ ((xs.length : Int) != (ys.length : Int))))] [] T0 (by kernel_rfl) trivial ?_)
    refine A.tn ?_
    refine A.ret ?_
    refine A.tr ?_
    refine A.postQ [(b_ false)] (fun aa ww rr ss => ⟨rv_tmp rr rfl, trivial⟩) ?_
    show ((b_ false) : Value) = (b_ (xs == ys))
    refine congrArg Value.bool ?_; first | exact ne_len (by assumption) | exact ne_lists (by assumption) (by assumption) (by assumption) | exact eq_lists (by omega) (fun j hj => hn j (by omega))
  · skip
    have p1 := e1; try simp only [decide_eq_true_eq, decide_eq_false_iff_not, beq_iff_eq, beq_eq_false_iff_ne, bne_iff_ne, bne_eq_false_iff_eq, ne_eq, Bool.and_eq_true, Bool.or_eq_true, Bool.or_eq_false_iff, Bool.not_eq_true', Bool.not_eq_false', Int.not_lt, Int.not_le, gt_iff_lt, ge_iff_le, Classical.not_not] at p1
    refine A.skip ?_
    refine A.tn ?_
    refine A.seq ?_
    refine A.seq ?_
    refine A.region (A.goA [.p, .p, .p] [(0, (.slice al xs.length cl)), (1, (.slice bl ys.length dl)), (4, (b_ false)), (10, (b_ ((xs.length : Int) != (ys.length : Int)))), (12, (i_ (xs.length : Int))), (13, (i_ 0))] [] T0 (by kernel_rfl) trivial ?_)
    refine A.tn ?_
    refine A.block ?_
    refine A.loop (fun (zz : Nat) => match zz with | k => [(0, (.slice al xs.length cl)), (1, (.slice bl ys.length dl)), (12, (i_ (xs.length : Int))), (13, (i_ (k : Int)))]) (fun (zz : Nat) => match zz with | k => []) (fun (zz : Nat) => match zz with | k => (k ≤ xs.length) ∧ (∀ j, j < k → xs[j]? = ys[j]?)) (fun (zz : Nat) => match zz with | k => xs.length - k) (0 : Nat) ⟨(by first | assumption | omega | (simp_all; done) | (simp_all; omega) | grind), (by intro j hj; omega)⟩ ?_ ?_
    · exact A.hereK [] (by exact ⟨rfl, rfl, rfl, rfl, trivial⟩) (by kernel_rfl)
    · rintro k ⟨hk, hn⟩
      refine A.norm [(0, (.slice al xs.length cl)), (1, (.slice bl ys.length dl)), (12, (i_ (xs.length : Int))), (13, (i_ (k : Int)))] [] (by exact ⟨rfl, rfl, rfl, rfl, trivial⟩) rfl ?_
      refine A.seq ?_
      refine A.region (A.goA [.p] [(0, (.slice al xs.length cl)), (1, (.slice bl ys.length dl)), (12, (i_ (xs.length : Int))), (13, (i_ (k : Int))), (14, (b_ (decide ((k : Int) < (xs.length : Int)))))] [] T0 (by kernel_rfl) trivial ?_)
      refine A.tn ?_
      refine A.seq ?_
      refine A.cond (E := decide ((k : Int) < (xs.length : Int))) rfl (fun e2 => ?_) (fun e2 => ?_)
      · skip
        have p2 := of_decide_eq_true e2
        refine A.skip ?_
        refine A.tn ?_
        refine A.seq ?_
        refine A.block ?_
        refine A.seq ?_
        refine A.region (A.goA [.p, .p] [(0, (.slice al xs.length cl)), (1, (.slice bl ys.length dl)), (12, (i_ (xs.length : Int))), (13, (i_ (k : Int))), (14, (b_ (decide ((k : Int) < (xs.length : Int))))), (5, (i_ (k : Int)))] [] T0 (by kernel_rfl) trivial ?_)
        refine A.tn ?_
        refine A.seq ?_
        obtain ⟨x1, hx1⟩ : ∃ x, (xs)[k]? = some x := ⟨_, List.getElem?_eq_getElem (by omega)⟩
        obtain ⟨x2, hx2⟩ : ∃ x, (ys)[k]? = some x := ⟨_, List.getElem?_eq_getElem (by omega)⟩
        refine A.drawA [.p, .p, .ix, .rd [(i_ x1)], .p, .p, .ix, .rd [(i_ x2)], .p] [0, 1, 2, 3, 4, 5, 6, 7, 8] [(0, (.slice al xs.length cl)), (1, (.slice bl ys.length dl)), (12, (i_ (xs.length : Int))), (13, (i_ (k : Int))), (14, (b_ (decide ((k : Int) < (xs.length : Int))))), (5, (i_ (k : Int))), (24, (b_ (x1 != x2)))] [] (fun κ => κ.ix al xs.length (k : Int) ∧ κ.rd ((at0 al).add (k * 1)) [(i_ x1)] ∧ κ.ix bl ys.length (k : Int) ∧ κ.rd ((at0 bl).add (k * 1)) [(i_ x2)] ∧ True) (by kernel_rfl) (by kernel_rfl) ⟨(ixOf encI_len (by decide) (rd_old r0 (by simp [feet])) (by first | omega | (simp; done))), (reads_at0 (vs := [(i_ x1)]) encI_len (rd_old r0 (by simp [feet])) hx1 (by simp) rfl), (ixOf encI_len (by decide) (rd_old r1 (by simp [feet])) (by first | omega | (simp; done))), (reads_at0 (vs := [(i_ x2)]) encI_len (rd_old r1 (by simp [feet])) hx2 (by simp) rfl), trivial⟩ ?_
        refine A.tn ?_
        refine A.cond (E := x1 != x2) rfl (fun e3 => ?_) (fun e3 => ?_)
        · skip
          have p3 := e3; try simp only [decide_eq_true_eq, decide_eq_false_iff_not, beq_iff_eq, beq_eq_false_iff_ne, bne_iff_ne, bne_eq_false_iff_eq, ne_eq, Bool.and_eq_true, Bool.or_eq_true, Bool.or_eq_false_iff, Bool.not_eq_true', Bool.not_eq_false', Int.not_lt, Int.not_le, gt_iff_lt, ge_iff_le, Classical.not_not] at p3
          refine A.seq ?_
          refine A.region (A.goA [.p] [(0, (.slice al xs.length cl)), (1, (.slice bl ys.length dl)), (12, (i_ (xs.length : Int))), (13, (i_ (k : Int))), (14, (b_ (decide ((k : Int) < (xs.length : Int))))), (5, (i_ (k : Int))), (24, (b_ (x1 != x2))), (4, (b_ false))] [] T0 (by kernel_rfl) trivial ?_)
          refine A.tn ?_
          refine A.ret ?_
          refine A.br ?_
          refine A.tr ?_
          refine A.tr ?_
          refine A.br ?_
          refine A.tr ?_
          refine A.postQ [(b_ false)] (fun aa ww rr ss => ⟨rv_tmp rr rfl, trivial⟩) ?_
          show ((b_ false) : Value) = (b_ (xs == ys))
          refine congrArg Value.bool ?_; first | exact ne_len (by assumption) | exact ne_lists (by assumption) (by assumption) (by assumption) | exact eq_lists (by omega) (fun j hj => hn j (by omega))
        · skip
          have p3 := e3; try simp only [decide_eq_true_eq, decide_eq_false_iff_not, beq_iff_eq, beq_eq_false_iff_ne, bne_iff_ne, bne_eq_false_iff_eq, ne_eq, Bool.and_eq_true, Bool.or_eq_true, Bool.or_eq_false_iff, Bool.not_eq_true', Bool.not_eq_false', Int.not_lt, Int.not_le, gt_iff_lt, ge_iff_le, Classical.not_not] at p3
          refine A.skip ?_
          refine A.bn ?_
          refine A.tn ?_
          refine A.region (A.goA [.w ((k : Int) + 1), .p] [(0, (.slice al xs.length cl)), (1, (.slice bl ys.length dl)), (12, (i_ (xs.length : Int))), (13, (i_ ((k : Int) + 1))), (14, (b_ (decide ((k : Int) < (xs.length : Int))))), (5, (i_ (k : Int))), (24, (b_ (x1 != x2)))] [] (fun κ => (IntKind.i64.wrap ((k : Int) + 1) = ((k : Int) + 1)) ∧ True) (by kernel_rfl) ⟨(wrap_i64 (e := (k : Int) + 1) (by constructor <;> omega)), trivial⟩ ?_)
          refine A.tn ?_
          refine A.next (k + 1) ⟨(by first | assumption | omega | (simp_all; done) | (simp_all; omega) | grind), (by (intro j hj; rcases Nat.lt_or_ge j k with g | g; exact hn j g; (have e_ : j = k := by omega); subst e_; simp_all))⟩ (by first | omega | (simp; omega) | (simp_all; omega)) ?_
          exact A.hereK [] (by exact ⟨rfl, rfl, rfl, rfl, trivial⟩) (by kernel_rfl)
      · skip
        have p2 := of_decide_eq_false e2
        refine A.exit ?_
        refine A.te ?_
        refine A.te ?_
        refine A.bh ?_
        refine A.tn ?_
        refine A.seq ?_
        refine A.region (A.goA [.p] [(0, (.slice al xs.length cl)), (1, (.slice bl ys.length dl)), (12, (i_ (xs.length : Int))), (13, (i_ (k : Int))), (14, (b_ (decide ((k : Int) < (xs.length : Int))))), (4, (b_ true))] [] T0 (by kernel_rfl) trivial ?_)
        refine A.tn ?_
        refine A.ret ?_
        refine A.postQ [(b_ true)] (fun aa ww rr ss => ⟨rv_tmp rr rfl, trivial⟩) ?_
        show ((b_ true) : Value) = (b_ (xs == ys))
        refine congrArg Value.bool ?_; first | exact ne_len (by assumption) | exact ne_lists (by assumption) (by assumption) (by assumption) | exact eq_lists (by omega) (fun j hj => hn j (by omega))

set_option maxHeartbeats 4000000 in
set_option maxRecDepth 100000 in
theorem wmark_spec (al : Option Addr) (l : List Rw) (cl : Nat) (o : Option Nat) (hO : ∀ i, o = some i → i < l.length) (w : World) (r0 : arrAt w al (V.flat encRw l)) :
    Calls Try.prog 37 #[(.slice al l.length cl), (i_ (oI o))] w fun e w' => e = .returned (i_ (mkI l o)) ∧ Fr [] w w' := by
  refine calls_of (args := [(.slice al l.length cl), (i_ (oI o))]) (penv [(.slice al l.length cl), (i_ (oI o))]) [] [] Try.func37 rfl rfl (look_penv _) (HS.nil w) ?_
  refine A.norm [(0, (.slice al l.length cl)), (1, (i_ (oI o)))] [] (by exact ⟨rfl, rfl, trivial⟩) rfl ?_
  refine A.seq ?_
  refine A.region (A.goA [.p] [(0, (.slice al l.length cl)), (1, (i_ (oI o))), (4, (i_ 0))] [] T0 (by kernel_rfl) trivial ?_)
  refine A.tn ?_
  refine A.seq ?_
  refine A.seq ?_
  by_cases ho : o = none
  · skip
    refine A.sub [(0, (.slice al l.length cl)), (1, (i_ (-1))), (4, (i_ 0))] (by exact ⟨rfl, (congrArg (fun z_ => some (i_ z_)) (by rw [ho]; rfl : (oI o) = -1)), rfl, trivial⟩) ?_
    refine A.region (A.goA [.p, .p] [(0, (.slice al l.length cl)), (1, (i_ (-1))), (4, (i_ 0)), (6, (b_ true))] [] T0 (by kernel_rfl) trivial ?_)
    refine A.tn ?_
    refine A.cond_t rfl ?_
    refine A.seq ?_
    refine A.region (A.goA [.p] [(0, (.slice al l.length cl)), (1, (i_ (-1))), (4, (i_ 0)), (6, (b_ true))] [] T0 (by kernel_rfl) trivial ?_)
    refine A.tn ?_
    refine A.ret ?_
    refine A.tr ?_
    refine A.postQ [(i_ 0)] (fun aa ww rr ss => ⟨rv_tmp rr rfl, trivial⟩) ?_
    show ((i_ 0) : Value) = (i_ (mkI l o))
    refine congrArg (Value.int .i64) ?_; first | (rw [ho]; rfl) | (rw [hi]; simp only [mkI]; rw [(by assumption : l[i]? = some _)]; rfl)
  · skip
    obtain ⟨i, hi⟩ := Option.ne_none_iff_exists'.1 ho; have hlt := hO i hi
    refine A.sub [(0, (.slice al l.length cl)), (1, (i_ (i : Int))), (4, (i_ 0))] (by exact ⟨rfl, (congrArg (fun z_ => some (i_ z_)) (by rw [hi]; rfl : (oI o) = (i : Int))), rfl, trivial⟩) ?_
    refine A.region (A.goA [.p, .p] [(0, (.slice al l.length cl)), (1, (i_ (i : Int))), (4, (i_ 0)), (6, (b_ (decide ((i : Int) < 0))))] [] T0 (by kernel_rfl) trivial ?_)
    refine A.tn ?_
    refine A.cond (E := decide ((i : Int) < 0)) rfl (fun e1 => ?_) (fun e1 => ?_)
    · exact absurd e1 (by simp)
    · skip
      have p1 := of_decide_eq_false e1
      refine A.skip ?_
      refine A.tn ?_
      refine A.seq ?_
      refine A.region (A.goP [.p, .p, .ix, .p] [(0, (.slice al l.length cl)), (1, (i_ (i : Int))), (4, (i_ 0)), (6, (b_ (decide ((i : Int) < 0)))), (10, (.pointer (some (((at0 al).add (i * 3)).add 0))))] [] (fun κ => κ.ix al l.length (i : Int) ∧ True) (by kernel_rfl) ⟨(ixOf encRw_len (by decide) (rd_old r0 (by simp [feet])) (by first | omega | (simp; done))), trivial⟩ ?_)
      obtain ⟨x1, hx1⟩ : ∃ x, (l)[i]? = some x := ⟨_, List.getElem?_eq_getElem (by omega)⟩
      refine A.goA [.rd [(i_ x1.ri)], .p] [(0, (.slice al l.length cl)), (1, (i_ (i : Int))), (4, (i_ x1.ri)), (6, (b_ (decide ((i : Int) < 0))))] [] (fun κ => κ.rd (((at0 al).add (i * 3)).add 0) [(i_ x1.ri)] ∧ True) (by kernel_rfl) ⟨(reads_at2 (f := 0) (vs := [(i_ x1.ri)]) encRw_len (rd_old r0 (by simp [feet])) hx1 (by simp) rfl), trivial⟩ ?_
      refine A.tn ?_
      refine A.ret ?_
      refine A.postQ [(i_ x1.ri)] (fun aa ww rr ss => ⟨rv_tmp rr rfl, trivial⟩) ?_
      show ((i_ x1.ri) : Value) = (i_ (mkI l o))
      refine congrArg (Value.int .i64) ?_; first | (rw [ho]; rfl) | (rw [hi]; simp only [mkI]; rw [(by assumption : l[i]? = some _)]; rfl)
end Go.Proofs.Ytdhcglflmkjneaa
