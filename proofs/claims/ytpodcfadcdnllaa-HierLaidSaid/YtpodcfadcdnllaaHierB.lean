/- What the functions of this layer do, proved operation by operation, for all arguments, under the conditions that each theorem states. -/
import Derived.Test.YtpodcfadcdnllaaProg
import Derived.Test.YtpodcfadcdnllaaHierA
namespace Go.Proofs.Ytpodcfadcdnllaa
open Go V
set_option linter.unusedVariables false
set_option linter.unusedSimpArgs false
theorem take_snoc {α : Type} {l : List α} {k : Nat} {x : α} (hx : l[k]? = some x) : l.take (k + 1) = l.take k ++ [x] := by rw [List.take_add_one, hx]; rfl
/-- the document's list as keys and values -/
def kvl (l : List Cl) : List (Int × Cl) := l.map fun c => (c.hi, c)
def oI : Option Nat → Int
  | none => -1
  | some i => (i : Int)
def fd (a : Int) (l : List Cl) : Option Nat := l.findIdx? fun c => decide (c.hi = a)
theorem fd_none {a : Int} {l : List Cl} (h : ∀ y ∈ l, ¬ y.hi = a) : oI (fd a l) = -1 := by
  unfold fd; rw [List.findIdx?_eq_none_iff.2 (by simpa using h)]; rfl
theorem fd_at {a : Int} {l : List Cl} {k : Nat} {x : Cl} (hx : l[k]? = some x) (hk : x.hi = a) (h : ∀ y ∈ l.take k, ¬ y.hi = a) : oI (fd a l) = (k : Int) := by
  unfold fd
  obtain ⟨hl, he⟩ := List.getElem?_eq_some_iff.1 hx
  rw [List.findIdx?_eq_some_iff_getElem.2 ⟨hl, by simp [he, hk], fun j hj => by
    have := h l[j] (List.mem_iff_getElem?.2 ⟨j, by rw [List.getElem?_take, if_pos hj]; exact List.getElem?_eq_getElem _⟩); simpa using this⟩]; rfl
theorem fd_no {a : Int} : ∀ {l : List Cl}, fd a l = none → mget (kvl l) a = none
  | [], _ => rfl
  | c :: l, h => by
    unfold fd at h; rw [List.findIdx?_cons] at h
    by_cases e : c.hi = a
    · simp [e] at h
    · simp only [e, decide_false] at h
      have h2 : fd a l = none := by
        unfold fd; cases hq : List.findIdx? (fun c => decide (c.hi = a)) l with
        | none => rfl
        | some i => rw [hq] at h; simp at h
      have := fd_no h2
      simp only [kvl, List.map_cons, mget]; rw [if_neg e]; exact this
theorem fd_yes {a : Int} : ∀ {l : List Cl} {i : Nat}, fd a l = some i → ∃ x, l[i]? = some x ∧ mget (kvl l) a = some x
  | [], i, h => by simp [fd] at h
  | c :: l, i, h => by
    unfold fd at h; rw [List.findIdx?_cons] at h
    by_cases e : c.hi = a
    · simp [e] at h; subst h; exact ⟨c, rfl, by simp [kvl, mget, e]⟩
    · simp only [e, decide_false] at h
      cases hq : List.findIdx? (fun c => decide (c.hi = a)) l with
      | none => rw [hq] at h; simp at h
      | some k =>
        rw [hq] at h; simp at h; subst h
        obtain ⟨x, h1, h2⟩ := fd_yes (l := l) hq
        exact ⟨x, by simpa using h1, by simp only [kvl, List.map_cons, mget]; rw [if_neg e]; exact h2⟩
theorem fd_ge {a : Int} {l : List Cl} : (oI (fd a l) ≥ 0) ↔ (mget (kvl l) a).isSome = true := by
  cases h : fd a l with
  | none => rw [fd_no h]; simp [oI]
  | some i => obtain ⟨x, _, h2⟩ := fd_yes h; rw [h2]; simp [oI]
theorem fd_neg {a : Int} {l : List Cl} : (oI (fd a l) < 0) ↔ mget (kvl l) a = none := by
  cases h : fd a l with
  | none => rw [fd_no h]; simp [oI]
  | some i => obtain ⟨x, _, h2⟩ := fd_yes h; rw [h2]; simp [oI]
def shR (l : List Cl) (a : Int) : Bool := a == 0 || decide ((ofR (gcl (kvl l) a).la (gcl (kvl l) a).lb (gcl (kvl l) a).lc) > 1)
def upD (l : List Cl) (a : Int) : Nat := depN (kvl l) 70 a
theorem depN_le (kv : List (Int × Cl)) : ∀ (n : Nat) (k : Int), depN kv n k ≤ n
  | 0, _ => by simp [depN]
  | n + 1, k => by unfold depN; split
                   · have := depN_le kv n (gcl kv k).hp; omega
                   · omega
theorem upD_none {l : List Cl} {a : Int} {k : Nat} (hk : k ≤ upD l a) (h : mget (kvl l) (upA (kvl l) a k) = none) : k = upD l a := by
  rcases Nat.lt_or_ge k (upD l a) with g | g
  · exact absurd h (depN_lt (kvl l) 70 a k g)
  · omega
theorem upD_some {l : List Cl} {a : Int} {k : Nat} {x : Cl} (hk : k ≤ upD l a) (h7 : (k : Int) < 70) (h : mget (kvl l) (upA (kvl l) a k) = some x) : k + 1 ≤ upD l a := by
  rcases Nat.lt_or_ge k (upD l a) with g | g
  · exact g
  · have e : k = upD l a := by omega
    have := depN_end (kvl l) 70 a (by unfold upD at e; omega)
    unfold upD at e; rw [← e, h] at this; cases this
theorem upD_all {l : List Cl} {a : Int} {k : Nat} (hk : k ≤ upD l a) (h7 : ¬ (k : Int) < 70) : k = upD l a := by
  have := depN_le (kvl l) 70 a; unfold upD at *; omega
def chR (l : List Cl) (a : Int) : List Int := (l.filter fun c => decide (c.hp = a)).map (·.hi)
theorem chR_snoc {l : List Cl} {a : Int} {x : Cl} : chR (l ++ [x]) a = chR l a ++ (if x.hp = a then [x.hi] else []) := by
  unfold chR; rw [List.filter_append, List.map_append]; by_cases h : x.hp = a <;> simp [h]
theorem chR_len (l : List Cl) (a : Int) : (chR l a).length ≤ l.length := by unfold chR; rw [List.length_map]; exact List.length_filter_le _ _
def wo (a : Int) (l : List Cl) : List Cl := l.filter (fun r => !decide (r.hi = a))
theorem wo_snoc {a : Int} {l : List Cl} {x : Cl} : wo a (l ++ [x]) = wo a l ++ (if x.hi = a then [] else [x]) := by
  unfold wo; rw [List.filter_append]; by_cases h : x.hi = a <;> simp [h]
theorem wo_len (a : Int) (l : List Cl) : (wo a l).length ≤ l.length := List.length_filter_le _ _
def rlR (l : List Cl) : List Cv := (l.filter fun v_ => decide ((ofR v_.ra v_.rb v_.rc) > 1)).map rtOf
theorem rlR_snoc {l : List Cl} {x : Cl} : rlR (l ++ [x]) = rlR l ++ (if (ofR x.ra x.rb x.rc) > 1 then [rtOf x] else []) := by
  unfold rlR; rw [List.filter_append, List.map_append]; by_cases h : (ofR x.ra x.rb x.rc) > 1 <;> simp [h]
theorem rlR_len (l : List Cl) : (rlR l).length ≤ l.length := by unfold rlR; rw [List.length_map]; exact List.length_filter_le _ _
def sfo (x : Cl) (l : List Cl) : Nat → List Cl × Bool
  | 0 => ([], false)
  | k + 1 => match l[k]? with
    | none => sfo x l k
    | some r =>
      (if r.hi ≠ x.hi then (if !(sfo x l k).2 && decide (r.hi ≥ x.hi) then (sfo x l k).1 ++ [x] else (sfo x l k).1) ++ [r] else (if !(sfo x l k).2 && decide (r.hi ≥ x.hi) then (sfo x l k).1 ++ [x] else (sfo x l k).1),
        (sfo x l k).2 || (!(sfo x l k).2 && decide (r.hi ≥ x.hi)))
theorem sfo_succ {x r : Cl} {l : List Cl} {k : Nat} (h : l[k]? = some r) : sfo x l (k + 1) =
      (if r.hi ≠ x.hi then (if !(sfo x l k).2 && decide (r.hi ≥ x.hi) then (sfo x l k).1 ++ [x] else (sfo x l k).1) ++ [r] else (if !(sfo x l k).2 && decide (r.hi ≥ x.hi) then (sfo x l k).1 ++ [x] else (sfo x l k).1),
        (sfo x l k).2 || (!(sfo x l k).2 && decide (r.hi ≥ x.hi))) := by rw [sfo, h]
theorem sfo_len (x : Cl) (l : List Cl) : ∀ k, (sfo x l k).1.length ≤ k + (if (sfo x l k).2 then 1 else 0)
  | 0 => by simp [sfo]
  | k + 1 => by
    have ih := sfo_len x l k
    cases hr : l[k]? with
    | none => rw [show sfo x l (k + 1) = sfo x l k by rw [sfo, hr]]; split <;> split at ih <;> first | omega | simp_all
    | some r =>
      rw [sfo_succ hr]
      cases hp : (sfo x l k).2 <;> rw [hp] at ih <;> by_cases h1 : r.hi = x.hi <;> by_cases h2 : x.hi ≤ r.hi <;> simp [h1, h2] at ih ⊢ <;> omega
theorem sfo_len1 (x : Cl) (l : List Cl) (k : Nat) : (sfo x l k).1.length ≤ k + 1 := by have := sfo_len x l k; split at this <;> omega
def setL (x : Cl) (l : List Cl) : List Cl := if (sfo x l l.length).2 then (sfo x l l.length).1 else (sfo x l l.length).1 ++ [x]
theorem setL_len (x : Cl) (l : List Cl) : (setL x l).length ≤ l.length + 1 := by
  have := sfo_len x l l.length
  unfold setL; split <;> simp_all
def addER (l : List Cl) (y : Cl) : Int := if wrongR y ≠ 0 then wrongR y else if (mget (kvl l) y.hi).isSome = true then 8 else if (l.length : Int) = 64 then 5
  else if y.hp ≠ 0 ∧ (mget (kvl l) y.hp = none ∨ (gcl (kvl l) y.hp).hl = true) then 23
  else if (ofR y.la y.lb y.lc) > 1 ∧ shR l y.hp = false then 29 else if (upD l y.hp : Int) ≥ 16 then 25 else 0
def addLR (l : List Cl) (y : Cl) : List Cl := if addER l y = 0 then setL y l else l
def delER (l : List Cl) (a : Int) : Int := if mget (kvl l) a = none then 6 else if ((chR l a).length : Int) > 0 then 23 else 0
def delLR (l : List Cl) (a : Int) : List Cl := if delER l a = 0 then wo a l else l
def shB (l : List Cl) (y : Cl) (i : Int) : Bool := !decide ((ofR y.la y.lb y.lc) > 1) && shR l i
def setER (l : List Cl) (y : Cl) : Int := if wrongR y ≠ 0 then wrongR y else if mget (kvl l) y.hi = none then 6
  else if (gcl (kvl l) y.hi).hp ≠ y.hp ∨ (gcl (kvl l) y.hi).hl ≠ y.hl then 1
  else if (ofR y.la y.lb y.lc) > 1 ∧ shR l y.hp = false then 29 else if (chR l y.hi).any (shB l y) = true then 29 else 0
def setLR (l : List Cl) (y : Cl) : List Cl := if setER l y = 0 then setL y l else l
theorem addLR_ok {l : List Cl} {y : Cl} (h : addER l y = 0) : addLR l y = setL y l := by unfold addLR; rw [if_pos h]
theorem addLR_no {l : List Cl} {y : Cl} (h : addER l y ≠ 0) : addLR l y = l := by unfold addLR; rw [if_neg h]
theorem setLR_ok {l : List Cl} {y : Cl} (h : setER l y = 0) : setLR l y = setL y l := by unfold setLR; rw [if_pos h]
theorem setLR_no {l : List Cl} {y : Cl} (h : setER l y ≠ 0) : setLR l y = l := by unfold setLR; rw [if_neg h]
theorem delLR_ok {l : List Cl} {a : Int} (h : delER l a = 0) : delLR l a = wo a l := by unfold delLR; rw [if_pos h]
theorem delLR_no {l : List Cl} {a : Int} (h : delER l a ≠ 0) : delLR l a = l := by unfold delLR; rw [if_neg h]

set_option maxHeartbeats 4000000 in
set_option maxRecDepth 100000 in
theorem fd_spec (al : Option Addr) (l : List Cl) (cl : Nat) (a : Int) (hl : l.length ≤ 100000) (w : World) (r0 : arrAt w al (V.flat encCl l)) :
    Calls Try.prog 42 #[(.slice al l.length cl), (i_ a)] w fun e w' => e = .returned (i_ (oI (fd a l))) ∧ Fr [] w w' := by
  refine calls_of (args := [(.slice al l.length cl), (i_ a)]) (penv [(.slice al l.length cl), (i_ a)]) [] [] Try.func42 rfl rfl (look_penv _) (HS.nil w) ?_
  refine A.norm [(0, (.slice al l.length cl)), (1, (i_ a))] [] (by exact ⟨rfl, rfl, trivial⟩) rfl ?_
  refine A.seq ?_
  refine A.region (A.goA [.p] [(0, (.slice al l.length cl)), (1, (i_ a)), (4, (i_ 0))] [] T0 (by kernel_rfl) trivial ?_)
  refine A.tn ?_
  refine A.seq ?_
  refine A.seq ?_
  refine A.region (A.goA [.p, .p, .p] [(0, (.slice al l.length cl)), (1, (i_ a)), (4, (i_ 0)), (7, (.slice al l.length cl)), (8, (i_ (l.length : Int))), (9, (i_ 0))] [] T0 (by kernel_rfl) trivial ?_)
  refine A.tn ?_
  refine A.block ?_
  refine A.loop (fun (zz : Nat) => match zz with | k => [(1, (i_ a)), (7, (.slice al l.length cl)), (8, (i_ (l.length : Int))), (9, (i_ (k : Int)))]) (fun (zz : Nat) => match zz with | k => []) (fun (zz : Nat) => match zz with | k => (k ≤ l.length) ∧ (∀ y ∈ l.take k, ¬ y.hi = a)) (fun (zz : Nat) => match zz with | k => l.length - k) (0 : Nat) ⟨(by first | assumption | omega | (simp_all; done) | (simp_all; omega) | grind), (by simp)⟩ ?_ ?_
  · exact A.hereK [] (by exact ⟨rfl, rfl, rfl, rfl, trivial⟩) (by kernel_rfl)
  · rintro k ⟨hk, hn⟩
    refine A.norm [(1, (i_ a)), (7, (.slice al l.length cl)), (8, (i_ (l.length : Int))), (9, (i_ (k : Int)))] [] (by exact ⟨rfl, rfl, rfl, rfl, trivial⟩) rfl ?_
    refine A.seq ?_
    refine A.region (A.goA [.p] [(1, (i_ a)), (7, (.slice al l.length cl)), (8, (i_ (l.length : Int))), (9, (i_ (k : Int))), (10, (b_ (decide ((k : Int) < (l.length : Int)))))] [] T0 (by kernel_rfl) trivial ?_)
    refine A.tn ?_
    refine A.seq ?_
    refine A.cond (E := decide ((k : Int) < (l.length : Int))) rfl (fun e1 => ?_) (fun e1 => ?_)
    · skip
      have p1 := of_decide_eq_true e1
      refine A.skip ?_
      refine A.tn ?_
      refine A.seq ?_
      refine A.block ?_
      refine A.seq ?_
      refine A.region (A.goP [.p, .ix] [(1, (i_ a)), (7, (.slice al l.length cl)), (8, (i_ (l.length : Int))), (9, (i_ (k : Int))), (10, (b_ (decide ((k : Int) < (l.length : Int))))), (11, (i_ (k : Int))), (12, (.pointer (some ((at0 al).add (k * 14)))))] [] (fun κ => κ.ix al l.length (k : Int) ∧ True) (by kernel_rfl) ⟨(ixOf encCl_len (by decide) (rd_old r0 (by simp [feet])) (by first | omega | (simp; omega) | (simp; done))), trivial⟩ ?_)
      obtain ⟨x1, hx1⟩ : ∃ x, (l)[k]? = some x := ⟨_, List.getElem?_eq_getElem (by omega)⟩
      refine A.goA1 [.rd [(i_ x1.hi), (i_ x1.hp), (b_ x1.hl), (u_ x1.ra), (u_ x1.rb), (u_ x1.rc), (u_ x1.la), (u_ x1.lb), (u_ x1.lc), (u_ x1.ua), (u_ x1.ub), (u_ x1.uc), (i_ x1.hk), (i_ x1.hq)], .al, .p, .st 0] [1, 7, 8, 9, 10, 6, 5] (fun b2 => [(1, (i_ a)), (7, (.slice al l.length cl)), (8, (i_ (l.length : Int))), (9, (i_ (k : Int))), (10, (b_ (decide ((k : Int) < (l.length : Int))))), (6, (p_ b2)), (5, (i_ (k : Int)))]) (fun b2 => [blk b2 [(i_ x1.hi), (i_ x1.hp), (b_ x1.hl), (u_ x1.ra), (u_ x1.rb), (u_ x1.rc), (u_ x1.la), (u_ x1.lb), (u_ x1.lc), (u_ x1.ua), (u_ x1.ub), (u_ x1.uc), (i_ x1.hk), (i_ x1.hq)] 30]) (fun b2 => [b2]) (fun _ => (fun κ => κ.rd ((at0 al).add (k * 14)) [(i_ x1.hi), (i_ x1.hp), (b_ x1.hl), (u_ x1.ra), (u_ x1.rb), (u_ x1.rc), (u_ x1.la), (u_ x1.lb), (u_ x1.lc), (u_ x1.ua), (u_ x1.ub), (u_ x1.uc), (i_ x1.hk), (i_ x1.hq)] ∧ True)) (fun _ => by kernel_rfl) (fun b2 => ⟨(reads_at0 (vs := [(i_ x1.hi), (i_ x1.hp), (b_ x1.hl), (u_ x1.ra), (u_ x1.rb), (u_ x1.rc), (u_ x1.la), (u_ x1.lb), (u_ x1.lc), (u_ x1.ua), (u_ x1.ub), (u_ x1.uc), (i_ x1.hk), (i_ x1.hq)]) encCl_len (rd_old r0 (by simp [feet])) hx1 (by simp) rfl), trivial⟩) ?_
      intro b2
      refine A.tn ?_
      refine A.seq ?_
      refine A.region (A.goA [.p, .ld 0, .p, .p] [(1, (i_ a)), (7, (.slice al l.length cl)), (8, (i_ (l.length : Int))), (9, (i_ (k : Int))), (10, (b_ (decide ((k : Int) < (l.length : Int))))), (6, (p_ b2)), (5, (i_ (k : Int))), (17, (b_ (x1.hi == a)))] [b2] T0 (by kernel_rfl) trivial ?_)
      refine A.tn ?_
      refine A.cond (E := x1.hi == a) rfl (fun e2 => ?_) (fun e2 => ?_)
      · skip
        have p2 := e2; try simp only [decide_eq_true_eq, decide_eq_false_iff_not, beq_iff_eq, beq_eq_false_iff_ne, bne_iff_ne, bne_eq_false_iff_eq, ne_eq, Bool.and_eq_true, Bool.or_eq_true, Bool.or_eq_false_iff, Bool.not_eq_true', Bool.not_eq_false', Int.not_lt, Int.not_le, gt_iff_lt, ge_iff_le, Classical.not_not] at p2
        refine A.seq ?_
        refine A.region (A.goA [.p, .p] [(1, (i_ a)), (7, (.slice al l.length cl)), (8, (i_ (l.length : Int))), (9, (i_ (k : Int))), (10, (b_ (decide ((k : Int) < (l.length : Int))))), (6, (p_ b2)), (5, (i_ (k : Int))), (17, (b_ (x1.hi == a))), (4, (i_ (k : Int)))] [] T0 (by kernel_rfl) trivial ?_)
        refine A.tn ?_
        refine A.ret ?_
        refine A.br ?_
        refine A.tr ?_
        refine A.tr ?_
        refine A.br ?_
        refine A.tr ?_
        refine A.postQ [(i_ (k : Int))] (fun aa ww rr ss => ⟨rv_tmp rr rfl, trivial⟩) ?_
        show ((i_ (k : Int)) : Value) = (i_ (oI (fd a l)))
        refine congrArg (Value.int .i64) ?_; first | exact (fd_at (by assumption) (by simp_all) hn).symm | (rw [List.take_of_length_le (by omega)] at hn; exact (fd_none hn).symm)
      · skip
        have p2 := e2; try simp only [decide_eq_true_eq, decide_eq_false_iff_not, beq_iff_eq, beq_eq_false_iff_ne, bne_iff_ne, bne_eq_false_iff_eq, ne_eq, Bool.and_eq_true, Bool.or_eq_true, Bool.or_eq_false_iff, Bool.not_eq_true', Bool.not_eq_false', Int.not_lt, Int.not_le, gt_iff_lt, ge_iff_le, Classical.not_not] at p2
        refine A.skip ?_
        refine A.bn ?_
        refine A.tn ?_
        refine A.region (A.goA [.w ((k : Int) + 1), .p] [(1, (i_ a)), (7, (.slice al l.length cl)), (8, (i_ (l.length : Int))), (9, (i_ ((k : Int) + 1))), (10, (b_ (decide ((k : Int) < (l.length : Int))))), (6, (p_ b2)), (5, (i_ (k : Int))), (17, (b_ (x1.hi == a)))] [] (fun κ => (IntKind.i64.wrap ((k : Int) + 1) = ((k : Int) + 1)) ∧ True) (by kernel_rfl) ⟨(wrap_i64 (e := (k : Int) + 1) (by constructor <;> omega)), trivial⟩ ?_)
        refine A.tn ?_
        refine A.next (k + 1) ⟨(by first | assumption | omega | (simp_all; done) | (simp_all; omega) | grind), (by rw [take_snoc (by assumption)]; intro y hy; rcases List.mem_append.1 hy with hy | hy; exact hn y hy; (simp at hy; subst hy; simp_all))⟩ (by first | omega | (simp; omega) | (simp_all; omega)) ?_
        exact A.hereK [] (by exact ⟨rfl, rfl, rfl, rfl, trivial⟩) (by kernel_rfl)
    · skip
      have p1 := of_decide_eq_false e1
      refine A.exit ?_
      refine A.te ?_
      refine A.te ?_
      refine A.bh ?_
      refine A.tn ?_
      refine A.seq ?_
      refine A.region (A.goA [.p] [(1, (i_ a)), (7, (.slice al l.length cl)), (8, (i_ (l.length : Int))), (9, (i_ (k : Int))), (10, (b_ (decide ((k : Int) < (l.length : Int))))), (4, (i_ (-1)))] [] T0 (by kernel_rfl) trivial ?_)
      refine A.tn ?_
      refine A.ret ?_
      refine A.postQ [(i_ (-1))] (fun aa ww rr ss => ⟨rv_tmp rr rfl, trivial⟩) ?_
      show ((i_ (-1)) : Value) = (i_ (oI (fd a l)))
      refine congrArg (Value.int .i64) ?_; first | exact (fd_at (by assumption) (by simp_all) hn).symm | (rw [List.take_of_length_le (by omega)] at hn; exact (fd_none hn).symm)

set_option maxHeartbeats 4000000 in
set_option maxRecDepth 100000 in
theorem shR_spec (al : Option Addr) (l : List Cl) (cl : Nat) (a : Int) (hl : l.length ≤ 100000) (w : World) (r0 : arrAt w al (V.flat encCl l)) :
    Calls Try.prog 44 #[(.slice al l.length cl), (i_ a)] w fun e w' => e = .returned (b_ (shR l a)) ∧ Fr [] w w' := by
  refine calls_of (args := [(.slice al l.length cl), (i_ a)]) (penv [(.slice al l.length cl), (i_ a)]) [] [] Try.func44 rfl rfl (look_penv _) (HS.nil w) ?_
  refine A.norm [(0, (.slice al l.length cl)), (1, (i_ a))] [] (by exact ⟨rfl, rfl, trivial⟩) rfl ?_
  refine A.seq ?_
  refine A.region (A.goA [.p] [(0, (.slice al l.length cl)), (1, (i_ a)), (4, (b_ false))] [] T0 (by kernel_rfl) trivial ?_)
  refine A.tn ?_
  refine A.seq ?_
  refine A.region (A.goA [.p, .p, .cq (i_ (oI (fd a l))), .p] [(0, (.slice al l.length cl)), (1, (i_ a)), (4, (b_ false)), (5, (i_ (oI (fd a l))))] [] (fun κ => κ.call 42 [(.slice al l.length cl), (i_ a)] (i_ (oI (fd a l))) ∧ True) (by kernel_rfl) ⟨(fun ww ss => fd_spec al l cl a (by first | assumption | omega) ww ((rd_old r0 (by simp [feet])) ww ss)), trivial⟩ ?_)
  refine A.tn ?_
  refine A.seq ?_
  by_cases ho : fd a l = none
  · skip
    have hm := fd_no ho
    refine A.sub [(0, (.slice al l.length cl)), (1, (i_ a)), (4, (b_ false)), (5, (i_ (-1)))] (by exact ⟨rfl, rfl, rfl, (congrArg (fun z_ => some (i_ z_)) (by rw [ho]; rfl : (oI (fd a l)) = -1)), trivial⟩) ?_
    refine A.region (A.goP [.p, .p, .p] [(0, (.slice al l.length cl)), (1, (i_ a)), (4, (b_ false)), (5, (i_ (-1))), (11, (b_ (a == 0)))] [] T0 (by kernel_rfl) trivial ?_)
    refine A.bool (a == 0) (fun e1 => ?_) (fun e1 => ?_)
    · skip
      refine A.sub [(0, (.slice al l.length cl)), (1, (i_ a)), (4, (b_ false)), (5, (i_ (-1))), (11, (b_ true))] (by exact ⟨rfl, rfl, rfl, rfl, (congrArg (fun z => some (Value.bool z)) e1), trivial⟩) ?_
      refine A.goA [.sk, .sk, .sk, .sk, .sk, .sk, .sk, .sk, .sk, .sk, .sk, .p, .p] [(0, (.slice al l.length cl)), (1, (i_ a)), (4, (b_ true)), (5, (i_ (-1)))] [] T0 (by kernel_rfl) trivial ?_
      refine A.tn ?_
      refine A.ret ?_
      refine A.postQ [(b_ true)] (fun aa ww rr ss => ⟨rv_tmp rr rfl, trivial⟩) ?_
      show ((b_ true) : Value) = (b_ (shR l a))
      refine congrArg Value.bool ?_; unfold shR gcl; rw [hm]; first | rfl | (simp_all; done) | (simp_all [cl0, ofR]; done)
    · skip
      refine A.sub [(0, (.slice al l.length cl)), (1, (i_ a)), (4, (b_ false)), (5, (i_ (-1))), (11, (b_ false))] (by exact ⟨rfl, rfl, rfl, rfl, (congrArg (fun z => some (Value.bool z)) e1), trivial⟩) ?_
      refine A.goA [.p, .p, .p, .sk, .sk, .sk, .sk, .sk, .sk, .sk, .p, .p, .p] [(0, (.slice al l.length cl)), (1, (i_ a)), (4, (b_ false)), (5, (i_ (-1)))] [] T0 (by kernel_rfl) trivial ?_
      refine A.tn ?_
      refine A.ret ?_
      refine A.postQ [(b_ false)] (fun aa ww rr ss => ⟨rv_tmp rr rfl, trivial⟩) ?_
      show ((b_ false) : Value) = (b_ (shR l a))
      refine congrArg Value.bool ?_; unfold shR gcl; rw [hm]; first | rfl | (simp_all; done) | (simp_all [cl0, ofR]; done)
  · skip
    obtain ⟨i, hi⟩ := Option.ne_none_iff_exists'.1 ho; obtain ⟨x, hx, hm⟩ := fd_yes hi; have hlt := (List.getElem?_eq_some_iff.1 hx).1
    refine A.sub [(0, (.slice al l.length cl)), (1, (i_ a)), (4, (b_ false)), (5, (i_ (i : Int)))] (by exact ⟨rfl, rfl, rfl, (congrArg (fun z_ => some (i_ z_)) (by rw [hi]; rfl : (oI (fd a l)) = (i : Int))), trivial⟩) ?_
    refine A.region (A.goA [.p, .p, .p, .o, .p, .p, .p, .o, .p, .p, .ix, .p, .rd [(u_ x.la), (u_ x.lb), (u_ x.lc)], .cq (i_ (ofR x.la x.lb x.lc)), .p, .cl, .cl, .p] [(0, (.slice al l.length cl)), (1, (i_ a)), (4, (b_ ((a == 0) || ((decide ((i : Int) ≥ 0)) && (decide ((ofR x.la x.lb x.lc) > 1)))))), (5, (i_ (i : Int)))] [] (fun κ => (((true && ((a == 0) == false)) && ((decide ((i : Int) ≥ 0)) == true)) = true → κ.ix al l.length (i : Int)) ∧ (((true && ((a == 0) == false)) && ((decide ((i : Int) ≥ 0)) == true)) = true → κ.rd (((at0 al).add (i * 14)).add 6) [(u_ x.la), (u_ x.lb), (u_ x.lc)]) ∧ (((true && ((a == 0) == false)) && ((decide ((i : Int) ≥ 0)) == true)) = true → κ.call 43 [(.agg #[(u_ x.la), (u_ x.lb), (u_ x.lc)])] (i_ (ofR x.la x.lb x.lc))) ∧ True) (by kernel_rfl) ⟨(fun h_ => (ixOf encCl_len (by decide) (rd_old r0 (by simp [feet])) (by first | omega | (simp; omega) | (simp; done)))), (fun h_ => (reads_at2 (f := 6) (vs := [(u_ x.la), (u_ x.lb), (u_ x.lc)]) encCl_len (rd_old r0 (by simp [feet])) hx (by simp) rfl)), (fun h_ => (fun ww ss => rof_spec x.la x.lb x.lc ww)), trivial⟩ ?_)
    refine A.tn ?_
    refine A.ret ?_
    refine A.postQ [(b_ ((a == 0) || ((decide ((i : Int) ≥ 0)) && (decide ((ofR x.la x.lb x.lc) > 1)))))] (fun aa ww rr ss => ⟨rv_tmp rr rfl, trivial⟩) ?_
    show ((b_ ((a == 0) || ((decide ((i : Int) ≥ 0)) && (decide ((ofR x.la x.lb x.lc) > 1))))) : Value) = (b_ (shR l a))
    refine congrArg Value.bool ?_; unfold shR gcl; rw [hm]; first | rfl | (simp_all; done) | (simp_all [cl0, ofR]; done)

set_option maxHeartbeats 4000000 in
set_option maxRecDepth 100000 in
theorem upR_spec (al : Option Addr) (l : List Cl) (cl : Nat) (a : Int) (hl : l.length ≤ 100000) (w : World) (r0 : arrAt w al (V.flat encCl l)) (hs : HS w (feet []) [] w) :
    Calls Try.prog 28 #[(.slice al l.length cl), (i_ a)] w fun e w' => ∃ zz, e = .returned ((fun (zz : (Option Addr) × Nat) => match zz with | (al', cl') => (.slice al' ((upL (kvl l) a (upD l a)).length) cl')) zz) ∧ (fun (zz : (Option Addr) × Nat) => match zz with | (al', cl') => True) zz ∧ Turn [] ((fun (zz : (Option Addr) × Nat) => match zz with | (al', cl') => [sl al' ((upL (kvl l) a (upD l a)).length) cl' 3 1 (V.flat encI (upL (kvl l) a (upD l a)))]) zz) w w' := by
  refine calls_of (args := [(.slice al l.length cl), (i_ a)]) (penv [(.slice al l.length cl), (i_ a)]) (feet []) [] Try.func28 rfl rfl (look_penv _) hs ?_
  refine A.norm [(0, (.slice al l.length cl)), (1, (i_ a))] [] (by exact ⟨rfl, rfl, trivial⟩) rfl ?_
  refine A.seq ?_
  refine A.region (A.goA [.p] [(0, (.slice al l.length cl)), (1, (i_ a)), (4, e_)] [] T0 (by kernel_rfl) trivial ?_)
  refine A.tn ?_
  refine A.seq ?_
  refine A.region (A.goA [.p] [(0, (.slice al l.length cl)), (1, (i_ a)), (4, e_), (5, e_)] [] T0 (by kernel_rfl) trivial ?_)
  refine A.tn ?_
  refine A.seq ?_
  refine A.region (A.goA [.p, .p] [(0, (.slice al l.length cl)), (1, (i_ a)), (4, e_), (5, e_), (6, (i_ a))] [] T0 (by kernel_rfl) trivial ?_)
  refine A.tn ?_
  refine A.seq ?_
  refine A.seq ?_
  refine A.region (A.goA [.p] [(0, (.slice al l.length cl)), (1, (i_ a)), (4, e_), (5, e_), (6, (i_ a)), (9, (i_ 0))] [] T0 (by kernel_rfl) trivial ?_)
  refine A.tn ?_
  refine A.block ?_
  refine A.ownNil 3 1 [sl none (([] : List Int).length) 0 3 1 (V.flat encI ([] : List Int))] rfl ?_
  refine A.sub [(0, (.slice al l.length cl)), (1, (i_ a)), (4, e_), (5, (.slice none (([] : List Int).length) 0)), (6, (i_ (upA (kvl l) a 0))), (9, (i_ 0))] (by exact ⟨rfl, rfl, rfl, rfl, (congrArg (fun z_ => some (i_ z_)) (by first | rfl | exact upL_snoc _ _ _ | (show x.hp = (gcl (kvl l) (upA (kvl l) a k)).hp; unfold gcl; rw [hm]; rfl) | rw [upD_none hk hm] | rw [upD_all hk (by assumption)] : a = (upA (kvl l) a 0))), rfl, trivial⟩) ?_
  refine A.setH [sl none ((upL (kvl l) a 0).length) 0 3 1 (V.flat encI (upL (kvl l) a 0))] (cc (slC (by first | rfl | exact upL_snoc _ _ _ | (show x.hp = (gcl (kvl l) (upA (kvl l) a k)).hp; unfold gcl; rw [hm]; rfl) | rw [upD_none hk hm] | rw [upD_all hk (by assumption)] : ([] : List Int) = (upL (kvl l) a 0))) rfl) ?_
  refine A.sub [(0, (.slice al l.length cl)), (1, (i_ a)), (4, e_), (5, (.slice none ((upL (kvl l) a 0).length) 0)), (6, (i_ (upA (kvl l) a 0))), (9, (i_ 0))] (by exact ⟨rfl, rfl, rfl, (congrArg (fun z_ : List Int => some (Value.slice none z_.length 0)) (by first | rfl | exact upL_snoc _ _ _ | (show x.hp = (gcl (kvl l) (upA (kvl l) a k)).hp; unfold gcl; rw [hm]; rfl) | rw [upD_none hk hm] | rw [upD_all hk (by assumption)] : ([] : List Int) = (upL (kvl l) a 0))), rfl, rfl, trivial⟩) ?_
  refine A.loop (fun (zz : Nat × (Option Addr) × Nat) => match zz with | (k, ao, co) => [(0, (.slice al l.length cl)), (4, e_), (9, (i_ (k : Int))), (6, (i_ (upA (kvl l) a k))), (5, (.slice ao ((upL (kvl l) a k).length) co))]) (fun (zz : Nat × (Option Addr) × Nat) => match zz with | (k, ao, co) => [sl ao ((upL (kvl l) a k).length) co 3 1 (V.flat encI (upL (kvl l) a k))]) (fun (zz : Nat × (Option Addr) × Nat) => match zz with | (k, ao, co) => (k ≤ upD l a)) (fun (zz : Nat × (Option Addr) × Nat) => match zz with | (k, ao, co) => 70 - k) (0, none, 0) (by first | assumption | omega | (simp_all; done) | (simp_all; omega) | grind) ?_ ?_
  · exact A.hereK [0] (by exact ⟨rfl, rfl, rfl, rfl, rfl, trivial⟩) (by kernel_rfl)
  · rintro ⟨k, ao, co⟩ hk
    have hk : k ≤ upD l a := hk
    have hul := upL_len (kvl l) a k; have hk7 := depN_le (kvl l) 70 a; have hk8 : k ≤ 70 := (by unfold upD at hk; omega)
    refine A.norm [(0, (.slice al l.length cl)), (4, e_), (9, (i_ (k : Int))), (6, (i_ (upA (kvl l) a k))), (5, (.slice ao ((upL (kvl l) a k).length) co))] [sl ao ((upL (kvl l) a k).length) co 3 1 (V.flat encI (upL (kvl l) a k))] (by exact ⟨rfl, rfl, rfl, rfl, rfl, trivial⟩) rfl ?_
    refine A.seq ?_
    refine A.region (A.goA [.p] [(0, (.slice al l.length cl)), (4, e_), (9, (i_ (k : Int))), (6, (i_ (upA (kvl l) a k))), (5, (.slice ao ((upL (kvl l) a k).length) co)), (10, (b_ (decide ((k : Int) < 70))))] [] T0 (by kernel_rfl) trivial ?_)
    refine A.tn ?_
    refine A.seq ?_
    refine A.cond (E := decide ((k : Int) < 70)) rfl (fun e1 => ?_) (fun e1 => ?_)
    · skip
      have p1 := of_decide_eq_true e1
      refine A.skip ?_
      refine A.tn ?_
      refine A.seq ?_
      refine A.block ?_
      refine A.seq ?_
      refine A.region (A.goA [.p, .p, .cq (i_ (oI (fd (upA (kvl l) a k) l))), .p] [(0, (.slice al l.length cl)), (4, e_), (9, (i_ (k : Int))), (6, (i_ (upA (kvl l) a k))), (5, (.slice ao ((upL (kvl l) a k).length) co)), (10, (b_ (decide ((k : Int) < 70)))), (7, (i_ (oI (fd (upA (kvl l) a k) l))))] [] (fun κ => κ.call 42 [(.slice al l.length cl), (i_ (upA (kvl l) a k))] (i_ (oI (fd (upA (kvl l) a k) l))) ∧ True) (by kernel_rfl) ⟨(fun ww ss => fd_spec al l cl (upA (kvl l) a k) (by first | assumption | omega) ww ((rd_old r0 (by simp [feet])) ww ss)), trivial⟩ ?_)
      refine A.tn ?_
      refine A.seq ?_
      refine A.seq ?_
      by_cases ho : fd (upA (kvl l) a k) l = none
      · skip
        have hm := fd_no ho
        refine A.sub [(0, (.slice al l.length cl)), (4, e_), (9, (i_ (k : Int))), (6, (i_ (upA (kvl l) a k))), (5, (.slice ao ((upL (kvl l) a k).length) co)), (10, (b_ (decide ((k : Int) < 70)))), (7, (i_ (-1)))] (by exact ⟨rfl, rfl, rfl, rfl, rfl, rfl, (congrArg (fun z_ => some (i_ z_)) (by rw [ho]; rfl : (oI (fd (upA (kvl l) a k) l)) = -1)), trivial⟩) ?_
        refine A.region (A.goA [.p, .p] [(0, (.slice al l.length cl)), (4, e_), (9, (i_ (k : Int))), (6, (i_ (upA (kvl l) a k))), (5, (.slice ao ((upL (kvl l) a k).length) co)), (10, (b_ (decide ((k : Int) < 70)))), (7, (i_ (-1))), (15, (b_ true))] [] T0 (by kernel_rfl) trivial ?_)
        refine A.tn ?_
        refine A.cond_t rfl ?_
        refine A.exit ?_
        refine A.te ?_
        refine A.bm rfl ?_
        refine A.te ?_
        refine A.te ?_
        refine A.bh ?_
        refine A.tn ?_
        refine A.seq ?_
        refine A.region (A.goA [.p, .p] [(0, (.slice al l.length cl)), (4, (.slice ao ((upL (kvl l) a k).length) co)), (9, (i_ (k : Int))), (6, (i_ (upA (kvl l) a k))), (5, (.slice ao ((upL (kvl l) a k).length) co)), (10, (b_ (decide ((k : Int) < 70)))), (7, (i_ (-1))), (15, (b_ true))] [] T0 (by kernel_rfl) trivial ?_)
        refine A.tn ?_
        refine A.ret ?_
        refine A.setH [sl ao ((upL (kvl l) a (upD l a)).length) co 3 1 (V.flat encI (upL (kvl l) a (upD l a)))] (cc (slC (by first | rfl | exact upL_snoc _ _ _ | (show x.hp = (gcl (kvl l) (upA (kvl l) a k)).hp; unfold gcl; rw [hm]; rfl) | rw [upD_none hk hm] | rw [upD_all hk (by assumption)] : (upL (kvl l) a k) = (upL (kvl l) a (upD l a)))) rfl) ?_
        refine A.postK [0] [(.slice ao ((upL (kvl l) a k).length) co)] (fun aa ww rr ss => ⟨rv_tmp rr rfl, trivial⟩) (ao, co) ?_ ?_ (by kernel_rfl)
        · show ((.slice ao ((upL (kvl l) a k).length) co) : Value) = (.slice ao ((upL (kvl l) a (upD l a)).length) co)
          first | rw [upD_none hk hm] | rw [upD_all hk (by assumption)]
        · trivial
      · skip
        obtain ⟨i, hi⟩ := Option.ne_none_iff_exists'.1 ho; obtain ⟨x, hx, hm⟩ := fd_yes hi; have hlt := (List.getElem?_eq_some_iff.1 hx).1
        refine A.sub [(0, (.slice al l.length cl)), (4, e_), (9, (i_ (k : Int))), (6, (i_ (upA (kvl l) a k))), (5, (.slice ao ((upL (kvl l) a k).length) co)), (10, (b_ (decide ((k : Int) < 70)))), (7, (i_ (i : Int)))] (by exact ⟨rfl, rfl, rfl, rfl, rfl, rfl, (congrArg (fun z_ => some (i_ z_)) (by rw [hi]; rfl : (oI (fd (upA (kvl l) a k) l)) = (i : Int))), trivial⟩) ?_
        refine A.region (A.goA [.p, .p] [(0, (.slice al l.length cl)), (4, e_), (9, (i_ (k : Int))), (6, (i_ (upA (kvl l) a k))), (5, (.slice ao ((upL (kvl l) a k).length) co)), (10, (b_ (decide ((k : Int) < 70)))), (7, (i_ (i : Int))), (15, (b_ (decide ((i : Int) < 0))))] [] T0 (by kernel_rfl) trivial ?_)
        refine A.tn ?_
        refine A.cond (E := decide ((i : Int) < 0)) rfl (fun e2 => ?_) (fun e2 => ?_)
        · exact absurd e2 (by simp)
        · skip
          have p2 := of_decide_eq_false e2
          refine A.skip ?_
          refine A.tn ?_
          refine A.seq ?_
          refine A.region (A.goP [.p, .p] [(0, (.slice al l.length cl)), (4, e_), (9, (i_ (k : Int))), (6, (i_ (upA (kvl l) a k))), (5, (.slice ao ((upL (kvl l) a k).length) co)), (10, (b_ (decide ((k : Int) < 70)))), (7, (i_ (i : Int))), (15, (b_ (decide ((i : Int) < 0)))), (16, (.slice ao ((upL (kvl l) a k).length) co)), (17, (i_ (upA (kvl l) a k)))] [] T0 (by kernel_rfl) trivial ?_)
          refine A.cons (A.buildSlice 18 (e := 3) [(i_ (upA (kvl l) a k))] (by kernel_rfl) rfl (fun _ => by kernel_rfl) (fun b2 => [sl ao ((upL (kvl l) a k).length) co 3 1 (V.flat encI (upL (kvl l) a k)), blk b2 [(i_ (upA (kvl l) a k))] 3]) (fun _ => rfl) ?_)
          intro b2
          refine A.cons (A.appendC (enc := encI) (xs := (upL (kvl l) a k)) ([(upA (kvl l) a k)]) 0 19 (e := 3) (z := (i_ 0)) (sz := 1) (by_ := 8) (by kernel_rfl) rfl rfl rfl (by kernel_rfl) (by kernel_rfl) (by rfl) (by decide) encI_len encI_one rfl (rd_blk (i := 1) rfl) (by simp; omega) (fun A3 c3 => [sl A3 (((upL (kvl l) a k) ++ ([(upA (kvl l) a k)])).length) c3 3 1 (V.flat encI ((upL (kvl l) a k) ++ ([(upA (kvl l) a k)]))), blk b2 [(i_ (upA (kvl l) a k))] 3]) (fun _ _ => rfl) ?_)
          intro A3 c3
          refine A.goA [.p] [(0, (.slice al l.length cl)), (4, e_), (9, (i_ (k : Int))), (6, (i_ (upA (kvl l) a k))), (5, (.slice A3 (((upL (kvl l) a k) ++ ([(upA (kvl l) a k)])).length) c3)), (10, (b_ (decide ((k : Int) < 70)))), (7, (i_ (i : Int))), (15, (b_ (decide ((i : Int) < 0))))] [] T0 (by kernel_rfl) trivial ?_
          refine A.tn ?_
          refine A.region (A.goA [.p, .p, .ix, .p, .rd [(i_ x.hp)], .p] [(0, (.slice al l.length cl)), (4, e_), (9, (i_ (k : Int))), (6, (i_ x.hp)), (5, (.slice A3 (((upL (kvl l) a k) ++ ([(upA (kvl l) a k)])).length) c3)), (10, (b_ (decide ((k : Int) < 70)))), (7, (i_ (i : Int))), (15, (b_ (decide ((i : Int) < 0))))] [] (fun κ => κ.ix al l.length (i : Int) ∧ κ.rd (((at0 al).add (i * 14)).add 1) [(i_ x.hp)] ∧ True) (by kernel_rfl) ⟨(ixOf encCl_len (by decide) (rd_old r0 (by simp [feet])) (by first | omega | (simp; omega) | (simp; done))), (reads_at2 (f := 1) (vs := [(i_ x.hp)]) encCl_len (rd_old r0 (by simp [feet])) hx (by simp) rfl), trivial⟩ ?_)
          refine A.bn ?_
          refine A.tn ?_
          refine A.region (A.goA [.w ((k : Int) + 1), .p] [(0, (.slice al l.length cl)), (4, e_), (9, (i_ ((k : Int) + 1))), (6, (i_ x.hp)), (5, (.slice A3 (((upL (kvl l) a k) ++ ([(upA (kvl l) a k)])).length) c3)), (10, (b_ (decide ((k : Int) < 70)))), (7, (i_ (i : Int))), (15, (b_ (decide ((i : Int) < 0))))] [] (fun κ => (IntKind.i64.wrap ((k : Int) + 1) = ((k : Int) + 1)) ∧ True) (by kernel_rfl) ⟨(wrap_i64 (e := (k : Int) + 1) (by constructor <;> omega)), trivial⟩ ?_)
          refine A.tn ?_
          refine A.sub [(0, (.slice al l.length cl)), (4, e_), (9, (i_ ((k : Int) + 1))), (6, (i_ (upA (kvl l) a (k + 1)))), (5, (.slice A3 (((upL (kvl l) a k) ++ ([(upA (kvl l) a k)])).length) c3)), (10, (b_ (decide ((k : Int) < 70)))), (7, (i_ (i : Int))), (15, (b_ (decide ((i : Int) < 0))))] (by exact ⟨rfl, rfl, rfl, (congrArg (fun z_ => some (i_ z_)) (by first | rfl | exact upL_snoc _ _ _ | (show x.hp = (gcl (kvl l) (upA (kvl l) a k)).hp; unfold gcl; rw [hm]; rfl) | rw [upD_none hk hm] | rw [upD_all hk (by assumption)] : x.hp = (upA (kvl l) a (k + 1)))), rfl, rfl, rfl, rfl, trivial⟩) ?_
          refine A.setH [sl A3 ((upL (kvl l) a (k + 1)).length) c3 3 1 (V.flat encI (upL (kvl l) a (k + 1))), blk b2 [(i_ (upA (kvl l) a k))] 3] (cc (slC (by first | rfl | exact upL_snoc _ _ _ | (show x.hp = (gcl (kvl l) (upA (kvl l) a k)).hp; unfold gcl; rw [hm]; rfl) | rw [upD_none hk hm] | rw [upD_all hk (by assumption)] : (upL (kvl l) a k) ++ ([(upA (kvl l) a k)]) = (upL (kvl l) a (k + 1)))) rfl) ?_
          refine A.sub [(0, (.slice al l.length cl)), (4, e_), (9, (i_ ((k : Int) + 1))), (6, (i_ (upA (kvl l) a (k + 1)))), (5, (.slice A3 ((upL (kvl l) a (k + 1)).length) c3)), (10, (b_ (decide ((k : Int) < 70)))), (7, (i_ (i : Int))), (15, (b_ (decide ((i : Int) < 0))))] (by exact ⟨rfl, rfl, rfl, rfl, (congrArg (fun z_ : List Int => some (Value.slice A3 z_.length c3)) (by first | rfl | exact upL_snoc _ _ _ | (show x.hp = (gcl (kvl l) (upA (kvl l) a k)).hp; unfold gcl; rw [hm]; rfl) | rw [upD_none hk hm] | rw [upD_all hk (by assumption)] : (upL (kvl l) a k) ++ ([(upA (kvl l) a k)]) = (upL (kvl l) a (k + 1)))), rfl, rfl, rfl, trivial⟩) ?_
          refine A.next (k + 1, A3, c3) (by exact upD_some hk (by assumption) hm) (by first | omega | (simp; omega) | (simp_all; omega)) ?_
          exact A.hereK [0] (by exact ⟨rfl, rfl, rfl, rfl, rfl, trivial⟩) (by kernel_rfl)
    · skip
      have p1 := of_decide_eq_false e1
      refine A.exit ?_
      refine A.te ?_
      refine A.te ?_
      refine A.bh ?_
      refine A.tn ?_
      refine A.seq ?_
      refine A.region (A.goA [.p, .p] [(0, (.slice al l.length cl)), (4, (.slice ao ((upL (kvl l) a k).length) co)), (9, (i_ (k : Int))), (6, (i_ (upA (kvl l) a k))), (5, (.slice ao ((upL (kvl l) a k).length) co)), (10, (b_ (decide ((k : Int) < 70))))] [] T0 (by kernel_rfl) trivial ?_)
      refine A.tn ?_
      refine A.ret ?_
      refine A.setH [sl ao ((upL (kvl l) a (upD l a)).length) co 3 1 (V.flat encI (upL (kvl l) a (upD l a)))] (cc (slC (by first | rfl | exact upL_snoc _ _ _ | (show x.hp = (gcl (kvl l) (upA (kvl l) a k)).hp; unfold gcl; rw [hm]; rfl) | rw [upD_none hk hm] | rw [upD_all hk (by assumption)] : (upL (kvl l) a k) = (upL (kvl l) a (upD l a)))) rfl) ?_
      refine A.postK [0] [(.slice ao ((upL (kvl l) a k).length) co)] (fun aa ww rr ss => ⟨rv_tmp rr rfl, trivial⟩) (ao, co) ?_ ?_ (by kernel_rfl)
      · show ((.slice ao ((upL (kvl l) a k).length) co) : Value) = (.slice ao ((upL (kvl l) a (upD l a)).length) co)
        first | rw [upD_none hk hm] | rw [upD_all hk (by assumption)]
      · trivial

set_option maxHeartbeats 4000000 in
set_option maxRecDepth 100000 in
theorem put_spec (al : Option Addr) (l : List Cl) (cl : Nat) (x : Cl) (hl : l.length ≤ 100000) (w : World) (r0 : arrAt w al (V.flat encCl l)) (hs : HS w (feet []) [] w) :
    Calls Try.prog 45 #[(.slice al l.length cl), (.agg #[(i_ x.hi), (i_ x.hp), (b_ x.hl), (u_ x.ra), (u_ x.rb), (u_ x.rc), (u_ x.la), (u_ x.lb), (u_ x.lc), (u_ x.ua), (u_ x.ub), (u_ x.uc), (i_ x.hk), (i_ x.hq)])] w fun e w' => ∃ zz, e = .returned ((fun (zz : (Option Addr) × Nat) => match zz with | (al', cl') => (.slice al' ((setL x l).length) cl')) zz) ∧ (fun (zz : (Option Addr) × Nat) => match zz with | (al', cl') => True) zz ∧ Turn [] ((fun (zz : (Option Addr) × Nat) => match zz with | (al', cl') => [sl al' ((setL x l).length) cl' 30 14 (V.flat encCl (setL x l))]) zz) w w' := by
  refine calls_of (args := [(.slice al l.length cl), (.agg #[(i_ x.hi), (i_ x.hp), (b_ x.hl), (u_ x.ra), (u_ x.rb), (u_ x.rc), (u_ x.la), (u_ x.lb), (u_ x.lc), (u_ x.ua), (u_ x.ub), (u_ x.uc), (i_ x.hk), (i_ x.hq)])]) (penv [(.slice al l.length cl), (.agg #[(i_ x.hi), (i_ x.hp), (b_ x.hl), (u_ x.ra), (u_ x.rb), (u_ x.rc), (u_ x.la), (u_ x.lb), (u_ x.lc), (u_ x.ua), (u_ x.ub), (u_ x.uc), (i_ x.hk), (i_ x.hq)])]) (feet []) [] Try.func45 rfl rfl (look_penv _) hs ?_
  refine A.norm [(0, (.slice al l.length cl)), (1, (.agg #[(i_ x.hi), (i_ x.hp), (b_ x.hl), (u_ x.ra), (u_ x.rb), (u_ x.rc), (u_ x.la), (u_ x.lb), (u_ x.lc), (u_ x.ua), (u_ x.ub), (u_ x.uc), (i_ x.hk), (i_ x.hq)]))] [] (by exact ⟨rfl, rfl, trivial⟩) rfl ?_
  refine A.seq ?_
  refine A.region (A.goA1 [.al, .p] [0, 1, 3, 4] (fun b1 => [(0, (.slice al l.length cl)), (1, (.agg #[(i_ x.hi), (i_ x.hp), (b_ x.hl), (u_ x.ra), (u_ x.rb), (u_ x.rc), (u_ x.la), (u_ x.lb), (u_ x.lc), (u_ x.ua), (u_ x.ub), (u_ x.uc), (i_ x.hk), (i_ x.hq)])), (3, (p_ b1)), (4, e_)]) (fun b1 => [blk b1 [(i_ x.hi), (i_ x.hp), (b_ x.hl), (u_ x.ra), (u_ x.rb), (u_ x.rc), (u_ x.la), (u_ x.lb), (u_ x.lc), (u_ x.ua), (u_ x.ub), (u_ x.uc), (i_ x.hk), (i_ x.hq)] 30]) (fun b1 => []) (fun _ => T0) (fun _ => by kernel_rfl) (fun b1 => trivial) ?_)
  intro b1
  refine A.tn ?_
  refine A.seq ?_
  refine A.region (A.goA [.p] [(0, (.slice al l.length cl)), (1, (.agg #[(i_ x.hi), (i_ x.hp), (b_ x.hl), (u_ x.ra), (u_ x.rb), (u_ x.rc), (u_ x.la), (u_ x.lb), (u_ x.lc), (u_ x.ua), (u_ x.ub), (u_ x.uc), (i_ x.hk), (i_ x.hq)])), (3, (p_ b1)), (4, e_), (5, e_)] [] T0 (by kernel_rfl) trivial ?_)
  refine A.tn ?_
  refine A.seq ?_
  refine A.region (A.goA [.p] [(0, (.slice al l.length cl)), (1, (.agg #[(i_ x.hi), (i_ x.hp), (b_ x.hl), (u_ x.ra), (u_ x.rb), (u_ x.rc), (u_ x.la), (u_ x.lb), (u_ x.lc), (u_ x.ua), (u_ x.ub), (u_ x.uc), (i_ x.hk), (i_ x.hq)])), (3, (p_ b1)), (4, e_), (5, e_), (6, (b_ false))] [] T0 (by kernel_rfl) trivial ?_)
  refine A.tn ?_
  refine A.seq ?_
  refine A.seq ?_
  refine A.region (A.goA [.p, .p, .p] [(0, (.slice al l.length cl)), (1, (.agg #[(i_ x.hi), (i_ x.hp), (b_ x.hl), (u_ x.ra), (u_ x.rb), (u_ x.rc), (u_ x.la), (u_ x.lb), (u_ x.lc), (u_ x.ua), (u_ x.ub), (u_ x.uc), (i_ x.hk), (i_ x.hq)])), (3, (p_ b1)), (4, e_), (5, e_), (6, (b_ false)), (9, (.slice al l.length cl)), (10, (i_ (l.length : Int))), (11, (i_ 0))] [] T0 (by kernel_rfl) trivial ?_)
  refine A.tn ?_
  refine A.block ?_
  refine A.ownNil 30 14 [blk b1 [(i_ x.hi), (i_ x.hp), (b_ x.hl), (u_ x.ra), (u_ x.rb), (u_ x.rc), (u_ x.la), (u_ x.lb), (u_ x.lc), (u_ x.ua), (u_ x.ub), (u_ x.uc), (i_ x.hk), (i_ x.hq)] 30, sl none (([] : List Cl).length) 0 30 14 (V.flat encCl ([] : List Cl))] rfl ?_
  refine A.sub [(0, (.slice al l.length cl)), (1, (.agg #[(i_ x.hi), (i_ x.hp), (b_ x.hl), (u_ x.ra), (u_ x.rb), (u_ x.rc), (u_ x.la), (u_ x.lb), (u_ x.lc), (u_ x.ua), (u_ x.ub), (u_ x.uc), (i_ x.hk), (i_ x.hq)])), (3, (p_ b1)), (4, e_), (5, (.slice none (([] : List Cl).length) 0)), (6, (b_ ((sfo x l 0).2))), (9, (.slice al l.length cl)), (10, (i_ (l.length : Int))), (11, (i_ 0))] (by exact ⟨rfl, rfl, rfl, rfl, rfl, (congrArg (fun z_ => some (b_ z_)) (by first | rfl | (rw [sfo_succ (by assumption)]; simp_all; done) | (rw [sfo_succ (by assumption)]; (try simp only [*]); rfl) | ((have hk2 : k = l.length := by omega); subst hk2; unfold setL; simp_all; done) : false = (sfo x l 0).2)), rfl, rfl, rfl, trivial⟩) ?_
  refine A.setH [blk b1 [(i_ x.hi), (i_ x.hp), (b_ x.hl), (u_ x.ra), (u_ x.rb), (u_ x.rc), (u_ x.la), (u_ x.lb), (u_ x.lc), (u_ x.ua), (u_ x.ub), (u_ x.uc), (i_ x.hk), (i_ x.hq)] 30, sl none (((sfo x l 0).1).length) 0 30 14 (V.flat encCl ((sfo x l 0).1))] (cc rfl (cc (slC (by first | rfl | (rw [sfo_succ (by assumption)]; simp_all; done) | (rw [sfo_succ (by assumption)]; (try simp only [*]); rfl) | ((have hk2 : k = l.length := by omega); subst hk2; unfold setL; simp_all; done) : ([] : List Cl) = (sfo x l 0).1)) rfl)) ?_
  refine A.sub [(0, (.slice al l.length cl)), (1, (.agg #[(i_ x.hi), (i_ x.hp), (b_ x.hl), (u_ x.ra), (u_ x.rb), (u_ x.rc), (u_ x.la), (u_ x.lb), (u_ x.lc), (u_ x.ua), (u_ x.ub), (u_ x.uc), (i_ x.hk), (i_ x.hq)])), (3, (p_ b1)), (4, e_), (5, (.slice none (((sfo x l 0).1).length) 0)), (6, (b_ ((sfo x l 0).2))), (9, (.slice al l.length cl)), (10, (i_ (l.length : Int))), (11, (i_ 0))] (by exact ⟨rfl, rfl, rfl, rfl, (congrArg (fun z_ : List Cl => some (Value.slice none z_.length 0)) (by first | rfl | (rw [sfo_succ (by assumption)]; simp_all; done) | (rw [sfo_succ (by assumption)]; (try simp only [*]); rfl) | ((have hk2 : k = l.length := by omega); subst hk2; unfold setL; simp_all; done) : ([] : List Cl) = (sfo x l 0).1)), rfl, rfl, rfl, rfl, trivial⟩) ?_
  refine A.loop (fun (zz : Nat × (Option Addr) × Nat) => match zz with | (k, ao, co) => [(3, (p_ b1)), (4, e_), (9, (.slice al l.length cl)), (10, (i_ (l.length : Int))), (11, (i_ (k : Int))), (5, (.slice ao (((sfo x l k).1).length) co)), (6, (b_ ((sfo x l k).2)))]) (fun (zz : Nat × (Option Addr) × Nat) => match zz with | (k, ao, co) => [sl ao (((sfo x l k).1).length) co 30 14 (V.flat encCl ((sfo x l k).1)), blk b1 [(i_ x.hi), (i_ x.hp), (b_ x.hl), (u_ x.ra), (u_ x.rb), (u_ x.rc), (u_ x.la), (u_ x.lb), (u_ x.lc), (u_ x.ua), (u_ x.ub), (u_ x.uc), (i_ x.hk), (i_ x.hq)] 30]) (fun (zz : Nat × (Option Addr) × Nat) => match zz with | (k, ao, co) => (k ≤ l.length)) (fun (zz : Nat × (Option Addr) × Nat) => match zz with | (k, ao, co) => l.length - k) (0, none, 0) (by first | assumption | omega | (simp_all; done) | (simp_all; omega) | grind) ?_ ?_
  · exact A.hereK [1, 0] (by exact ⟨rfl, rfl, rfl, rfl, rfl, rfl, rfl, trivial⟩) (by kernel_rfl)
  · rintro ⟨k, ao, co⟩ hk
    have hk : k ≤ l.length := hk
    have hsl := sfo_len1 x l k
    refine A.norm [(3, (p_ b1)), (4, e_), (9, (.slice al l.length cl)), (10, (i_ (l.length : Int))), (11, (i_ (k : Int))), (5, (.slice ao (((sfo x l k).1).length) co)), (6, (b_ ((sfo x l k).2)))] [sl ao (((sfo x l k).1).length) co 30 14 (V.flat encCl ((sfo x l k).1)), blk b1 [(i_ x.hi), (i_ x.hp), (b_ x.hl), (u_ x.ra), (u_ x.rb), (u_ x.rc), (u_ x.la), (u_ x.lb), (u_ x.lc), (u_ x.ua), (u_ x.ub), (u_ x.uc), (i_ x.hk), (i_ x.hq)] 30] (by exact ⟨rfl, rfl, rfl, rfl, rfl, rfl, rfl, trivial⟩) rfl ?_
    refine A.seq ?_
    refine A.region (A.goA [.p] [(3, (p_ b1)), (4, e_), (9, (.slice al l.length cl)), (10, (i_ (l.length : Int))), (11, (i_ (k : Int))), (5, (.slice ao (((sfo x l k).1).length) co)), (6, (b_ ((sfo x l k).2))), (12, (b_ (decide ((k : Int) < (l.length : Int)))))] [] T0 (by kernel_rfl) trivial ?_)
    refine A.tn ?_
    refine A.seq ?_
    refine A.cond (E := decide ((k : Int) < (l.length : Int))) rfl (fun e1 => ?_) (fun e1 => ?_)
    · skip
      have p1 := of_decide_eq_true e1
      refine A.skip ?_
      refine A.tn ?_
      refine A.seq ?_
      refine A.block ?_
      refine A.seq ?_
      refine A.region (A.goP [.ix] [(3, (p_ b1)), (4, e_), (9, (.slice al l.length cl)), (10, (i_ (l.length : Int))), (11, (i_ (k : Int))), (5, (.slice ao (((sfo x l k).1).length) co)), (6, (b_ ((sfo x l k).2))), (12, (b_ (decide ((k : Int) < (l.length : Int))))), (13, (.pointer (some ((at0 al).add (k * 14)))))] [] (fun κ => κ.ix al l.length (k : Int) ∧ True) (by kernel_rfl) ⟨(ixOf encCl_len (by decide) (rd_old r0 (by simp [feet])) (by first | omega | (simp; omega) | (simp; done))), trivial⟩ ?_)
      obtain ⟨x3, hx3⟩ : ∃ x, (l)[k]? = some x := ⟨_, List.getElem?_eq_getElem (by omega)⟩
      refine A.goA1 [.rd [(i_ x3.hi), (i_ x3.hp), (b_ x3.hl), (u_ x3.ra), (u_ x3.rb), (u_ x3.rc), (u_ x3.la), (u_ x3.lb), (u_ x3.lc), (u_ x3.ua), (u_ x3.ub), (u_ x3.uc), (i_ x3.hk), (i_ x3.hq)], .al, .st 2] [3, 4, 9, 10, 11, 5, 6, 12, 8] (fun b4 => [(3, (p_ b1)), (4, e_), (9, (.slice al l.length cl)), (10, (i_ (l.length : Int))), (11, (i_ (k : Int))), (5, (.slice ao (((sfo x l k).1).length) co)), (6, (b_ ((sfo x l k).2))), (12, (b_ (decide ((k : Int) < (l.length : Int))))), (8, (p_ b4))]) (fun b4 => [sl ao (((sfo x l k).1).length) co 30 14 (V.flat encCl ((sfo x l k).1)), blk b1 [(i_ x.hi), (i_ x.hp), (b_ x.hl), (u_ x.ra), (u_ x.rb), (u_ x.rc), (u_ x.la), (u_ x.lb), (u_ x.lc), (u_ x.ua), (u_ x.ub), (u_ x.uc), (i_ x.hk), (i_ x.hq)] 30, blk b4 [(i_ x3.hi), (i_ x3.hp), (b_ x3.hl), (u_ x3.ra), (u_ x3.rb), (u_ x3.rc), (u_ x3.la), (u_ x3.lb), (u_ x3.lc), (u_ x3.ua), (u_ x3.ub), (u_ x3.uc), (i_ x3.hk), (i_ x3.hq)] 30]) (fun b4 => [b4]) (fun _ => (fun κ => κ.rd ((at0 al).add (k * 14)) [(i_ x3.hi), (i_ x3.hp), (b_ x3.hl), (u_ x3.ra), (u_ x3.rb), (u_ x3.rc), (u_ x3.la), (u_ x3.lb), (u_ x3.lc), (u_ x3.ua), (u_ x3.ub), (u_ x3.uc), (i_ x3.hk), (i_ x3.hq)] ∧ True)) (fun _ => by kernel_rfl) (fun b4 => ⟨(reads_at0 (vs := [(i_ x3.hi), (i_ x3.hp), (b_ x3.hl), (u_ x3.ra), (u_ x3.rb), (u_ x3.rc), (u_ x3.la), (u_ x3.lb), (u_ x3.lc), (u_ x3.ua), (u_ x3.ub), (u_ x3.uc), (i_ x3.hk), (i_ x3.hq)]) encCl_len (rd_old r0 (by simp [feet])) hx3 (by simp) rfl), trivial⟩) ?_
      intro b4
      refine A.tn ?_
      refine A.seq ?_
      refine A.seq ?_
      refine A.region (A.goA [.p, .p, .p, .o, .p, .ld 2, .p, .ld 1, .p, .cl] [(3, (p_ b1)), (4, e_), (9, (.slice al l.length cl)), (10, (i_ (l.length : Int))), (11, (i_ (k : Int))), (5, (.slice ao (((sfo x l k).1).length) co)), (6, (b_ ((sfo x l k).2))), (12, (b_ (decide ((k : Int) < (l.length : Int))))), (8, (p_ b4)), (23, (b_ ((!((sfo x l k).2)) && (decide (x3.hi ≥ x.hi)))))] [b4, b1] T0 (by kernel_rfl) trivial ?_)
      refine A.tn ?_
      refine A.cond (E := (!((sfo x l k).2)) && (decide (x3.hi ≥ x.hi))) rfl (fun e2 => ?_) (fun e2 => ?_)
      · skip
        have p2 := e2; try simp only [decide_eq_true_eq, decide_eq_false_iff_not, beq_iff_eq, beq_eq_false_iff_ne, bne_iff_ne, bne_eq_false_iff_eq, ne_eq, Bool.and_eq_true, Bool.or_eq_true, Bool.or_eq_false_iff, Bool.not_eq_true', Bool.not_eq_false', Int.not_lt, Int.not_le, gt_iff_lt, ge_iff_le, Classical.not_not] at p2
        refine A.seq ?_
        refine A.region (A.goP [.p, .ld 1] [(3, (p_ b1)), (4, e_), (9, (.slice al l.length cl)), (10, (i_ (l.length : Int))), (11, (i_ (k : Int))), (5, (.slice ao (((sfo x l k).1).length) co)), (6, (b_ ((sfo x l k).2))), (12, (b_ (decide ((k : Int) < (l.length : Int))))), (8, (p_ b4)), (23, (b_ ((!((sfo x l k).2)) && (decide (x3.hi ≥ x.hi))))), (24, (.slice ao (((sfo x l k).1).length) co)), (25, (.agg #[(i_ x.hi), (i_ x.hp), (b_ x.hl), (u_ x.ra), (u_ x.rb), (u_ x.rc), (u_ x.la), (u_ x.lb), (u_ x.lc), (u_ x.ua), (u_ x.ub), (u_ x.uc), (i_ x.hk), (i_ x.hq)]))] [b1] T0 (by kernel_rfl) trivial ?_)
        refine A.cons (A.buildSlice 26 (e := 30) [(i_ x.hi), (i_ x.hp), (b_ x.hl), (u_ x.ra), (u_ x.rb), (u_ x.rc), (u_ x.la), (u_ x.lb), (u_ x.lc), (u_ x.ua), (u_ x.ub), (u_ x.uc), (i_ x.hk), (i_ x.hq)] (by kernel_rfl) rfl (fun _ => by kernel_rfl) (fun b5 => [sl ao (((sfo x l k).1).length) co 30 14 (V.flat encCl ((sfo x l k).1)), blk b1 [(i_ x.hi), (i_ x.hp), (b_ x.hl), (u_ x.ra), (u_ x.rb), (u_ x.rc), (u_ x.la), (u_ x.lb), (u_ x.lc), (u_ x.ua), (u_ x.ub), (u_ x.uc), (i_ x.hk), (i_ x.hq)] 30, blk b4 [(i_ x3.hi), (i_ x3.hp), (b_ x3.hl), (u_ x3.ra), (u_ x3.rb), (u_ x3.rc), (u_ x3.la), (u_ x3.lb), (u_ x3.lc), (u_ x3.ua), (u_ x3.ub), (u_ x3.uc), (i_ x3.hk), (i_ x3.hq)] 30, blk b5 [(i_ x.hi), (i_ x.hp), (b_ x.hl), (u_ x.ra), (u_ x.rb), (u_ x.rc), (u_ x.la), (u_ x.lb), (u_ x.lc), (u_ x.ua), (u_ x.ub), (u_ x.uc), (i_ x.hk), (i_ x.hq)] 30]) (fun _ => rfl) ?_)
        intro b5
        refine A.cons (A.appendC (enc := encCl) (xs := (sfo x l k).1) ([x]) 0 27 (e := 30) (z := (.agg #[(i_ 0), (i_ 0), (b_ false), (u_ 0), (u_ 0), (u_ 0), (u_ 0), (u_ 0), (u_ 0), (u_ 0), (u_ 0), (u_ 0), (i_ 0), (i_ 0)])) (sz := 14) (by_ := 112) (by kernel_rfl) rfl rfl rfl (by kernel_rfl) (by kernel_rfl) (by rfl) (by decide) encCl_len encCl_one rfl (rd_blk (i := 3) rfl) (by simp; omega) (fun A6 c6 => [sl A6 ((((sfo x l k).1) ++ ([x])).length) c6 30 14 (V.flat encCl (((sfo x l k).1) ++ ([x]))), blk b1 [(i_ x.hi), (i_ x.hp), (b_ x.hl), (u_ x.ra), (u_ x.rb), (u_ x.rc), (u_ x.la), (u_ x.lb), (u_ x.lc), (u_ x.ua), (u_ x.ub), (u_ x.uc), (i_ x.hk), (i_ x.hq)] 30, blk b4 [(i_ x3.hi), (i_ x3.hp), (b_ x3.hl), (u_ x3.ra), (u_ x3.rb), (u_ x3.rc), (u_ x3.la), (u_ x3.lb), (u_ x3.lc), (u_ x3.ua), (u_ x3.ub), (u_ x3.uc), (i_ x3.hk), (i_ x3.hq)] 30, blk b5 [(i_ x.hi), (i_ x.hp), (b_ x.hl), (u_ x.ra), (u_ x.rb), (u_ x.rc), (u_ x.la), (u_ x.lb), (u_ x.lc), (u_ x.ua), (u_ x.ub), (u_ x.uc), (i_ x.hk), (i_ x.hq)] 30]) (fun _ _ => rfl) ?_)
        intro A6 c6
        refine A.goA [.p] [(3, (p_ b1)), (4, e_), (9, (.slice al l.length cl)), (10, (i_ (l.length : Int))), (11, (i_ (k : Int))), (5, (.slice A6 ((((sfo x l k).1) ++ ([x])).length) c6)), (6, (b_ ((sfo x l k).2))), (12, (b_ (decide ((k : Int) < (l.length : Int))))), (8, (p_ b4)), (23, (b_ ((!((sfo x l k).2)) && (decide (x3.hi ≥ x.hi)))))] [] T0 (by kernel_rfl) trivial ?_
        refine A.tn ?_
        refine A.region (A.goA [.p] [(3, (p_ b1)), (4, e_), (9, (.slice al l.length cl)), (10, (i_ (l.length : Int))), (11, (i_ (k : Int))), (5, (.slice A6 ((((sfo x l k).1) ++ ([x])).length) c6)), (6, (b_ true)), (12, (b_ (decide ((k : Int) < (l.length : Int))))), (8, (p_ b4)), (23, (b_ ((!((sfo x l k).2)) && (decide (x3.hi ≥ x.hi)))))] [] T0 (by kernel_rfl) trivial ?_)
        refine A.tn ?_
        refine A.seq ?_
        refine A.region (A.goA [.p, .ld 2, .p, .ld 1, .p] [(3, (p_ b1)), (4, e_), (9, (.slice al l.length cl)), (10, (i_ (l.length : Int))), (11, (i_ (k : Int))), (5, (.slice A6 ((((sfo x l k).1) ++ ([x])).length) c6)), (6, (b_ true)), (12, (b_ (decide ((k : Int) < (l.length : Int))))), (8, (p_ b4)), (23, (b_ ((!((sfo x l k).2)) && (decide (x3.hi ≥ x.hi))))), (32, (b_ (x3.hi != x.hi)))] [b4, b1] T0 (by kernel_rfl) trivial ?_)
        refine A.tn ?_
        refine A.cond (E := x3.hi != x.hi) rfl (fun e3 => ?_) (fun e3 => ?_)
        · skip
          have p3 := e3; try simp only [decide_eq_true_eq, decide_eq_false_iff_not, beq_iff_eq, beq_eq_false_iff_ne, bne_iff_ne, bne_eq_false_iff_eq, ne_eq, Bool.and_eq_true, Bool.or_eq_true, Bool.or_eq_false_iff, Bool.not_eq_true', Bool.not_eq_false', Int.not_lt, Int.not_le, gt_iff_lt, ge_iff_le, Classical.not_not] at p3
          refine A.region (A.goP [.p, .ld 2] [(3, (p_ b1)), (4, e_), (9, (.slice al l.length cl)), (10, (i_ (l.length : Int))), (11, (i_ (k : Int))), (5, (.slice A6 ((((sfo x l k).1) ++ ([x])).length) c6)), (6, (b_ true)), (12, (b_ (decide ((k : Int) < (l.length : Int))))), (8, (p_ b4)), (23, (b_ ((!((sfo x l k).2)) && (decide (x3.hi ≥ x.hi))))), (32, (b_ (x3.hi != x.hi))), (33, (.slice A6 ((((sfo x l k).1) ++ ([x])).length) c6)), (34, (.agg #[(i_ x3.hi), (i_ x3.hp), (b_ x3.hl), (u_ x3.ra), (u_ x3.rb), (u_ x3.rc), (u_ x3.la), (u_ x3.lb), (u_ x3.lc), (u_ x3.ua), (u_ x3.ub), (u_ x3.uc), (i_ x3.hk), (i_ x3.hq)]))] [b4] T0 (by kernel_rfl) trivial ?_)
          refine A.cons (A.buildSlice 35 (e := 30) [(i_ x3.hi), (i_ x3.hp), (b_ x3.hl), (u_ x3.ra), (u_ x3.rb), (u_ x3.rc), (u_ x3.la), (u_ x3.lb), (u_ x3.lc), (u_ x3.ua), (u_ x3.ub), (u_ x3.uc), (i_ x3.hk), (i_ x3.hq)] (by kernel_rfl) rfl (fun _ => by kernel_rfl) (fun b7 => [sl A6 ((((sfo x l k).1) ++ ([x])).length) c6 30 14 (V.flat encCl (((sfo x l k).1) ++ ([x]))), blk b1 [(i_ x.hi), (i_ x.hp), (b_ x.hl), (u_ x.ra), (u_ x.rb), (u_ x.rc), (u_ x.la), (u_ x.lb), (u_ x.lc), (u_ x.ua), (u_ x.ub), (u_ x.uc), (i_ x.hk), (i_ x.hq)] 30, blk b4 [(i_ x3.hi), (i_ x3.hp), (b_ x3.hl), (u_ x3.ra), (u_ x3.rb), (u_ x3.rc), (u_ x3.la), (u_ x3.lb), (u_ x3.lc), (u_ x3.ua), (u_ x3.ub), (u_ x3.uc), (i_ x3.hk), (i_ x3.hq)] 30, blk b5 [(i_ x.hi), (i_ x.hp), (b_ x.hl), (u_ x.ra), (u_ x.rb), (u_ x.rc), (u_ x.la), (u_ x.lb), (u_ x.lc), (u_ x.ua), (u_ x.ub), (u_ x.uc), (i_ x.hk), (i_ x.hq)] 30, blk b7 [(i_ x3.hi), (i_ x3.hp), (b_ x3.hl), (u_ x3.ra), (u_ x3.rb), (u_ x3.rc), (u_ x3.la), (u_ x3.lb), (u_ x3.lc), (u_ x3.ua), (u_ x3.ub), (u_ x3.uc), (i_ x3.hk), (i_ x3.hq)] 30]) (fun _ => rfl) ?_)
          intro b7
          refine A.cons (A.appendC (enc := encCl) (xs := ((sfo x l k).1) ++ ([x])) ([x3]) 0 36 (e := 30) (z := (.agg #[(i_ 0), (i_ 0), (b_ false), (u_ 0), (u_ 0), (u_ 0), (u_ 0), (u_ 0), (u_ 0), (u_ 0), (u_ 0), (u_ 0), (i_ 0), (i_ 0)])) (sz := 14) (by_ := 112) (by kernel_rfl) rfl rfl rfl (by kernel_rfl) (by kernel_rfl) (by rfl) (by decide) encCl_len encCl_one rfl (rd_blk (i := 4) rfl) (by simp; omega) (fun A8 c8 => [sl A8 (((((sfo x l k).1) ++ ([x])) ++ ([x3])).length) c8 30 14 (V.flat encCl ((((sfo x l k).1) ++ ([x])) ++ ([x3]))), blk b1 [(i_ x.hi), (i_ x.hp), (b_ x.hl), (u_ x.ra), (u_ x.rb), (u_ x.rc), (u_ x.la), (u_ x.lb), (u_ x.lc), (u_ x.ua), (u_ x.ub), (u_ x.uc), (i_ x.hk), (i_ x.hq)] 30, blk b4 [(i_ x3.hi), (i_ x3.hp), (b_ x3.hl), (u_ x3.ra), (u_ x3.rb), (u_ x3.rc), (u_ x3.la), (u_ x3.lb), (u_ x3.lc), (u_ x3.ua), (u_ x3.ub), (u_ x3.uc), (i_ x3.hk), (i_ x3.hq)] 30, blk b5 [(i_ x.hi), (i_ x.hp), (b_ x.hl), (u_ x.ra), (u_ x.rb), (u_ x.rc), (u_ x.la), (u_ x.lb), (u_ x.lc), (u_ x.ua), (u_ x.ub), (u_ x.uc), (i_ x.hk), (i_ x.hq)] 30, blk b7 [(i_ x3.hi), (i_ x3.hp), (b_ x3.hl), (u_ x3.ra), (u_ x3.rb), (u_ x3.rc), (u_ x3.la), (u_ x3.lb), (u_ x3.lc), (u_ x3.ua), (u_ x3.ub), (u_ x3.uc), (i_ x3.hk), (i_ x3.hq)] 30]) (fun _ _ => rfl) ?_)
          intro A8 c8
          refine A.goA [.p] [(3, (p_ b1)), (4, e_), (9, (.slice al l.length cl)), (10, (i_ (l.length : Int))), (11, (i_ (k : Int))), (5, (.slice A8 (((((sfo x l k).1) ++ ([x])) ++ ([x3])).length) c8)), (6, (b_ true)), (12, (b_ (decide ((k : Int) < (l.length : Int))))), (8, (p_ b4)), (23, (b_ ((!((sfo x l k).2)) && (decide (x3.hi ≥ x.hi))))), (32, (b_ (x3.hi != x.hi)))] [] T0 (by kernel_rfl) trivial ?_
          refine A.bn ?_
          refine A.tn ?_
          refine A.region (A.goA [.w ((k : Int) + 1), .p] [(3, (p_ b1)), (4, e_), (9, (.slice al l.length cl)), (10, (i_ (l.length : Int))), (11, (i_ ((k : Int) + 1))), (5, (.slice A8 (((((sfo x l k).1) ++ ([x])) ++ ([x3])).length) c8)), (6, (b_ true)), (12, (b_ (decide ((k : Int) < (l.length : Int))))), (8, (p_ b4)), (23, (b_ ((!((sfo x l k).2)) && (decide (x3.hi ≥ x.hi))))), (32, (b_ (x3.hi != x.hi)))] [] (fun κ => (IntKind.i64.wrap ((k : Int) + 1) = ((k : Int) + 1)) ∧ True) (by kernel_rfl) ⟨(wrap_i64 (e := (k : Int) + 1) (by constructor <;> omega)), trivial⟩ ?_)
          refine A.tn ?_
          refine A.sub [(3, (p_ b1)), (4, e_), (9, (.slice al l.length cl)), (10, (i_ (l.length : Int))), (11, (i_ ((k : Int) + 1))), (5, (.slice A8 (((((sfo x l k).1) ++ ([x])) ++ ([x3])).length) c8)), (6, (b_ ((sfo x l (k + 1)).2))), (12, (b_ (decide ((k : Int) < (l.length : Int))))), (8, (p_ b4)), (23, (b_ ((!((sfo x l k).2)) && (decide (x3.hi ≥ x.hi))))), (32, (b_ (x3.hi != x.hi)))] (by exact ⟨rfl, rfl, rfl, rfl, rfl, rfl, (congrArg (fun z_ => some (b_ z_)) (by first | rfl | (rw [sfo_succ (by assumption)]; simp_all; done) | (rw [sfo_succ (by assumption)]; (try simp only [*]); rfl) | ((have hk2 : k = l.length := by omega); subst hk2; unfold setL; simp_all; done) : true = (sfo x l (k + 1)).2)), rfl, rfl, rfl, rfl, trivial⟩) ?_
          refine A.setH [sl A8 (((sfo x l (k + 1)).1).length) c8 30 14 (V.flat encCl ((sfo x l (k + 1)).1)), blk b1 [(i_ x.hi), (i_ x.hp), (b_ x.hl), (u_ x.ra), (u_ x.rb), (u_ x.rc), (u_ x.la), (u_ x.lb), (u_ x.lc), (u_ x.ua), (u_ x.ub), (u_ x.uc), (i_ x.hk), (i_ x.hq)] 30, blk b4 [(i_ x3.hi), (i_ x3.hp), (b_ x3.hl), (u_ x3.ra), (u_ x3.rb), (u_ x3.rc), (u_ x3.la), (u_ x3.lb), (u_ x3.lc), (u_ x3.ua), (u_ x3.ub), (u_ x3.uc), (i_ x3.hk), (i_ x3.hq)] 30, blk b5 [(i_ x.hi), (i_ x.hp), (b_ x.hl), (u_ x.ra), (u_ x.rb), (u_ x.rc), (u_ x.la), (u_ x.lb), (u_ x.lc), (u_ x.ua), (u_ x.ub), (u_ x.uc), (i_ x.hk), (i_ x.hq)] 30, blk b7 [(i_ x3.hi), (i_ x3.hp), (b_ x3.hl), (u_ x3.ra), (u_ x3.rb), (u_ x3.rc), (u_ x3.la), (u_ x3.lb), (u_ x3.lc), (u_ x3.ua), (u_ x3.ub), (u_ x3.uc), (i_ x3.hk), (i_ x3.hq)] 30] (cc (slC (by first | rfl | (rw [sfo_succ (by assumption)]; simp_all; done) | (rw [sfo_succ (by assumption)]; (try simp only [*]); rfl) | ((have hk2 : k = l.length := by omega); subst hk2; unfold setL; simp_all; done) : (((sfo x l k).1) ++ ([x])) ++ ([x3]) = (sfo x l (k + 1)).1)) rfl) ?_
          refine A.sub [(3, (p_ b1)), (4, e_), (9, (.slice al l.length cl)), (10, (i_ (l.length : Int))), (11, (i_ ((k : Int) + 1))), (5, (.slice A8 (((sfo x l (k + 1)).1).length) c8)), (6, (b_ ((sfo x l (k + 1)).2))), (12, (b_ (decide ((k : Int) < (l.length : Int))))), (8, (p_ b4)), (23, (b_ ((!((sfo x l k).2)) && (decide (x3.hi ≥ x.hi))))), (32, (b_ (x3.hi != x.hi)))] (by exact ⟨rfl, rfl, rfl, rfl, rfl, (congrArg (fun z_ : List Cl => some (Value.slice A8 z_.length c8)) (by first | rfl | (rw [sfo_succ (by assumption)]; simp_all; done) | (rw [sfo_succ (by assumption)]; (try simp only [*]); rfl) | ((have hk2 : k = l.length := by omega); subst hk2; unfold setL; simp_all; done) : (((sfo x l k).1) ++ ([x])) ++ ([x3]) = (sfo x l (k + 1)).1)), rfl, rfl, rfl, rfl, rfl, trivial⟩) ?_
          refine A.next (k + 1, A8, c8) (by first | assumption | omega | (simp_all; done) | (simp_all; omega) | grind) (by first | omega | (simp; omega) | (simp_all; omega)) ?_
          exact A.hereK [0, 0] (by exact ⟨rfl, rfl, rfl, rfl, rfl, rfl, rfl, trivial⟩) (by kernel_rfl)
        · skip
          have p3 := e3; try simp only [decide_eq_true_eq, decide_eq_false_iff_not, beq_iff_eq, beq_eq_false_iff_ne, bne_iff_ne, bne_eq_false_iff_eq, ne_eq, Bool.and_eq_true, Bool.or_eq_true, Bool.or_eq_false_iff, Bool.not_eq_true', Bool.not_eq_false', Int.not_lt, Int.not_le, gt_iff_lt, ge_iff_le, Classical.not_not] at p3
          refine A.skip ?_
          refine A.bn ?_
          refine A.tn ?_
          refine A.region (A.goA [.w ((k : Int) + 1), .p] [(3, (p_ b1)), (4, e_), (9, (.slice al l.length cl)), (10, (i_ (l.length : Int))), (11, (i_ ((k : Int) + 1))), (5, (.slice A6 ((((sfo x l k).1) ++ ([x])).length) c6)), (6, (b_ true)), (12, (b_ (decide ((k : Int) < (l.length : Int))))), (8, (p_ b4)), (23, (b_ ((!((sfo x l k).2)) && (decide (x3.hi ≥ x.hi))))), (32, (b_ (x3.hi != x.hi)))] [] (fun κ => (IntKind.i64.wrap ((k : Int) + 1) = ((k : Int) + 1)) ∧ True) (by kernel_rfl) ⟨(wrap_i64 (e := (k : Int) + 1) (by constructor <;> omega)), trivial⟩ ?_)
          refine A.tn ?_
          refine A.sub [(3, (p_ b1)), (4, e_), (9, (.slice al l.length cl)), (10, (i_ (l.length : Int))), (11, (i_ ((k : Int) + 1))), (5, (.slice A6 ((((sfo x l k).1) ++ ([x])).length) c6)), (6, (b_ ((sfo x l (k + 1)).2))), (12, (b_ (decide ((k : Int) < (l.length : Int))))), (8, (p_ b4)), (23, (b_ ((!((sfo x l k).2)) && (decide (x3.hi ≥ x.hi))))), (32, (b_ (x3.hi != x.hi)))] (by exact ⟨rfl, rfl, rfl, rfl, rfl, rfl, (congrArg (fun z_ => some (b_ z_)) (by first | rfl | (rw [sfo_succ (by assumption)]; simp_all; done) | (rw [sfo_succ (by assumption)]; (try simp only [*]); rfl) | ((have hk2 : k = l.length := by omega); subst hk2; unfold setL; simp_all; done) : true = (sfo x l (k + 1)).2)), rfl, rfl, rfl, rfl, trivial⟩) ?_
          refine A.setH [sl A6 (((sfo x l (k + 1)).1).length) c6 30 14 (V.flat encCl ((sfo x l (k + 1)).1)), blk b1 [(i_ x.hi), (i_ x.hp), (b_ x.hl), (u_ x.ra), (u_ x.rb), (u_ x.rc), (u_ x.la), (u_ x.lb), (u_ x.lc), (u_ x.ua), (u_ x.ub), (u_ x.uc), (i_ x.hk), (i_ x.hq)] 30, blk b4 [(i_ x3.hi), (i_ x3.hp), (b_ x3.hl), (u_ x3.ra), (u_ x3.rb), (u_ x3.rc), (u_ x3.la), (u_ x3.lb), (u_ x3.lc), (u_ x3.ua), (u_ x3.ub), (u_ x3.uc), (i_ x3.hk), (i_ x3.hq)] 30, blk b5 [(i_ x.hi), (i_ x.hp), (b_ x.hl), (u_ x.ra), (u_ x.rb), (u_ x.rc), (u_ x.la), (u_ x.lb), (u_ x.lc), (u_ x.ua), (u_ x.ub), (u_ x.uc), (i_ x.hk), (i_ x.hq)] 30] (cc (slC (by first | rfl | (rw [sfo_succ (by assumption)]; simp_all; done) | (rw [sfo_succ (by assumption)]; (try simp only [*]); rfl) | ((have hk2 : k = l.length := by omega); subst hk2; unfold setL; simp_all; done) : ((sfo x l k).1) ++ ([x]) = (sfo x l (k + 1)).1)) rfl) ?_
          refine A.sub [(3, (p_ b1)), (4, e_), (9, (.slice al l.length cl)), (10, (i_ (l.length : Int))), (11, (i_ ((k : Int) + 1))), (5, (.slice A6 (((sfo x l (k + 1)).1).length) c6)), (6, (b_ ((sfo x l (k + 1)).2))), (12, (b_ (decide ((k : Int) < (l.length : Int))))), (8, (p_ b4)), (23, (b_ ((!((sfo x l k).2)) && (decide (x3.hi ≥ x.hi))))), (32, (b_ (x3.hi != x.hi)))] (by exact ⟨rfl, rfl, rfl, rfl, rfl, (congrArg (fun z_ : List Cl => some (Value.slice A6 z_.length c6)) (by first | rfl | (rw [sfo_succ (by assumption)]; simp_all; done) | (rw [sfo_succ (by assumption)]; (try simp only [*]); rfl) | ((have hk2 : k = l.length := by omega); subst hk2; unfold setL; simp_all; done) : ((sfo x l k).1) ++ ([x]) = (sfo x l (k + 1)).1)), rfl, rfl, rfl, rfl, rfl, trivial⟩) ?_
          refine A.next (k + 1, A6, c6) (by first | assumption | omega | (simp_all; done) | (simp_all; omega) | grind) (by first | omega | (simp; omega) | (simp_all; omega)) ?_
          exact A.hereK [0, 0] (by exact ⟨rfl, rfl, rfl, rfl, rfl, rfl, rfl, trivial⟩) (by kernel_rfl)
      · skip
        have p2 := e2; try simp only [decide_eq_true_eq, decide_eq_false_iff_not, beq_iff_eq, beq_eq_false_iff_ne, bne_iff_ne, bne_eq_false_iff_eq, ne_eq, Bool.and_eq_true, Bool.or_eq_true, Bool.or_eq_false_iff, Bool.not_eq_true', Bool.not_eq_false', Int.not_lt, Int.not_le, gt_iff_lt, ge_iff_le, Classical.not_not] at p2
        refine A.skip ?_
        refine A.tn ?_
        refine A.seq ?_
        refine A.region (A.goA [.p, .ld 2, .p, .ld 1, .p] [(3, (p_ b1)), (4, e_), (9, (.slice al l.length cl)), (10, (i_ (l.length : Int))), (11, (i_ (k : Int))), (5, (.slice ao (((sfo x l k).1).length) co)), (6, (b_ ((sfo x l k).2))), (12, (b_ (decide ((k : Int) < (l.length : Int))))), (8, (p_ b4)), (23, (b_ ((!((sfo x l k).2)) && (decide (x3.hi ≥ x.hi))))), (32, (b_ (x3.hi != x.hi)))] [b4, b1] T0 (by kernel_rfl) trivial ?_)
        refine A.tn ?_
        refine A.cond (E := x3.hi != x.hi) rfl (fun e4 => ?_) (fun e4 => ?_)
        · skip
          have p4 := e4; try simp only [decide_eq_true_eq, decide_eq_false_iff_not, beq_iff_eq, beq_eq_false_iff_ne, bne_iff_ne, bne_eq_false_iff_eq, ne_eq, Bool.and_eq_true, Bool.or_eq_true, Bool.or_eq_false_iff, Bool.not_eq_true', Bool.not_eq_false', Int.not_lt, Int.not_le, gt_iff_lt, ge_iff_le, Classical.not_not] at p4
          refine A.region (A.goP [.p, .ld 2] [(3, (p_ b1)), (4, e_), (9, (.slice al l.length cl)), (10, (i_ (l.length : Int))), (11, (i_ (k : Int))), (5, (.slice ao (((sfo x l k).1).length) co)), (6, (b_ ((sfo x l k).2))), (12, (b_ (decide ((k : Int) < (l.length : Int))))), (8, (p_ b4)), (23, (b_ ((!((sfo x l k).2)) && (decide (x3.hi ≥ x.hi))))), (32, (b_ (x3.hi != x.hi))), (33, (.slice ao (((sfo x l k).1).length) co)), (34, (.agg #[(i_ x3.hi), (i_ x3.hp), (b_ x3.hl), (u_ x3.ra), (u_ x3.rb), (u_ x3.rc), (u_ x3.la), (u_ x3.lb), (u_ x3.lc), (u_ x3.ua), (u_ x3.ub), (u_ x3.uc), (i_ x3.hk), (i_ x3.hq)]))] [b4] T0 (by kernel_rfl) trivial ?_)
          refine A.cons (A.buildSlice 35 (e := 30) [(i_ x3.hi), (i_ x3.hp), (b_ x3.hl), (u_ x3.ra), (u_ x3.rb), (u_ x3.rc), (u_ x3.la), (u_ x3.lb), (u_ x3.lc), (u_ x3.ua), (u_ x3.ub), (u_ x3.uc), (i_ x3.hk), (i_ x3.hq)] (by kernel_rfl) rfl (fun _ => by kernel_rfl) (fun b9 => [sl ao (((sfo x l k).1).length) co 30 14 (V.flat encCl ((sfo x l k).1)), blk b1 [(i_ x.hi), (i_ x.hp), (b_ x.hl), (u_ x.ra), (u_ x.rb), (u_ x.rc), (u_ x.la), (u_ x.lb), (u_ x.lc), (u_ x.ua), (u_ x.ub), (u_ x.uc), (i_ x.hk), (i_ x.hq)] 30, blk b4 [(i_ x3.hi), (i_ x3.hp), (b_ x3.hl), (u_ x3.ra), (u_ x3.rb), (u_ x3.rc), (u_ x3.la), (u_ x3.lb), (u_ x3.lc), (u_ x3.ua), (u_ x3.ub), (u_ x3.uc), (i_ x3.hk), (i_ x3.hq)] 30, blk b9 [(i_ x3.hi), (i_ x3.hp), (b_ x3.hl), (u_ x3.ra), (u_ x3.rb), (u_ x3.rc), (u_ x3.la), (u_ x3.lb), (u_ x3.lc), (u_ x3.ua), (u_ x3.ub), (u_ x3.uc), (i_ x3.hk), (i_ x3.hq)] 30]) (fun _ => rfl) ?_)
          intro b9
          refine A.cons (A.appendC (enc := encCl) (xs := (sfo x l k).1) ([x3]) 0 36 (e := 30) (z := (.agg #[(i_ 0), (i_ 0), (b_ false), (u_ 0), (u_ 0), (u_ 0), (u_ 0), (u_ 0), (u_ 0), (u_ 0), (u_ 0), (u_ 0), (i_ 0), (i_ 0)])) (sz := 14) (by_ := 112) (by kernel_rfl) rfl rfl rfl (by kernel_rfl) (by kernel_rfl) (by rfl) (by decide) encCl_len encCl_one rfl (rd_blk (i := 3) rfl) (by simp; omega) (fun A10 c10 => [sl A10 ((((sfo x l k).1) ++ ([x3])).length) c10 30 14 (V.flat encCl (((sfo x l k).1) ++ ([x3]))), blk b1 [(i_ x.hi), (i_ x.hp), (b_ x.hl), (u_ x.ra), (u_ x.rb), (u_ x.rc), (u_ x.la), (u_ x.lb), (u_ x.lc), (u_ x.ua), (u_ x.ub), (u_ x.uc), (i_ x.hk), (i_ x.hq)] 30, blk b4 [(i_ x3.hi), (i_ x3.hp), (b_ x3.hl), (u_ x3.ra), (u_ x3.rb), (u_ x3.rc), (u_ x3.la), (u_ x3.lb), (u_ x3.lc), (u_ x3.ua), (u_ x3.ub), (u_ x3.uc), (i_ x3.hk), (i_ x3.hq)] 30, blk b9 [(i_ x3.hi), (i_ x3.hp), (b_ x3.hl), (u_ x3.ra), (u_ x3.rb), (u_ x3.rc), (u_ x3.la), (u_ x3.lb), (u_ x3.lc), (u_ x3.ua), (u_ x3.ub), (u_ x3.uc), (i_ x3.hk), (i_ x3.hq)] 30]) (fun _ _ => rfl) ?_)
          intro A10 c10
          refine A.goA [.p] [(3, (p_ b1)), (4, e_), (9, (.slice al l.length cl)), (10, (i_ (l.length : Int))), (11, (i_ (k : Int))), (5, (.slice A10 ((((sfo x l k).1) ++ ([x3])).length) c10)), (6, (b_ ((sfo x l k).2))), (12, (b_ (decide ((k : Int) < (l.length : Int))))), (8, (p_ b4)), (23, (b_ ((!((sfo x l k).2)) && (decide (x3.hi ≥ x.hi))))), (32, (b_ (x3.hi != x.hi)))] [] T0 (by kernel_rfl) trivial ?_
          refine A.bn ?_
          refine A.tn ?_
          refine A.region (A.goA [.w ((k : Int) + 1), .p] [(3, (p_ b1)), (4, e_), (9, (.slice al l.length cl)), (10, (i_ (l.length : Int))), (11, (i_ ((k : Int) + 1))), (5, (.slice A10 ((((sfo x l k).1) ++ ([x3])).length) c10)), (6, (b_ ((sfo x l k).2))), (12, (b_ (decide ((k : Int) < (l.length : Int))))), (8, (p_ b4)), (23, (b_ ((!((sfo x l k).2)) && (decide (x3.hi ≥ x.hi))))), (32, (b_ (x3.hi != x.hi)))] [] (fun κ => (IntKind.i64.wrap ((k : Int) + 1) = ((k : Int) + 1)) ∧ True) (by kernel_rfl) ⟨(wrap_i64 (e := (k : Int) + 1) (by constructor <;> omega)), trivial⟩ ?_)
          refine A.tn ?_
          refine A.sub [(3, (p_ b1)), (4, e_), (9, (.slice al l.length cl)), (10, (i_ (l.length : Int))), (11, (i_ ((k : Int) + 1))), (5, (.slice A10 ((((sfo x l k).1) ++ ([x3])).length) c10)), (6, (b_ ((sfo x l (k + 1)).2))), (12, (b_ (decide ((k : Int) < (l.length : Int))))), (8, (p_ b4)), (23, (b_ ((!((sfo x l k).2)) && (decide (x3.hi ≥ x.hi))))), (32, (b_ (x3.hi != x.hi)))] (by exact ⟨rfl, rfl, rfl, rfl, rfl, rfl, (congrArg (fun z_ => some (b_ z_)) (by first | rfl | (rw [sfo_succ (by assumption)]; simp_all; done) | (rw [sfo_succ (by assumption)]; (try simp only [*]); rfl) | ((have hk2 : k = l.length := by omega); subst hk2; unfold setL; simp_all; done) : (sfo x l k).2 = (sfo x l (k + 1)).2)), rfl, rfl, rfl, rfl, trivial⟩) ?_
          refine A.setH [sl A10 (((sfo x l (k + 1)).1).length) c10 30 14 (V.flat encCl ((sfo x l (k + 1)).1)), blk b1 [(i_ x.hi), (i_ x.hp), (b_ x.hl), (u_ x.ra), (u_ x.rb), (u_ x.rc), (u_ x.la), (u_ x.lb), (u_ x.lc), (u_ x.ua), (u_ x.ub), (u_ x.uc), (i_ x.hk), (i_ x.hq)] 30, blk b4 [(i_ x3.hi), (i_ x3.hp), (b_ x3.hl), (u_ x3.ra), (u_ x3.rb), (u_ x3.rc), (u_ x3.la), (u_ x3.lb), (u_ x3.lc), (u_ x3.ua), (u_ x3.ub), (u_ x3.uc), (i_ x3.hk), (i_ x3.hq)] 30, blk b9 [(i_ x3.hi), (i_ x3.hp), (b_ x3.hl), (u_ x3.ra), (u_ x3.rb), (u_ x3.rc), (u_ x3.la), (u_ x3.lb), (u_ x3.lc), (u_ x3.ua), (u_ x3.ub), (u_ x3.uc), (i_ x3.hk), (i_ x3.hq)] 30] (cc (slC (by first | rfl | (rw [sfo_succ (by assumption)]; simp_all; done) | (rw [sfo_succ (by assumption)]; (try simp only [*]); rfl) | ((have hk2 : k = l.length := by omega); subst hk2; unfold setL; simp_all; done) : ((sfo x l k).1) ++ ([x3]) = (sfo x l (k + 1)).1)) rfl) ?_
          refine A.sub [(3, (p_ b1)), (4, e_), (9, (.slice al l.length cl)), (10, (i_ (l.length : Int))), (11, (i_ ((k : Int) + 1))), (5, (.slice A10 (((sfo x l (k + 1)).1).length) c10)), (6, (b_ ((sfo x l (k + 1)).2))), (12, (b_ (decide ((k : Int) < (l.length : Int))))), (8, (p_ b4)), (23, (b_ ((!((sfo x l k).2)) && (decide (x3.hi ≥ x.hi))))), (32, (b_ (x3.hi != x.hi)))] (by exact ⟨rfl, rfl, rfl, rfl, rfl, (congrArg (fun z_ : List Cl => some (Value.slice A10 z_.length c10)) (by first | rfl | (rw [sfo_succ (by assumption)]; simp_all; done) | (rw [sfo_succ (by assumption)]; (try simp only [*]); rfl) | ((have hk2 : k = l.length := by omega); subst hk2; unfold setL; simp_all; done) : ((sfo x l k).1) ++ ([x3]) = (sfo x l (k + 1)).1)), rfl, rfl, rfl, rfl, rfl, trivial⟩) ?_
          refine A.next (k + 1, A10, c10) (by first | assumption | omega | (simp_all; done) | (simp_all; omega) | grind) (by first | omega | (simp; omega) | (simp_all; omega)) ?_
          exact A.hereK [0, 0] (by exact ⟨rfl, rfl, rfl, rfl, rfl, rfl, rfl, trivial⟩) (by kernel_rfl)
        · skip
          have p4 := e4; try simp only [decide_eq_true_eq, decide_eq_false_iff_not, beq_iff_eq, beq_eq_false_iff_ne, bne_iff_ne, bne_eq_false_iff_eq, ne_eq, Bool.and_eq_true, Bool.or_eq_true, Bool.or_eq_false_iff, Bool.not_eq_true', Bool.not_eq_false', Int.not_lt, Int.not_le, gt_iff_lt, ge_iff_le, Classical.not_not] at p4
          refine A.skip ?_
          refine A.bn ?_
          refine A.tn ?_
          refine A.region (A.goA [.w ((k : Int) + 1), .p] [(3, (p_ b1)), (4, e_), (9, (.slice al l.length cl)), (10, (i_ (l.length : Int))), (11, (i_ ((k : Int) + 1))), (5, (.slice ao (((sfo x l k).1).length) co)), (6, (b_ ((sfo x l k).2))), (12, (b_ (decide ((k : Int) < (l.length : Int))))), (8, (p_ b4)), (23, (b_ ((!((sfo x l k).2)) && (decide (x3.hi ≥ x.hi))))), (32, (b_ (x3.hi != x.hi)))] [] (fun κ => (IntKind.i64.wrap ((k : Int) + 1) = ((k : Int) + 1)) ∧ True) (by kernel_rfl) ⟨(wrap_i64 (e := (k : Int) + 1) (by constructor <;> omega)), trivial⟩ ?_)
          refine A.tn ?_
          refine A.sub [(3, (p_ b1)), (4, e_), (9, (.slice al l.length cl)), (10, (i_ (l.length : Int))), (11, (i_ ((k : Int) + 1))), (5, (.slice ao (((sfo x l k).1).length) co)), (6, (b_ ((sfo x l (k + 1)).2))), (12, (b_ (decide ((k : Int) < (l.length : Int))))), (8, (p_ b4)), (23, (b_ ((!((sfo x l k).2)) && (decide (x3.hi ≥ x.hi))))), (32, (b_ (x3.hi != x.hi)))] (by exact ⟨rfl, rfl, rfl, rfl, rfl, rfl, (congrArg (fun z_ => some (b_ z_)) (by first | rfl | (rw [sfo_succ (by assumption)]; simp_all; done) | (rw [sfo_succ (by assumption)]; (try simp only [*]); rfl) | ((have hk2 : k = l.length := by omega); subst hk2; unfold setL; simp_all; done) : (sfo x l k).2 = (sfo x l (k + 1)).2)), rfl, rfl, rfl, rfl, trivial⟩) ?_
          refine A.setH [sl ao (((sfo x l (k + 1)).1).length) co 30 14 (V.flat encCl ((sfo x l (k + 1)).1)), blk b1 [(i_ x.hi), (i_ x.hp), (b_ x.hl), (u_ x.ra), (u_ x.rb), (u_ x.rc), (u_ x.la), (u_ x.lb), (u_ x.lc), (u_ x.ua), (u_ x.ub), (u_ x.uc), (i_ x.hk), (i_ x.hq)] 30, blk b4 [(i_ x3.hi), (i_ x3.hp), (b_ x3.hl), (u_ x3.ra), (u_ x3.rb), (u_ x3.rc), (u_ x3.la), (u_ x3.lb), (u_ x3.lc), (u_ x3.ua), (u_ x3.ub), (u_ x3.uc), (i_ x3.hk), (i_ x3.hq)] 30] (cc (slC (by first | rfl | (rw [sfo_succ (by assumption)]; simp_all; done) | (rw [sfo_succ (by assumption)]; (try simp only [*]); rfl) | ((have hk2 : k = l.length := by omega); subst hk2; unfold setL; simp_all; done) : (sfo x l k).1 = (sfo x l (k + 1)).1)) rfl) ?_
          refine A.sub [(3, (p_ b1)), (4, e_), (9, (.slice al l.length cl)), (10, (i_ (l.length : Int))), (11, (i_ ((k : Int) + 1))), (5, (.slice ao (((sfo x l (k + 1)).1).length) co)), (6, (b_ ((sfo x l (k + 1)).2))), (12, (b_ (decide ((k : Int) < (l.length : Int))))), (8, (p_ b4)), (23, (b_ ((!((sfo x l k).2)) && (decide (x3.hi ≥ x.hi))))), (32, (b_ (x3.hi != x.hi)))] (by exact ⟨rfl, rfl, rfl, rfl, rfl, (congrArg (fun z_ : List Cl => some (Value.slice ao z_.length co)) (by first | rfl | (rw [sfo_succ (by assumption)]; simp_all; done) | (rw [sfo_succ (by assumption)]; (try simp only [*]); rfl) | ((have hk2 : k = l.length := by omega); subst hk2; unfold setL; simp_all; done) : (sfo x l k).1 = (sfo x l (k + 1)).1)), rfl, rfl, rfl, rfl, rfl, trivial⟩) ?_
          refine A.next (k + 1, ao, co) (by first | assumption | omega | (simp_all; done) | (simp_all; omega) | grind) (by first | omega | (simp; omega) | (simp_all; omega)) ?_
          exact A.hereK [0, 0] (by exact ⟨rfl, rfl, rfl, rfl, rfl, rfl, rfl, trivial⟩) (by kernel_rfl)
    · skip
      have p1 := of_decide_eq_false e1
      refine A.exit ?_
      refine A.te ?_
      refine A.te ?_
      refine A.bh ?_
      refine A.tn ?_
      refine A.seq ?_
      refine A.seq ?_
      refine A.region (A.goA [.p, .p] [(3, (p_ b1)), (4, e_), (9, (.slice al l.length cl)), (10, (i_ (l.length : Int))), (11, (i_ (k : Int))), (5, (.slice ao (((sfo x l k).1).length) co)), (6, (b_ ((sfo x l k).2))), (12, (b_ (decide ((k : Int) < (l.length : Int))))), (39, (b_ (!((sfo x l k).2))))] [] T0 (by kernel_rfl) trivial ?_)
      refine A.tn ?_
      refine A.cond (E := !((sfo x l k).2)) rfl (fun e5 => ?_) (fun e5 => ?_)
      · skip
        have p5 := e5; try simp only [decide_eq_true_eq, decide_eq_false_iff_not, beq_iff_eq, beq_eq_false_iff_ne, bne_iff_ne, bne_eq_false_iff_eq, ne_eq, Bool.and_eq_true, Bool.or_eq_true, Bool.or_eq_false_iff, Bool.not_eq_true', Bool.not_eq_false', Int.not_lt, Int.not_le, gt_iff_lt, ge_iff_le, Classical.not_not] at p5
        refine A.region (A.goP [.p, .ld 1] [(3, (p_ b1)), (4, e_), (9, (.slice al l.length cl)), (10, (i_ (l.length : Int))), (11, (i_ (k : Int))), (5, (.slice ao (((sfo x l k).1).length) co)), (6, (b_ ((sfo x l k).2))), (12, (b_ (decide ((k : Int) < (l.length : Int))))), (39, (b_ (!((sfo x l k).2)))), (40, (.slice ao (((sfo x l k).1).length) co)), (41, (.agg #[(i_ x.hi), (i_ x.hp), (b_ x.hl), (u_ x.ra), (u_ x.rb), (u_ x.rc), (u_ x.la), (u_ x.lb), (u_ x.lc), (u_ x.ua), (u_ x.ub), (u_ x.uc), (i_ x.hk), (i_ x.hq)]))] [b1] T0 (by kernel_rfl) trivial ?_)
        refine A.cons (A.buildSlice 42 (e := 30) [(i_ x.hi), (i_ x.hp), (b_ x.hl), (u_ x.ra), (u_ x.rb), (u_ x.rc), (u_ x.la), (u_ x.lb), (u_ x.lc), (u_ x.ua), (u_ x.ub), (u_ x.uc), (i_ x.hk), (i_ x.hq)] (by kernel_rfl) rfl (fun _ => by kernel_rfl) (fun b11 => [sl ao (((sfo x l k).1).length) co 30 14 (V.flat encCl ((sfo x l k).1)), blk b1 [(i_ x.hi), (i_ x.hp), (b_ x.hl), (u_ x.ra), (u_ x.rb), (u_ x.rc), (u_ x.la), (u_ x.lb), (u_ x.lc), (u_ x.ua), (u_ x.ub), (u_ x.uc), (i_ x.hk), (i_ x.hq)] 30, blk b11 [(i_ x.hi), (i_ x.hp), (b_ x.hl), (u_ x.ra), (u_ x.rb), (u_ x.rc), (u_ x.la), (u_ x.lb), (u_ x.lc), (u_ x.ua), (u_ x.ub), (u_ x.uc), (i_ x.hk), (i_ x.hq)] 30]) (fun _ => rfl) ?_)
        intro b11
        refine A.cons (A.appendC (enc := encCl) (xs := (sfo x l k).1) ([x]) 0 43 (e := 30) (z := (.agg #[(i_ 0), (i_ 0), (b_ false), (u_ 0), (u_ 0), (u_ 0), (u_ 0), (u_ 0), (u_ 0), (u_ 0), (u_ 0), (u_ 0), (i_ 0), (i_ 0)])) (sz := 14) (by_ := 112) (by kernel_rfl) rfl rfl rfl (by kernel_rfl) (by kernel_rfl) (by rfl) (by decide) encCl_len encCl_one rfl (rd_blk (i := 2) rfl) (by simp; omega) (fun A12 c12 => [sl A12 ((((sfo x l k).1) ++ ([x])).length) c12 30 14 (V.flat encCl (((sfo x l k).1) ++ ([x]))), blk b1 [(i_ x.hi), (i_ x.hp), (b_ x.hl), (u_ x.ra), (u_ x.rb), (u_ x.rc), (u_ x.la), (u_ x.lb), (u_ x.lc), (u_ x.ua), (u_ x.ub), (u_ x.uc), (i_ x.hk), (i_ x.hq)] 30, blk b11 [(i_ x.hi), (i_ x.hp), (b_ x.hl), (u_ x.ra), (u_ x.rb), (u_ x.rc), (u_ x.la), (u_ x.lb), (u_ x.lc), (u_ x.ua), (u_ x.ub), (u_ x.uc), (i_ x.hk), (i_ x.hq)] 30]) (fun _ _ => rfl) ?_)
        intro A12 c12
        refine A.goA [.p] [(3, (p_ b1)), (4, e_), (9, (.slice al l.length cl)), (10, (i_ (l.length : Int))), (11, (i_ (k : Int))), (5, (.slice A12 ((((sfo x l k).1) ++ ([x])).length) c12)), (6, (b_ ((sfo x l k).2))), (12, (b_ (decide ((k : Int) < (l.length : Int))))), (39, (b_ (!((sfo x l k).2))))] [] T0 (by kernel_rfl) trivial ?_
        refine A.tn ?_
        refine A.seq ?_
        refine A.region (A.goA [.p, .p] [(3, (p_ b1)), (4, (.slice A12 ((((sfo x l k).1) ++ ([x])).length) c12)), (9, (.slice al l.length cl)), (10, (i_ (l.length : Int))), (11, (i_ (k : Int))), (5, (.slice A12 ((((sfo x l k).1) ++ ([x])).length) c12)), (6, (b_ ((sfo x l k).2))), (12, (b_ (decide ((k : Int) < (l.length : Int))))), (39, (b_ (!((sfo x l k).2))))] [] T0 (by kernel_rfl) trivial ?_)
        refine A.tn ?_
        refine A.ret ?_
        refine A.setH [sl A12 ((setL x l).length) c12 30 14 (V.flat encCl (setL x l)), blk b1 [(i_ x.hi), (i_ x.hp), (b_ x.hl), (u_ x.ra), (u_ x.rb), (u_ x.rc), (u_ x.la), (u_ x.lb), (u_ x.lc), (u_ x.ua), (u_ x.ub), (u_ x.uc), (i_ x.hk), (i_ x.hq)] 30, blk b11 [(i_ x.hi), (i_ x.hp), (b_ x.hl), (u_ x.ra), (u_ x.rb), (u_ x.rc), (u_ x.la), (u_ x.lb), (u_ x.lc), (u_ x.ua), (u_ x.ub), (u_ x.uc), (i_ x.hk), (i_ x.hq)] 30] (cc (slC (by first | rfl | (rw [sfo_succ (by assumption)]; simp_all; done) | (rw [sfo_succ (by assumption)]; (try simp only [*]); rfl) | ((have hk2 : k = l.length := by omega); subst hk2; unfold setL; simp_all; done) : ((sfo x l k).1) ++ ([x]) = (setL x l))) rfl) ?_
        refine A.postK [0] [(.slice A12 ((((sfo x l k).1) ++ ([x])).length) c12)] (fun aa ww rr ss => ⟨rv_tmp rr rfl, trivial⟩) (A12, c12) ?_ ?_ (by kernel_rfl)
        · show ((.slice A12 ((((sfo x l k).1) ++ ([x])).length) c12) : Value) = (.slice A12 ((setL x l).length) c12)
          (have hk2 : k = l.length := by omega); subst hk2; unfold setL; simp_all
        · trivial
      · skip
        have p5 := e5; try simp only [decide_eq_true_eq, decide_eq_false_iff_not, beq_iff_eq, beq_eq_false_iff_ne, bne_iff_ne, bne_eq_false_iff_eq, ne_eq, Bool.and_eq_true, Bool.or_eq_true, Bool.or_eq_false_iff, Bool.not_eq_true', Bool.not_eq_false', Int.not_lt, Int.not_le, gt_iff_lt, ge_iff_le, Classical.not_not] at p5
        refine A.skip ?_
        refine A.tn ?_
        refine A.seq ?_
        refine A.region (A.goA [.p, .p] [(3, (p_ b1)), (4, (.slice ao (((sfo x l k).1).length) co)), (9, (.slice al l.length cl)), (10, (i_ (l.length : Int))), (11, (i_ (k : Int))), (5, (.slice ao (((sfo x l k).1).length) co)), (6, (b_ ((sfo x l k).2))), (12, (b_ (decide ((k : Int) < (l.length : Int))))), (39, (b_ (!((sfo x l k).2))))] [] T0 (by kernel_rfl) trivial ?_)
        refine A.tn ?_
        refine A.ret ?_
        refine A.setH [sl ao ((setL x l).length) co 30 14 (V.flat encCl (setL x l)), blk b1 [(i_ x.hi), (i_ x.hp), (b_ x.hl), (u_ x.ra), (u_ x.rb), (u_ x.rc), (u_ x.la), (u_ x.lb), (u_ x.lc), (u_ x.ua), (u_ x.ub), (u_ x.uc), (i_ x.hk), (i_ x.hq)] 30] (cc (slC (by first | rfl | (rw [sfo_succ (by assumption)]; simp_all; done) | (rw [sfo_succ (by assumption)]; (try simp only [*]); rfl) | ((have hk2 : k = l.length := by omega); subst hk2; unfold setL; simp_all; done) : (sfo x l k).1 = (setL x l))) rfl) ?_
        refine A.postK [0] [(.slice ao (((sfo x l k).1).length) co)] (fun aa ww rr ss => ⟨rv_tmp rr rfl, trivial⟩) (ao, co) ?_ ?_ (by kernel_rfl)
        · show ((.slice ao (((sfo x l k).1).length) co) : Value) = (.slice ao ((setL x l).length) co)
          (have hk2 : k = l.length := by omega); subst hk2; unfold setL; simp_all
        · trivial

set_option maxHeartbeats 4000000 in
set_option maxRecDepth 100000 in
theorem chR_spec (al : Option Addr) (l : List Cl) (cl : Nat) (a : Int) (hl : l.length ≤ 100000) (w : World) (r0 : arrAt w al (V.flat encCl l)) (hs : HS w (feet []) [] w) :
    Calls Try.prog 29 #[(.slice al l.length cl), (i_ a)] w fun e w' => ∃ zz, e = .returned ((fun (zz : (Option Addr) × Nat) => match zz with | (al', cl') => (.slice al' ((chR l a).length) cl')) zz) ∧ (fun (zz : (Option Addr) × Nat) => match zz with | (al', cl') => True) zz ∧ Turn [] ((fun (zz : (Option Addr) × Nat) => match zz with | (al', cl') => [sl al' ((chR l a).length) cl' 3 1 (V.flat encI (chR l a))]) zz) w w' := by
  refine calls_of (args := [(.slice al l.length cl), (i_ a)]) (penv [(.slice al l.length cl), (i_ a)]) (feet []) [] Try.func29 rfl rfl (look_penv _) hs ?_
  refine A.norm [(0, (.slice al l.length cl)), (1, (i_ a))] [] (by exact ⟨rfl, rfl, trivial⟩) rfl ?_
  refine A.seq ?_
  refine A.region (A.goA [.p] [(0, (.slice al l.length cl)), (1, (i_ a)), (4, e_)] [] T0 (by kernel_rfl) trivial ?_)
  refine A.tn ?_
  refine A.seq ?_
  refine A.region (A.goA [.p] [(0, (.slice al l.length cl)), (1, (i_ a)), (4, e_), (5, e_)] [] T0 (by kernel_rfl) trivial ?_)
  refine A.tn ?_
  refine A.seq ?_
  refine A.seq ?_
  refine A.region (A.goA [.p, .p, .p] [(0, (.slice al l.length cl)), (1, (i_ a)), (4, e_), (5, e_), (8, (.slice al l.length cl)), (9, (i_ (l.length : Int))), (10, (i_ 0))] [] T0 (by kernel_rfl) trivial ?_)
  refine A.tn ?_
  refine A.block ?_
  refine A.ownNil 3 1 [sl none (([] : List Int).length) 0 3 1 (V.flat encI ([] : List Int))] rfl ?_
  refine A.setH [sl none ((chR (l.take 0) a).length) 0 3 1 (V.flat encI (chR (l.take 0) a))] (cc (slC (by first | (rw [take_snoc (by assumption), chR_snoc]; simp_all; done) | (simp [chR]; done) | (rw [List.take_of_length_le (by omega)]) : ([] : List Int) = (chR (l.take 0) a))) rfl) ?_
  refine A.sub [(0, (.slice al l.length cl)), (1, (i_ a)), (4, e_), (5, (.slice none ((chR (l.take 0) a).length) 0)), (8, (.slice al l.length cl)), (9, (i_ (l.length : Int))), (10, (i_ 0))] (by exact ⟨rfl, rfl, rfl, (congrArg (fun z_ : List Int => some (Value.slice none z_.length 0)) (by first | (rw [take_snoc (by assumption), chR_snoc]; simp_all; done) | (simp [chR]; done) | (rw [List.take_of_length_le (by omega)]) : ([] : List Int) = (chR (l.take 0) a))), rfl, rfl, rfl, trivial⟩) ?_
  refine A.loop (fun (zz : Nat × (Option Addr) × Nat) => match zz with | (k, ao, co) => [(1, (i_ a)), (4, e_), (8, (.slice al l.length cl)), (9, (i_ (l.length : Int))), (10, (i_ (k : Int))), (5, (.slice ao ((chR (l.take k) a).length) co))]) (fun (zz : Nat × (Option Addr) × Nat) => match zz with | (k, ao, co) => [sl ao ((chR (l.take k) a).length) co 3 1 (V.flat encI (chR (l.take k) a))]) (fun (zz : Nat × (Option Addr) × Nat) => match zz with | (k, ao, co) => (k ≤ l.length)) (fun (zz : Nat × (Option Addr) × Nat) => match zz with | (k, ao, co) => l.length - k) (0, none, 0) (by first | assumption | omega | (simp_all; done) | (simp_all; omega) | grind) ?_ ?_
  · exact A.hereK [0] (by exact ⟨rfl, rfl, rfl, rfl, rfl, rfl, trivial⟩) (by kernel_rfl)
  · rintro ⟨k, ao, co⟩ hk
    have hk : k ≤ l.length := hk
    have hcl : (chR (l.take k) a).length ≤ k := Nat.le_trans (chR_len _ _) (by simp; omega)
    refine A.norm [(1, (i_ a)), (4, e_), (8, (.slice al l.length cl)), (9, (i_ (l.length : Int))), (10, (i_ (k : Int))), (5, (.slice ao ((chR (l.take k) a).length) co))] [sl ao ((chR (l.take k) a).length) co 3 1 (V.flat encI (chR (l.take k) a))] (by exact ⟨rfl, rfl, rfl, rfl, rfl, rfl, trivial⟩) rfl ?_
    refine A.seq ?_
    refine A.region (A.goA [.p] [(1, (i_ a)), (4, e_), (8, (.slice al l.length cl)), (9, (i_ (l.length : Int))), (10, (i_ (k : Int))), (5, (.slice ao ((chR (l.take k) a).length) co)), (11, (b_ (decide ((k : Int) < (l.length : Int)))))] [] T0 (by kernel_rfl) trivial ?_)
    refine A.tn ?_
    refine A.seq ?_
    refine A.cond (E := decide ((k : Int) < (l.length : Int))) rfl (fun e1 => ?_) (fun e1 => ?_)
    · skip
      have p1 := of_decide_eq_true e1
      refine A.skip ?_
      refine A.tn ?_
      refine A.seq ?_
      refine A.block ?_
      refine A.seq ?_
      refine A.region (A.goP [.ix] [(1, (i_ a)), (4, e_), (8, (.slice al l.length cl)), (9, (i_ (l.length : Int))), (10, (i_ (k : Int))), (5, (.slice ao ((chR (l.take k) a).length) co)), (11, (b_ (decide ((k : Int) < (l.length : Int))))), (12, (.pointer (some ((at0 al).add (k * 14)))))] [] (fun κ => κ.ix al l.length (k : Int) ∧ True) (by kernel_rfl) ⟨(ixOf encCl_len (by decide) (rd_old r0 (by simp [feet])) (by first | omega | (simp; omega) | (simp; done))), trivial⟩ ?_)
      obtain ⟨x2, hx2⟩ : ∃ x, (l)[k]? = some x := ⟨_, List.getElem?_eq_getElem (by omega)⟩
      refine A.goA1 [.rd [(i_ x2.hi), (i_ x2.hp), (b_ x2.hl), (u_ x2.ra), (u_ x2.rb), (u_ x2.rc), (u_ x2.la), (u_ x2.lb), (u_ x2.lc), (u_ x2.ua), (u_ x2.ub), (u_ x2.uc), (i_ x2.hk), (i_ x2.hq)], .al, .st 1] [1, 4, 8, 9, 10, 5, 11, 7] (fun b3 => [(1, (i_ a)), (4, e_), (8, (.slice al l.length cl)), (9, (i_ (l.length : Int))), (10, (i_ (k : Int))), (5, (.slice ao ((chR (l.take k) a).length) co)), (11, (b_ (decide ((k : Int) < (l.length : Int))))), (7, (p_ b3))]) (fun b3 => [sl ao ((chR (l.take k) a).length) co 3 1 (V.flat encI (chR (l.take k) a)), blk b3 [(i_ x2.hi), (i_ x2.hp), (b_ x2.hl), (u_ x2.ra), (u_ x2.rb), (u_ x2.rc), (u_ x2.la), (u_ x2.lb), (u_ x2.lc), (u_ x2.ua), (u_ x2.ub), (u_ x2.uc), (i_ x2.hk), (i_ x2.hq)] 30]) (fun b3 => [b3]) (fun _ => (fun κ => κ.rd ((at0 al).add (k * 14)) [(i_ x2.hi), (i_ x2.hp), (b_ x2.hl), (u_ x2.ra), (u_ x2.rb), (u_ x2.rc), (u_ x2.la), (u_ x2.lb), (u_ x2.lc), (u_ x2.ua), (u_ x2.ub), (u_ x2.uc), (i_ x2.hk), (i_ x2.hq)] ∧ True)) (fun _ => by kernel_rfl) (fun b3 => ⟨(reads_at0 (vs := [(i_ x2.hi), (i_ x2.hp), (b_ x2.hl), (u_ x2.ra), (u_ x2.rb), (u_ x2.rc), (u_ x2.la), (u_ x2.lb), (u_ x2.lc), (u_ x2.ua), (u_ x2.ub), (u_ x2.uc), (i_ x2.hk), (i_ x2.hq)]) encCl_len (rd_old r0 (by simp [feet])) hx2 (by simp) rfl), trivial⟩) ?_
      intro b3
      refine A.tn ?_
      refine A.seq ?_
      refine A.region (A.goA [.p, .ld 1, .p, .p] [(1, (i_ a)), (4, e_), (8, (.slice al l.length cl)), (9, (i_ (l.length : Int))), (10, (i_ (k : Int))), (5, (.slice ao ((chR (l.take k) a).length) co)), (11, (b_ (decide ((k : Int) < (l.length : Int))))), (7, (p_ b3)), (17, (b_ (x2.hp == a)))] [b3] T0 (by kernel_rfl) trivial ?_)
      refine A.tn ?_
      refine A.cond (E := x2.hp == a) rfl (fun e2 => ?_) (fun e2 => ?_)
      · skip
        have p2 := e2; try simp only [decide_eq_true_eq, decide_eq_false_iff_not, beq_iff_eq, beq_eq_false_iff_ne, bne_iff_ne, bne_eq_false_iff_eq, ne_eq, Bool.and_eq_true, Bool.or_eq_true, Bool.or_eq_false_iff, Bool.not_eq_true', Bool.not_eq_false', Int.not_lt, Int.not_le, gt_iff_lt, ge_iff_le, Classical.not_not] at p2
        refine A.region (A.goP [.p, .p, .ld 1] [(1, (i_ a)), (4, e_), (8, (.slice al l.length cl)), (9, (i_ (l.length : Int))), (10, (i_ (k : Int))), (5, (.slice ao ((chR (l.take k) a).length) co)), (11, (b_ (decide ((k : Int) < (l.length : Int))))), (7, (p_ b3)), (17, (b_ (x2.hp == a))), (18, (.slice ao ((chR (l.take k) a).length) co)), (20, (i_ x2.hi))] [b3] T0 (by kernel_rfl) trivial ?_)
        refine A.cons (A.buildSlice 21 (e := 3) [(i_ x2.hi)] (by kernel_rfl) rfl (fun _ => by kernel_rfl) (fun b4 => [sl ao ((chR (l.take k) a).length) co 3 1 (V.flat encI (chR (l.take k) a)), blk b3 [(i_ x2.hi), (i_ x2.hp), (b_ x2.hl), (u_ x2.ra), (u_ x2.rb), (u_ x2.rc), (u_ x2.la), (u_ x2.lb), (u_ x2.lc), (u_ x2.ua), (u_ x2.ub), (u_ x2.uc), (i_ x2.hk), (i_ x2.hq)] 30, blk b4 [(i_ x2.hi)] 3]) (fun _ => rfl) ?_)
        intro b4
        refine A.cons (A.appendC (enc := encI) (xs := (chR (l.take k) a)) ([x2.hi]) 0 22 (e := 3) (z := (i_ 0)) (sz := 1) (by_ := 8) (by kernel_rfl) rfl rfl rfl (by kernel_rfl) (by kernel_rfl) (by rfl) (by decide) encI_len encI_one rfl (rd_blk (i := 2) rfl) (by simp; omega) (fun A5 c5 => [sl A5 (((chR (l.take k) a) ++ ([x2.hi])).length) c5 3 1 (V.flat encI ((chR (l.take k) a) ++ ([x2.hi]))), blk b3 [(i_ x2.hi), (i_ x2.hp), (b_ x2.hl), (u_ x2.ra), (u_ x2.rb), (u_ x2.rc), (u_ x2.la), (u_ x2.lb), (u_ x2.lc), (u_ x2.ua), (u_ x2.ub), (u_ x2.uc), (i_ x2.hk), (i_ x2.hq)] 30, blk b4 [(i_ x2.hi)] 3]) (fun _ _ => rfl) ?_)
        intro A5 c5
        refine A.goA [.p] [(1, (i_ a)), (4, e_), (8, (.slice al l.length cl)), (9, (i_ (l.length : Int))), (10, (i_ (k : Int))), (5, (.slice A5 (((chR (l.take k) a) ++ ([x2.hi])).length) c5)), (11, (b_ (decide ((k : Int) < (l.length : Int))))), (7, (p_ b3)), (17, (b_ (x2.hp == a)))] [] T0 (by kernel_rfl) trivial ?_
        refine A.bn ?_
        refine A.tn ?_
        refine A.region (A.goA [.w ((k : Int) + 1), .p] [(1, (i_ a)), (4, e_), (8, (.slice al l.length cl)), (9, (i_ (l.length : Int))), (10, (i_ ((k : Int) + 1))), (5, (.slice A5 (((chR (l.take k) a) ++ ([x2.hi])).length) c5)), (11, (b_ (decide ((k : Int) < (l.length : Int))))), (7, (p_ b3)), (17, (b_ (x2.hp == a)))] [] (fun κ => (IntKind.i64.wrap ((k : Int) + 1) = ((k : Int) + 1)) ∧ True) (by kernel_rfl) ⟨(wrap_i64 (e := (k : Int) + 1) (by constructor <;> omega)), trivial⟩ ?_)
        refine A.tn ?_
        refine A.setH [sl A5 ((chR (l.take (k + 1)) a).length) c5 3 1 (V.flat encI (chR (l.take (k + 1)) a)), blk b3 [(i_ x2.hi), (i_ x2.hp), (b_ x2.hl), (u_ x2.ra), (u_ x2.rb), (u_ x2.rc), (u_ x2.la), (u_ x2.lb), (u_ x2.lc), (u_ x2.ua), (u_ x2.ub), (u_ x2.uc), (i_ x2.hk), (i_ x2.hq)] 30, blk b4 [(i_ x2.hi)] 3] (cc (slC (by first | (rw [take_snoc (by assumption), chR_snoc]; simp_all; done) | (simp [chR]; done) | (rw [List.take_of_length_le (by omega)]) : (chR (l.take k) a) ++ ([x2.hi]) = (chR (l.take (k + 1)) a))) rfl) ?_
        refine A.sub [(1, (i_ a)), (4, e_), (8, (.slice al l.length cl)), (9, (i_ (l.length : Int))), (10, (i_ ((k : Int) + 1))), (5, (.slice A5 ((chR (l.take (k + 1)) a).length) c5)), (11, (b_ (decide ((k : Int) < (l.length : Int))))), (7, (p_ b3)), (17, (b_ (x2.hp == a)))] (by exact ⟨rfl, rfl, rfl, rfl, rfl, (congrArg (fun z_ : List Int => some (Value.slice A5 z_.length c5)) (by first | (rw [take_snoc (by assumption), chR_snoc]; simp_all; done) | (simp [chR]; done) | (rw [List.take_of_length_le (by omega)]) : (chR (l.take k) a) ++ ([x2.hi]) = (chR (l.take (k + 1)) a))), rfl, rfl, rfl, trivial⟩) ?_
        refine A.next (k + 1, A5, c5) (by first | assumption | omega | (simp_all; done) | (simp_all; omega) | grind) (by first | omega | (simp; omega) | (simp_all; omega)) ?_
        exact A.hereK [0] (by exact ⟨rfl, rfl, rfl, rfl, rfl, rfl, trivial⟩) (by kernel_rfl)
      · skip
        have p2 := e2; try simp only [decide_eq_true_eq, decide_eq_false_iff_not, beq_iff_eq, beq_eq_false_iff_ne, bne_iff_ne, bne_eq_false_iff_eq, ne_eq, Bool.and_eq_true, Bool.or_eq_true, Bool.or_eq_false_iff, Bool.not_eq_true', Bool.not_eq_false', Int.not_lt, Int.not_le, gt_iff_lt, ge_iff_le, Classical.not_not] at p2
        refine A.skip ?_
        refine A.bn ?_
        refine A.tn ?_
        refine A.region (A.goA [.w ((k : Int) + 1), .p] [(1, (i_ a)), (4, e_), (8, (.slice al l.length cl)), (9, (i_ (l.length : Int))), (10, (i_ ((k : Int) + 1))), (5, (.slice ao ((chR (l.take k) a).length) co)), (11, (b_ (decide ((k : Int) < (l.length : Int))))), (7, (p_ b3)), (17, (b_ (x2.hp == a)))] [] (fun κ => (IntKind.i64.wrap ((k : Int) + 1) = ((k : Int) + 1)) ∧ True) (by kernel_rfl) ⟨(wrap_i64 (e := (k : Int) + 1) (by constructor <;> omega)), trivial⟩ ?_)
        refine A.tn ?_
        refine A.setH [sl ao ((chR (l.take (k + 1)) a).length) co 3 1 (V.flat encI (chR (l.take (k + 1)) a)), blk b3 [(i_ x2.hi), (i_ x2.hp), (b_ x2.hl), (u_ x2.ra), (u_ x2.rb), (u_ x2.rc), (u_ x2.la), (u_ x2.lb), (u_ x2.lc), (u_ x2.ua), (u_ x2.ub), (u_ x2.uc), (i_ x2.hk), (i_ x2.hq)] 30] (cc (slC (by first | (rw [take_snoc (by assumption), chR_snoc]; simp_all; done) | (simp [chR]; done) | (rw [List.take_of_length_le (by omega)]) : (chR (l.take k) a) = (chR (l.take (k + 1)) a))) rfl) ?_
        refine A.sub [(1, (i_ a)), (4, e_), (8, (.slice al l.length cl)), (9, (i_ (l.length : Int))), (10, (i_ ((k : Int) + 1))), (5, (.slice ao ((chR (l.take (k + 1)) a).length) co)), (11, (b_ (decide ((k : Int) < (l.length : Int))))), (7, (p_ b3)), (17, (b_ (x2.hp == a)))] (by exact ⟨rfl, rfl, rfl, rfl, rfl, (congrArg (fun z_ : List Int => some (Value.slice ao z_.length co)) (by first | (rw [take_snoc (by assumption), chR_snoc]; simp_all; done) | (simp [chR]; done) | (rw [List.take_of_length_le (by omega)]) : (chR (l.take k) a) = (chR (l.take (k + 1)) a))), rfl, rfl, rfl, trivial⟩) ?_
        refine A.next (k + 1, ao, co) (by first | assumption | omega | (simp_all; done) | (simp_all; omega) | grind) (by first | omega | (simp; omega) | (simp_all; omega)) ?_
        exact A.hereK [0] (by exact ⟨rfl, rfl, rfl, rfl, rfl, rfl, trivial⟩) (by kernel_rfl)
    · skip
      have p1 := of_decide_eq_false e1
      refine A.exit ?_
      refine A.te ?_
      refine A.te ?_
      refine A.bh ?_
      refine A.tn ?_
      refine A.seq ?_
      refine A.region (A.goA [.p, .p] [(1, (i_ a)), (4, (.slice ao ((chR (l.take k) a).length) co)), (8, (.slice al l.length cl)), (9, (i_ (l.length : Int))), (10, (i_ (k : Int))), (5, (.slice ao ((chR (l.take k) a).length) co)), (11, (b_ (decide ((k : Int) < (l.length : Int)))))] [] T0 (by kernel_rfl) trivial ?_)
      refine A.tn ?_
      refine A.ret ?_
      refine A.setH [sl ao ((chR l a).length) co 3 1 (V.flat encI (chR l a))] (cc (slC (by first | (rw [take_snoc (by assumption), chR_snoc]; simp_all; done) | (simp [chR]; done) | (rw [List.take_of_length_le (by omega)]) : (chR (l.take k) a) = (chR l a))) rfl) ?_
      refine A.postK [0] [(.slice ao ((chR (l.take k) a).length) co)] (fun aa ww rr ss => ⟨rv_tmp rr rfl, trivial⟩) (ao, co) ?_ ?_ (by kernel_rfl)
      · show ((.slice ao ((chR (l.take k) a).length) co) : Value) = (.slice ao ((chR l a).length) co)
        rw [List.take_of_length_le (by omega)]
      · trivial

set_option maxHeartbeats 4000000 in
set_option maxRecDepth 100000 in
theorem rlR_spec (al : Option Addr) (l : List Cl) (cl : Nat) (hl : l.length ≤ 100000) (w : World) (r0 : arrAt w al (V.flat encCl l)) (hs : HS w (feet []) [] w) :
    Calls Try.prog 30 #[(.slice al l.length cl)] w fun e w' => ∃ zz, e = .returned ((fun (zz : (Option Addr) × Nat) => match zz with | (al', cl') => (.slice al' ((rlR l).length) cl')) zz) ∧ (fun (zz : (Option Addr) × Nat) => match zz with | (al', cl') => True) zz ∧ Turn [] ((fun (zz : (Option Addr) × Nat) => match zz with | (al', cl') => [sl al' ((rlR l).length) cl' 28 3 (V.flat encCv (rlR l))]) zz) w w' := by
  refine calls_of (args := [(.slice al l.length cl)]) (penv [(.slice al l.length cl)]) (feet []) [] Try.func30 rfl rfl (look_penv _) hs ?_
  refine A.norm [(0, (.slice al l.length cl))] [] (by exact ⟨rfl, trivial⟩) rfl ?_
  refine A.seq ?_
  refine A.region (A.goA [.p] [(0, (.slice al l.length cl)), (2, e_)] [] T0 (by kernel_rfl) trivial ?_)
  refine A.tn ?_
  refine A.seq ?_
  refine A.region (A.goA [.p] [(0, (.slice al l.length cl)), (2, e_), (3, e_)] [] T0 (by kernel_rfl) trivial ?_)
  refine A.tn ?_
  refine A.seq ?_
  refine A.seq ?_
  refine A.region (A.goA [.p, .p, .p] [(0, (.slice al l.length cl)), (2, e_), (3, e_), (6, (.slice al l.length cl)), (7, (i_ (l.length : Int))), (8, (i_ 0))] [] T0 (by kernel_rfl) trivial ?_)
  refine A.tn ?_
  refine A.block ?_
  refine A.ownNil 28 3 [sl none (([] : List Cv).length) 0 28 3 (V.flat encCv ([] : List Cv))] rfl ?_
  refine A.setH [sl none ((rlR (l.take 0)).length) 0 28 3 (V.flat encCv (rlR (l.take 0)))] (cc (slC (by first | (rw [take_snoc (by assumption), rlR_snoc]; simp_all [rtOf]; done) | (simp [rlR]; done) | (rw [List.take_of_length_le (by omega)]) : ([] : List Cv) = (rlR (l.take 0)))) rfl) ?_
  refine A.sub [(0, (.slice al l.length cl)), (2, e_), (3, (.slice none ((rlR (l.take 0)).length) 0)), (6, (.slice al l.length cl)), (7, (i_ (l.length : Int))), (8, (i_ 0))] (by exact ⟨rfl, rfl, (congrArg (fun z_ : List Cv => some (Value.slice none z_.length 0)) (by first | (rw [take_snoc (by assumption), rlR_snoc]; simp_all [rtOf]; done) | (simp [rlR]; done) | (rw [List.take_of_length_le (by omega)]) : ([] : List Cv) = (rlR (l.take 0)))), rfl, rfl, rfl, trivial⟩) ?_
  refine A.loop (fun (zz : Nat × (Option Addr) × Nat) => match zz with | (k, ao, co) => [(2, e_), (6, (.slice al l.length cl)), (7, (i_ (l.length : Int))), (8, (i_ (k : Int))), (3, (.slice ao ((rlR (l.take k)).length) co))]) (fun (zz : Nat × (Option Addr) × Nat) => match zz with | (k, ao, co) => [sl ao ((rlR (l.take k)).length) co 28 3 (V.flat encCv (rlR (l.take k)))]) (fun (zz : Nat × (Option Addr) × Nat) => match zz with | (k, ao, co) => (k ≤ l.length)) (fun (zz : Nat × (Option Addr) × Nat) => match zz with | (k, ao, co) => l.length - k) (0, none, 0) (by first | assumption | omega | (simp_all; done) | (simp_all; omega) | grind) ?_ ?_
  · exact A.hereK [0] (by exact ⟨rfl, rfl, rfl, rfl, rfl, trivial⟩) (by kernel_rfl)
  · rintro ⟨k, ao, co⟩ hk
    have hk : k ≤ l.length := hk
    have hcl : (rlR (l.take k)).length ≤ k := Nat.le_trans (rlR_len _) (by simp; omega)
    refine A.norm [(2, e_), (6, (.slice al l.length cl)), (7, (i_ (l.length : Int))), (8, (i_ (k : Int))), (3, (.slice ao ((rlR (l.take k)).length) co))] [sl ao ((rlR (l.take k)).length) co 28 3 (V.flat encCv (rlR (l.take k)))] (by exact ⟨rfl, rfl, rfl, rfl, rfl, trivial⟩) rfl ?_
    refine A.seq ?_
    refine A.region (A.goA [.p] [(2, e_), (6, (.slice al l.length cl)), (7, (i_ (l.length : Int))), (8, (i_ (k : Int))), (3, (.slice ao ((rlR (l.take k)).length) co)), (9, (b_ (decide ((k : Int) < (l.length : Int)))))] [] T0 (by kernel_rfl) trivial ?_)
    refine A.tn ?_
    refine A.seq ?_
    refine A.cond (E := decide ((k : Int) < (l.length : Int))) rfl (fun e1 => ?_) (fun e1 => ?_)
    · skip
      have p1 := of_decide_eq_true e1
      refine A.skip ?_
      refine A.tn ?_
      refine A.seq ?_
      refine A.block ?_
      refine A.seq ?_
      refine A.region (A.goP [.ix] [(2, e_), (6, (.slice al l.length cl)), (7, (i_ (l.length : Int))), (8, (i_ (k : Int))), (3, (.slice ao ((rlR (l.take k)).length) co)), (9, (b_ (decide ((k : Int) < (l.length : Int))))), (10, (.pointer (some ((at0 al).add (k * 14)))))] [] (fun κ => κ.ix al l.length (k : Int) ∧ True) (by kernel_rfl) ⟨(ixOf encCl_len (by decide) (rd_old r0 (by simp [feet])) (by first | omega | (simp; omega) | (simp; done))), trivial⟩ ?_)
      obtain ⟨x2, hx2⟩ : ∃ x, (l)[k]? = some x := ⟨_, List.getElem?_eq_getElem (by omega)⟩
      refine A.goA1 [.rd [(i_ x2.hi), (i_ x2.hp), (b_ x2.hl), (u_ x2.ra), (u_ x2.rb), (u_ x2.rc), (u_ x2.la), (u_ x2.lb), (u_ x2.lc), (u_ x2.ua), (u_ x2.ub), (u_ x2.uc), (i_ x2.hk), (i_ x2.hq)], .al, .st 1] [2, 6, 7, 8, 3, 9, 5] (fun b3 => [(2, e_), (6, (.slice al l.length cl)), (7, (i_ (l.length : Int))), (8, (i_ (k : Int))), (3, (.slice ao ((rlR (l.take k)).length) co)), (9, (b_ (decide ((k : Int) < (l.length : Int))))), (5, (p_ b3))]) (fun b3 => [sl ao ((rlR (l.take k)).length) co 28 3 (V.flat encCv (rlR (l.take k))), blk b3 [(i_ x2.hi), (i_ x2.hp), (b_ x2.hl), (u_ x2.ra), (u_ x2.rb), (u_ x2.rc), (u_ x2.la), (u_ x2.lb), (u_ x2.lc), (u_ x2.ua), (u_ x2.ub), (u_ x2.uc), (i_ x2.hk), (i_ x2.hq)] 30]) (fun b3 => [b3]) (fun _ => (fun κ => κ.rd ((at0 al).add (k * 14)) [(i_ x2.hi), (i_ x2.hp), (b_ x2.hl), (u_ x2.ra), (u_ x2.rb), (u_ x2.rc), (u_ x2.la), (u_ x2.lb), (u_ x2.lc), (u_ x2.ua), (u_ x2.ub), (u_ x2.uc), (i_ x2.hk), (i_ x2.hq)] ∧ True)) (fun _ => by kernel_rfl) (fun b3 => ⟨(reads_at0 (vs := [(i_ x2.hi), (i_ x2.hp), (b_ x2.hl), (u_ x2.ra), (u_ x2.rb), (u_ x2.rc), (u_ x2.la), (u_ x2.lb), (u_ x2.lc), (u_ x2.ua), (u_ x2.ub), (u_ x2.uc), (i_ x2.hk), (i_ x2.hq)]) encCl_len (rd_old r0 (by simp [feet])) hx2 (by simp) rfl), trivial⟩) ?_
      intro b3
      refine A.tn ?_
      refine A.seq ?_
      refine A.region (A.goA [.p, .ld 1, .cq (i_ (ofR x2.ra x2.rb x2.rc)), .p] [(2, e_), (6, (.slice al l.length cl)), (7, (i_ (l.length : Int))), (8, (i_ (k : Int))), (3, (.slice ao ((rlR (l.take k)).length) co)), (9, (b_ (decide ((k : Int) < (l.length : Int))))), (5, (p_ b3)), (15, (b_ (decide ((ofR x2.ra x2.rb x2.rc) > 1))))] [b3] (fun κ => κ.call 43 [(.agg #[(u_ x2.ra), (u_ x2.rb), (u_ x2.rc)])] (i_ (ofR x2.ra x2.rb x2.rc)) ∧ True) (by kernel_rfl) ⟨(fun ww ss => rof_spec x2.ra x2.rb x2.rc ww), trivial⟩ ?_)
      refine A.tn ?_
      refine A.cond (E := decide ((ofR x2.ra x2.rb x2.rc) > 1)) rfl (fun e2 => ?_) (fun e2 => ?_)
      · skip
        have p2 := of_decide_eq_true e2
        refine A.region (A.goP [.p, .p, .ld 1] [(2, e_), (6, (.slice al l.length cl)), (7, (i_ (l.length : Int))), (8, (i_ (k : Int))), (3, (.slice ao ((rlR (l.take k)).length) co)), (9, (b_ (decide ((k : Int) < (l.length : Int))))), (5, (p_ b3)), (15, (b_ (decide ((ofR x2.ra x2.rb x2.rc) > 1)))), (16, (.slice ao ((rlR (l.take k)).length) co)), (18, (.agg #[(u_ x2.ra), (u_ x2.rb), (u_ x2.rc)]))] [b3] T0 (by kernel_rfl) trivial ?_)
        refine A.cons (A.buildSlice 19 (e := 28) [(u_ x2.ra), (u_ x2.rb), (u_ x2.rc)] (by kernel_rfl) rfl (fun _ => by kernel_rfl) (fun b4 => [sl ao ((rlR (l.take k)).length) co 28 3 (V.flat encCv (rlR (l.take k))), blk b3 [(i_ x2.hi), (i_ x2.hp), (b_ x2.hl), (u_ x2.ra), (u_ x2.rb), (u_ x2.rc), (u_ x2.la), (u_ x2.lb), (u_ x2.lc), (u_ x2.ua), (u_ x2.ub), (u_ x2.uc), (i_ x2.hk), (i_ x2.hq)] 30, blk b4 [(u_ x2.ra), (u_ x2.rb), (u_ x2.rc)] 28]) (fun _ => rfl) ?_)
        intro b4
        refine A.cons (A.appendC (enc := encCv) (xs := (rlR (l.take k))) ([(⟨x2.ra, x2.rb, x2.rc⟩ : Cv)]) 0 20 (e := 28) (z := (.agg #[(u_ 0), (u_ 0), (u_ 0)])) (sz := 3) (by_ := 24) (by kernel_rfl) rfl rfl rfl (by kernel_rfl) (by kernel_rfl) (by rfl) (by decide) encCv_len encCv_one rfl (rd_blk (i := 2) rfl) (by simp; omega) (fun A5 c5 => [sl A5 (((rlR (l.take k)) ++ ([(⟨x2.ra, x2.rb, x2.rc⟩ : Cv)])).length) c5 28 3 (V.flat encCv ((rlR (l.take k)) ++ ([(⟨x2.ra, x2.rb, x2.rc⟩ : Cv)]))), blk b3 [(i_ x2.hi), (i_ x2.hp), (b_ x2.hl), (u_ x2.ra), (u_ x2.rb), (u_ x2.rc), (u_ x2.la), (u_ x2.lb), (u_ x2.lc), (u_ x2.ua), (u_ x2.ub), (u_ x2.uc), (i_ x2.hk), (i_ x2.hq)] 30, blk b4 [(u_ x2.ra), (u_ x2.rb), (u_ x2.rc)] 28]) (fun _ _ => rfl) ?_)
        intro A5 c5
        refine A.goA [.p] [(2, e_), (6, (.slice al l.length cl)), (7, (i_ (l.length : Int))), (8, (i_ (k : Int))), (3, (.slice A5 (((rlR (l.take k)) ++ ([(⟨x2.ra, x2.rb, x2.rc⟩ : Cv)])).length) c5)), (9, (b_ (decide ((k : Int) < (l.length : Int))))), (5, (p_ b3)), (15, (b_ (decide ((ofR x2.ra x2.rb x2.rc) > 1))))] [] T0 (by kernel_rfl) trivial ?_
        refine A.bn ?_
        refine A.tn ?_
        refine A.region (A.goA [.w ((k : Int) + 1), .p] [(2, e_), (6, (.slice al l.length cl)), (7, (i_ (l.length : Int))), (8, (i_ ((k : Int) + 1))), (3, (.slice A5 (((rlR (l.take k)) ++ ([(⟨x2.ra, x2.rb, x2.rc⟩ : Cv)])).length) c5)), (9, (b_ (decide ((k : Int) < (l.length : Int))))), (5, (p_ b3)), (15, (b_ (decide ((ofR x2.ra x2.rb x2.rc) > 1))))] [] (fun κ => (IntKind.i64.wrap ((k : Int) + 1) = ((k : Int) + 1)) ∧ True) (by kernel_rfl) ⟨(wrap_i64 (e := (k : Int) + 1) (by constructor <;> omega)), trivial⟩ ?_)
        refine A.tn ?_
        refine A.setH [sl A5 ((rlR (l.take (k + 1))).length) c5 28 3 (V.flat encCv (rlR (l.take (k + 1)))), blk b3 [(i_ x2.hi), (i_ x2.hp), (b_ x2.hl), (u_ x2.ra), (u_ x2.rb), (u_ x2.rc), (u_ x2.la), (u_ x2.lb), (u_ x2.lc), (u_ x2.ua), (u_ x2.ub), (u_ x2.uc), (i_ x2.hk), (i_ x2.hq)] 30, blk b4 [(u_ x2.ra), (u_ x2.rb), (u_ x2.rc)] 28] (cc (slC (by first | (rw [take_snoc (by assumption), rlR_snoc]; simp_all [rtOf]; done) | (simp [rlR]; done) | (rw [List.take_of_length_le (by omega)]) : (rlR (l.take k)) ++ ([(⟨x2.ra, x2.rb, x2.rc⟩ : Cv)]) = (rlR (l.take (k + 1))))) rfl) ?_
        refine A.sub [(2, e_), (6, (.slice al l.length cl)), (7, (i_ (l.length : Int))), (8, (i_ ((k : Int) + 1))), (3, (.slice A5 ((rlR (l.take (k + 1))).length) c5)), (9, (b_ (decide ((k : Int) < (l.length : Int))))), (5, (p_ b3)), (15, (b_ (decide ((ofR x2.ra x2.rb x2.rc) > 1))))] (by exact ⟨rfl, rfl, rfl, rfl, (congrArg (fun z_ : List Cv => some (Value.slice A5 z_.length c5)) (by first | (rw [take_snoc (by assumption), rlR_snoc]; simp_all [rtOf]; done) | (simp [rlR]; done) | (rw [List.take_of_length_le (by omega)]) : (rlR (l.take k)) ++ ([(⟨x2.ra, x2.rb, x2.rc⟩ : Cv)]) = (rlR (l.take (k + 1))))), rfl, rfl, rfl, trivial⟩) ?_
        refine A.next (k + 1, A5, c5) (by first | assumption | omega | (simp_all; done) | (simp_all; omega) | grind) (by first | omega | (simp; omega) | (simp_all; omega)) ?_
        exact A.hereK [0] (by exact ⟨rfl, rfl, rfl, rfl, rfl, trivial⟩) (by kernel_rfl)
      · skip
        have p2 := of_decide_eq_false e2
        refine A.skip ?_
        refine A.bn ?_
        refine A.tn ?_
        refine A.region (A.goA [.w ((k : Int) + 1), .p] [(2, e_), (6, (.slice al l.length cl)), (7, (i_ (l.length : Int))), (8, (i_ ((k : Int) + 1))), (3, (.slice ao ((rlR (l.take k)).length) co)), (9, (b_ (decide ((k : Int) < (l.length : Int))))), (5, (p_ b3)), (15, (b_ (decide ((ofR x2.ra x2.rb x2.rc) > 1))))] [] (fun κ => (IntKind.i64.wrap ((k : Int) + 1) = ((k : Int) + 1)) ∧ True) (by kernel_rfl) ⟨(wrap_i64 (e := (k : Int) + 1) (by constructor <;> omega)), trivial⟩ ?_)
        refine A.tn ?_
        refine A.setH [sl ao ((rlR (l.take (k + 1))).length) co 28 3 (V.flat encCv (rlR (l.take (k + 1)))), blk b3 [(i_ x2.hi), (i_ x2.hp), (b_ x2.hl), (u_ x2.ra), (u_ x2.rb), (u_ x2.rc), (u_ x2.la), (u_ x2.lb), (u_ x2.lc), (u_ x2.ua), (u_ x2.ub), (u_ x2.uc), (i_ x2.hk), (i_ x2.hq)] 30] (cc (slC (by first | (rw [take_snoc (by assumption), rlR_snoc]; simp_all [rtOf]; done) | (simp [rlR]; done) | (rw [List.take_of_length_le (by omega)]) : (rlR (l.take k)) = (rlR (l.take (k + 1))))) rfl) ?_
        refine A.sub [(2, e_), (6, (.slice al l.length cl)), (7, (i_ (l.length : Int))), (8, (i_ ((k : Int) + 1))), (3, (.slice ao ((rlR (l.take (k + 1))).length) co)), (9, (b_ (decide ((k : Int) < (l.length : Int))))), (5, (p_ b3)), (15, (b_ (decide ((ofR x2.ra x2.rb x2.rc) > 1))))] (by exact ⟨rfl, rfl, rfl, rfl, (congrArg (fun z_ : List Cv => some (Value.slice ao z_.length co)) (by first | (rw [take_snoc (by assumption), rlR_snoc]; simp_all [rtOf]; done) | (simp [rlR]; done) | (rw [List.take_of_length_le (by omega)]) : (rlR (l.take k)) = (rlR (l.take (k + 1))))), rfl, rfl, rfl, trivial⟩) ?_
        refine A.next (k + 1, ao, co) (by first | assumption | omega | (simp_all; done) | (simp_all; omega) | grind) (by first | omega | (simp; omega) | (simp_all; omega)) ?_
        exact A.hereK [0] (by exact ⟨rfl, rfl, rfl, rfl, rfl, trivial⟩) (by kernel_rfl)
    · skip
      have p1 := of_decide_eq_false e1
      refine A.exit ?_
      refine A.te ?_
      refine A.te ?_
      refine A.bh ?_
      refine A.tn ?_
      refine A.seq ?_
      refine A.region (A.goA [.p, .p] [(2, (.slice ao ((rlR (l.take k)).length) co)), (6, (.slice al l.length cl)), (7, (i_ (l.length : Int))), (8, (i_ (k : Int))), (3, (.slice ao ((rlR (l.take k)).length) co)), (9, (b_ (decide ((k : Int) < (l.length : Int)))))] [] T0 (by kernel_rfl) trivial ?_)
      refine A.tn ?_
      refine A.ret ?_
      refine A.setH [sl ao ((rlR l).length) co 28 3 (V.flat encCv (rlR l))] (cc (slC (by first | (rw [take_snoc (by assumption), rlR_snoc]; simp_all [rtOf]; done) | (simp [rlR]; done) | (rw [List.take_of_length_le (by omega)]) : (rlR (l.take k)) = (rlR l))) rfl) ?_
      refine A.postK [0] [(.slice ao ((rlR (l.take k)).length) co)] (fun aa ww rr ss => ⟨rv_tmp rr rfl, trivial⟩) (ao, co) ?_ ?_ (by kernel_rfl)
      · show ((.slice ao ((rlR (l.take k)).length) co) : Value) = (.slice ao ((rlR l).length) co)
        rw [List.take_of_length_le (by omega)]
      · trivial
end Go.Proofs.Ytpodcfadcdnllaa
