/- What the functions of this layer do, proved operation by operation, for all arguments, under the conditions that each theorem states. -/
import Derived.Test.YtinnnoimmioaiaaProg
import Derived.Test.YtinnnoimmioaiaaHierA
import Derived.Test.YtinnnoimmioaiaaL2
namespace Go.Proofs.Ytinnnoimmioaiaa
open Go V
set_option linter.unusedVariables false
set_option linter.unusedSimpArgs false
set_option maxHeartbeats 4000000
set_option maxRecDepth 100000
theorem take_snoc {α : Type} {l : List α} {k : Nat} {x : α} (hx : l[k]? = some x) : l.take (k + 1) = l.take k ++ [x] := by rw [List.take_add_one, hx]; rfl
/-- the document's list as keys and values -/
def kvl (l : List Cl) : List (Int × Cl) := l.map fun c => (c.hi, c)
def oI : Option Nat → Int
  | none => -1
  | some i => (i : Int)
def fd (a : Int) (l : List Cl) : Option Nat := l.findIdx? fun c => decide (c.hi = a)
theorem fd_none {a : Int} {l : List Cl} (h : ∀ y ∈ l, ¬ y.hi = a) : oI (fd a l) = -1 := by
  unfold fd; rw [List.findIdx?_eq_none_iff.2 (by simpa using h)]; rfl
theorem fd_at {a : Int} {l : List Cl} {k : Nat} {x : Cl} (hx : l[k]? = some x) (hk : x.hi = a) (h : ∀ y ∈ l.take k, ¬ y.hi = a) : oI (fd a l) = (k : Int) := by
  unfold fd
  obtain ⟨hl, he⟩ := List.getElem?_eq_some_iff.1 hx
  rw [List.findIdx?_eq_some_iff_getElem.2 ⟨hl, by simp [he, hk], fun j hj => by
    have := h l[j] (List.mem_iff_getElem?.2 ⟨j, by rw [List.getElem?_take, if_pos hj]; exact List.getElem?_eq_getElem _⟩); simpa using this⟩]; rfl
theorem fd_no {a : Int} : ∀ {l : List Cl}, fd a l = none → mget (kvl l) a = none
  | [], _ => rfl
  | c :: l, h => by
    unfold fd at h; rw [List.findIdx?_cons] at h
    by_cases e : c.hi = a
    · simp [e] at h
    · simp only [e, decide_false] at h
      have h2 : fd a l = none := by
        unfold fd; cases hq : List.findIdx? (fun c => decide (c.hi = a)) l with
        | none => rfl
        | some i => rw [hq] at h; simp at h
      have := fd_no h2
      simp only [kvl, List.map_cons, mget]; rw [if_neg e]; exact this
theorem fd_yes {a : Int} : ∀ {l : List Cl} {i : Nat}, fd a l = some i → ∃ x, l[i]? = some x ∧ mget (kvl l) a = some x
  | [], i, h => by simp [fd] at h
  | c :: l, i, h => by
    unfold fd at h; rw [List.findIdx?_cons] at h
    by_cases e : c.hi = a
    · simp [e] at h; subst h; exact ⟨c, rfl, by simp [kvl, mget, e]⟩
    · simp only [e, decide_false] at h
      cases hq : List.findIdx? (fun c => decide (c.hi = a)) l with
      | none => rw [hq] at h; simp at h
      | some k =>
        rw [hq] at h; simp at h; subst h
        obtain ⟨x, h1, h2⟩ := fd_yes (l := l) hq
        exact ⟨x, by simpa using h1, by simp only [kvl, List.map_cons, mget]; rw [if_neg e]; exact h2⟩
theorem fd_ge {a : Int} {l : List Cl} : (oI (fd a l) ≥ 0) ↔ (mget (kvl l) a).isSome = true := by
  cases h : fd a l with
  | none => rw [fd_no h]; simp [oI]
  | some i => obtain ⟨x, _, h2⟩ := fd_yes h; rw [h2]; simp [oI]
theorem fd_neg {a : Int} {l : List Cl} : (oI (fd a l) < 0) ↔ mget (kvl l) a = none := by
  cases h : fd a l with
  | none => rw [fd_no h]; simp [oI]
  | some i => obtain ⟨x, _, h2⟩ := fd_yes h; rw [h2]; simp [oI]
def shR (l : List Cl) (a : Int) : Bool := a == 0 || decide ((ofR (gcl (kvl l) a).la (gcl (kvl l) a).lb (gcl (kvl l) a).lc) > 1)
def upD (l : List Cl) (a : Int) : Nat := depN (kvl l) 70 a
theorem depN_le (kv : List (Int × Cl)) : ∀ (n : Nat) (k : Int), depN kv n k ≤ n
  | 0, _ => by simp [depN]
  | n + 1, k => by unfold depN; split
                   · have := depN_le kv n (gcl kv k).hp; omega
                   · omega
theorem upD_none {l : List Cl} {a : Int} {k : Nat} (hk : k ≤ upD l a) (h : mget (kvl l) (upA (kvl l) a k) = none) : k = upD l a := by
  rcases Nat.lt_or_ge k (upD l a) with g | g
  · exact absurd h (depN_lt (kvl l) 70 a k g)
  · omega
theorem upD_some {l : List Cl} {a : Int} {k : Nat} {x : Cl} (hk : k ≤ upD l a) (h7 : (k : Int) < 70) (h : mget (kvl l) (upA (kvl l) a k) = some x) : k + 1 ≤ upD l a := by
  rcases Nat.lt_or_ge k (upD l a) with g | g
  · exact g
  · have e : k = upD l a := by omega
    have := depN_end (kvl l) 70 a (by unfold upD at e; omega)
    unfold upD at e; rw [← e, h] at this; cases this
theorem upD_all {l : List Cl} {a : Int} {k : Nat} (hk : k ≤ upD l a) (h7 : ¬ (k : Int) < 70) : k = upD l a := by
  have := depN_le (kvl l) 70 a; unfold upD at *; omega
def chR (l : List Cl) (a : Int) : List Int := (l.filter fun c => decide (c.hp = a)).map (·.hi)
theorem chR_snoc {l : List Cl} {a : Int} {x : Cl} : chR (l ++ [x]) a = chR l a ++ (if x.hp = a then [x.hi] else []) := by
  unfold chR; rw [List.filter_append, List.map_append]; by_cases h : x.hp = a <;> simp [h]
theorem chR_len (l : List Cl) (a : Int) : (chR l a).length ≤ l.length := by unfold chR; rw [List.length_map]; exact List.length_filter_le _ _
def wo (a : Int) (l : List Cl) : List Cl := l.filter (fun r => !decide (r.hi = a))
theorem wo_snoc {a : Int} {l : List Cl} {x : Cl} : wo a (l ++ [x]) = wo a l ++ (if x.hi = a then [] else [x]) := by
  unfold wo; rw [List.filter_append]; by_cases h : x.hi = a <;> simp [h]
theorem wo_len (a : Int) (l : List Cl) : (wo a l).length ≤ l.length := List.length_filter_le _ _
def rlR (l : List Cl) : List Cv := (l.filter fun v_ => decide ((ofR v_.ra v_.rb v_.rc) > 1)).map rtOf
theorem rlR_snoc {l : List Cl} {x : Cl} : rlR (l ++ [x]) = rlR l ++ (if (ofR x.ra x.rb x.rc) > 1 then [rtOf x] else []) := by
  unfold rlR; rw [List.filter_append, List.map_append]; by_cases h : (ofR x.ra x.rb x.rc) > 1 <;> simp [h]
theorem rlR_len (l : List Cl) : (rlR l).length ≤ l.length := by unfold rlR; rw [List.length_map]; exact List.length_filter_le _ _
def sfo (x : Cl) (l : List Cl) : Nat → List Cl × Bool
  | 0 => ([], false)
  | k + 1 => match l[k]? with
    | none => sfo x l k
    | some r =>
      (if r.hi ≠ x.hi then (if !(sfo x l k).2 && decide (r.hi ≥ x.hi) then (sfo x l k).1 ++ [x] else (sfo x l k).1) ++ [r] else (if !(sfo x l k).2 && decide (r.hi ≥ x.hi) then (sfo x l k).1 ++ [x] else (sfo x l k).1),
        (sfo x l k).2 || (!(sfo x l k).2 && decide (r.hi ≥ x.hi)))
theorem sfo_succ {x r : Cl} {l : List Cl} {k : Nat} (h : l[k]? = some r) : sfo x l (k + 1) =
      (if r.hi ≠ x.hi then (if !(sfo x l k).2 && decide (r.hi ≥ x.hi) then (sfo x l k).1 ++ [x] else (sfo x l k).1) ++ [r] else (if !(sfo x l k).2 && decide (r.hi ≥ x.hi) then (sfo x l k).1 ++ [x] else (sfo x l k).1),
        (sfo x l k).2 || (!(sfo x l k).2 && decide (r.hi ≥ x.hi))) := by rw [sfo, h]
theorem sfo_len (x : Cl) (l : List Cl) : ∀ k, (sfo x l k).1.length ≤ k + (if (sfo x l k).2 then 1 else 0)
  | 0 => by simp [sfo]
  | k + 1 => by
    have ih := sfo_len x l k
    cases hr : l[k]? with
    | none => rw [show sfo x l (k + 1) = sfo x l k by rw [sfo, hr]]; split <;> split at ih <;> omega
    | some r =>
      rw [sfo_succ hr]
      cases hp : (sfo x l k).2 <;> rw [hp] at ih <;> by_cases h1 : r.hi = x.hi <;> by_cases h2 : x.hi ≤ r.hi <;> simp [h1, h2] at ih ⊢ <;> omega
theorem sfo_len1 (x : Cl) (l : List Cl) (k : Nat) : (sfo x l k).1.length ≤ k + 1 := by have := sfo_len x l k; split at this <;> omega
def setL (x : Cl) (l : List Cl) : List Cl := if (sfo x l l.length).2 then (sfo x l l.length).1 else (sfo x l l.length).1 ++ [x]
theorem setL_len (x : Cl) (l : List Cl) : (setL x l).length ≤ l.length + 1 := by
  have := sfo_len x l l.length
  unfold setL; split <;> simp_all
def addER (l : List Cl) (y : Cl) : Int := if wrongR y ≠ 0 then wrongR y else if (mget (kvl l) y.hi).isSome = true then 8 else if (l.length : Int) = 64 then 5
  else if y.hp ≠ 0 ∧ (mget (kvl l) y.hp = none ∨ (gcl (kvl l) y.hp).hl = true) then 23
  else if (ofR y.la y.lb y.lc) > 1 ∧ shR l y.hp = false then 29 else if (upD l y.hp : Int) ≥ 16 then 25 else 0
def addLR (l : List Cl) (y : Cl) : List Cl := if addER l y = 0 then setL y l else l
def delER (l : List Cl) (a : Int) : Int := if mget (kvl l) a = none then 6 else if ((chR l a).length : Int) > 0 then 23 else 0
def delLR (l : List Cl) (a : Int) : List Cl := if delER l a = 0 then wo a l else l
def shB (l : List Cl) (y : Cl) (i : Int) : Bool := !decide ((ofR y.la y.lb y.lc) > 1) && shR l i
def setER (l : List Cl) (y : Cl) : Int := if wrongR y ≠ 0 then wrongR y else if mget (kvl l) y.hi = none then 6
  else if (gcl (kvl l) y.hi).hp ≠ y.hp ∨ (gcl (kvl l) y.hi).hl ≠ y.hl then 1
  else if (ofR y.la y.lb y.lc) > 1 ∧ shR l y.hp = false then 29 else if (chR l y.hi).any (shB l y) = true then 29 else 0
def setLR (l : List Cl) (y : Cl) : List Cl := if setER l y = 0 then setL y l else l
theorem addLR_ok {l : List Cl} {y : Cl} (h : addER l y = 0) : addLR l y = setL y l := by unfold addLR; rw [if_pos h]
theorem addLR_no {l : List Cl} {y : Cl} (h : addER l y ≠ 0) : addLR l y = l := by unfold addLR; rw [if_neg h]
theorem setLR_ok {l : List Cl} {y : Cl} (h : setER l y = 0) : setLR l y = setL y l := by unfold setLR; rw [if_pos h]
theorem setLR_no {l : List Cl} {y : Cl} (h : setER l y ≠ 0) : setLR l y = l := by unfold setLR; rw [if_neg h]
theorem delLR_ok {l : List Cl} {a : Int} (h : delER l a = 0) : delLR l a = wo a l := by unfold delLR; rw [if_pos h]
theorem delLR_no {l : List Cl} {a : Int} (h : delER l a ≠ 0) : delLR l a = l := by unfold delLR; rw [if_neg h]

theorem fd_spec (al : Option Addr) (l : List Cl) (cl : Nat) (a : Int) (hl : l.length ≤ 100000) (w : World) (r0 : arrAt w al (V.flat encCl l)) :
    Calls Try.prog 68 #[vS al l cl, i_ a] w fun e w' => e = .returned (i_ (oI (fd a l))) ∧ Fr [] w w' := by
  refine calls_of (args := [vS al l cl, i_ a]) (penv [vS al l cl, i_ a]) [] [] Try.func68 rfl rfl (look_penv _) (HS.nil w) ?_
  refine A.sr (A.g [.p] [] [] ?_)
  refine A.tn (A.seq (A.sr (A.g [.p, .p, .p] [0] [(7, vS al l cl), (8, c_ l.length), (9, i_ 0)] ?_)))
  refine A.tn (A.block (A.loop (fun (zz : Nat) => match zz with | k => [(1, i_ a), (7, vS al l cl), (8, c_ l.length), (9, c_ k)]) (fun (zz : Nat) => match zz with | k => []) (fun (zz : Nat) => match zz with | k => (k ≤ l.length) ∧ (∀ y ∈ l.take k, ¬ y.hi = a)) (fun (zz : Nat) => match zz with | k => l.length - k) (0 : Nat) ⟨(by omega), (by simp)⟩ ?_ ?_))
  · exact A.hK []
  rintro k ⟨hk, hn⟩
  refine A.sr (A.g [.p] [] [(10, b_ (decide ((k : Int) < (l.length : Int))))] ?_)
  refine A.tn (A.seq (A.cn (decide ((k : Int) < (l.length : Int))) (fun e1 => ?_) (fun e1 => ?_)))
  · have p1 := of_decide_eq_true e1
    refine A.skip (A.tn (A.seq (A.block (A.sr (A.gpk [.p, .ix] [10] [(11, c_ k), (12, (.pointer (some ((at0 al).add (k * 14)))))] [] (fun κ => κ.ix al l.length (k : Int) ∧ True) ⟨(ixOf encCl_len (by decide) (rd_old r0 (by simp [feet])) (by omega)), trivial⟩ ?_)))))
    obtain ⟨x1, hx1⟩ : ∃ x, (l)[k]? = some x := ⟨_, List.getElem?_eq_getElem (by omega)⟩
    refine A.goA1 [.rd (encCl x1), .al, .p, .st 0] [1, 7, 8, 9, 6, 5] (fun b2 => [(1, i_ a), (7, vS al l cl), (8, c_ l.length), (9, c_ k), (6, p_ b2), (5, c_ k)]) (fun b2 => [blk b2 (encCl x1) 98]) (fun b2 => [b2]) (fun _ => (fun κ => κ.rd ((at0 al).add (k * 14)) (encCl x1) ∧ True)) (fun _ => by kernel_rfl) (fun b2 => ⟨(reads_at0 (vs := (encCl x1)) encCl_len (rd_old r0 (by simp [feet])) hx1 (Nat.le_of_ble_eq_true rfl) rfl), trivial⟩) ?_
    intro b2
    refine tsr (A.gk [.p, .ld 0, .p, .p] [6] [(17, b_ (x1.hi == a))] [b2] T0 trivial ?_)
    refine A.tn (A.cn (x1.hi == a) (fun e2 => ?_) (fun e2 => ?_))
    · have p2 := e2; try simp only [nrm] at p2
      refine A.sr (A.g [.p, .p] [1, 7, 8, 9, 5, 17] [(4, c_ k)] ?_)
      refine A.tn (A.ret (A.br (A.tr (A.tr (A.br (A.tr (A.pQ [c_ k] ?_)))))))
      show ((c_ k) : Value) = (i_ (oI (fd a l)))
      refine congrArg (Value.int .i64) ?_; exact (fd_at (by assumption) (by simp_all) hn).symm
    have p2 := e2; try simp only [nrm] at p2
    refine A.skip (A.bn (tr (A.gk [.w ((k : Int) + 1), .p] [5, 17] [(9, i_ ((k : Int) + 1))] [] (fun κ => (IntKind.i64.wrap ((k : Int) + 1) = ((k : Int) + 1)) ∧ True) ⟨(wrap_i64 (e := (k : Int) + 1) (by constructor <;> omega)), trivial⟩ ?_)))
    refine A.tn (A.next (k + 1) ⟨(by omega), (by rw [take_snoc (by assumption)]; intro y hy; rcases List.mem_append.1 hy with hy | hy; exact hn y hy; (simp at hy; subst hy; simp_all))⟩ (by (simp; omega)) ?_)
    exact A.hK []
  have p1 := of_decide_eq_false e1
  refine A.exit (A.te (A.te (A.bh (tsr (A.g [.p] [1, 7, 8, 9, 10] [(4, i_ (-1))] ?_)))))
  refine A.tn (A.ret (A.pQ [i_ (-1)] ?_))
  show ((i_ (-1)) : Value) = (i_ (oI (fd a l)))
  refine congrArg (Value.int .i64) ?_; (rw [List.take_of_length_le (by omega)] at hn; exact (fd_none hn).symm)

theorem shR_spec (al : Option Addr) (l : List Cl) (cl : Nat) (a : Int) (hl : l.length ≤ 100000) (w : World) (r0 : arrAt w al (V.flat encCl l)) :
    Calls Try.prog 145 #[vS al l cl, i_ a] w fun e w' => e = .returned (b_ (shR l a)) ∧ Fr [] w w' := by
  refine calls_of (args := [vS al l cl, i_ a]) (penv [vS al l cl, i_ a]) [] [] Try.func145 rfl rfl (look_penv _) (HS.nil w) ?_
  refine A.sr (A.g [.p] [] [] ?_)
  refine tsr (A.gk [.p, .p, .cq (i_ (oI (fd a l))), .p] [] [(5, i_ (oI (fd a l)))] [] (fun κ => κ.call 68 [vS al l cl, i_ a] (i_ (oI (fd a l))) ∧ True) ⟨(fun ww ss => fd_spec al l cl a (by assumption) ww ((rd_old r0 (by simp [feet])) ww ss)), trivial⟩ ?_)
  refine A.tn (A.seq ?_)
  by_cases ho : fd a l = none
  · have hm := fd_no ho
    refine A.sv 5 (i_ (-1)) (cgI (by rw [ho]; rfl)) ?_
    refine A.region (A.gp [.p, .p, .p] [1] [(11, b_ (a == 0))] ?_)
    refine A.bool (a == 0) (fun e1 => ?_) (fun e1 => ?_)
    · refine A.sv 11 (b_ true) (cgB e1) ?_
      refine A.g [.sk, .sk, .sk, .sk, .sk, .sk, .sk, .sk, .sk, .sk, .sk, .p, .p] [0, 5, 11] [(4, b_ true)] ?_
      refine A.tn (A.ret (A.pQ [b_ true] ?_))
      show ((b_ true) : Value) = (b_ (shR l a))
      refine congrArg Value.bool ?_; unfold shR gcl; rw [hm]; (simp_all; done)
    refine A.sv 11 (b_ false) (cgB e1) ?_
    refine A.g [.p, .p, .p, .sk, .sk, .sk, .sk, .sk, .sk, .sk, .p, .p, .p] [0, 5, 11] [(4, b_ false)] ?_
    refine A.tn (A.ret (A.pQ [b_ false] ?_))
    show ((b_ false) : Value) = (b_ (shR l a))
    refine congrArg Value.bool ?_; unfold shR gcl; rw [hm]; (simp_all [cl0, ofR]; done)
  obtain ⟨i, hi⟩ := Option.ne_none_iff_exists'.1 ho; obtain ⟨x, hx, hm⟩ := fd_yes hi; have hlt := (List.getElem?_eq_some_iff.1 hx).1
  refine A.sv 5 (c_ i) (cgI (by rw [hi]; rfl)) ?_
  refine A.region (A.gk [.p, .p, .p, .o, .p, .p, .p, .o, .p, .p, .ix, .p, .rd [u_ x.la, u_ x.lb, u_ x.lc], .cq (i_ (ofR x.la x.lb x.lc)), .p, .cl, .cl, .p] [0, 1, 5] [(4, b_ ((a == 0) || ((decide ((i : Int) ≥ 0)) && (decide ((ofR x.la x.lb x.lc) > 1)))))] [] (fun κ => (((true && ((a == 0) == false)) && ((decide ((i : Int) ≥ 0)) == true)) = true → κ.ix al l.length (i : Int)) ∧ (((true && ((a == 0) == false)) && ((decide ((i : Int) ≥ 0)) == true)) = true → κ.rd (((at0 al).add (i * 14)).add 6) [u_ x.la, u_ x.lb, u_ x.lc]) ∧ (((true && ((a == 0) == false)) && ((decide ((i : Int) ≥ 0)) == true)) = true → κ.call 97 [(.agg #[u_ x.la, u_ x.lb, u_ x.lc])] (i_ (ofR x.la x.lb x.lc))) ∧ True) ⟨(fun h_ => (ixOf encCl_len (by decide) (rd_old r0 (by simp [feet])) (by omega))), (fun h_ => (reads_at2 (f := 6) (vs := [u_ x.la, u_ x.lb, u_ x.lc]) encCl_len (rd_old r0 (by simp [feet])) hx (by simp) rfl)), (fun h_ => (fun ww ss => rof_spec x.la x.lb x.lc ww)), trivial⟩ ?_)
  refine A.tn (A.ret (A.pQ [b_ ((a == 0) || ((decide ((i : Int) ≥ 0)) && (decide ((ofR x.la x.lb x.lc) > 1))))] ?_))
  show ((b_ ((a == 0) || ((decide ((i : Int) ≥ 0)) && (decide ((ofR x.la x.lb x.lc) > 1))))) : Value) = (b_ (shR l a))
  refine congrArg Value.bool ?_; unfold shR gcl; rw [hm]; rfl

theorem upR_spec (al : Option Addr) (l : List Cl) (cl : Nat) (a : Int) (hl : l.length ≤ 100000) (w : World) (r0 : arrAt w al (V.flat encCl l)) (hs : HS w (feet []) [] w) :
    Calls Try.prog 66 #[vS al l cl, i_ a] w fun e w' => ∃ zz, e = .returned ((fun (zz : (Option Addr) × Nat) => match zz with | (al', cl') => (vS al' (upL (kvl l) a (upD l a)) cl')) zz) ∧ (fun (zz : (Option Addr) × Nat) => match zz with | (al', cl') => True) zz ∧ Turn [] ((fun (zz : (Option Addr) × Nat) => match zz with | (al', cl') => [sI al' (upL (kvl l) a (upD l a)) cl']) zz) w w' := by
  refine calls_of (args := [vS al l cl, i_ a]) (penv [vS al l cl, i_ a]) (feet []) [] Try.func66 rfl rfl (look_penv _) hs ?_
  refine A.sr (A.g [.p] [] [] ?_)
  refine tsr (A.g [.p] [] [(5, e_)] ?_)
  refine tsr (A.g [.p, .p] [1] [(6, i_ a)] ?_)
  refine A.tn (A.seq (A.sr (A.g [.p] [] [(9, i_ 0)] ?_)))
  refine A.tn (A.block (A.ownNil 3 1 [sI none ([] : List Int) 0] rfl ?_))
  refine A.sv 6 (i_ (upA (kvl l) a 0)) (cgI (by rfl)) ?_
  refine A.setH [sI none (upL (kvl l) a 0) 0] (cc (slC (by rfl : ([] : List Int) = (upL (kvl l) a 0))) rfl) ?_
  refine A.sv 5 (vS none (upL (kvl l) a 0) 0) (congrArg (fun z_ : List Int => some (Value.slice none z_.length 0)) (by rfl : ([] : List Int) = (upL (kvl l) a 0))) ?_
  refine A.loop (fun (zz : Nat × (Option Addr) × Nat) => match zz with | (k, ao, co) => [(0, vS al l cl), (9, c_ k), (6, i_ (upA (kvl l) a k)), (5, vS ao (upL (kvl l) a k) co)]) (fun (zz : Nat × (Option Addr) × Nat) => match zz with | (k, ao, co) => [sI ao (upL (kvl l) a k) co]) (fun (zz : Nat × (Option Addr) × Nat) => match zz with | (k, ao, co) => (k ≤ upD l a)) (fun (zz : Nat × (Option Addr) × Nat) => match zz with | (k, ao, co) => 70 - k) (0, none, 0) (by omega) ?_ ?_
  · exact A.hK [0]
  rintro ⟨k, ao, co⟩ hk
  have hk : k ≤ upD l a := hk
  have hul := upL_len (kvl l) a k; have hk7 := depN_le (kvl l) 70 a; have hk8 : k ≤ 70 := (by unfold upD at hk; omega)
  refine A.sr (A.g [.p] [] [(10, b_ (decide ((k : Int) < 70)))] ?_)
  refine A.tn (A.seq (A.cn (decide ((k : Int) < 70)) (fun e1 => ?_) (fun e1 => ?_)))
  · have p1 := of_decide_eq_true e1
    refine A.skip (A.tn (A.seq (A.block (A.sr (A.gk [.p, .p, .cq (i_ (oI (fd (upA (kvl l) a k) l))), .p] [10] [(7, i_ (oI (fd (upA (kvl l) a k) l)))] [] (fun κ => κ.call 68 [vS al l cl, i_ (upA (kvl l) a k)] (i_ (oI (fd (upA (kvl l) a k) l))) ∧ True) ⟨(fun ww ss => fd_spec al l cl (upA (kvl l) a k) (by assumption) ww ((rd_old r0 (by simp [feet])) ww ss)), trivial⟩ ?_)))))
    refine A.tn (A.seq (A.seq ?_))
    by_cases ho : fd (upA (kvl l) a k) l = none
    · have hm := fd_no ho
      refine A.sv 7 (i_ (-1)) (cgI (by rw [ho]; rfl)) ?_
      refine A.region (A.g [.p, .p] [] [(15, b_ true)] ?_)
      refine A.tn (A.ct (A.exit (A.te (A.bm rfl ?_))))
      refine A.te (A.te (A.bh (tsr (A.g [.p, .p] [0, 9, 6, 5, 7, 15] [(4, vS ao (upL (kvl l) a k) co)] ?_))))
      refine A.tn (A.ret (A.setH [sI ao (upL (kvl l) a (upD l a)) co] (cc (slC (by rw [upD_none hk hm] : (upL (kvl l) a k) = (upL (kvl l) a (upD l a)))) rfl) ?_))
      refine A.pK [0] [vS ao (upL (kvl l) a k) co] (ao, co) ?_ ?_
      · show ((vS ao (upL (kvl l) a k) co) : Value) = (vS ao (upL (kvl l) a (upD l a)) co)
        rw [upD_none hk hm]
      trivial
    obtain ⟨i, hi⟩ := Option.ne_none_iff_exists'.1 ho; obtain ⟨x, hx, hm⟩ := fd_yes hi; have hlt := (List.getElem?_eq_some_iff.1 hx).1
    refine A.sv 7 (c_ i) (cgI (by rw [hi]; rfl)) ?_
    refine A.region (A.g [.p, .p] [] [(15, b_ (decide ((i : Int) < 0)))] ?_)
    refine A.tn (A.cn (decide ((i : Int) < 0)) (fun e2 => ?_) (fun e2 => ?_))
    · exact absurd e2 (by simp)
    have p2 := of_decide_eq_false e2
    refine A.skip (tsr (A.gp [.p, .p] [6, 15] [(16, vS ao (upL (kvl l) a k) co), (17, i_ (upA (kvl l) a k))] ?_))
    refine A.cons (A.buildSlice 18 (e := 3) [i_ (upA (kvl l) a k)] (by kernel_rfl) rfl (fun _ => by kernel_rfl) (fun b2 => [sI ao (upL (kvl l) a k) co, blk b2 [i_ (upA (kvl l) a k)] 3]) (fun _ => rfl) ?_)
    intro b2
    refine A.cons (A.appendC (enc := encI) (xs := (upL (kvl l) a k)) ([upA (kvl l) a k]) 0 19 (e := 3) (z := (i_ 0)) (sz := 1) (by_ := 8) (by kernel_rfl) rfl rfl rfl (by kernel_rfl) (by kernel_rfl) (by rfl) (by decide) encI_len encI_one rfl (rd_blk (i := 1) rfl) (by simp; omega) (fun A3 c3 => [sI A3 ((upL (kvl l) a k) ++ ([upA (kvl l) a k])) c3, blk b2 [i_ (upA (kvl l) a k)] 3]) (fun _ _ => rfl) ?_)
    intro A3 c3
    refine A.goA [.p] [(0, vS al l cl), (9, c_ k), (5, vS A3 ((upL (kvl l) a k) ++ ([upA (kvl l) a k])) c3), (7, c_ i)] [] T0 (by kernel_rfl) trivial ?_
    refine tr (A.gk [.p, .p, .ix, .p, .rd [i_ x.hp], .p] [7] [(6, i_ x.hp)] [] (fun κ => κ.ix al l.length (i : Int) ∧ κ.rd (((at0 al).add (i * 14)).add 1) [i_ x.hp] ∧ True) ⟨(ixOf encCl_len (by decide) (rd_old r0 (by simp [feet])) (by omega)), reads_at2 (f := 1) (vs := [i_ x.hp]) encCl_len (rd_old r0 (by simp [feet])) hx (by simp) rfl, trivial⟩ ?_)
    refine A.bn (tr (A.gk [.w ((k : Int) + 1), .p] [] [(9, i_ ((k : Int) + 1))] [] (fun κ => (IntKind.i64.wrap ((k : Int) + 1) = ((k : Int) + 1)) ∧ True) ⟨(wrap_i64 (e := (k : Int) + 1) (by constructor <;> omega)), trivial⟩ ?_))
    refine A.tn (A.sv 6 (i_ (upA (kvl l) a (k + 1))) (cgI (by (show x.hp = (gcl (kvl l) (upA (kvl l) a k)).hp; unfold gcl; rw [hm]; rfl))) ?_)
    refine A.setH [sI A3 (upL (kvl l) a (k + 1)) c3, blk b2 [i_ (upA (kvl l) a k)] 3] (cc (slC (by exact upL_snoc _ _ _ : (upL (kvl l) a k) ++ ([upA (kvl l) a k]) = (upL (kvl l) a (k + 1)))) rfl) ?_
    refine A.sv 5 (vS A3 (upL (kvl l) a (k + 1)) c3) (cgL (by exact upL_snoc _ _ _)) ?_
    refine A.next (k + 1, A3, c3) (by exact upD_some hk (by assumption) hm) (by (simp; omega)) ?_
    exact A.hK [0]
  have p1 := of_decide_eq_false e1
  refine A.exit (A.te (A.te (A.bh (tsr (A.g [.p, .p] [0, 9, 6, 5, 10] [(4, vS ao (upL (kvl l) a k) co)] ?_)))))
  refine A.tn (A.ret (A.setH [sI ao (upL (kvl l) a (upD l a)) co] (cc (slC (by rw [upD_all hk (by assumption)] : (upL (kvl l) a k) = (upL (kvl l) a (upD l a)))) rfl) ?_))
  refine A.pK [0] [vS ao (upL (kvl l) a k) co] (ao, co) ?_ ?_
  · show ((vS ao (upL (kvl l) a k) co) : Value) = (vS ao (upL (kvl l) a (upD l a)) co)
    rw [upD_all hk (by assumption)]
  trivial

theorem put_spec (al : Option Addr) (l : List Cl) (cl : Nat) (x : Cl) (hl : l.length ≤ 100000) (w : World) (r0 : arrAt w al (V.flat encCl l)) (hs : HS w (feet []) [] w) :
    Calls Try.prog 146 #[vS al l cl, (.agg (encCl x).toArray)] w fun e w' => ∃ zz, e = .returned ((fun (zz : (Option Addr) × Nat) => match zz with | (al', cl') => (vS al' (setL x l) cl')) zz) ∧ (fun (zz : (Option Addr) × Nat) => match zz with | (al', cl') => True) zz ∧ Turn [] ((fun (zz : (Option Addr) × Nat) => match zz with | (al', cl') => [sCl al' (setL x l) cl']) zz) w w' := by
  refine calls_of (args := [vS al l cl, (.agg (encCl x).toArray)]) (penv [vS al l cl, (.agg (encCl x).toArray)]) (feet []) [] Try.func146 rfl rfl (look_penv _) hs ?_
  refine A.sr (A.n1 [.al, .p] [1] (fun b1 => [(3, p_ b1)]) (fun b1 => blk b1 (encCl x) 98) ?_)
  intro b1
  refine tsr (A.g [.p] [] [(5, e_)] ?_)
  refine tsr (A.g [.p] [] [(6, b_ false)] ?_)
  refine A.tn (A.seq (A.sr (A.g [.p, .p, .p] [0] [(9, vS al l cl), (10, c_ l.length), (11, i_ 0)] ?_)))
  refine A.tn (A.block (A.ownNil 98 14 [blk b1 (encCl x) 98, sCl none ([] : List Cl) 0] rfl ?_))
  refine A.sv 6 (b_ ((sfo x l 0).2)) (cgB (by rfl)) ?_
  refine A.setH [blk b1 (encCl x) 98, sCl none ((sfo x l 0).1) 0] (cc rfl (cc (slC (by rfl : ([] : List Cl) = (sfo x l 0).1)) rfl)) ?_
  refine A.sv 5 (vS none ((sfo x l 0).1) 0) (congrArg (fun z_ : List Cl => some (Value.slice none z_.length 0)) (by rfl : ([] : List Cl) = (sfo x l 0).1)) ?_
  refine A.loop (fun (zz : Nat × (Option Addr) × Nat) => match zz with | (k, ao, co) => [(3, p_ b1), (9, vS al l cl), (10, c_ l.length), (11, c_ k), (5, vS ao ((sfo x l k).1) co), (6, b_ ((sfo x l k).2))]) (fun (zz : Nat × (Option Addr) × Nat) => match zz with | (k, ao, co) => [sCl ao ((sfo x l k).1) co, blk b1 (encCl x) 98]) (fun (zz : Nat × (Option Addr) × Nat) => match zz with | (k, ao, co) => (k ≤ l.length)) (fun (zz : Nat × (Option Addr) × Nat) => match zz with | (k, ao, co) => l.length - k) (0, none, 0) (by omega) ?_ ?_
  · exact A.hK [1, 0]
  rintro ⟨k, ao, co⟩ hk
  have hk : k ≤ l.length := hk
  have hsl := sfo_len1 x l k
  refine A.sr (A.g [.p] [] [(12, b_ (decide ((k : Int) < (l.length : Int))))] ?_)
  refine A.tn (A.seq (A.cn (decide ((k : Int) < (l.length : Int))) (fun e1 => ?_) (fun e1 => ?_)))
  · have p1 := of_decide_eq_true e1
    refine A.skip (A.tn (A.seq (A.block (A.sr (A.gpk [.ix] [12] [(13, (.pointer (some ((at0 al).add (k * 14)))))] [] (fun κ => κ.ix al l.length (k : Int) ∧ True) ⟨(ixOf encCl_len (by decide) (rd_old r0 (by simp [feet])) (by omega)), trivial⟩ ?_)))))
    obtain ⟨x3, hx3⟩ : ∃ x, (l)[k]? = some x := ⟨_, List.getElem?_eq_getElem (by omega)⟩
    refine A.goA1 [.rd (encCl x3), .al, .st 2] [3, 9, 10, 11, 5, 6, 8] (fun b4 => [(3, p_ b1), (9, vS al l cl), (10, c_ l.length), (11, c_ k), (5, vS ao ((sfo x l k).1) co), (6, b_ ((sfo x l k).2)), (8, p_ b4)]) (fun b4 => [sCl ao ((sfo x l k).1) co, blk b1 (encCl x) 98, blk b4 (encCl x3) 98]) (fun b4 => [b4]) (fun _ => (fun κ => κ.rd ((at0 al).add (k * 14)) (encCl x3) ∧ True)) (fun _ => by kernel_rfl) (fun b4 => ⟨(reads_at0 (vs := (encCl x3)) encCl_len (rd_old r0 (by simp [feet])) hx3 (Nat.le_of_ble_eq_true rfl) rfl), trivial⟩) ?_
    intro b4
    refine A.tn (A.seq (A.sr (A.gk [.p, .p, .p, .o, .p, .ld 2, .p, .ld 1, .p, .cl] [] [(23, b_ ((!((sfo x l k).2)) && (decide (x3.hi ≥ x.hi))))] [b4, b1] T0 trivial ?_)))
    refine A.tn (A.cn ((!((sfo x l k).2)) && (decide (x3.hi ≥ x.hi))) (fun e2 => ?_) (fun e2 => ?_))
    · have p2 := e2; try simp only [nrm] at p2
      refine A.sr (A.gpk [.p, .ld 1] [6, 23] [(24, vS ao ((sfo x l k).1) co), (25, (.agg (encCl x).toArray))] [b1] T0 trivial ?_)
      refine A.cons (A.buildSlice 26 (e := 98) (encCl x) (by kernel_rfl) rfl (fun _ => by kernel_rfl) (fun b5 => [sCl ao ((sfo x l k).1) co, blk b1 (encCl x) 98, blk b4 (encCl x3) 98, blk b5 (encCl x) 98]) (fun _ => rfl) ?_)
      intro b5
      refine A.cons (A.appendC (enc := encCl) (xs := (sfo x l k).1) ([x]) 0 27 (e := 98) (z := (.agg #[i_ 0, i_ 0, b_ false, u_ 0, u_ 0, u_ 0, u_ 0, u_ 0, u_ 0, u_ 0, u_ 0, u_ 0, i_ 0, i_ 0])) (sz := 14) (by_ := 112) (by kernel_rfl) rfl rfl rfl (by kernel_rfl) (by kernel_rfl) (by rfl) (by decide) encCl_len encCl_one rfl (rd_blk (i := 3) rfl) (by simp; omega) (fun A6 c6 => [sCl A6 (((sfo x l k).1) ++ ([x])) c6, blk b1 (encCl x) 98, blk b4 (encCl x3) 98, blk b5 (encCl x) 98]) (fun _ _ => rfl) ?_)
      intro A6 c6
      refine A.goA [.p] [(3, p_ b1), (9, vS al l cl), (10, c_ l.length), (11, c_ k), (5, vS A6 (((sfo x l k).1) ++ ([x])) c6), (8, p_ b4)] [] T0 (by kernel_rfl) trivial ?_
      refine tr (A.g [.p] [] [(6, b_ true)] ?_)
      refine tsr (A.gk [.p, .ld 2, .p, .ld 1, .p] [] [(32, b_ (x3.hi != x.hi))] [b4, b1] T0 trivial ?_)
      refine A.tn (A.cn (x3.hi != x.hi) (fun e3 => ?_) (fun e3 => ?_))
      · have p3 := e3; try simp only [nrm] at p3
        refine A.region (A.gpk [.p, .ld 2] [8, 32] [(33, vS A6 (((sfo x l k).1) ++ ([x])) c6), (34, (.agg (encCl x3).toArray))] [b4] T0 trivial ?_)
        refine A.cons (A.buildSlice 35 (e := 98) (encCl x3) (by kernel_rfl) rfl (fun _ => by kernel_rfl) (fun b7 => [sCl A6 (((sfo x l k).1) ++ ([x])) c6, blk b1 (encCl x) 98, blk b4 (encCl x3) 98, blk b5 (encCl x) 98, blk b7 (encCl x3) 98]) (fun _ => rfl) ?_)
        intro b7
        refine A.cons (A.appendC (enc := encCl) (xs := ((sfo x l k).1) ++ ([x])) ([x3]) 0 36 (e := 98) (z := (.agg #[i_ 0, i_ 0, b_ false, u_ 0, u_ 0, u_ 0, u_ 0, u_ 0, u_ 0, u_ 0, u_ 0, u_ 0, i_ 0, i_ 0])) (sz := 14) (by_ := 112) (by kernel_rfl) rfl rfl rfl (by kernel_rfl) (by kernel_rfl) (by rfl) (by decide) encCl_len encCl_one rfl (rd_blk (i := 4) rfl) (by simp; omega) (fun A8 c8 => [sCl A8 ((((sfo x l k).1) ++ ([x])) ++ ([x3])) c8, blk b1 (encCl x) 98, blk b4 (encCl x3) 98, blk b5 (encCl x) 98, blk b7 (encCl x3) 98]) (fun _ _ => rfl) ?_)
        intro A8 c8
        refine A.goA [.p] [(3, p_ b1), (9, vS al l cl), (10, c_ l.length), (11, c_ k), (5, vS A8 ((((sfo x l k).1) ++ ([x])) ++ ([x3])) c8), (6, b_ true)] [] T0 (by kernel_rfl) trivial ?_
        refine A.bn (tr (A.gk [.w ((k : Int) + 1), .p] [] [(11, i_ ((k : Int) + 1))] [] (fun κ => (IntKind.i64.wrap ((k : Int) + 1) = ((k : Int) + 1)) ∧ True) ⟨(wrap_i64 (e := (k : Int) + 1) (by constructor <;> omega)), trivial⟩ ?_))
        refine A.tn (A.sv 6 (b_ ((sfo x l (k + 1)).2)) (cgB (by (rw [sfo_succ (by assumption)]; simp_all; done))) ?_)
        refine A.setH [sCl A8 ((sfo x l (k + 1)).1) c8, blk b1 (encCl x) 98, blk b4 (encCl x3) 98, blk b5 (encCl x) 98, blk b7 (encCl x3) 98] (cc (slC (by (rw [sfo_succ (by assumption)]; simp_all; done) : (((sfo x l k).1) ++ ([x])) ++ ([x3]) = (sfo x l (k + 1)).1)) rfl) ?_
        refine A.sv 5 (vS A8 ((sfo x l (k + 1)).1) c8) (cgL (by (rw [sfo_succ (by assumption)]; simp_all; done))) ?_
        refine A.next (k + 1, A8, c8) (by omega) (by (simp; omega)) ?_
        exact A.hK [0, 0]
      have p3 := e3; try simp only [nrm] at p3
      refine A.skip (A.bn (tr (A.gk [.w ((k : Int) + 1), .p] [8, 32] [(11, i_ ((k : Int) + 1))] [] (fun κ => (IntKind.i64.wrap ((k : Int) + 1) = ((k : Int) + 1)) ∧ True) ⟨(wrap_i64 (e := (k : Int) + 1) (by constructor <;> omega)), trivial⟩ ?_)))
      refine A.tn (A.sv 6 (b_ ((sfo x l (k + 1)).2)) (cgB (by (rw [sfo_succ (by assumption)]; simp_all; done))) ?_)
      refine A.setH [sCl A6 ((sfo x l (k + 1)).1) c6, blk b1 (encCl x) 98, blk b4 (encCl x3) 98, blk b5 (encCl x) 98] (cc (slC (by (rw [sfo_succ (by assumption)]; simp_all; done) : ((sfo x l k).1) ++ ([x]) = (sfo x l (k + 1)).1)) rfl) ?_
      refine A.sv 5 (vS A6 ((sfo x l (k + 1)).1) c6) (cgL (by (rw [sfo_succ (by assumption)]; simp_all; done))) ?_
      refine A.next (k + 1, A6, c6) (by omega) (by (simp; omega)) ?_
      exact A.hK [0, 0]
    have p2 := e2; try simp only [nrm] at p2
    refine A.skip (tsr (A.gk [.p, .ld 2, .p, .ld 1, .p] [23] [(32, b_ (x3.hi != x.hi))] [b4, b1] T0 trivial ?_))
    refine A.tn (A.cn (x3.hi != x.hi) (fun e4 => ?_) (fun e4 => ?_))
    · have p4 := e4; try simp only [nrm] at p4
      refine A.region (A.gpk [.p, .ld 2] [8, 32] [(33, vS ao ((sfo x l k).1) co), (34, (.agg (encCl x3).toArray))] [b4] T0 trivial ?_)
      refine A.cons (A.buildSlice 35 (e := 98) (encCl x3) (by kernel_rfl) rfl (fun _ => by kernel_rfl) (fun b9 => [sCl ao ((sfo x l k).1) co, blk b1 (encCl x) 98, blk b4 (encCl x3) 98, blk b9 (encCl x3) 98]) (fun _ => rfl) ?_)
      intro b9
      refine A.cons (A.appendC (enc := encCl) (xs := (sfo x l k).1) ([x3]) 0 36 (e := 98) (z := (.agg #[i_ 0, i_ 0, b_ false, u_ 0, u_ 0, u_ 0, u_ 0, u_ 0, u_ 0, u_ 0, u_ 0, u_ 0, i_ 0, i_ 0])) (sz := 14) (by_ := 112) (by kernel_rfl) rfl rfl rfl (by kernel_rfl) (by kernel_rfl) (by rfl) (by decide) encCl_len encCl_one rfl (rd_blk (i := 3) rfl) (by simp; omega) (fun A10 c10 => [sCl A10 (((sfo x l k).1) ++ ([x3])) c10, blk b1 (encCl x) 98, blk b4 (encCl x3) 98, blk b9 (encCl x3) 98]) (fun _ _ => rfl) ?_)
      intro A10 c10
      refine A.goA [.p] [(3, p_ b1), (9, vS al l cl), (10, c_ l.length), (11, c_ k), (5, vS A10 (((sfo x l k).1) ++ ([x3])) c10), (6, b_ ((sfo x l k).2))] [] T0 (by kernel_rfl) trivial ?_
      refine A.bn (tr (A.gk [.w ((k : Int) + 1), .p] [] [(11, i_ ((k : Int) + 1))] [] (fun κ => (IntKind.i64.wrap ((k : Int) + 1) = ((k : Int) + 1)) ∧ True) ⟨(wrap_i64 (e := (k : Int) + 1) (by constructor <;> omega)), trivial⟩ ?_))
      refine A.tn (A.sv 6 (b_ ((sfo x l (k + 1)).2)) (cgB (by (rw [sfo_succ (by assumption)]; simp_all; done))) ?_)
      refine A.setH [sCl A10 ((sfo x l (k + 1)).1) c10, blk b1 (encCl x) 98, blk b4 (encCl x3) 98, blk b9 (encCl x3) 98] (cc (slC (by (rw [sfo_succ (by assumption)]; simp_all; done) : ((sfo x l k).1) ++ ([x3]) = (sfo x l (k + 1)).1)) rfl) ?_
      refine A.sv 5 (vS A10 ((sfo x l (k + 1)).1) c10) (cgL (by (rw [sfo_succ (by assumption)]; simp_all; done))) ?_
      refine A.next (k + 1, A10, c10) (by omega) (by (simp; omega)) ?_
      exact A.hK [0, 0]
    have p4 := e4; try simp only [nrm] at p4
    refine A.skip (A.bn (tr (A.gk [.w ((k : Int) + 1), .p] [8, 32] [(11, i_ ((k : Int) + 1))] [] (fun κ => (IntKind.i64.wrap ((k : Int) + 1) = ((k : Int) + 1)) ∧ True) ⟨(wrap_i64 (e := (k : Int) + 1) (by constructor <;> omega)), trivial⟩ ?_)))
    refine A.tn (A.sv 6 (b_ ((sfo x l (k + 1)).2)) (cgB (by (rw [sfo_succ (by assumption)]; simp_all; done))) ?_)
    refine A.setH [sCl ao ((sfo x l (k + 1)).1) co, blk b1 (encCl x) 98, blk b4 (encCl x3) 98] (cc (slC (by (rw [sfo_succ (by assumption)]; simp_all; done) : (sfo x l k).1 = (sfo x l (k + 1)).1)) rfl) ?_
    refine A.sv 5 (vS ao ((sfo x l (k + 1)).1) co) (cgL (by (rw [sfo_succ (by assumption)]; simp_all; done))) ?_
    refine A.next (k + 1, ao, co) (by omega) (by (simp; omega)) ?_
    exact A.hK [0, 0]
  have p1 := of_decide_eq_false e1
  refine A.exit (A.te (A.te (A.bh (A.tn (A.seq (A.sr (A.g [.p, .p] [9, 10, 11, 6, 12] [(39, b_ (!((sfo x l k).2)))] ?_)))))))
  refine A.tn (A.cn (!((sfo x l k).2)) (fun e5 => ?_) (fun e5 => ?_))
  · have p5 := e5; try simp only [nrm] at p5
    refine A.region (A.gpk [.p, .ld 1] [3, 39] [(40, vS ao ((sfo x l k).1) co), (41, (.agg (encCl x).toArray))] [b1] T0 trivial ?_)
    refine A.cons (A.buildSlice 42 (e := 98) (encCl x) (by kernel_rfl) rfl (fun _ => by kernel_rfl) (fun b11 => [sCl ao ((sfo x l k).1) co, blk b1 (encCl x) 98, blk b11 (encCl x) 98]) (fun _ => rfl) ?_)
    intro b11
    refine A.cons (A.appendC (enc := encCl) (xs := (sfo x l k).1) ([x]) 0 43 (e := 98) (z := (.agg #[i_ 0, i_ 0, b_ false, u_ 0, u_ 0, u_ 0, u_ 0, u_ 0, u_ 0, u_ 0, u_ 0, u_ 0, i_ 0, i_ 0])) (sz := 14) (by_ := 112) (by kernel_rfl) rfl rfl rfl (by kernel_rfl) (by kernel_rfl) (by rfl) (by decide) encCl_len encCl_one rfl (rd_blk (i := 2) rfl) (by simp; omega) (fun A12 c12 => [sCl A12 (((sfo x l k).1) ++ ([x])) c12, blk b1 (encCl x) 98, blk b11 (encCl x) 98]) (fun _ _ => rfl) ?_)
    intro A12 c12
    refine A.goA [.p] [(5, vS A12 (((sfo x l k).1) ++ ([x])) c12)] [] T0 (by kernel_rfl) trivial ?_
    refine tsr (A.g [.p, .p] [5] [(4, vS A12 (((sfo x l k).1) ++ ([x])) c12)] ?_)
    refine A.tn (A.ret (A.setH [sCl A12 (setL x l) c12, blk b1 (encCl x) 98, blk b11 (encCl x) 98] (cc (slC (by ((have hk2 : k = l.length := by omega); subst hk2; unfold setL; simp_all; done) : ((sfo x l k).1) ++ ([x]) = (setL x l))) rfl) ?_))
    refine A.pK [0] [vS A12 (((sfo x l k).1) ++ ([x])) c12] (A12, c12) ?_ ?_
    · show ((vS A12 (((sfo x l k).1) ++ ([x])) c12) : Value) = (vS A12 (setL x l) c12)
      (have hk2 : k = l.length := by omega); subst hk2; unfold setL; simp_all
    trivial
  have p5 := e5; try simp only [nrm] at p5
  refine A.skip (tsr (A.g [.p, .p] [3, 5, 39] [(4, vS ao ((sfo x l k).1) co)] ?_))
  refine A.tn (A.ret (A.setH [sCl ao (setL x l) co, blk b1 (encCl x) 98] (cc (slC (by ((have hk2 : k = l.length := by omega); subst hk2; unfold setL; simp_all; done) : (sfo x l k).1 = (setL x l))) rfl) ?_))
  refine A.pK [0] [vS ao ((sfo x l k).1) co] (ao, co) ?_ ?_
  · show ((vS ao ((sfo x l k).1) co) : Value) = (vS ao (setL x l) co)
    (have hk2 : k = l.length := by omega); subst hk2; unfold setL; simp_all
  trivial

theorem chR_spec (al : Option Addr) (l : List Cl) (cl : Nat) (a : Int) (hl : l.length ≤ 100000) (w : World) (r0 : arrAt w al (V.flat encCl l)) (hs : HS w (feet []) [] w) :
    Calls Try.prog 147 #[vS al l cl, i_ a] w fun e w' => ∃ zz, e = .returned ((fun (zz : (Option Addr) × Nat) => match zz with | (al', cl') => (vS al' (chR l a) cl')) zz) ∧ (fun (zz : (Option Addr) × Nat) => match zz with | (al', cl') => True) zz ∧ Turn [] ((fun (zz : (Option Addr) × Nat) => match zz with | (al', cl') => [sI al' (chR l a) cl']) zz) w w' := by
  refine calls_of (args := [vS al l cl, i_ a]) (penv [vS al l cl, i_ a]) (feet []) [] Try.func147 rfl rfl (look_penv _) hs ?_
  refine A.sr (A.g [.p] [] [] ?_)
  refine tsr (A.g [.p] [] [(5, e_)] ?_)
  refine A.tn (A.seq (A.sr (A.g [.p, .p, .p] [0] [(8, vS al l cl), (9, c_ l.length), (10, i_ 0)] ?_)))
  refine A.tn (A.block (A.ownNil 3 1 [sI none ([] : List Int) 0] rfl ?_))
  refine A.setH [sI none (chR (l.take 0) a) 0] (cc (slC (by (simp [chR]; done) : ([] : List Int) = (chR (l.take 0) a))) rfl) ?_
  refine A.sv 5 (vS none (chR (l.take 0) a) 0) (congrArg (fun z_ : List Int => some (Value.slice none z_.length 0)) (by (simp [chR]; done) : ([] : List Int) = (chR (l.take 0) a))) ?_
  refine A.loop (fun (zz : Nat × (Option Addr) × Nat) => match zz with | (k, ao, co) => [(1, i_ a), (8, vS al l cl), (9, c_ l.length), (10, c_ k), (5, vS ao (chR (l.take k) a) co)]) (fun (zz : Nat × (Option Addr) × Nat) => match zz with | (k, ao, co) => [sI ao (chR (l.take k) a) co]) (fun (zz : Nat × (Option Addr) × Nat) => match zz with | (k, ao, co) => (k ≤ l.length)) (fun (zz : Nat × (Option Addr) × Nat) => match zz with | (k, ao, co) => l.length - k) (0, none, 0) (by omega) ?_ ?_
  · exact A.hK [0]
  rintro ⟨k, ao, co⟩ hk
  have hk : k ≤ l.length := hk
  have hcl : (chR (l.take k) a).length ≤ k := Nat.le_trans (chR_len _ _) (by simp; omega)
  refine A.sr (A.g [.p] [] [(11, b_ (decide ((k : Int) < (l.length : Int))))] ?_)
  refine A.tn (A.seq (A.cn (decide ((k : Int) < (l.length : Int))) (fun e1 => ?_) (fun e1 => ?_)))
  · have p1 := of_decide_eq_true e1
    refine A.skip (A.tn (A.seq (A.block (A.sr (A.gpk [.ix] [11] [(12, (.pointer (some ((at0 al).add (k * 14)))))] [] (fun κ => κ.ix al l.length (k : Int) ∧ True) ⟨(ixOf encCl_len (by decide) (rd_old r0 (by simp [feet])) (by omega)), trivial⟩ ?_)))))
    obtain ⟨x2, hx2⟩ : ∃ x, (l)[k]? = some x := ⟨_, List.getElem?_eq_getElem (by omega)⟩
    refine A.goA1 [.rd (encCl x2), .al, .st 1] [1, 8, 9, 10, 5, 7] (fun b3 => [(1, i_ a), (8, vS al l cl), (9, c_ l.length), (10, c_ k), (5, vS ao (chR (l.take k) a) co), (7, p_ b3)]) (fun b3 => [sI ao (chR (l.take k) a) co, blk b3 (encCl x2) 98]) (fun b3 => [b3]) (fun _ => (fun κ => κ.rd ((at0 al).add (k * 14)) (encCl x2) ∧ True)) (fun _ => by kernel_rfl) (fun b3 => ⟨(reads_at0 (vs := (encCl x2)) encCl_len (rd_old r0 (by simp [feet])) hx2 (Nat.le_of_ble_eq_true rfl) rfl), trivial⟩) ?_
    intro b3
    refine tsr (A.gk [.p, .ld 1, .p, .p] [] [(17, b_ (x2.hp == a))] [b3] T0 trivial ?_)
    refine A.tn (A.cn (x2.hp == a) (fun e2 => ?_) (fun e2 => ?_))
    · have p2 := e2; try simp only [nrm] at p2
      refine A.region (A.gpk [.p, .p, .ld 1] [7, 17] [(18, vS ao (chR (l.take k) a) co), (20, i_ x2.hi)] [b3] T0 trivial ?_)
      refine A.cons (A.buildSlice 21 (e := 3) [i_ x2.hi] (by kernel_rfl) rfl (fun _ => by kernel_rfl) (fun b4 => [sI ao (chR (l.take k) a) co, blk b3 (encCl x2) 98, blk b4 [i_ x2.hi] 3]) (fun _ => rfl) ?_)
      intro b4
      refine A.cons (A.appendC (enc := encI) (xs := (chR (l.take k) a)) ([x2.hi]) 0 22 (e := 3) (z := (i_ 0)) (sz := 1) (by_ := 8) (by kernel_rfl) rfl rfl rfl (by kernel_rfl) (by kernel_rfl) (by rfl) (by decide) encI_len encI_one rfl (rd_blk (i := 2) rfl) (by simp; omega) (fun A5 c5 => [sI A5 ((chR (l.take k) a) ++ ([x2.hi])) c5, blk b3 (encCl x2) 98, blk b4 [i_ x2.hi] 3]) (fun _ _ => rfl) ?_)
      intro A5 c5
      refine A.goA [.p] [(1, i_ a), (8, vS al l cl), (9, c_ l.length), (10, c_ k), (5, vS A5 ((chR (l.take k) a) ++ ([x2.hi])) c5)] [] T0 (by kernel_rfl) trivial ?_
      refine A.bn (tr (A.gk [.w ((k : Int) + 1), .p] [] [(10, i_ ((k : Int) + 1))] [] (fun κ => (IntKind.i64.wrap ((k : Int) + 1) = ((k : Int) + 1)) ∧ True) ⟨(wrap_i64 (e := (k : Int) + 1) (by constructor <;> omega)), trivial⟩ ?_))
      refine A.tn (A.setH [sI A5 (chR (l.take (k + 1)) a) c5, blk b3 (encCl x2) 98, blk b4 [i_ x2.hi] 3] (cc (slC (by (rw [take_snoc (by assumption), chR_snoc]; simp_all; done) : (chR (l.take k) a) ++ ([x2.hi]) = (chR (l.take (k + 1)) a))) rfl) ?_)
      refine A.sv 5 (vS A5 (chR (l.take (k + 1)) a) c5) (cgL (by (rw [take_snoc (by assumption), chR_snoc]; simp_all; done))) ?_
      refine A.next (k + 1, A5, c5) (by omega) (by (simp; omega)) ?_
      exact A.hK [0]
    have p2 := e2; try simp only [nrm] at p2
    refine A.skip (A.bn (tr (A.gk [.w ((k : Int) + 1), .p] [7, 17] [(10, i_ ((k : Int) + 1))] [] (fun κ => (IntKind.i64.wrap ((k : Int) + 1) = ((k : Int) + 1)) ∧ True) ⟨(wrap_i64 (e := (k : Int) + 1) (by constructor <;> omega)), trivial⟩ ?_)))
    refine A.tn (A.setH [sI ao (chR (l.take (k + 1)) a) co, blk b3 (encCl x2) 98] (cc (slC (by (rw [take_snoc (by assumption), chR_snoc]; simp_all; done) : (chR (l.take k) a) = (chR (l.take (k + 1)) a))) rfl) ?_)
    refine A.sv 5 (vS ao (chR (l.take (k + 1)) a) co) (cgL (by (rw [take_snoc (by assumption), chR_snoc]; simp_all; done))) ?_
    refine A.next (k + 1, ao, co) (by omega) (by (simp; omega)) ?_
    exact A.hK [0]
  have p1 := of_decide_eq_false e1
  refine A.exit (A.te (A.te (A.bh (tsr (A.g [.p, .p] [1, 8, 9, 10, 5, 11] [(4, vS ao (chR (l.take k) a) co)] ?_)))))
  refine A.tn (A.ret (A.setH [sI ao (chR l a) co] (cc (slC (by (rw [List.take_of_length_le (by omega)]) : (chR (l.take k) a) = (chR l a))) rfl) ?_))
  refine A.pK [0] [vS ao (chR (l.take k) a) co] (ao, co) ?_ ?_
  · show ((vS ao (chR (l.take k) a) co) : Value) = (vS ao (chR l a) co)
    rw [List.take_of_length_le (by omega)]
  trivial
end Go.Proofs.Ytinnnoimmioaiaa
