/- What the functions of this layer do, proved operation by operation, for all arguments, under the conditions that each theorem states. -/
import Derived.Test.YtinnnoimmioaiaaProg
import Derived.Test.YtinnnoimmioaiaaHierC
import Derived.Test.YtinnnoimmioaiaaL2
namespace Go.Proofs.Ytinnnoimmioaiaa
open Go V
set_option linter.unusedVariables false
set_option linter.unusedSimpArgs false
/-! the document's answer -/
def lfR (l : List Cl) (a : Int) : Bool := (gcl (kvl l) a).hl && decide ((ofR (gcl (kvl l) a).la (gcl (kvl l) a).lb (gcl (kvl l) a).lc) > 1)
def hasL (l : List Int) (a : Int) : Bool := l.any fun n => n == a
def isR (l : List Cl) (ol : List Int) (a : Int) : Bool := ol.any fun n => a == 0 || hasL (upL (kvl l) n (upD l n)) a
def putK (ol : List Int) (a : Int) (k : Nat) : Bool := (ol.take k).any fun n => decide (n > a)
def withK (ol : List Int) (a : Int) (k : Nat) : List Int := (ol.take k).filter (fun n => decide (n ≤ a)) ++ (if putK ol a k = true then [a] else []) ++ (ol.take k).filter (fun n => decide (n > a))
def withL (ol : List Int) (a : Int) : List Int := ol.filter (fun n => decide (n ≤ a)) ++ [a] ++ ol.filter (fun n => decide (n > a))
theorem putK_s {ol : List Int} {a n : Int} {k : Nat} (h : ol[k]? = some n) : putK ol a (k + 1) = (putK ol a k || decide (n > a)) := by
  unfold putK; rw [List.take_add_one, h, List.any_append]; simp
theorem rise_take {ol : List Int} (hr : ol.Pairwise (· < ·)) {n : Int} {k : Nat} (h : ol[k]? = some n) : ∀ m ∈ ol.take k, m < n := by
  intro m hm
  obtain ⟨i, hi⟩ := List.mem_iff_getElem?.1 hm
  rw [List.getElem?_take] at hi; split at hi
  · obtain ⟨h1, h2⟩ := List.getElem?_eq_some_iff.1 hi
    obtain ⟨h3, h4⟩ := List.getElem?_eq_some_iff.1 h
    have := List.pairwise_iff_getElem.1 hr i k h1 h3 (by assumption); rw [h2, h4] at this; exact this
  · cases hi
theorem with_t {ol : List Int} (hr : ol.Pairwise (· < ·)) {a n : Int} {k : Nat} (h : ol[k]? = some n) (hp : putK ol a k = true) : withK ol a k ++ [n] = withK ol a (k + 1) := by
  have hn : n > a := by
    obtain ⟨m, hm, h2⟩ := List.any_eq_true.1 hp
    have := rise_take hr h m hm; simp at h2; omega
  unfold withK; rw [putK_s h, hp, List.take_add_one, h]
  have : ¬ n ≤ a := by omega
  simp [List.filter_append, hn, this]
theorem with_n {ol : List Int} (hr : ol.Pairwise (· < ·)) {a n : Int} {k : Nat} (h : ol[k]? = some n) (hp : putK ol a k = false) (hn : n > a) : (withK ol a k ++ [a]) ++ [n] = withK ol a (k + 1) := by
  have h0 : (ol.take k).filter (fun n => decide (n > a)) = [] := by
    rw [List.filter_eq_nil_iff]; intro m hm h2
    have : putK ol a k = true := List.any_eq_true.2 ⟨m, hm, h2⟩
    rw [hp] at this; cases this
  unfold withK; rw [putK_s h, hp, List.take_add_one, h]
  have : ¬ n ≤ a := by omega
  simp only [List.filter_append, h0]; simp [hn, this]
theorem with_f {ol : List Int} (hr : ol.Pairwise (· < ·)) {a n : Int} {k : Nat} (h : ol[k]? = some n) (hp : putK ol a k = false) (hn : ¬ n > a) : withK ol a k ++ [n] = withK ol a (k + 1) := by
  have h0 : (ol.take k).filter (fun n => decide (n > a)) = [] := by
    rw [List.filter_eq_nil_iff]; intro m hm h2
    have : putK ol a k = true := List.any_eq_true.2 ⟨m, hm, h2⟩
    rw [hp] at this; cases this
  unfold withK; rw [putK_s h, hp, List.take_add_one, h]
  have h3 : n ≤ a := by omega
  simp only [List.filter_append, h0]; simp [hn, h3]
theorem with_e {ol : List Int} (hr : ol.Pairwise (· < ·)) {a n : Int} {k : Nat} (h : ol[k]? = some n) (he : (!putK ol a k && decide (n > a)) = false) : withK ol a k ++ [n] = withK ol a (k + 1) ∧ putK ol a k = putK ol a (k + 1) := by
  cases hp : putK ol a k with
  | true => exact ⟨with_t hr h hp, by rw [putK_s h, hp]; rfl⟩
  | false =>
    rw [hp] at he; simp at he
    exact ⟨with_f hr h hp (by omega), by rw [putK_s h, hp]; simp; omega⟩
theorem with_i {ol : List Int} (hr : ol.Pairwise (· < ·)) {a n : Int} {k : Nat} (h : ol[k]? = some n) (he : (!putK ol a k && decide (n > a)) = true) : (withK ol a k ++ [a]) ++ [n] = withK ol a (k + 1) ∧ true = putK ol a (k + 1) := by
  simp at he
  exact ⟨with_n hr h he.1 (by omega), by rw [putK_s h]; simp [he.2]⟩
theorem withK_len (ol : List Int) (a : Int) (k : Nat) : (withK ol a k).length ≤ 2 * k + 1 := by
  unfold withK; rw [List.length_append, List.length_append]
  have h1 := List.length_filter_le (fun n => decide (n ≤ a)) (ol.take k)
  have h2 := List.length_filter_le (fun n => decide (n > a)) (ol.take k)
  simp only [List.length_take] at h1 h2
  split <;> simp only [List.length_cons, List.length_nil] <;> omega
theorem withK_t {ol : List Int} {a : Int} {k : Nat} (hk : ol.length ≤ k) (hp : putK ol a k = true) : withK ol a k = withL ol a := by
  unfold withK withL; rw [hp, List.take_of_length_le hk]; simp
theorem withK_f {ol : List Int} {a : Int} {k : Nat} (hk : ol.length ≤ k) (hp : putK ol a k = false) : withK ol a k ++ [a] = withL ol a := by
  have h0 : (ol.take k).filter (fun n => decide (n > a)) = [] := by
    rw [List.filter_eq_nil_iff]; intro m hm h2
    have : putK ol a k = true := List.any_eq_true.2 ⟨m, hm, h2⟩
    rw [hp] at this; cases this
  unfold withK withL; rw [List.take_of_length_le hk] at h0 ⊢; rw [hp, h0]; simp
def woI (a : Int) (l : List Int) : List Int := l.filter fun n => !decide (n = a)
theorem woI_snoc {a n : Int} {l : List Int} : woI a (l ++ [n]) = woI a l ++ (if n = a then [] else [n]) := by unfold woI; rw [List.filter_append]; by_cases h : n = a <;> simp [h]
theorem woI_len (a : Int) (l : List Int) : (woI a l).length ≤ l.length := List.length_filter_le _ _
def trnR (l : List Cl) (ya no : List Int) (m : List Int) : List Int := m.filter fun n => isR l ya n && !isR l no n
theorem trnR_snoc {l : List Cl} {ya no m : List Int} {n : Int} : trnR l ya no (m ++ [n]) = trnR l ya no m ++ (if (isR l ya n && !isR l no n) = true then [n] else []) := by
  unfold trnR; rw [List.filter_append]; by_cases h : (isR l ya n && !isR l no n) = true <;> simp [h]
theorem trnR_len (l : List Cl) (ya no m : List Int) : (trnR l ya no m).length ≤ m.length := List.length_filter_le _ _
def chRA (l : List Cl) (ol : List Int) (a : Int) (m : List Cl) : List Int := (m.filter fun x => decide (x.hp = a) && (decide ((ofR x.la x.lb x.lc) > 1) && isR l ol x.hi)).map (·.hi)
theorem chRA_t {l m : List Cl} {ol : List Int} {a : Int} {k : Nat} {x : Cl} (h : m[k]? = some x) (h1 : x.hp = a) (h2 : (ofR x.la x.lb x.lc) > 1) (h3 : isR l ol x.hi = true) : chRA l ol a (m.take k) ++ [x.hi] = chRA l ol a (m.take (k + 1)) := by
  unfold chRA; rw [List.take_add_one, h, List.filter_append]; simp [h1, h2, h3]
theorem chRA_f {l m : List Cl} {ol : List Int} {a : Int} {k : Nat} {x : Cl} (h : m[k]? = some x) (h1 : ¬ (x.hp = a ∧ (ofR x.la x.lb x.lc) > 1 ∧ isR l ol x.hi = true)) : chRA l ol a (m.take k) = chRA l ol a (m.take (k + 1)) := by
  unfold chRA; rw [List.take_add_one, h, List.filter_append]
  have : (decide (x.hp = a) && (decide ((ofR x.la x.lb x.lc) > 1) && isR l ol x.hi)) = false := by
    rw [Bool.eq_false_iff]; intro h2; simp at h2; exact h1 ⟨h2.1, h2.2.1, h2.2.2⟩
  simp [this]
theorem chRA_len (l : List Cl) (ol : List Int) (a : Int) (m : List Cl) : (chRA l ol a m).length ≤ m.length := by unfold chRA; rw [List.length_map]; exact List.length_filter_le _ _
def allR (l : List Cl) (ol : List Int) (m : List Cl) : List Int := (m.filter fun x => isR l ol x.hi).map (·.hi)
theorem allR_t {l m : List Cl} {ol : List Int} {k : Nat} {x : Cl} (h : m[k]? = some x) (h3 : isR l ol x.hi = true) : allR l ol (m.take k) ++ [x.hi] = allR l ol (m.take (k + 1)) := by
  unfold allR; rw [List.take_add_one, h, List.filter_append]; simp [h3]
theorem allR_f {l m : List Cl} {ol : List Int} {k : Nat} {x : Cl} (h : m[k]? = some x) (h3 : isR l ol x.hi = false) : allR l ol (m.take k) = allR l ol (m.take (k + 1)) := by
  unfold allR; rw [List.take_add_one, h, List.filter_append]; simp [h3]
theorem allR_len (l : List Cl) (ol : List Int) (m : List Cl) : (allR l ol m).length ≤ m.length := by unfold allR; rw [List.length_map]; exact List.length_filter_le _ _

set_option maxHeartbeats 4000000 in
set_option maxRecDepth 100000 in
theorem sh23_spec (y : Cl) (w : World) :
    Calls Try.prog 69 #[(.agg (encCl y).toArray)] w fun e w' => e = .returned (b_ (decide ((ofR y.la y.lb y.lc) > 1))) ∧ Fr [] w w' := by
  refine calls_of (args := [(.agg (encCl y).toArray)]) (penv [(.agg (encCl y).toArray)]) [] [] Try.func69 rfl rfl (look_penv _) (HS.nil w) ?_
  refine A.norm [(0, (.agg (encCl y).toArray))] [] (by exact ⟨rfl, trivial⟩) rfl ?_
  refine A.seq (A.region (A.goA1 [.al, .p] [1] (fun b1 => [(1, p_ b1)]) (fun b1 => [blk b1 (encCl y) 98]) (fun b1 => []) (fun _ => T0) (fun _ => by kernel_rfl) (fun b1 => trivial) ?_))
  intro b1
  refine A.tn (A.seq (A.region (A.goA [.p, .ld 0, .cq (i_ (ofR y.la y.lb y.lc)), .p, .p] [(2, b_ (decide ((ofR y.la y.lb y.lc) > 1)))] [b1] (fun κ => κ.call 97 [(.agg #[u_ y.la, u_ y.lb, u_ y.lc])] (i_ (ofR y.la y.lb y.lc)) ∧ True) (by kernel_rfl) ⟨(fun ww ss => rof_spec y.la y.lb y.lc ww), trivial⟩ ?_)))
  refine A.tn (A.ret (A.postQ [b_ (decide ((ofR y.la y.lb y.lc) > 1))] (fun aa ww rr ss => ⟨rv_tmp rr rfl, trivial⟩) ?_))
  rfl

set_option maxHeartbeats 4000000 in
set_option maxRecDepth 100000 in
theorem lf23_spec (al : Option Addr) (l : List Cl) (cl : Nat) (a : Int) (hl : l.length ≤ 100000) (w : World) (r0 : arrAt w al (V.flat encCl l)) :
    Calls Try.prog 31 #[vS al l cl, i_ a] w fun e w' => e = .returned (b_ (lfR l a)) ∧ Fr [] w w' := by
  refine calls_of (args := [vS al l cl, i_ a]) (penv [vS al l cl, i_ a]) [] [] Try.func31 rfl rfl (look_penv _) (HS.nil w) ?_
  refine A.norm [(0, vS al l cl), (1, i_ a)] [] (by exact ⟨rfl, rfl, trivial⟩) rfl ?_
  refine A.seq (A.region (A.goA [.p] [(0, vS al l cl), (1, i_ a)] [] T0 (by kernel_rfl) trivial ?_))
  refine A.tn (A.seq (A.region (A.goA [.p, .p, .cq (i_ (oI (fd a l))), .p] [(0, vS al l cl), (5, i_ (oI (fd a l)))] [] (fun κ => κ.call 68 [vS al l cl, i_ a] (i_ (oI (fd a l))) ∧ True) (by kernel_rfl) ⟨(fun ww ss => fd_spec al l cl a (by first | assumption | omega) ww ((rd_old r0 (by simp [feet])) ww ss)), trivial⟩ ?_)))
  refine A.tn (A.seq ?_)
  by_cases ho : fd a l = none
  · skip
    have hm := fd_no ho
    refine A.sub [(0, vS al l cl), (5, i_ (-1))] (by exact ⟨rfl, congrArg (fun z_ => some (i_ z_)) (by rw [ho]; rfl : (oI (fd a l)) = -1), trivial⟩) ?_
    refine A.region (A.goA [.p, .p, .p, .sk, .sk, .sk, .sk, .sk, .p, .p, .sk, .sk, .sk, .sk, .sk, .p, .p] [(4, b_ false)] [] T0 (by kernel_rfl) trivial ?_)
    refine A.tn (A.ret (A.postQ [b_ false] (fun aa ww rr ss => ⟨rv_tmp rr rfl, trivial⟩) ?_))
    show ((b_ false) : Value) = (b_ (lfR l a))
    refine congrArg Value.bool ?_; unfold lfR gcl; rw [hm]; first | rfl | (simp_all; done) | (simp_all [cl0, ofR]; done) | (simp [cl0]; done)
  · skip
    obtain ⟨i, hi⟩ := Option.ne_none_iff_exists'.1 ho; obtain ⟨x, hx, hm⟩ := fd_yes hi; have hlt := (List.getElem?_eq_some_iff.1 hx).1
    refine A.sub [(0, vS al l cl), (5, c_ i)] (by exact ⟨rfl, congrArg (fun z_ => some (i_ z_)) (by rw [hi]; rfl : (oI (fd a l)) = (i : Int)), trivial⟩) ?_
    refine A.region (A.goA [.p, .p, .p, .o, .p, .p, .ix, .p, .rd [b_ x.hl], .cl, .p, .o, .p, .p, .ix, .rd (encCl x), .cq (b_ (decide ((ofR x.la x.lb x.lc) > 1))), .cl, .p] [(4, b_ (((decide ((i : Int) ≥ 0)) && x.hl) && (decide ((ofR x.la x.lb x.lc) > 1))))] [] (fun κ => ((true && ((decide ((i : Int) ≥ 0)) == true)) = true → κ.ix al l.length (i : Int)) ∧ ((true && ((decide ((i : Int) ≥ 0)) == true)) = true → κ.rd (((at0 al).add (i * 14)).add 2) [b_ x.hl]) ∧ ((true && (((decide ((i : Int) ≥ 0)) && x.hl) == true)) = true → κ.ix al l.length (i : Int)) ∧ ((true && (((decide ((i : Int) ≥ 0)) && x.hl) == true)) = true → κ.rd ((at0 al).add (i * 14)) (encCl x)) ∧ ((true && (((decide ((i : Int) ≥ 0)) && x.hl) == true)) = true → κ.call 69 [(.agg (encCl x).toArray)] (b_ (decide ((ofR x.la x.lb x.lc) > 1)))) ∧ True) (by kernel_rfl) ⟨(fun h_ => (ixOf encCl_len (by decide) (rd_old r0 (by simp [feet])) (by first | omega | (simp; omega) | (simp; done)))), (fun h_ => (reads_at2 (f := 2) (vs := [b_ x.hl]) encCl_len (rd_old r0 (by simp [feet])) hx (by simp) rfl)), (fun h_ => (ixOf encCl_len (by decide) (rd_old r0 (by simp [feet])) (by first | omega | (simp; omega) | (simp; done)))), (fun h_ => (reads_at0 (vs := (encCl x)) encCl_len (rd_old r0 (by simp [feet])) hx (Nat.le_of_ble_eq_true rfl) rfl)), (fun h_ => (fun ww ss => sh23_spec x ww)), trivial⟩ ?_)
    refine A.tn (A.ret (A.postQ [b_ (((decide ((i : Int) ≥ 0)) && x.hl) && (decide ((ofR x.la x.lb x.lc) > 1)))] (fun aa ww rr ss => ⟨rv_tmp rr rfl, trivial⟩) ?_))
    show ((b_ (((decide ((i : Int) ≥ 0)) && x.hl) && (decide ((ofR x.la x.lb x.lc) > 1)))) : Value) = (b_ (lfR l a))
    refine congrArg Value.bool ?_; unfold lfR gcl; rw [hm]; first | rfl | (simp_all; done) | (simp_all [cl0, ofR]; done) | (simp [cl0]; done)

set_option maxHeartbeats 4000000 in
set_option maxRecDepth 100000 in
theorem has23_spec (bl : Option Addr) (ol : List Int) (dl : Nat) (a : Int) (ho : ol.length ≤ 100000) (w : World) (r0 : arrAt w bl (V.flat encI ol)) :
    Calls Try.prog 27 #[vS bl ol dl, i_ a] w fun e w' => e = .returned (b_ (hasL ol a)) ∧ Fr [] w w' := by
  refine calls_of (args := [vS bl ol dl, i_ a]) (penv [vS bl ol dl, i_ a]) [] [] Try.func27 rfl rfl (look_penv _) (HS.nil w) ?_
  refine A.norm [(0, vS bl ol dl), (1, i_ a)] [] (by exact ⟨rfl, rfl, trivial⟩) rfl ?_
  refine A.seq (A.region (A.goA [.p] [(0, vS bl ol dl), (1, i_ a)] [] T0 (by kernel_rfl) trivial ?_))
  refine A.tn (A.seq (A.seq (A.region (A.goA [.p, .p, .p] [(1, i_ a), (7, vS bl ol dl), (8, c_ ol.length), (9, i_ 0)] [] T0 (by kernel_rfl) trivial ?_))))
  refine A.tn (A.block (A.loop (fun (zz : Nat) => match zz with | k => [(1, i_ a), (7, vS bl ol dl), (8, c_ ol.length), (9, c_ k)]) (fun (zz : Nat) => match zz with | k => []) (fun (zz : Nat) => match zz with | k => (k ≤ ol.length) ∧ (∀ x ∈ ol.take k, (x == a) = false)) (fun (zz : Nat) => match zz with | k => ol.length - k) (0 : Nat) ⟨(by omega), (by simp)⟩ ?_ ?_))
  · exact A.hereK [] (by exact ⟨rfl, rfl, rfl, rfl, trivial⟩) (by kernel_rfl)
  · rintro k ⟨hk, hn⟩
    refine A.norm [(1, i_ a), (7, vS bl ol dl), (8, c_ ol.length), (9, c_ k)] [] (by exact ⟨rfl, rfl, rfl, rfl, trivial⟩) rfl ?_
    refine A.seq (A.region (A.goA [.p] [(1, i_ a), (7, vS bl ol dl), (8, c_ ol.length), (9, c_ k), (10, b_ (decide ((k : Int) < (ol.length : Int))))] [] T0 (by kernel_rfl) trivial ?_))
    refine A.tn (A.seq (A.cond (E := decide ((k : Int) < (ol.length : Int))) rfl (fun e1 => ?_) (fun e1 => ?_)))
    · skip
      have p1 := of_decide_eq_true e1
      refine A.skip (A.tn (A.seq (A.block (A.seq (A.region (A.goP [.ix] [(1, i_ a), (7, vS bl ol dl), (8, c_ ol.length), (9, c_ k), (11, (.pointer (some ((at0 bl).add (k * 1)))))] [] (fun κ => κ.ix bl ol.length (k : Int) ∧ True) (by kernel_rfl) ⟨(ixOf encI_len (by decide) (rd_old r0 (by simp [feet])) (by first | omega | (simp; omega) | (simp; done))), trivial⟩ ?_))))))
      obtain ⟨x1, hx1⟩ : ∃ x, (ol)[k]? = some x := ⟨_, List.getElem?_eq_getElem (by omega)⟩
      refine A.goA [.rd [i_ x1], .p] [(1, i_ a), (7, vS bl ol dl), (8, c_ ol.length), (9, c_ k), (6, i_ x1)] [] (fun κ => κ.rd ((at0 bl).add (k * 1)) [i_ x1] ∧ True) (by kernel_rfl) ⟨(reads_at0 (vs := [i_ x1]) encI_len (rd_old r0 (by simp [feet])) hx1 (Nat.le_of_ble_eq_true rfl) rfl), trivial⟩ ?_
      refine A.tn (A.seq (A.region (A.goA [.p, .p, .p] [(1, i_ a), (7, vS bl ol dl), (8, c_ ol.length), (9, c_ k), (15, b_ (x1 == a))] [] T0 (by kernel_rfl) trivial ?_)))
      refine A.tn (A.cond (E := x1 == a) rfl (fun e2 => ?_) (fun e2 => ?_))
      · skip
        have p2 := e2; try simp only [nrm] at p2
        refine A.seq (A.region (A.goA [.p] [(4, b_ true)] [] T0 (by kernel_rfl) trivial ?_))
        refine A.tn (A.ret (A.br (A.tr (A.tr (A.br (A.tr (A.postQ [b_ true] (fun aa ww rr ss => ⟨rv_tmp rr rfl, trivial⟩) ?_)))))))
        show ((b_ true) : Value) = (b_ (hasL ol a))
        refine congrArg Value.bool ?_; unfold hasL; first | (rw [anyI_t (f := fun n => n == a) (by assumption) (by first | assumption | (simp_all; done))]; done) | (rw [anyI_f (f := fun n => n == a) hn (by omega)]; done)
      · skip
        have p2 := e2; try simp only [nrm] at p2
        refine A.skip (A.bn (A.tn (A.region (A.goA [.w ((k : Int) + 1), .p] [(1, i_ a), (7, vS bl ol dl), (8, c_ ol.length), (9, i_ ((k : Int) + 1))] [] (fun κ => (IntKind.i64.wrap ((k : Int) + 1) = ((k : Int) + 1)) ∧ True) (by kernel_rfl) ⟨(wrap_i64 (e := (k : Int) + 1) (by constructor <;> omega)), trivial⟩ ?_))))
        refine A.tn (A.next (k + 1) ⟨(by omega), (by exact anyI_s hn (by assumption) (by first | assumption | (simp_all; done)))⟩ (by first | omega | (simp; omega) | (simp_all; omega)) ?_)
        exact A.hereK [] (by exact ⟨rfl, rfl, rfl, rfl, trivial⟩) (by kernel_rfl)
    · skip
      have p1 := of_decide_eq_false e1
      refine A.exit (A.te (A.te (A.bh (A.tn (A.seq (A.region (A.goA [.p] [(4, b_ false)] [] T0 (by kernel_rfl) trivial ?_)))))))
      refine A.tn (A.ret (A.postQ [b_ false] (fun aa ww rr ss => ⟨rv_tmp rr rfl, trivial⟩) ?_))
      show ((b_ false) : Value) = (b_ (hasL ol a))
      refine congrArg Value.bool ?_; unfold hasL; first | (rw [anyI_t (f := fun n => n == a) (by assumption) (by first | assumption | (simp_all; done))]; done) | (rw [anyI_f (f := fun n => n == a) hn (by omega)]; done)

set_option maxHeartbeats 4000000 in
set_option maxRecDepth 100000 in
theorem is23_spec (al : Option Addr) (l : List Cl) (cl : Nat) (bl : Option Addr) (ol : List Int) (dl : Nat) (a : Int) (hl : l.length ≤ 100000) (ho : ol.length ≤ 1000) (w : World) (r0 : arrAt w al (V.flat encCl l)) (r1 : arrAt w bl (V.flat encI ol)) (hs : HS w (feet []) [] w) :
    Calls Try.prog 67 #[vS al l cl, vS bl ol dl, i_ a] w fun e w' => ∃ zz, e = .returned ((fun (zz : Unit) => (b_ (isR l ol a))) zz) ∧ (fun (zz : Unit) => True) zz ∧ Turn [] ((fun (zz : Unit) => []) zz) w w' := by
  refine calls_of (args := [vS al l cl, vS bl ol dl, i_ a]) (penv [vS al l cl, vS bl ol dl, i_ a]) (feet []) [] Try.func67 rfl rfl (look_penv _) hs ?_
  refine A.norm [(0, vS al l cl), (1, vS bl ol dl), (2, i_ a)] [] (by exact ⟨rfl, rfl, rfl, trivial⟩) rfl ?_
  refine A.seq (A.region (A.goA [.p] [(0, vS al l cl), (1, vS bl ol dl), (2, i_ a)] [] T0 (by kernel_rfl) trivial ?_))
  refine A.tn (A.seq (A.seq (A.region (A.goA [.p, .p, .p] [(0, vS al l cl), (2, i_ a), (9, vS bl ol dl), (10, c_ ol.length), (11, i_ 0)] [] T0 (by kernel_rfl) trivial ?_))))
  refine A.tn (A.block (A.loop (fun (zz : Nat) => match zz with | k => [(0, vS al l cl), (2, i_ a), (9, vS bl ol dl), (10, c_ ol.length), (11, c_ k)]) (fun (zz : Nat) => match zz with | k => []) (fun (zz : Nat) => match zz with | k => (k ≤ ol.length) ∧ (∀ x ∈ ol.take k, (fun n => a == 0 || hasL (upL (kvl l) n (upD l n)) a) x = false)) (fun (zz : Nat) => match zz with | k => ol.length - k) (0 : Nat) ⟨(by omega), (by simp)⟩ ?_ ?_))
  · exact A.hereK [] (by exact ⟨rfl, rfl, rfl, rfl, rfl, trivial⟩) (by kernel_rfl)
  · rintro k ⟨hk, hn⟩
    refine A.norm [(0, vS al l cl), (2, i_ a), (9, vS bl ol dl), (10, c_ ol.length), (11, c_ k)] [] (by exact ⟨rfl, rfl, rfl, rfl, rfl, trivial⟩) rfl ?_
    refine A.seq (A.region (A.goA [.p] [(0, vS al l cl), (2, i_ a), (9, vS bl ol dl), (10, c_ ol.length), (11, c_ k), (12, b_ (decide ((k : Int) < (ol.length : Int))))] [] T0 (by kernel_rfl) trivial ?_))
    refine A.tn (A.seq (A.cond (E := decide ((k : Int) < (ol.length : Int))) rfl (fun e1 => ?_) (fun e1 => ?_)))
    · skip
      have p1 := of_decide_eq_true e1
      refine A.skip (A.tn (A.seq (A.block (A.seq (A.region (A.goP [.ix] [(0, vS al l cl), (2, i_ a), (9, vS bl ol dl), (10, c_ ol.length), (11, c_ k), (13, (.pointer (some ((at0 bl).add (k * 1)))))] [] (fun κ => κ.ix bl ol.length (k : Int) ∧ True) (by kernel_rfl) ⟨(ixOf encI_len (by decide) (rd_old r1 (by simp [feet])) (by first | omega | (simp; omega) | (simp; done))), trivial⟩ ?_))))))
      obtain ⟨x1, hx1⟩ : ∃ x, (ol)[k]? = some x := ⟨_, List.getElem?_eq_getElem (by omega)⟩
      refine A.goA [.rd [i_ x1], .p] [(0, vS al l cl), (2, i_ a), (9, vS bl ol dl), (10, c_ ol.length), (11, c_ k), (8, i_ x1)] [] (fun κ => κ.rd ((at0 bl).add (k * 1)) [i_ x1] ∧ True) (by kernel_rfl) ⟨(reads_at0 (vs := [i_ x1]) encI_len (rd_old r1 (by simp [feet])) hx1 (Nat.le_of_ble_eq_true rfl) rfl), trivial⟩ ?_
      refine A.tn (A.seq (A.region (A.goP [.p, .p, .p] [(0, vS al l cl), (2, i_ a), (9, vS bl ol dl), (10, c_ ol.length), (11, c_ k), (8, i_ x1), (17, b_ (a == 0))] [] T0 (by kernel_rfl) trivial ?_)))
      refine A.bool (a == 0) (fun e2 => ?_) (fun e2 => ?_)
      · skip
        refine A.sub [(0, vS al l cl), (2, i_ a), (9, vS bl ol dl), (10, c_ ol.length), (11, c_ k), (8, i_ x1), (17, b_ true)] (by exact ⟨rfl, rfl, rfl, rfl, rfl, rfl, congrArg (fun z => some (Value.bool z)) e2, trivial⟩) ?_
        refine A.goA [.sk, .sk, .sk, .sk, .sk, .p] [(0, vS al l cl), (2, i_ a), (9, vS bl ol dl), (10, c_ ol.length), (11, c_ k), (23, b_ true)] [] T0 (by kernel_rfl) trivial ?_
        refine A.tn (A.cond_t rfl (A.seq (A.region (A.goA [.p] [(6, b_ true)] [] T0 (by kernel_rfl) trivial ?_))))
        refine A.tn (A.ret (A.br (A.tr (A.tr (A.br (A.tr (A.postK [] [b_ true] (fun aa ww rr ss => ⟨rv_tmp rr rfl, trivial⟩) () ?_ ?_ (by kernel_rfl))))))))
        · show ((b_ true) : Value) = (b_ (isR l ol a))
          refine congrArg Value.bool ?_; unfold isR; first | (rw [anyI_t (f := (fun n => a == 0 || hasL (upL (kvl l) n (upD l n)) a)) (by assumption) (by first | (simp_all; done))]; done) | (rw [anyI_f (f := (fun n => a == 0 || hasL (upL (kvl l) n (upD l n)) a)) hn (by omega)]; done)
        · trivial
      · skip
        refine A.sub [(0, vS al l cl), (2, i_ a), (9, vS bl ol dl), (10, c_ ol.length), (11, c_ k), (8, i_ x1), (17, b_ false)] (by exact ⟨rfl, rfl, rfl, rfl, rfl, rfl, congrArg (fun z => some (Value.bool z)) e2, trivial⟩) ?_
        refine A.goP [.p, .p] [(0, vS al l cl), (2, i_ a), (9, vS bl ol dl), (10, c_ ol.length), (11, c_ k), (17, b_ false), (18, vS al l cl), (19, i_ x1)] [] T0 (by kernel_rfl) trivial ?_
        refine A.cons (A.callT (some 20) [vS al l cl, i_ x1] [] ((fun zz => match zz with | (al'2, cl'3) => (vS al'2 (upL (kvl l) x1 (upD l x1)) cl'3))) ((fun zz => match zz with | (al'2, cl'3) => True)) ((fun zz => match zz with | (al'2, cl'3) => [sI al'2 (upL (kvl l) x1 (upD l x1)) cl'3])) (fun zz => match zz with | (al'2, cl'3) => [sI al'2 (upL (kvl l) x1 (upD l x1)) cl'3]) (by kernel_rfl) rfl rfl (fun ww ss hh => upR_spec al l cl x1 (by first | assumption | omega | (rw [upL_len]; exact Nat.le_trans (depN_le _ _ _) (by decide))) ww ((rd_old r0 (by simp [feet])) ww ss) hh) (fun _ => rfl) ?_)
        rintro ⟨al'2, cl'3⟩ -
        refine A.goA [.p, .cq (b_ (hasL (upL (kvl l) x1 (upD l x1)) a)), .p] [(0, vS al l cl), (2, i_ a), (9, vS bl ol dl), (10, c_ ol.length), (11, c_ k), (18, vS al l cl), (19, i_ x1), (20, vS al'2 (upL (kvl l) x1 (upD l x1)) cl'3), (21, i_ a), (22, b_ (hasL (upL (kvl l) x1 (upD l x1)) a)), (23, b_ (hasL (upL (kvl l) x1 (upD l x1)) a))] [] (fun κ => κ.call 27 [vS al'2 (upL (kvl l) x1 (upD l x1)) cl'3, i_ a] (b_ (hasL (upL (kvl l) x1 (upD l x1)) a)) ∧ True) (by kernel_rfl) ⟨(fun ww ss => has23_spec al'2 (upL (kvl l) x1 (upD l x1)) cl'3 a (by first | assumption | omega | (rw [upL_len]; exact Nat.le_trans (depN_le _ _ _) (by decide))) ww ((rd_sl (i := 0) rfl) ww ss)), trivial⟩ ?_
        refine A.tn (A.cond (E := (hasL (upL (kvl l) x1 (upD l x1)) a)) rfl (fun e4 => ?_) (fun e4 => ?_))
        · skip
          have p4 := e4; try simp only [nrm] at p4
          refine A.seq (A.region (A.goA [.p] [(6, b_ true)] [] T0 (by kernel_rfl) trivial ?_))
          refine A.tn (A.ret (A.br (A.tr (A.tr (A.br (A.tr (A.postK [] [b_ true] (fun aa ww rr ss => ⟨rv_tmp rr rfl, trivial⟩) () ?_ ?_ (by kernel_rfl))))))))
          · show ((b_ true) : Value) = (b_ (isR l ol a))
            refine congrArg Value.bool ?_; unfold isR; first | (rw [anyI_t (f := (fun n => a == 0 || hasL (upL (kvl l) n (upD l n)) a)) (by assumption) (by first | (simp_all; done))]; done) | (rw [anyI_f (f := (fun n => a == 0 || hasL (upL (kvl l) n (upD l n)) a)) hn (by omega)]; done)
          · trivial
        · skip
          have p4 := e4; try simp only [nrm] at p4
          refine A.skip (A.bn (A.tn (A.region (A.goA [.w ((k : Int) + 1), .p] [(0, vS al l cl), (2, i_ a), (9, vS bl ol dl), (10, c_ ol.length), (11, i_ ((k : Int) + 1)), (18, vS al l cl), (19, i_ x1), (20, vS al'2 (upL (kvl l) x1 (upD l x1)) cl'3), (21, i_ a), (22, b_ (hasL (upL (kvl l) x1 (upD l x1)) a))] [] (fun κ => (IntKind.i64.wrap ((k : Int) + 1) = ((k : Int) + 1)) ∧ True) (by kernel_rfl) ⟨(wrap_i64 (e := (k : Int) + 1) (by constructor <;> omega)), trivial⟩ ?_))))
          refine A.tn (A.next (k + 1) ⟨(by omega), (by exact anyI_s hn (by assumption) (by simp_all))⟩ (by first | omega | (simp; omega) | (simp_all; omega)) ?_)
          exact A.hereK [] (by exact ⟨rfl, rfl, rfl, rfl, rfl, trivial⟩) (by kernel_rfl)
    · skip
      have p1 := of_decide_eq_false e1
      refine A.exit (A.te (A.te (A.bh (A.tn (A.seq (A.region (A.goA [.p] [(6, b_ false)] [] T0 (by kernel_rfl) trivial ?_)))))))
      refine A.tn (A.ret (A.postK [] [b_ false] (fun aa ww rr ss => ⟨rv_tmp rr rfl, trivial⟩) () ?_ ?_ (by kernel_rfl)))
      · show ((b_ false) : Value) = (b_ (isR l ol a))
        refine congrArg Value.bool ?_; unfold isR; first | (rw [anyI_t (f := (fun n => a == 0 || hasL (upL (kvl l) n (upD l n)) a)) (by assumption) (by first | (simp_all; done))]; done) | (rw [anyI_f (f := (fun n => a == 0 || hasL (upL (kvl l) n (upD l n)) a)) hn (by omega)]; done)
      · trivial

set_option maxHeartbeats 4000000 in
set_option maxRecDepth 100000 in
theorem with_spec (bl : Option Addr) (ol : List Int) (dl : Nat) (a : Int) (hr : ol.Pairwise (· < ·)) (ho : ol.length ≤ 1000) (w : World) (r0 : arrAt w bl (V.flat encI ol)) (hs : HS w (feet []) [] w) :
    Calls Try.prog 32 #[vS bl ol dl, i_ a] w fun e w' => ∃ zz, e = .returned ((fun (zz : (Option Addr) × Nat) => match zz with | (al', cl') => (vS al' (withL ol a) cl')) zz) ∧ (fun (zz : (Option Addr) × Nat) => match zz with | (al', cl') => True) zz ∧ Turn [] ((fun (zz : (Option Addr) × Nat) => match zz with | (al', cl') => [sI al' (withL ol a) cl']) zz) w w' := by
  refine calls_of (args := [vS bl ol dl, i_ a]) (penv [vS bl ol dl, i_ a]) (feet []) [] Try.func32 rfl rfl (look_penv _) hs ?_
  refine A.norm [(0, vS bl ol dl), (1, i_ a)] [] (by exact ⟨rfl, rfl, trivial⟩) rfl ?_
  refine A.seq (A.region (A.goA [.p] [(0, vS bl ol dl), (1, i_ a)] [] T0 (by kernel_rfl) trivial ?_))
  refine A.tn (A.seq (A.region (A.goA [.p] [(0, vS bl ol dl), (1, i_ a), (5, e_)] [] T0 (by kernel_rfl) trivial ?_)))
  refine A.tn (A.seq (A.region (A.goA [.p] [(0, vS bl ol dl), (1, i_ a), (5, e_), (6, b_ false)] [] T0 (by kernel_rfl) trivial ?_)))
  refine A.tn (A.seq (A.seq (A.region (A.goA [.p, .p, .p] [(1, i_ a), (5, e_), (6, b_ false), (9, vS bl ol dl), (10, c_ ol.length), (11, i_ 0)] [] T0 (by kernel_rfl) trivial ?_))))
  refine A.tn (A.block (A.ownNil 3 1 [sI none ([] : List Int) 0] rfl ?_))
  refine A.sub [(1, i_ a), (5, vS none ([] : List Int) 0), (6, b_ (putK ol a 0)), (9, vS bl ol dl), (10, c_ ol.length), (11, i_ 0)] (by exact ⟨rfl, rfl, congrArg (fun z_ => some (b_ z_)) (by first | rfl | exact (with_e hr (by assumption) (by assumption)).1 | exact (with_e hr (by assumption) (by assumption)).2 | exact (with_i hr (by assumption) (by assumption)).1 | exact (with_i hr (by assumption) (by assumption)).2 | exact withK_t (by omega) (by assumption) | exact withK_f (by omega) (by assumption) | (rw [putK_s (by assumption)]; simp_all; done) | (rw [putK_s (by assumption)]; simp [*]; done) | (simp [putK]; done) | (simp [withK, putK]; done) : false = (putK ol a 0)), rfl, rfl, rfl, trivial⟩) ?_
  refine A.setH [sI none (withK ol a 0) 0] (cc (slC (by first | rfl | exact (with_e hr (by assumption) (by assumption)).1 | exact (with_e hr (by assumption) (by assumption)).2 | exact (with_i hr (by assumption) (by assumption)).1 | exact (with_i hr (by assumption) (by assumption)).2 | exact withK_t (by omega) (by assumption) | exact withK_f (by omega) (by assumption) | (rw [putK_s (by assumption)]; simp_all; done) | (rw [putK_s (by assumption)]; simp [*]; done) | (simp [putK]; done) | (simp [withK, putK]; done) : ([] : List Int) = (withK ol a 0))) rfl) ?_
  refine A.sub [(1, i_ a), (5, vS none (withK ol a 0) 0), (6, b_ (putK ol a 0)), (9, vS bl ol dl), (10, c_ ol.length), (11, i_ 0)] (by exact ⟨rfl, congrArg (fun z_ : List Int => some (Value.slice none z_.length 0)) (by first | rfl | exact (with_e hr (by assumption) (by assumption)).1 | exact (with_e hr (by assumption) (by assumption)).2 | exact (with_i hr (by assumption) (by assumption)).1 | exact (with_i hr (by assumption) (by assumption)).2 | exact withK_t (by omega) (by assumption) | exact withK_f (by omega) (by assumption) | (rw [putK_s (by assumption)]; simp_all; done) | (rw [putK_s (by assumption)]; simp [*]; done) | (simp [putK]; done) | (simp [withK, putK]; done) : ([] : List Int) = (withK ol a 0)), rfl, rfl, rfl, rfl, trivial⟩) ?_
  refine A.loop (fun (zz : Nat × (Option Addr) × Nat) => match zz with | (k, ao, co) => [(1, i_ a), (9, vS bl ol dl), (10, c_ ol.length), (11, c_ k), (6, b_ (putK ol a k)), (5, vS ao (withK ol a k) co)]) (fun (zz : Nat × (Option Addr) × Nat) => match zz with | (k, ao, co) => [sI ao (withK ol a k) co]) (fun (zz : Nat × (Option Addr) × Nat) => match zz with | (k, ao, co) => (k ≤ ol.length)) (fun (zz : Nat × (Option Addr) × Nat) => match zz with | (k, ao, co) => ol.length - k) (0, none, 0) (by omega) ?_ ?_
  · exact A.hereK [0] (by exact ⟨rfl, rfl, rfl, rfl, rfl, rfl, trivial⟩) (by kernel_rfl)
  · rintro ⟨k, ao, co⟩ hk
    have hk : k ≤ ol.length := hk
    have hwl := withK_len ol a k
    refine A.norm [(1, i_ a), (9, vS bl ol dl), (10, c_ ol.length), (11, c_ k), (6, b_ (putK ol a k)), (5, vS ao (withK ol a k) co)] [sI ao (withK ol a k) co] (by exact ⟨rfl, rfl, rfl, rfl, rfl, rfl, trivial⟩) rfl ?_
    refine A.seq (A.region (A.goA [.p] [(1, i_ a), (9, vS bl ol dl), (10, c_ ol.length), (11, c_ k), (6, b_ (putK ol a k)), (5, vS ao (withK ol a k) co), (12, b_ (decide ((k : Int) < (ol.length : Int))))] [] T0 (by kernel_rfl) trivial ?_))
    refine A.tn (A.seq (A.cond (E := decide ((k : Int) < (ol.length : Int))) rfl (fun e1 => ?_) (fun e1 => ?_)))
    · skip
      have p1 := of_decide_eq_true e1
      refine A.skip (A.tn (A.seq (A.block (A.seq (A.region (A.goP [.ix] [(1, i_ a), (9, vS bl ol dl), (10, c_ ol.length), (11, c_ k), (6, b_ (putK ol a k)), (5, vS ao (withK ol a k) co), (13, (.pointer (some ((at0 bl).add (k * 1)))))] [] (fun κ => κ.ix bl ol.length (k : Int) ∧ True) (by kernel_rfl) ⟨(ixOf encI_len (by decide) (rd_old r0 (by simp [feet])) (by first | omega | (simp; omega) | (simp; done))), trivial⟩ ?_))))))
      obtain ⟨x2, hx2⟩ : ∃ x, (ol)[k]? = some x := ⟨_, List.getElem?_eq_getElem (by omega)⟩
      refine A.goA [.rd [i_ x2], .p] [(1, i_ a), (9, vS bl ol dl), (10, c_ ol.length), (11, c_ k), (6, b_ (putK ol a k)), (5, vS ao (withK ol a k) co), (8, i_ x2)] [] (fun κ => κ.rd ((at0 bl).add (k * 1)) [i_ x2] ∧ True) (by kernel_rfl) ⟨(reads_at0 (vs := [i_ x2]) encI_len (rd_old r0 (by simp [feet])) hx2 (Nat.le_of_ble_eq_true rfl) rfl), trivial⟩ ?_
      refine A.tn (A.seq (A.seq (A.region (A.goA [.p, .p, .p, .o, .p, .p, .p, .cl] [(1, i_ a), (9, vS bl ol dl), (10, c_ ol.length), (11, c_ k), (6, b_ (putK ol a k)), (5, vS ao (withK ol a k) co), (8, i_ x2), (21, b_ ((!(putK ol a k)) && (decide (x2 > a))))] [] T0 (by kernel_rfl) trivial ?_))))
      refine A.tn (A.cond (E := (!(putK ol a k)) && (decide (x2 > a))) rfl (fun e2 => ?_) (fun e2 => ?_))
      · skip
        have p2 := e2; try simp only [nrm] at p2
        refine A.seq (A.region (A.goP [.p, .p] [(1, i_ a), (9, vS bl ol dl), (10, c_ ol.length), (11, c_ k), (5, vS ao (withK ol a k) co), (8, i_ x2), (22, vS ao (withK ol a k) co), (23, i_ a)] [] T0 (by kernel_rfl) trivial ?_))
        refine A.cons (A.buildSlice 24 (e := 3) [i_ a] (by kernel_rfl) rfl (fun _ => by kernel_rfl) (fun b3 => [sI ao (withK ol a k) co, blk b3 [i_ a] 3]) (fun _ => rfl) ?_)
        intro b3
        refine A.cons (A.appendC (enc := encI) (xs := (withK ol a k)) ([a]) 0 25 (e := 3) (z := (i_ 0)) (sz := 1) (by_ := 8) (by kernel_rfl) rfl rfl rfl (by kernel_rfl) (by kernel_rfl) (by rfl) (by decide) encI_len encI_one rfl (rd_blk (i := 1) rfl) (by (simp; omega)) (fun A4 c4 => [sI A4 ((withK ol a k) ++ ([a])) c4, blk b3 [i_ a] 3]) (fun _ _ => rfl) ?_)
        intro A4 c4
        refine A.goA [.p] [(1, i_ a), (9, vS bl ol dl), (10, c_ ol.length), (11, c_ k), (5, vS A4 ((withK ol a k) ++ ([a])) c4), (8, i_ x2)] [] T0 (by kernel_rfl) trivial ?_
        refine A.tn (A.region (A.goA [.p] [(1, i_ a), (9, vS bl ol dl), (10, c_ ol.length), (11, c_ k), (5, vS A4 ((withK ol a k) ++ ([a])) c4), (8, i_ x2), (6, b_ true)] [] T0 (by kernel_rfl) trivial ?_))
        refine A.tn (A.region (A.goP [.p, .p] [(1, i_ a), (9, vS bl ol dl), (10, c_ ol.length), (11, c_ k), (5, vS A4 ((withK ol a k) ++ ([a])) c4), (6, b_ true), (26, vS A4 ((withK ol a k) ++ ([a])) c4), (27, i_ x2)] [] T0 (by kernel_rfl) trivial ?_))
        refine A.cons (A.buildSlice 28 (e := 3) [i_ x2] (by kernel_rfl) rfl (fun _ => by kernel_rfl) (fun b5 => [sI A4 ((withK ol a k) ++ ([a])) c4, blk b3 [i_ a] 3, blk b5 [i_ x2] 3]) (fun _ => rfl) ?_)
        intro b5
        refine A.cons (A.appendC (enc := encI) (xs := (withK ol a k) ++ ([a])) ([x2]) 0 29 (e := 3) (z := (i_ 0)) (sz := 1) (by_ := 8) (by kernel_rfl) rfl rfl rfl (by kernel_rfl) (by kernel_rfl) (by rfl) (by decide) encI_len encI_one rfl (rd_blk (i := 2) rfl) (by (simp; omega)) (fun A6 c6 => [sI A6 (((withK ol a k) ++ ([a])) ++ ([x2])) c6, blk b3 [i_ a] 3, blk b5 [i_ x2] 3]) (fun _ _ => rfl) ?_)
        intro A6 c6
        refine A.goA [.p] [(1, i_ a), (9, vS bl ol dl), (10, c_ ol.length), (11, c_ k), (5, vS A6 (((withK ol a k) ++ ([a])) ++ ([x2])) c6), (6, b_ true)] [] T0 (by kernel_rfl) trivial ?_
        refine A.bn (A.tn (A.region (A.goA [.w ((k : Int) + 1), .p] [(1, i_ a), (9, vS bl ol dl), (10, c_ ol.length), (11, i_ ((k : Int) + 1)), (5, vS A6 (((withK ol a k) ++ ([a])) ++ ([x2])) c6), (6, b_ true)] [] (fun κ => (IntKind.i64.wrap ((k : Int) + 1) = ((k : Int) + 1)) ∧ True) (by kernel_rfl) ⟨(wrap_i64 (e := (k : Int) + 1) (by constructor <;> omega)), trivial⟩ ?_)))
        refine A.tn (A.sub [(1, i_ a), (9, vS bl ol dl), (10, c_ ol.length), (11, i_ ((k : Int) + 1)), (5, vS A6 (((withK ol a k) ++ ([a])) ++ ([x2])) c6), (6, b_ (putK ol a (k + 1)))] (by exact ⟨rfl, rfl, rfl, rfl, rfl, congrArg (fun z_ => some (b_ z_)) (by first | rfl | exact (with_e hr (by assumption) (by assumption)).1 | exact (with_e hr (by assumption) (by assumption)).2 | exact (with_i hr (by assumption) (by assumption)).1 | exact (with_i hr (by assumption) (by assumption)).2 | exact withK_t (by omega) (by assumption) | exact withK_f (by omega) (by assumption) | (rw [putK_s (by assumption)]; simp_all; done) | (rw [putK_s (by assumption)]; simp [*]; done) | (simp [putK]; done) | (simp [withK, putK]; done) : true = (putK ol a (k + 1))), trivial⟩) ?_)
        refine A.setH [sI A6 (withK ol a (k + 1)) c6, blk b3 [i_ a] 3, blk b5 [i_ x2] 3] (cc (slC (by first | rfl | exact (with_e hr (by assumption) (by assumption)).1 | exact (with_e hr (by assumption) (by assumption)).2 | exact (with_i hr (by assumption) (by assumption)).1 | exact (with_i hr (by assumption) (by assumption)).2 | exact withK_t (by omega) (by assumption) | exact withK_f (by omega) (by assumption) | (rw [putK_s (by assumption)]; simp_all; done) | (rw [putK_s (by assumption)]; simp [*]; done) | (simp [putK]; done) | (simp [withK, putK]; done) : ((withK ol a k) ++ ([a])) ++ ([x2]) = (withK ol a (k + 1)))) rfl) ?_
        refine A.sub [(1, i_ a), (9, vS bl ol dl), (10, c_ ol.length), (11, i_ ((k : Int) + 1)), (5, vS A6 (withK ol a (k + 1)) c6), (6, b_ (putK ol a (k + 1)))] (by exact ⟨rfl, rfl, rfl, rfl, congrArg (fun z_ : List Int => some (Value.slice A6 z_.length c6)) (by first | rfl | exact (with_e hr (by assumption) (by assumption)).1 | exact (with_e hr (by assumption) (by assumption)).2 | exact (with_i hr (by assumption) (by assumption)).1 | exact (with_i hr (by assumption) (by assumption)).2 | exact withK_t (by omega) (by assumption) | exact withK_f (by omega) (by assumption) | (rw [putK_s (by assumption)]; simp_all; done) | (rw [putK_s (by assumption)]; simp [*]; done) | (simp [putK]; done) | (simp [withK, putK]; done) : ((withK ol a k) ++ ([a])) ++ ([x2]) = (withK ol a (k + 1))), rfl, trivial⟩) ?_
        refine A.next (k + 1, A6, c6) (by omega) (by first | omega | (simp; omega) | (simp_all; omega)) ?_
        exact A.hereK [0] (by exact ⟨rfl, rfl, rfl, rfl, rfl, rfl, trivial⟩) (by kernel_rfl)
      · skip
        have p2 := e2; try simp only [nrm] at p2
        refine A.skip (A.tn (A.region (A.goP [.p, .p] [(1, i_ a), (9, vS bl ol dl), (10, c_ ol.length), (11, c_ k), (6, b_ (putK ol a k)), (5, vS ao (withK ol a k) co), (26, vS ao (withK ol a k) co), (27, i_ x2)] [] T0 (by kernel_rfl) trivial ?_)))
        refine A.cons (A.buildSlice 28 (e := 3) [i_ x2] (by kernel_rfl) rfl (fun _ => by kernel_rfl) (fun b7 => [sI ao (withK ol a k) co, blk b7 [i_ x2] 3]) (fun _ => rfl) ?_)
        intro b7
        refine A.cons (A.appendC (enc := encI) (xs := (withK ol a k)) ([x2]) 0 29 (e := 3) (z := (i_ 0)) (sz := 1) (by_ := 8) (by kernel_rfl) rfl rfl rfl (by kernel_rfl) (by kernel_rfl) (by rfl) (by decide) encI_len encI_one rfl (rd_blk (i := 1) rfl) (by (simp; omega)) (fun A8 c8 => [sI A8 ((withK ol a k) ++ ([x2])) c8, blk b7 [i_ x2] 3]) (fun _ _ => rfl) ?_)
        intro A8 c8
        refine A.goA [.p] [(1, i_ a), (9, vS bl ol dl), (10, c_ ol.length), (11, c_ k), (6, b_ (putK ol a k)), (5, vS A8 ((withK ol a k) ++ ([x2])) c8)] [] T0 (by kernel_rfl) trivial ?_
        refine A.bn (A.tn (A.region (A.goA [.w ((k : Int) + 1), .p] [(1, i_ a), (9, vS bl ol dl), (10, c_ ol.length), (11, i_ ((k : Int) + 1)), (6, b_ (putK ol a k)), (5, vS A8 ((withK ol a k) ++ ([x2])) c8)] [] (fun κ => (IntKind.i64.wrap ((k : Int) + 1) = ((k : Int) + 1)) ∧ True) (by kernel_rfl) ⟨(wrap_i64 (e := (k : Int) + 1) (by constructor <;> omega)), trivial⟩ ?_)))
        refine A.tn (A.sub [(1, i_ a), (9, vS bl ol dl), (10, c_ ol.length), (11, i_ ((k : Int) + 1)), (6, b_ (putK ol a (k + 1))), (5, vS A8 ((withK ol a k) ++ ([x2])) c8)] (by exact ⟨rfl, rfl, rfl, rfl, congrArg (fun z_ => some (b_ z_)) (by first | rfl | exact (with_e hr (by assumption) (by assumption)).1 | exact (with_e hr (by assumption) (by assumption)).2 | exact (with_i hr (by assumption) (by assumption)).1 | exact (with_i hr (by assumption) (by assumption)).2 | exact withK_t (by omega) (by assumption) | exact withK_f (by omega) (by assumption) | (rw [putK_s (by assumption)]; simp_all; done) | (rw [putK_s (by assumption)]; simp [*]; done) | (simp [putK]; done) | (simp [withK, putK]; done) : (putK ol a k) = (putK ol a (k + 1))), rfl, trivial⟩) ?_)
        refine A.setH [sI A8 (withK ol a (k + 1)) c8, blk b7 [i_ x2] 3] (cc (slC (by first | rfl | exact (with_e hr (by assumption) (by assumption)).1 | exact (with_e hr (by assumption) (by assumption)).2 | exact (with_i hr (by assumption) (by assumption)).1 | exact (with_i hr (by assumption) (by assumption)).2 | exact withK_t (by omega) (by assumption) | exact withK_f (by omega) (by assumption) | (rw [putK_s (by assumption)]; simp_all; done) | (rw [putK_s (by assumption)]; simp [*]; done) | (simp [putK]; done) | (simp [withK, putK]; done) : (withK ol a k) ++ ([x2]) = (withK ol a (k + 1)))) rfl) ?_
        refine A.sub [(1, i_ a), (9, vS bl ol dl), (10, c_ ol.length), (11, i_ ((k : Int) + 1)), (6, b_ (putK ol a (k + 1))), (5, vS A8 (withK ol a (k + 1)) c8)] (by exact ⟨rfl, rfl, rfl, rfl, rfl, congrArg (fun z_ : List Int => some (Value.slice A8 z_.length c8)) (by first | rfl | exact (with_e hr (by assumption) (by assumption)).1 | exact (with_e hr (by assumption) (by assumption)).2 | exact (with_i hr (by assumption) (by assumption)).1 | exact (with_i hr (by assumption) (by assumption)).2 | exact withK_t (by omega) (by assumption) | exact withK_f (by omega) (by assumption) | (rw [putK_s (by assumption)]; simp_all; done) | (rw [putK_s (by assumption)]; simp [*]; done) | (simp [putK]; done) | (simp [withK, putK]; done) : (withK ol a k) ++ ([x2]) = (withK ol a (k + 1))), trivial⟩) ?_
        refine A.next (k + 1, A8, c8) (by omega) (by first | omega | (simp; omega) | (simp_all; omega)) ?_
        exact A.hereK [0] (by exact ⟨rfl, rfl, rfl, rfl, rfl, rfl, trivial⟩) (by kernel_rfl)
    · skip
      have p1 := of_decide_eq_false e1
      refine A.exit (A.te (A.te (A.bh (A.tn (A.seq (A.seq (A.region (A.goA [.p, .p] [(1, i_ a), (5, vS ao (withK ol a k) co), (32, b_ (!(putK ol a k)))] [] T0 (by kernel_rfl) trivial ?_))))))))
      refine A.tn (A.cond (E := !(putK ol a k)) rfl (fun e3 => ?_) (fun e3 => ?_))
      · skip
        have p3 := e3; try simp only [nrm] at p3
        refine A.region (A.goP [.p, .p] [(5, vS ao (withK ol a k) co), (33, vS ao (withK ol a k) co), (34, i_ a)] [] T0 (by kernel_rfl) trivial ?_)
        refine A.cons (A.buildSlice 35 (e := 3) [i_ a] (by kernel_rfl) rfl (fun _ => by kernel_rfl) (fun b9 => [sI ao (withK ol a k) co, blk b9 [i_ a] 3]) (fun _ => rfl) ?_)
        intro b9
        refine A.cons (A.appendC (enc := encI) (xs := (withK ol a k)) ([a]) 0 36 (e := 3) (z := (i_ 0)) (sz := 1) (by_ := 8) (by kernel_rfl) rfl rfl rfl (by kernel_rfl) (by kernel_rfl) (by rfl) (by decide) encI_len encI_one rfl (rd_blk (i := 1) rfl) (by (simp; omega)) (fun A10 c10 => [sI A10 ((withK ol a k) ++ ([a])) c10, blk b9 [i_ a] 3]) (fun _ _ => rfl) ?_)
        intro A10 c10
        refine A.goA [.p] [(5, vS A10 ((withK ol a k) ++ ([a])) c10)] [] T0 (by kernel_rfl) trivial ?_
        refine A.tn (A.seq (A.region (A.goA [.p, .p] [(4, vS A10 ((withK ol a k) ++ ([a])) c10)] [] T0 (by kernel_rfl) trivial ?_)))
        refine A.tn (A.ret (A.setH [sI A10 (withL ol a) c10, blk b9 [i_ a] 3] (cc (slC (by first | rfl | exact (with_e hr (by assumption) (by assumption)).1 | exact (with_e hr (by assumption) (by assumption)).2 | exact (with_i hr (by assumption) (by assumption)).1 | exact (with_i hr (by assumption) (by assumption)).2 | exact withK_t (by omega) (by assumption) | exact withK_f (by omega) (by assumption) | (rw [putK_s (by assumption)]; simp_all; done) | (rw [putK_s (by assumption)]; simp [*]; done) | (simp [putK]; done) | (simp [withK, putK]; done) : (withK ol a k) ++ ([a]) = (withL ol a))) rfl) ?_))
        refine A.postK [0] [vS A10 ((withK ol a k) ++ ([a])) c10] (fun aa ww rr ss => ⟨rv_tmp rr rfl, trivial⟩) (A10, c10) ?_ ?_ (by kernel_rfl)
        · show ((vS A10 ((withK ol a k) ++ ([a])) c10) : Value) = (vS A10 (withL ol a) c10)
          first | rw [withK_t (by omega) (by assumption)] | rw [withK_f (by omega) (by assumption)]
        · trivial
      · skip
        have p3 := e3; try simp only [nrm] at p3
        refine A.skip (A.tn (A.seq (A.region (A.goA [.p, .p] [(4, vS ao (withK ol a k) co)] [] T0 (by kernel_rfl) trivial ?_))))
        refine A.tn (A.ret (A.setH [sI ao (withL ol a) co] (cc (slC (by first | rfl | exact (with_e hr (by assumption) (by assumption)).1 | exact (with_e hr (by assumption) (by assumption)).2 | exact (with_i hr (by assumption) (by assumption)).1 | exact (with_i hr (by assumption) (by assumption)).2 | exact withK_t (by omega) (by assumption) | exact withK_f (by omega) (by assumption) | (rw [putK_s (by assumption)]; simp_all; done) | (rw [putK_s (by assumption)]; simp [*]; done) | (simp [putK]; done) | (simp [withK, putK]; done) : (withK ol a k) = (withL ol a))) rfl) ?_))
        refine A.postK [0] [vS ao (withK ol a k) co] (fun aa ww rr ss => ⟨rv_tmp rr rfl, trivial⟩) (ao, co) ?_ ?_ (by kernel_rfl)
        · show ((vS ao (withK ol a k) co) : Value) = (vS ao (withL ol a) co)
          first | rw [withK_t (by omega) (by assumption)] | rw [withK_f (by omega) (by assumption)]
        · trivial

set_option maxHeartbeats 4000000 in
set_option maxRecDepth 100000 in
theorem wo23_spec (bl : Option Addr) (ol : List Int) (dl : Nat) (a : Int) (ho : ol.length ≤ 1000) (w : World) (r0 : arrAt w bl (V.flat encI ol)) (hs : HS w (feet []) [] w) :
    Calls Try.prog 28 #[vS bl ol dl, i_ a] w fun e w' => ∃ zz, e = .returned ((fun (zz : (Option Addr) × Nat) => match zz with | (al', cl') => (vS al' (woI a ol) cl')) zz) ∧ (fun (zz : (Option Addr) × Nat) => match zz with | (al', cl') => True) zz ∧ Turn [] ((fun (zz : (Option Addr) × Nat) => match zz with | (al', cl') => [sI al' (woI a ol) cl']) zz) w w' := by
  refine calls_of (args := [vS bl ol dl, i_ a]) (penv [vS bl ol dl, i_ a]) (feet []) [] Try.func28 rfl rfl (look_penv _) hs ?_
  refine A.norm [(0, vS bl ol dl), (1, i_ a)] [] (by exact ⟨rfl, rfl, trivial⟩) rfl ?_
  refine A.seq (A.region (A.goA [.p] [(0, vS bl ol dl), (1, i_ a)] [] T0 (by kernel_rfl) trivial ?_))
  refine A.tn (A.seq (A.region (A.goA [.p] [(0, vS bl ol dl), (1, i_ a), (5, e_)] [] T0 (by kernel_rfl) trivial ?_)))
  refine A.tn (A.seq (A.seq (A.region (A.goA [.p, .p, .p] [(1, i_ a), (5, e_), (8, vS bl ol dl), (9, c_ ol.length), (10, i_ 0)] [] T0 (by kernel_rfl) trivial ?_))))
  refine A.tn (A.block (A.ownNil 3 1 [sI none ([] : List Int) 0] rfl ?_))
  refine A.setH [sI none (woI a (ol.take 0)) 0] (cc (slC (by first | rfl | (rw [take_snoc (by assumption), woI_snoc]; simp_all; done) | (simp [woI]; done) | (rw [List.take_of_length_le (by omega)]) : ([] : List Int) = (woI a (ol.take 0)))) rfl) ?_
  refine A.sub [(1, i_ a), (5, vS none (woI a (ol.take 0)) 0), (8, vS bl ol dl), (9, c_ ol.length), (10, i_ 0)] (by exact ⟨rfl, congrArg (fun z_ : List Int => some (Value.slice none z_.length 0)) (by first | rfl | (rw [take_snoc (by assumption), woI_snoc]; simp_all; done) | (simp [woI]; done) | (rw [List.take_of_length_le (by omega)]) : ([] : List Int) = (woI a (ol.take 0))), rfl, rfl, rfl, trivial⟩) ?_
  refine A.loop (fun (zz : Nat × (Option Addr) × Nat) => match zz with | (k, ao, co) => [(1, i_ a), (8, vS bl ol dl), (9, c_ ol.length), (10, c_ k), (5, vS ao (woI a (ol.take k)) co)]) (fun (zz : Nat × (Option Addr) × Nat) => match zz with | (k, ao, co) => [sI ao (woI a (ol.take k)) co]) (fun (zz : Nat × (Option Addr) × Nat) => match zz with | (k, ao, co) => (k ≤ ol.length)) (fun (zz : Nat × (Option Addr) × Nat) => match zz with | (k, ao, co) => ol.length - k) (0, none, 0) (by first | assumption | omega | (simp_all; done) | (simp_all; omega) | grind) ?_ ?_
  · exact A.hereK [0] (by exact ⟨rfl, rfl, rfl, rfl, rfl, trivial⟩) (by kernel_rfl)
  · rintro ⟨k, ao, co⟩ hk
    have hk : k ≤ ol.length := hk
    have hdl : (woI a (ol.take k)).length ≤ k := Nat.le_trans (woI_len _ _) (by simp; omega)
    refine A.norm [(1, i_ a), (8, vS bl ol dl), (9, c_ ol.length), (10, c_ k), (5, vS ao (woI a (ol.take k)) co)] [sI ao (woI a (ol.take k)) co] (by exact ⟨rfl, rfl, rfl, rfl, rfl, trivial⟩) rfl ?_
    refine A.seq (A.region (A.goA [.p] [(1, i_ a), (8, vS bl ol dl), (9, c_ ol.length), (10, c_ k), (5, vS ao (woI a (ol.take k)) co), (11, b_ (decide ((k : Int) < (ol.length : Int))))] [] T0 (by kernel_rfl) trivial ?_))
    refine A.tn (A.seq (A.cond (E := decide ((k : Int) < (ol.length : Int))) rfl (fun e1 => ?_) (fun e1 => ?_)))
    · skip
      have p1 := of_decide_eq_true e1
      refine A.skip (A.tn (A.seq (A.block (A.seq (A.region (A.goP [.ix] [(1, i_ a), (8, vS bl ol dl), (9, c_ ol.length), (10, c_ k), (5, vS ao (woI a (ol.take k)) co), (12, (.pointer (some ((at0 bl).add (k * 1)))))] [] (fun κ => κ.ix bl ol.length (k : Int) ∧ True) (by kernel_rfl) ⟨(ixOf encI_len (by decide) (rd_old r0 (by simp [feet])) (by first | omega | (simp; omega) | (simp; done))), trivial⟩ ?_))))))
      obtain ⟨x2, hx2⟩ : ∃ x, (ol)[k]? = some x := ⟨_, List.getElem?_eq_getElem (by omega)⟩
      refine A.goA [.rd [i_ x2], .p] [(1, i_ a), (8, vS bl ol dl), (9, c_ ol.length), (10, c_ k), (5, vS ao (woI a (ol.take k)) co), (7, i_ x2)] [] (fun κ => κ.rd ((at0 bl).add (k * 1)) [i_ x2] ∧ True) (by kernel_rfl) ⟨(reads_at0 (vs := [i_ x2]) encI_len (rd_old r0 (by simp [feet])) hx2 (Nat.le_of_ble_eq_true rfl) rfl), trivial⟩ ?_
      refine A.tn (A.seq (A.region (A.goA [.p, .p, .p] [(1, i_ a), (8, vS bl ol dl), (9, c_ ol.length), (10, c_ k), (5, vS ao (woI a (ol.take k)) co), (7, i_ x2), (16, b_ (x2 != a))] [] T0 (by kernel_rfl) trivial ?_)))
      refine A.tn (A.cond (E := x2 != a) rfl (fun e2 => ?_) (fun e2 => ?_))
      · skip
        have p2 := e2; try simp only [nrm] at p2
        refine A.region (A.goP [.p, .p] [(1, i_ a), (8, vS bl ol dl), (9, c_ ol.length), (10, c_ k), (5, vS ao (woI a (ol.take k)) co), (17, vS ao (woI a (ol.take k)) co), (18, i_ x2)] [] T0 (by kernel_rfl) trivial ?_)
        refine A.cons (A.buildSlice 19 (e := 3) [i_ x2] (by kernel_rfl) rfl (fun _ => by kernel_rfl) (fun b3 => [sI ao (woI a (ol.take k)) co, blk b3 [i_ x2] 3]) (fun _ => rfl) ?_)
        intro b3
        refine A.cons (A.appendC (enc := encI) (xs := (woI a (ol.take k))) ([x2]) 0 20 (e := 3) (z := (i_ 0)) (sz := 1) (by_ := 8) (by kernel_rfl) rfl rfl rfl (by kernel_rfl) (by kernel_rfl) (by rfl) (by decide) encI_len encI_one rfl (rd_blk (i := 1) rfl) (by (simp; omega)) (fun A4 c4 => [sI A4 ((woI a (ol.take k)) ++ ([x2])) c4, blk b3 [i_ x2] 3]) (fun _ _ => rfl) ?_)
        intro A4 c4
        refine A.goA [.p] [(1, i_ a), (8, vS bl ol dl), (9, c_ ol.length), (10, c_ k), (5, vS A4 ((woI a (ol.take k)) ++ ([x2])) c4)] [] T0 (by kernel_rfl) trivial ?_
        refine A.bn (A.tn (A.region (A.goA [.w ((k : Int) + 1), .p] [(1, i_ a), (8, vS bl ol dl), (9, c_ ol.length), (10, i_ ((k : Int) + 1)), (5, vS A4 ((woI a (ol.take k)) ++ ([x2])) c4)] [] (fun κ => (IntKind.i64.wrap ((k : Int) + 1) = ((k : Int) + 1)) ∧ True) (by kernel_rfl) ⟨(wrap_i64 (e := (k : Int) + 1) (by constructor <;> omega)), trivial⟩ ?_)))
        refine A.tn (A.setH [sI A4 (woI a (ol.take (k + 1))) c4, blk b3 [i_ x2] 3] (cc (slC (by first | rfl | (rw [take_snoc (by assumption), woI_snoc]; simp_all; done) | (simp [woI]; done) | (rw [List.take_of_length_le (by omega)]) : (woI a (ol.take k)) ++ ([x2]) = (woI a (ol.take (k + 1))))) rfl) ?_)
        refine A.sub [(1, i_ a), (8, vS bl ol dl), (9, c_ ol.length), (10, i_ ((k : Int) + 1)), (5, vS A4 (woI a (ol.take (k + 1))) c4)] (by exact ⟨rfl, rfl, rfl, rfl, congrArg (fun z_ : List Int => some (Value.slice A4 z_.length c4)) (by first | rfl | (rw [take_snoc (by assumption), woI_snoc]; simp_all; done) | (simp [woI]; done) | (rw [List.take_of_length_le (by omega)]) : (woI a (ol.take k)) ++ ([x2]) = (woI a (ol.take (k + 1)))), trivial⟩) ?_
        refine A.next (k + 1, A4, c4) (by first | assumption | omega | (simp_all; done) | (simp_all; omega) | grind) (by first | omega | (simp; omega) | (simp_all; omega)) ?_
        exact A.hereK [0] (by exact ⟨rfl, rfl, rfl, rfl, rfl, trivial⟩) (by kernel_rfl)
      · skip
        have p2 := e2; try simp only [nrm] at p2
        refine A.skip (A.bn (A.tn (A.region (A.goA [.w ((k : Int) + 1), .p] [(1, i_ a), (8, vS bl ol dl), (9, c_ ol.length), (10, i_ ((k : Int) + 1)), (5, vS ao (woI a (ol.take k)) co)] [] (fun κ => (IntKind.i64.wrap ((k : Int) + 1) = ((k : Int) + 1)) ∧ True) (by kernel_rfl) ⟨(wrap_i64 (e := (k : Int) + 1) (by constructor <;> omega)), trivial⟩ ?_))))
        refine A.tn (A.setH [sI ao (woI a (ol.take (k + 1))) co] (cc (slC (by first | rfl | (rw [take_snoc (by assumption), woI_snoc]; simp_all; done) | (simp [woI]; done) | (rw [List.take_of_length_le (by omega)]) : (woI a (ol.take k)) = (woI a (ol.take (k + 1))))) rfl) ?_)
        refine A.sub [(1, i_ a), (8, vS bl ol dl), (9, c_ ol.length), (10, i_ ((k : Int) + 1)), (5, vS ao (woI a (ol.take (k + 1))) co)] (by exact ⟨rfl, rfl, rfl, rfl, congrArg (fun z_ : List Int => some (Value.slice ao z_.length co)) (by first | rfl | (rw [take_snoc (by assumption), woI_snoc]; simp_all; done) | (simp [woI]; done) | (rw [List.take_of_length_le (by omega)]) : (woI a (ol.take k)) = (woI a (ol.take (k + 1)))), trivial⟩) ?_
        refine A.next (k + 1, ao, co) (by first | assumption | omega | (simp_all; done) | (simp_all; omega) | grind) (by first | omega | (simp; omega) | (simp_all; omega)) ?_
        exact A.hereK [0] (by exact ⟨rfl, rfl, rfl, rfl, rfl, trivial⟩) (by kernel_rfl)
    · skip
      have p1 := of_decide_eq_false e1
      refine A.exit (A.te (A.te (A.bh (A.tn (A.seq (A.region (A.goA [.p, .p] [(4, vS ao (woI a (ol.take k)) co)] [] T0 (by kernel_rfl) trivial ?_)))))))
      refine A.tn (A.ret (A.setH [sI ao (woI a ol) co] (cc (slC (by first | rfl | (rw [take_snoc (by assumption), woI_snoc]; simp_all; done) | (simp [woI]; done) | (rw [List.take_of_length_le (by omega)]) : (woI a (ol.take k)) = (woI a ol))) rfl) ?_))
      refine A.postK [0] [vS ao (woI a (ol.take k)) co] (fun aa ww rr ss => ⟨rv_tmp rr rfl, trivial⟩) (ao, co) ?_ ?_ (by kernel_rfl)
      · show ((vS ao (woI a (ol.take k)) co) : Value) = (vS ao (woI a ol) co)
        rw [List.take_of_length_le (by omega)]
      · trivial

set_option maxHeartbeats 4000000 in
set_option maxRecDepth 100000 in
theorem trn_spec (al : Option Addr) (l : List Cl) (cl : Nat) (bl : Option Addr) (ol : List Int) (dl : Nat) (el : Option Addr) (om : List Int) (fl : Nat) (a : Int) (hl : l.length ≤ 100000) (ho : ol.length ≤ 1000) (hq : om.length ≤ 1000) (w : World) (r0 : arrAt w al (V.flat encCl l)) (r1 : arrAt w bl (V.flat encI ol)) (r2 : arrAt w el (V.flat encI om)) (hs : HS w (feet []) [] w) :
    Calls Try.prog 30 #[vS al l cl, vS bl ol dl, vS el om fl, i_ a] w fun e w' => ∃ zz, e = .returned ((fun (zz : (Option Addr) × Nat) => match zz with | (al', cl') => (vS al' (trnR l ol om (upL (kvl l) a (upD l a))) cl')) zz) ∧ (fun (zz : (Option Addr) × Nat) => match zz with | (al', cl') => True) zz ∧ Turn [] ((fun (zz : (Option Addr) × Nat) => match zz with | (al', cl') => [sI al' (trnR l ol om (upL (kvl l) a (upD l a))) cl']) zz) w w' := by
  refine calls_of (args := [vS al l cl, vS bl ol dl, vS el om fl, i_ a]) (penv [vS al l cl, vS bl ol dl, vS el om fl, i_ a]) (feet []) [] Try.func30 rfl rfl (look_penv _) hs ?_
  refine A.norm [(0, vS al l cl), (1, vS bl ol dl), (2, vS el om fl), (3, i_ a)] [] (by exact ⟨rfl, rfl, rfl, rfl, trivial⟩) rfl ?_
  refine A.seq (A.region (A.goA [.p] [(0, vS al l cl), (1, vS bl ol dl), (2, vS el om fl), (3, i_ a)] [] T0 (by kernel_rfl) trivial ?_))
  refine A.tn (A.seq (A.region (A.goA [.p] [(0, vS al l cl), (1, vS bl ol dl), (2, vS el om fl), (3, i_ a), (9, e_)] [] T0 (by kernel_rfl) trivial ?_)))
  refine A.tn (A.seq (A.seq (A.region (A.goP [.p, .p] [(0, vS al l cl), (1, vS bl ol dl), (2, vS el om fl), (9, e_), (12, vS al l cl), (13, i_ a)] [] T0 (by kernel_rfl) trivial ?_))))
  refine A.cons (A.callT (some 14) [vS al l cl, i_ a] [] ((fun zz => match zz with | (al'1, cl'2) => (vS al'1 (upL (kvl l) a (upD l a)) cl'2))) ((fun zz => match zz with | (al'1, cl'2) => True)) ((fun zz => match zz with | (al'1, cl'2) => [sI al'1 (upL (kvl l) a (upD l a)) cl'2])) (fun zz => match zz with | (al'1, cl'2) => [sI al'1 (upL (kvl l) a (upD l a)) cl'2]) (by kernel_rfl) rfl rfl (fun ww ss hh => upR_spec al l cl a (by first | assumption | omega) ww ((rd_old r0 (by simp [feet])) ww ss) hh) (fun _ => rfl) ?_)
  rintro ⟨al'1, cl'2⟩ -
  refine A.goA [.p, .p] [(0, vS al l cl), (1, vS bl ol dl), (2, vS el om fl), (9, e_), (14, vS al'1 (upL (kvl l) a (upD l a)) cl'2), (15, i_ ((upL (kvl l) a (upD l a)).length : Int)), (16, i_ 0)] [] T0 (by kernel_rfl) trivial ?_
  refine A.tn (A.block (A.ownNil 3 1 [sI al'1 (upL (kvl l) a (upD l a)) cl'2, sI none ([] : List Int) 0] rfl ?_))
  refine A.setH [sI al'1 (upL (kvl l) a (upD l a)) cl'2, sI none (trnR l ol om ((upL (kvl l) a (upD l a)).take 0)) 0] (cc rfl (cc (slC (by first | rfl | (rw [take_snoc (by assumption), trnR_snoc]; simp_all; done) | (simp [trnR]; done) | (rw [List.take_of_length_le (by omega)]) : ([] : List Int) = (trnR l ol om ((upL (kvl l) a (upD l a)).take 0)))) rfl)) ?_
  refine A.sub [(0, vS al l cl), (1, vS bl ol dl), (2, vS el om fl), (9, vS none (trnR l ol om ((upL (kvl l) a (upD l a)).take 0)) 0), (14, vS al'1 (upL (kvl l) a (upD l a)) cl'2), (15, i_ ((upL (kvl l) a (upD l a)).length : Int)), (16, i_ 0)] (by exact ⟨rfl, rfl, rfl, congrArg (fun z_ : List Int => some (Value.slice none z_.length 0)) (by first | rfl | (rw [take_snoc (by assumption), trnR_snoc]; simp_all; done) | (simp [trnR]; done) | (rw [List.take_of_length_le (by omega)]) : ([] : List Int) = (trnR l ol om ((upL (kvl l) a (upD l a)).take 0))), rfl, rfl, rfl, trivial⟩) ?_
  refine A.loop (fun (zz : Nat × (Option Addr) × Nat) => match zz with | (k, ao, co) => [(0, vS al l cl), (1, vS bl ol dl), (2, vS el om fl), (14, vS al'1 (upL (kvl l) a (upD l a)) cl'2), (15, i_ ((upL (kvl l) a (upD l a)).length : Int)), (16, c_ k), (9, vS ao (trnR l ol om ((upL (kvl l) a (upD l a)).take k)) co)]) (fun (zz : Nat × (Option Addr) × Nat) => match zz with | (k, ao, co) => [sI ao (trnR l ol om ((upL (kvl l) a (upD l a)).take k)) co, sI al'1 (upL (kvl l) a (upD l a)) cl'2]) (fun (zz : Nat × (Option Addr) × Nat) => match zz with | (k, ao, co) => (k ≤ (upL (kvl l) a (upD l a)).length)) (fun (zz : Nat × (Option Addr) × Nat) => match zz with | (k, ao, co) => (upL (kvl l) a (upD l a)).length - k) (0, none, 0) (by first | assumption | omega | (simp_all; done) | (simp_all; omega) | grind) ?_ ?_
  · exact A.hereK [1, 0] (by exact ⟨rfl, rfl, rfl, rfl, rfl, rfl, rfl, trivial⟩) (by kernel_rfl)
  · rintro ⟨k, ao, co⟩ hk
    have hk : k ≤ (upL (kvl l) a (upD l a)).length := hk
    have hdl : (trnR l ol om ((upL (kvl l) a (upD l a)).take k)).length ≤ k := Nat.le_trans (trnR_len _ _ _ _) (by simp; omega)
    have hul : (upL (kvl l) a (upD l a)).length ≤ 70 := (by rw [upL_len]; exact depN_le _ _ _)
    refine A.norm [(0, vS al l cl), (1, vS bl ol dl), (2, vS el om fl), (14, vS al'1 (upL (kvl l) a (upD l a)) cl'2), (15, i_ ((upL (kvl l) a (upD l a)).length : Int)), (16, c_ k), (9, vS ao (trnR l ol om ((upL (kvl l) a (upD l a)).take k)) co)] [sI ao (trnR l ol om ((upL (kvl l) a (upD l a)).take k)) co, sI al'1 (upL (kvl l) a (upD l a)) cl'2] (by exact ⟨rfl, rfl, rfl, rfl, rfl, rfl, rfl, trivial⟩) rfl ?_
    refine A.seq (A.region (A.goA [.p] [(0, vS al l cl), (1, vS bl ol dl), (2, vS el om fl), (14, vS al'1 (upL (kvl l) a (upD l a)) cl'2), (15, i_ ((upL (kvl l) a (upD l a)).length : Int)), (16, c_ k), (9, vS ao (trnR l ol om ((upL (kvl l) a (upD l a)).take k)) co), (17, b_ (decide ((k : Int) < ((upL (kvl l) a (upD l a)).length : Int))))] [] T0 (by kernel_rfl) trivial ?_))
    refine A.tn (A.seq (A.cond (E := decide ((k : Int) < ((upL (kvl l) a (upD l a)).length : Int))) rfl (fun e2 => ?_) (fun e2 => ?_)))
    · skip
      have p2 := of_decide_eq_true e2
      refine A.skip (A.tn (A.seq (A.block (A.seq (A.region (A.goP [.ix] [(0, vS al l cl), (1, vS bl ol dl), (2, vS el om fl), (14, vS al'1 (upL (kvl l) a (upD l a)) cl'2), (15, i_ ((upL (kvl l) a (upD l a)).length : Int)), (16, c_ k), (9, vS ao (trnR l ol om ((upL (kvl l) a (upD l a)).take k)) co), (18, (.pointer (some ((at0 al'1).add (k * 1)))))] [] (fun κ => κ.ix al'1 ((upL (kvl l) a (upD l a)).length) (k : Int) ∧ True) (by kernel_rfl) ⟨(ixOf encI_len (by decide) (rd_sl (i := 1) rfl) (by first | omega | (simp; omega) | (simp; done))), trivial⟩ ?_))))))
      obtain ⟨x5, hx5⟩ : ∃ x, ((upL (kvl l) a (upD l a)))[k]? = some x := ⟨_, List.getElem?_eq_getElem (by omega)⟩
      refine A.goA [.rd [i_ x5], .p] [(0, vS al l cl), (1, vS bl ol dl), (2, vS el om fl), (14, vS al'1 (upL (kvl l) a (upD l a)) cl'2), (15, i_ ((upL (kvl l) a (upD l a)).length : Int)), (16, c_ k), (9, vS ao (trnR l ol om ((upL (kvl l) a (upD l a)).take k)) co), (11, i_ x5)] [] (fun κ => κ.rd ((at0 al'1).add (k * 1)) [i_ x5] ∧ True) (by kernel_rfl) ⟨(reads_at0 (vs := [i_ x5]) encI_len (rd_sl (i := 1) rfl) hx5 (Nat.le_of_ble_eq_true rfl) rfl), trivial⟩ ?_
      refine A.tn (A.seq (A.region (A.goP [.p, .p, .p] [(0, vS al l cl), (1, vS bl ol dl), (2, vS el om fl), (14, vS al'1 (upL (kvl l) a (upD l a)) cl'2), (15, i_ ((upL (kvl l) a (upD l a)).length : Int)), (16, c_ k), (9, vS ao (trnR l ol om ((upL (kvl l) a (upD l a)).take k)) co), (11, i_ x5), (20, vS al l cl), (21, vS bl ol dl), (22, i_ x5)] [] T0 (by kernel_rfl) trivial ?_)))
      refine A.cons (A.callT (some 23) [vS al l cl, vS bl ol dl, i_ x5] [] ((fun _ => (b_ (isR l ol x5)))) ((fun _ => True)) ((fun _ => [])) (fun _ => [sI ao (trnR l ol om ((upL (kvl l) a (upD l a)).take k)) co, sI al'1 (upL (kvl l) a (upD l a)) cl'2]) (by kernel_rfl) rfl rfl (fun ww ss hh => is23_spec al l cl bl ol dl x5 (by first | assumption | omega) (by first | assumption | omega) ww ((rd_old r0 (by simp [feet])) ww ss) ((rd_old r1 (by simp [feet])) ww ss) hh) (fun _ => rfl) ?_)
      rintro ⟨⟩ -
      refine A.goP [.p] [(0, vS al l cl), (1, vS bl ol dl), (2, vS el om fl), (14, vS al'1 (upL (kvl l) a (upD l a)) cl'2), (15, i_ ((upL (kvl l) a (upD l a)).length : Int)), (16, c_ k), (9, vS ao (trnR l ol om ((upL (kvl l) a (upD l a)).take k)) co), (11, i_ x5), (24, b_ (isR l ol x5))] [] T0 (by kernel_rfl) trivial ?_
      refine A.bool ((isR l ol x5)) (fun e4 => ?_) (fun e4 => ?_)
      · skip
        refine A.sub [(0, vS al l cl), (1, vS bl ol dl), (2, vS el om fl), (14, vS al'1 (upL (kvl l) a (upD l a)) cl'2), (15, i_ ((upL (kvl l) a (upD l a)).length : Int)), (16, c_ k), (9, vS ao (trnR l ol om ((upL (kvl l) a (upD l a)).take k)) co), (11, i_ x5), (24, b_ true)] (by exact ⟨rfl, rfl, rfl, rfl, rfl, rfl, rfl, rfl, congrArg (fun z => some (Value.bool z)) e4, trivial⟩) ?_
        refine A.goP [.p, .p, .p] [(0, vS al l cl), (1, vS bl ol dl), (2, vS el om fl), (14, vS al'1 (upL (kvl l) a (upD l a)) cl'2), (15, i_ ((upL (kvl l) a (upD l a)).length : Int)), (16, c_ k), (9, vS ao (trnR l ol om ((upL (kvl l) a (upD l a)).take k)) co), (11, i_ x5), (24, b_ true), (25, vS al l cl), (26, vS el om fl), (27, i_ x5)] [] T0 (by kernel_rfl) trivial ?_
        refine A.cons (A.callT (some 28) [vS al l cl, vS el om fl, i_ x5] [] ((fun _ => (b_ (isR l om x5)))) ((fun _ => True)) ((fun _ => [])) (fun _ => [sI ao (trnR l ol om ((upL (kvl l) a (upD l a)).take k)) co, sI al'1 (upL (kvl l) a (upD l a)) cl'2]) (by kernel_rfl) rfl rfl (fun ww ss hh => is23_spec al l cl el om fl x5 (by first | assumption | omega) (by first | assumption | omega) ww ((rd_old r0 (by simp [feet])) ww ss) ((rd_old r2 (by simp [feet])) ww ss) hh) (fun _ => rfl) ?_)
        rintro ⟨⟩ -
        refine A.goA [.p, .p] [(0, vS al l cl), (1, vS bl ol dl), (2, vS el om fl), (14, vS al'1 (upL (kvl l) a (upD l a)) cl'2), (15, i_ ((upL (kvl l) a (upD l a)).length : Int)), (16, c_ k), (9, vS ao (trnR l ol om ((upL (kvl l) a (upD l a)).take k)) co), (11, i_ x5), (25, vS al l cl), (26, vS el om fl), (27, i_ x5), (28, b_ (isR l om x5)), (29, b_ (!(isR l om x5))), (30, b_ (!(isR l om x5)))] [] T0 (by kernel_rfl) trivial ?_
        refine A.tn (A.cond (E := !(isR l om x5)) rfl (fun e6 => ?_) (fun e6 => ?_))
        · skip
          have p6 := e6; try simp only [nrm] at p6
          refine A.region (A.goP [.p, .p] [(0, vS al l cl), (1, vS bl ol dl), (2, vS el om fl), (14, vS al'1 (upL (kvl l) a (upD l a)) cl'2), (15, i_ ((upL (kvl l) a (upD l a)).length : Int)), (16, c_ k), (9, vS ao (trnR l ol om ((upL (kvl l) a (upD l a)).take k)) co), (25, vS al l cl), (26, vS el om fl), (27, i_ x5), (28, b_ (isR l om x5)), (29, b_ (!(isR l om x5))), (31, vS ao (trnR l ol om ((upL (kvl l) a (upD l a)).take k)) co), (32, i_ x5)] [] T0 (by kernel_rfl) trivial ?_)
          refine A.cons (A.buildSlice 33 (e := 3) [i_ x5] (by kernel_rfl) rfl (fun _ => by kernel_rfl) (fun b6 => [sI ao (trnR l ol om ((upL (kvl l) a (upD l a)).take k)) co, sI al'1 (upL (kvl l) a (upD l a)) cl'2, blk b6 [i_ x5] 3]) (fun _ => rfl) ?_)
          intro b6
          refine A.cons (A.appendC (enc := encI) (xs := (trnR l ol om ((upL (kvl l) a (upD l a)).take k))) ([x5]) 0 34 (e := 3) (z := (i_ 0)) (sz := 1) (by_ := 8) (by kernel_rfl) rfl rfl rfl (by kernel_rfl) (by kernel_rfl) (by rfl) (by decide) encI_len encI_one rfl (rd_blk (i := 2) rfl) (by (simp; omega)) (fun A7 c7 => [sI A7 ((trnR l ol om ((upL (kvl l) a (upD l a)).take k)) ++ ([x5])) c7, sI al'1 (upL (kvl l) a (upD l a)) cl'2, blk b6 [i_ x5] 3]) (fun _ _ => rfl) ?_)
          intro A7 c7
          refine A.goA [.p] [(0, vS al l cl), (1, vS bl ol dl), (2, vS el om fl), (14, vS al'1 (upL (kvl l) a (upD l a)) cl'2), (15, i_ ((upL (kvl l) a (upD l a)).length : Int)), (16, c_ k), (9, vS A7 ((trnR l ol om ((upL (kvl l) a (upD l a)).take k)) ++ ([x5])) c7), (25, vS al l cl), (26, vS el om fl), (27, i_ x5), (28, b_ (isR l om x5)), (29, b_ (!(isR l om x5)))] [] T0 (by kernel_rfl) trivial ?_
          refine A.bn (A.tn (A.region (A.goA [.w ((k : Int) + 1), .p] [(0, vS al l cl), (1, vS bl ol dl), (2, vS el om fl), (14, vS al'1 (upL (kvl l) a (upD l a)) cl'2), (15, i_ ((upL (kvl l) a (upD l a)).length : Int)), (16, i_ ((k : Int) + 1)), (9, vS A7 ((trnR l ol om ((upL (kvl l) a (upD l a)).take k)) ++ ([x5])) c7), (25, vS al l cl), (26, vS el om fl), (27, i_ x5), (28, b_ (isR l om x5)), (29, b_ (!(isR l om x5)))] [] (fun κ => (IntKind.i64.wrap ((k : Int) + 1) = ((k : Int) + 1)) ∧ True) (by kernel_rfl) ⟨(wrap_i64 (e := (k : Int) + 1) (by constructor <;> omega)), trivial⟩ ?_)))
          refine A.tn (A.setH [sI A7 (trnR l ol om ((upL (kvl l) a (upD l a)).take (k + 1))) c7, sI al'1 (upL (kvl l) a (upD l a)) cl'2, blk b6 [i_ x5] 3] (cc (slC (by first | rfl | (rw [take_snoc (by assumption), trnR_snoc]; simp_all; done) | (simp [trnR]; done) | (rw [List.take_of_length_le (by omega)]) : (trnR l ol om ((upL (kvl l) a (upD l a)).take k)) ++ ([x5]) = (trnR l ol om ((upL (kvl l) a (upD l a)).take (k + 1))))) rfl) ?_)
          refine A.sub [(0, vS al l cl), (1, vS bl ol dl), (2, vS el om fl), (14, vS al'1 (upL (kvl l) a (upD l a)) cl'2), (15, i_ ((upL (kvl l) a (upD l a)).length : Int)), (16, i_ ((k : Int) + 1)), (9, vS A7 (trnR l ol om ((upL (kvl l) a (upD l a)).take (k + 1))) c7), (25, vS al l cl), (26, vS el om fl), (27, i_ x5), (28, b_ (isR l om x5)), (29, b_ (!(isR l om x5)))] (by exact ⟨rfl, rfl, rfl, rfl, rfl, rfl, congrArg (fun z_ : List Int => some (Value.slice A7 z_.length c7)) (by first | rfl | (rw [take_snoc (by assumption), trnR_snoc]; simp_all; done) | (simp [trnR]; done) | (rw [List.take_of_length_le (by omega)]) : (trnR l ol om ((upL (kvl l) a (upD l a)).take k)) ++ ([x5]) = (trnR l ol om ((upL (kvl l) a (upD l a)).take (k + 1)))), rfl, rfl, rfl, rfl, rfl, trivial⟩) ?_
          refine A.next (k + 1, A7, c7) (by first | assumption | omega | (simp_all; done) | (simp_all; omega) | grind) (by first | omega | (simp; omega) | (simp_all; omega)) ?_
          exact A.hereK [0, 0] (by exact ⟨rfl, rfl, rfl, rfl, rfl, rfl, rfl, trivial⟩) (by kernel_rfl)
        · skip
          have p6 := e6; try simp only [nrm] at p6
          refine A.skip (A.bn (A.tn (A.region (A.goA [.w ((k : Int) + 1), .p] [(0, vS al l cl), (1, vS bl ol dl), (2, vS el om fl), (14, vS al'1 (upL (kvl l) a (upD l a)) cl'2), (15, i_ ((upL (kvl l) a (upD l a)).length : Int)), (16, i_ ((k : Int) + 1)), (9, vS ao (trnR l ol om ((upL (kvl l) a (upD l a)).take k)) co), (25, vS al l cl), (26, vS el om fl), (27, i_ x5), (28, b_ (isR l om x5)), (29, b_ (!(isR l om x5)))] [] (fun κ => (IntKind.i64.wrap ((k : Int) + 1) = ((k : Int) + 1)) ∧ True) (by kernel_rfl) ⟨(wrap_i64 (e := (k : Int) + 1) (by constructor <;> omega)), trivial⟩ ?_))))
          refine A.tn (A.setH [sI ao (trnR l ol om ((upL (kvl l) a (upD l a)).take (k + 1))) co, sI al'1 (upL (kvl l) a (upD l a)) cl'2] (cc (slC (by first | rfl | (rw [take_snoc (by assumption), trnR_snoc]; simp_all; done) | (simp [trnR]; done) | (rw [List.take_of_length_le (by omega)]) : (trnR l ol om ((upL (kvl l) a (upD l a)).take k)) = (trnR l ol om ((upL (kvl l) a (upD l a)).take (k + 1))))) rfl) ?_)
          refine A.sub [(0, vS al l cl), (1, vS bl ol dl), (2, vS el om fl), (14, vS al'1 (upL (kvl l) a (upD l a)) cl'2), (15, i_ ((upL (kvl l) a (upD l a)).length : Int)), (16, i_ ((k : Int) + 1)), (9, vS ao (trnR l ol om ((upL (kvl l) a (upD l a)).take (k + 1))) co), (25, vS al l cl), (26, vS el om fl), (27, i_ x5), (28, b_ (isR l om x5)), (29, b_ (!(isR l om x5)))] (by exact ⟨rfl, rfl, rfl, rfl, rfl, rfl, congrArg (fun z_ : List Int => some (Value.slice ao z_.length co)) (by first | rfl | (rw [take_snoc (by assumption), trnR_snoc]; simp_all; done) | (simp [trnR]; done) | (rw [List.take_of_length_le (by omega)]) : (trnR l ol om ((upL (kvl l) a (upD l a)).take k)) = (trnR l ol om ((upL (kvl l) a (upD l a)).take (k + 1)))), rfl, rfl, rfl, rfl, rfl, trivial⟩) ?_
          refine A.next (k + 1, ao, co) (by first | assumption | omega | (simp_all; done) | (simp_all; omega) | grind) (by first | omega | (simp; omega) | (simp_all; omega)) ?_
          exact A.hereK [0, 0] (by exact ⟨rfl, rfl, rfl, rfl, rfl, rfl, rfl, trivial⟩) (by kernel_rfl)
      · skip
        refine A.sub [(0, vS al l cl), (1, vS bl ol dl), (2, vS el om fl), (14, vS al'1 (upL (kvl l) a (upD l a)) cl'2), (15, i_ ((upL (kvl l) a (upD l a)).length : Int)), (16, c_ k), (9, vS ao (trnR l ol om ((upL (kvl l) a (upD l a)).take k)) co), (11, i_ x5), (24, b_ false)] (by exact ⟨rfl, rfl, rfl, rfl, rfl, rfl, rfl, rfl, congrArg (fun z => some (Value.bool z)) e4, trivial⟩) ?_
        refine A.goA [.sk, .sk, .sk, .sk, .sk, .p] [(0, vS al l cl), (1, vS bl ol dl), (2, vS el om fl), (14, vS al'1 (upL (kvl l) a (upD l a)) cl'2), (15, i_ ((upL (kvl l) a (upD l a)).length : Int)), (16, c_ k), (9, vS ao (trnR l ol om ((upL (kvl l) a (upD l a)).take k)) co), (11, i_ x5), (30, b_ false)] [] T0 (by kernel_rfl) trivial ?_
        refine A.tn (A.cond_f rfl (A.skip (A.bn (A.tn (A.region (A.goA [.w ((k : Int) + 1), .p] [(0, vS al l cl), (1, vS bl ol dl), (2, vS el om fl), (14, vS al'1 (upL (kvl l) a (upD l a)) cl'2), (15, i_ ((upL (kvl l) a (upD l a)).length : Int)), (16, i_ ((k : Int) + 1)), (9, vS ao (trnR l ol om ((upL (kvl l) a (upD l a)).take k)) co)] [] (fun κ => (IntKind.i64.wrap ((k : Int) + 1) = ((k : Int) + 1)) ∧ True) (by kernel_rfl) ⟨(wrap_i64 (e := (k : Int) + 1) (by constructor <;> omega)), trivial⟩ ?_))))))
        refine A.tn (A.setH [sI ao (trnR l ol om ((upL (kvl l) a (upD l a)).take (k + 1))) co, sI al'1 (upL (kvl l) a (upD l a)) cl'2] (cc (slC (by first | rfl | (rw [take_snoc (by assumption), trnR_snoc]; simp_all; done) | (simp [trnR]; done) | (rw [List.take_of_length_le (by omega)]) : (trnR l ol om ((upL (kvl l) a (upD l a)).take k)) = (trnR l ol om ((upL (kvl l) a (upD l a)).take (k + 1))))) rfl) ?_)
        refine A.sub [(0, vS al l cl), (1, vS bl ol dl), (2, vS el om fl), (14, vS al'1 (upL (kvl l) a (upD l a)) cl'2), (15, i_ ((upL (kvl l) a (upD l a)).length : Int)), (16, i_ ((k : Int) + 1)), (9, vS ao (trnR l ol om ((upL (kvl l) a (upD l a)).take (k + 1))) co)] (by exact ⟨rfl, rfl, rfl, rfl, rfl, rfl, congrArg (fun z_ : List Int => some (Value.slice ao z_.length co)) (by first | rfl | (rw [take_snoc (by assumption), trnR_snoc]; simp_all; done) | (simp [trnR]; done) | (rw [List.take_of_length_le (by omega)]) : (trnR l ol om ((upL (kvl l) a (upD l a)).take k)) = (trnR l ol om ((upL (kvl l) a (upD l a)).take (k + 1)))), trivial⟩) ?_
        refine A.next (k + 1, ao, co) (by first | assumption | omega | (simp_all; done) | (simp_all; omega) | grind) (by first | omega | (simp; omega) | (simp_all; omega)) ?_
        exact A.hereK [0, 0] (by exact ⟨rfl, rfl, rfl, rfl, rfl, rfl, rfl, trivial⟩) (by kernel_rfl)
    · skip
      have p2 := of_decide_eq_false e2
      refine A.exit (A.te (A.te (A.bh (A.tn (A.seq (A.region (A.goA [.p, .p] [(8, vS ao (trnR l ol om ((upL (kvl l) a (upD l a)).take k)) co)] [] T0 (by kernel_rfl) trivial ?_)))))))
      refine A.tn (A.ret (A.setH [sI ao (trnR l ol om (upL (kvl l) a (upD l a))) co, sI al'1 (upL (kvl l) a (upD l a)) cl'2] (cc (slC (by first | rfl | (rw [take_snoc (by assumption), trnR_snoc]; simp_all; done) | (simp [trnR]; done) | (rw [List.take_of_length_le (by omega)]) : (trnR l ol om ((upL (kvl l) a (upD l a)).take k)) = (trnR l ol om (upL (kvl l) a (upD l a))))) rfl) ?_))
      refine A.postK [0] [vS ao (trnR l ol om ((upL (kvl l) a (upD l a)).take k)) co] (fun aa ww rr ss => ⟨rv_tmp rr rfl, trivial⟩) (ao, co) ?_ ?_ (by kernel_rfl)
      · show ((vS ao (trnR l ol om ((upL (kvl l) a (upD l a)).take k)) co) : Value) = (vS ao (trnR l ol om (upL (kvl l) a (upD l a))) co)
        rw [List.take_of_length_le (by omega)]
      · trivial

set_option maxHeartbeats 4000000 in
set_option maxRecDepth 100000 in
theorem ch23_spec (al : Option Addr) (l : List Cl) (cl : Nat) (bl : Option Addr) (ol : List Int) (dl : Nat) (a : Int) (hl : l.length ≤ 100000) (ho : ol.length ≤ 1000) (w : World) (r0 : arrAt w al (V.flat encCl l)) (r1 : arrAt w bl (V.flat encI ol)) (hs : HS w (feet []) [] w) :
    Calls Try.prog 70 #[vS al l cl, vS bl ol dl, i_ a] w fun e w' => ∃ zz, e = .returned ((fun (zz : (Option Addr) × Nat) => match zz with | (al', cl') => (vS al' (chRA l ol a l) cl')) zz) ∧ (fun (zz : (Option Addr) × Nat) => match zz with | (al', cl') => True) zz ∧ Turn [] ((fun (zz : (Option Addr) × Nat) => match zz with | (al', cl') => [sI al' (chRA l ol a l) cl']) zz) w w' := by
  refine calls_of (args := [vS al l cl, vS bl ol dl, i_ a]) (penv [vS al l cl, vS bl ol dl, i_ a]) (feet []) [] Try.func70 rfl rfl (look_penv _) hs ?_
  refine A.norm [(0, vS al l cl), (1, vS bl ol dl), (2, i_ a)] [] (by exact ⟨rfl, rfl, rfl, trivial⟩) rfl ?_
  refine A.seq (A.region (A.goA [.p] [(0, vS al l cl), (1, vS bl ol dl), (2, i_ a)] [] T0 (by kernel_rfl) trivial ?_))
  refine A.tn (A.seq (A.region (A.goA [.p] [(0, vS al l cl), (1, vS bl ol dl), (2, i_ a), (7, e_)] [] T0 (by kernel_rfl) trivial ?_)))
  refine A.tn (A.seq (A.seq (A.region (A.goA [.p, .p, .p] [(0, vS al l cl), (1, vS bl ol dl), (2, i_ a), (7, e_), (10, vS al l cl), (11, c_ l.length), (12, i_ 0)] [] T0 (by kernel_rfl) trivial ?_))))
  refine A.tn (A.block (A.ownNil 3 1 [sI none ([] : List Int) 0] rfl ?_))
  refine A.setH [sI none (chRA l ol a (l.take 0)) 0] (cc (slC (by first | rfl | exact chRA_t (by assumption) (by simp_all) (by simp_all) (by simp_all) | exact chRA_f (by assumption) (by first | (simp_all; done) | (simp_all; grind) | grind) | (simp [chRA]; done) | (rw [List.take_of_length_le (by omega)]) : ([] : List Int) = (chRA l ol a (l.take 0)))) rfl) ?_
  refine A.sub [(0, vS al l cl), (1, vS bl ol dl), (2, i_ a), (7, vS none (chRA l ol a (l.take 0)) 0), (10, vS al l cl), (11, c_ l.length), (12, i_ 0)] (by exact ⟨rfl, rfl, rfl, congrArg (fun z_ : List Int => some (Value.slice none z_.length 0)) (by first | rfl | exact chRA_t (by assumption) (by simp_all) (by simp_all) (by simp_all) | exact chRA_f (by assumption) (by first | (simp_all; done) | (simp_all; grind) | grind) | (simp [chRA]; done) | (rw [List.take_of_length_le (by omega)]) : ([] : List Int) = (chRA l ol a (l.take 0))), rfl, rfl, rfl, trivial⟩) ?_
  refine A.loop (fun (zz : Nat × (Option Addr) × Nat) => match zz with | (k, ao, co) => [(0, vS al l cl), (1, vS bl ol dl), (2, i_ a), (10, vS al l cl), (11, c_ l.length), (12, c_ k), (7, vS ao (chRA l ol a (l.take k)) co)]) (fun (zz : Nat × (Option Addr) × Nat) => match zz with | (k, ao, co) => [sI ao (chRA l ol a (l.take k)) co]) (fun (zz : Nat × (Option Addr) × Nat) => match zz with | (k, ao, co) => (k ≤ l.length)) (fun (zz : Nat × (Option Addr) × Nat) => match zz with | (k, ao, co) => l.length - k) (0, none, 0) (by first | assumption | omega | (simp_all; done) | (simp_all; omega) | grind) ?_ ?_
  · exact A.hereK [0] (by exact ⟨rfl, rfl, rfl, rfl, rfl, rfl, rfl, trivial⟩) (by kernel_rfl)
  · rintro ⟨k, ao, co⟩ hk
    have hk : k ≤ l.length := hk
    have hdl : (chRA l ol a (l.take k)).length ≤ k := Nat.le_trans (chRA_len _ _ _ _) (by simp; omega)
    refine A.norm [(0, vS al l cl), (1, vS bl ol dl), (2, i_ a), (10, vS al l cl), (11, c_ l.length), (12, c_ k), (7, vS ao (chRA l ol a (l.take k)) co)] [sI ao (chRA l ol a (l.take k)) co] (by exact ⟨rfl, rfl, rfl, rfl, rfl, rfl, rfl, trivial⟩) rfl ?_
    refine A.seq (A.region (A.goA [.p] [(0, vS al l cl), (1, vS bl ol dl), (2, i_ a), (10, vS al l cl), (11, c_ l.length), (12, c_ k), (7, vS ao (chRA l ol a (l.take k)) co), (13, b_ (decide ((k : Int) < (l.length : Int))))] [] T0 (by kernel_rfl) trivial ?_))
    refine A.tn (A.seq (A.cond (E := decide ((k : Int) < (l.length : Int))) rfl (fun e1 => ?_) (fun e1 => ?_)))
    · skip
      have p1 := of_decide_eq_true e1
      refine A.skip (A.tn (A.seq (A.block (A.seq (A.region (A.goP [.ix] [(0, vS al l cl), (1, vS bl ol dl), (2, i_ a), (10, vS al l cl), (11, c_ l.length), (12, c_ k), (7, vS ao (chRA l ol a (l.take k)) co), (14, (.pointer (some ((at0 al).add (k * 14)))))] [] (fun κ => κ.ix al l.length (k : Int) ∧ True) (by kernel_rfl) ⟨(ixOf encCl_len (by decide) (rd_old r0 (by simp [feet])) (by first | omega | (simp; omega) | (simp; done))), trivial⟩ ?_))))))
      obtain ⟨x2, hx2⟩ : ∃ x, (l)[k]? = some x := ⟨_, List.getElem?_eq_getElem (by omega)⟩
      refine A.goA1 [.rd (encCl x2), .al, .st 1] [0, 1, 2, 10, 11, 12, 7, 9] (fun b3 => [(0, vS al l cl), (1, vS bl ol dl), (2, i_ a), (10, vS al l cl), (11, c_ l.length), (12, c_ k), (7, vS ao (chRA l ol a (l.take k)) co), (9, p_ b3)]) (fun b3 => [sI ao (chRA l ol a (l.take k)) co, blk b3 (encCl x2) 98]) (fun b3 => [b3]) (fun _ => (fun κ => κ.rd ((at0 al).add (k * 14)) (encCl x2) ∧ True)) (fun _ => by kernel_rfl) (fun b3 => ⟨(reads_at0 (vs := (encCl x2)) encCl_len (rd_old r0 (by simp [feet])) hx2 (Nat.le_of_ble_eq_true rfl) rfl), trivial⟩) ?_
      intro b3
      refine A.tn (A.seq (A.region (A.goP [.p, .ld 1, .p, .p, .p, .o, .ld 1, .cq (b_ (decide ((ofR x2.la x2.lb x2.lc) > 1))), .cl, .p] [(0, vS al l cl), (1, vS bl ol dl), (2, i_ a), (10, vS al l cl), (11, c_ l.length), (12, c_ k), (7, vS ao (chRA l ol a (l.take k)) co), (9, p_ b3), (24, b_ ((x2.hp == a) && (decide ((ofR x2.la x2.lb x2.lc) > 1))))] [b3, b3] (fun κ => ((true && ((x2.hp == a) == true)) = true → κ.call 69 [(.agg (encCl x2).toArray)] (b_ (decide ((ofR x2.la x2.lb x2.lc) > 1)))) ∧ True) (by kernel_rfl) ⟨(fun h_ => (fun ww ss => sh23_spec x2 ww)), trivial⟩ ?_)))
      refine A.bool ((x2.hp == a) && (decide ((ofR x2.la x2.lb x2.lc) > 1))) (fun e2 => ?_) (fun e2 => ?_)
      · skip
        refine A.sub [(0, vS al l cl), (1, vS bl ol dl), (2, i_ a), (10, vS al l cl), (11, c_ l.length), (12, c_ k), (7, vS ao (chRA l ol a (l.take k)) co), (9, p_ b3), (24, b_ true)] (by exact ⟨rfl, rfl, rfl, rfl, rfl, rfl, rfl, rfl, congrArg (fun z => some (Value.bool z)) e2, trivial⟩) ?_
        refine A.goP [.p, .p, .p, .ld 1] [(0, vS al l cl), (1, vS bl ol dl), (2, i_ a), (10, vS al l cl), (11, c_ l.length), (12, c_ k), (7, vS ao (chRA l ol a (l.take k)) co), (9, p_ b3), (24, b_ true), (25, vS al l cl), (26, vS bl ol dl), (27, p_ b3), (28, i_ x2.hi)] [b3] T0 (by kernel_rfl) trivial ?_
        refine A.cons (A.callT (some 29) [vS al l cl, vS bl ol dl, i_ x2.hi] [] ((fun _ => (b_ (isR l ol x2.hi)))) ((fun _ => True)) ((fun _ => [])) (fun _ => [sI ao (chRA l ol a (l.take k)) co, blk b3 (encCl x2) 98]) (by kernel_rfl) rfl rfl (fun ww ss hh => is23_spec al l cl bl ol dl x2.hi (by first | assumption | omega) (by first | assumption | omega) ww ((rd_old r0 (by simp [feet])) ww ss) ((rd_old r1 (by simp [feet])) ww ss) hh) (fun _ => rfl) ?_)
        rintro ⟨⟩ -
        refine A.goA [.p] [(0, vS al l cl), (1, vS bl ol dl), (2, i_ a), (10, vS al l cl), (11, c_ l.length), (12, c_ k), (7, vS ao (chRA l ol a (l.take k)) co), (9, p_ b3), (25, vS al l cl), (26, vS bl ol dl), (27, p_ b3), (28, i_ x2.hi), (29, b_ (isR l ol x2.hi)), (30, b_ (isR l ol x2.hi))] [] T0 (by kernel_rfl) trivial ?_
        refine A.tn (A.cond (E := (isR l ol x2.hi)) rfl (fun e4 => ?_) (fun e4 => ?_))
        · skip
          have p4 := e4; try simp only [nrm] at p4
          refine A.region (A.goP [.p, .p, .ld 1] [(0, vS al l cl), (1, vS bl ol dl), (2, i_ a), (10, vS al l cl), (11, c_ l.length), (12, c_ k), (7, vS ao (chRA l ol a (l.take k)) co), (25, vS al l cl), (26, vS bl ol dl), (27, p_ b3), (28, i_ x2.hi), (29, b_ (isR l ol x2.hi)), (31, vS ao (chRA l ol a (l.take k)) co), (33, i_ x2.hi)] [b3] T0 (by kernel_rfl) trivial ?_)
          refine A.cons (A.buildSlice 34 (e := 3) [i_ x2.hi] (by kernel_rfl) rfl (fun _ => by kernel_rfl) (fun b4 => [sI ao (chRA l ol a (l.take k)) co, blk b3 (encCl x2) 98, blk b4 [i_ x2.hi] 3]) (fun _ => rfl) ?_)
          intro b4
          refine A.cons (A.appendC (enc := encI) (xs := (chRA l ol a (l.take k))) ([x2.hi]) 0 35 (e := 3) (z := (i_ 0)) (sz := 1) (by_ := 8) (by kernel_rfl) rfl rfl rfl (by kernel_rfl) (by kernel_rfl) (by rfl) (by decide) encI_len encI_one rfl (rd_blk (i := 2) rfl) (by (simp; omega)) (fun A5 c5 => [sI A5 ((chRA l ol a (l.take k)) ++ ([x2.hi])) c5, blk b3 (encCl x2) 98, blk b4 [i_ x2.hi] 3]) (fun _ _ => rfl) ?_)
          intro A5 c5
          refine A.goA [.p] [(0, vS al l cl), (1, vS bl ol dl), (2, i_ a), (10, vS al l cl), (11, c_ l.length), (12, c_ k), (7, vS A5 ((chRA l ol a (l.take k)) ++ ([x2.hi])) c5), (25, vS al l cl), (26, vS bl ol dl), (27, p_ b3), (28, i_ x2.hi), (29, b_ (isR l ol x2.hi))] [] T0 (by kernel_rfl) trivial ?_
          refine A.bn (A.tn (A.region (A.goA [.w ((k : Int) + 1), .p] [(0, vS al l cl), (1, vS bl ol dl), (2, i_ a), (10, vS al l cl), (11, c_ l.length), (12, i_ ((k : Int) + 1)), (7, vS A5 ((chRA l ol a (l.take k)) ++ ([x2.hi])) c5), (25, vS al l cl), (26, vS bl ol dl), (27, p_ b3), (28, i_ x2.hi), (29, b_ (isR l ol x2.hi))] [] (fun κ => (IntKind.i64.wrap ((k : Int) + 1) = ((k : Int) + 1)) ∧ True) (by kernel_rfl) ⟨(wrap_i64 (e := (k : Int) + 1) (by constructor <;> omega)), trivial⟩ ?_)))
          refine A.tn (A.setH [sI A5 (chRA l ol a (l.take (k + 1))) c5, blk b3 (encCl x2) 98, blk b4 [i_ x2.hi] 3] (cc (slC (by first | rfl | exact chRA_t (by assumption) (by simp_all) (by simp_all) (by simp_all) | exact chRA_f (by assumption) (by first | (simp_all; done) | (simp_all; grind) | grind) | (simp [chRA]; done) | (rw [List.take_of_length_le (by omega)]) : (chRA l ol a (l.take k)) ++ ([x2.hi]) = (chRA l ol a (l.take (k + 1))))) rfl) ?_)
          refine A.sub [(0, vS al l cl), (1, vS bl ol dl), (2, i_ a), (10, vS al l cl), (11, c_ l.length), (12, i_ ((k : Int) + 1)), (7, vS A5 (chRA l ol a (l.take (k + 1))) c5), (25, vS al l cl), (26, vS bl ol dl), (27, p_ b3), (28, i_ x2.hi), (29, b_ (isR l ol x2.hi))] (by exact ⟨rfl, rfl, rfl, rfl, rfl, rfl, congrArg (fun z_ : List Int => some (Value.slice A5 z_.length c5)) (by first | rfl | exact chRA_t (by assumption) (by simp_all) (by simp_all) (by simp_all) | exact chRA_f (by assumption) (by first | (simp_all; done) | (simp_all; grind) | grind) | (simp [chRA]; done) | (rw [List.take_of_length_le (by omega)]) : (chRA l ol a (l.take k)) ++ ([x2.hi]) = (chRA l ol a (l.take (k + 1)))), rfl, rfl, rfl, rfl, rfl, trivial⟩) ?_
          refine A.next (k + 1, A5, c5) (by first | assumption | omega | (simp_all; done) | (simp_all; omega) | grind) (by first | omega | (simp; omega) | (simp_all; omega)) ?_
          exact A.hereK [0] (by exact ⟨rfl, rfl, rfl, rfl, rfl, rfl, rfl, trivial⟩) (by kernel_rfl)
        · skip
          have p4 := e4; try simp only [nrm] at p4
          refine A.skip (A.bn (A.tn (A.region (A.goA [.w ((k : Int) + 1), .p] [(0, vS al l cl), (1, vS bl ol dl), (2, i_ a), (10, vS al l cl), (11, c_ l.length), (12, i_ ((k : Int) + 1)), (7, vS ao (chRA l ol a (l.take k)) co), (25, vS al l cl), (26, vS bl ol dl), (27, p_ b3), (28, i_ x2.hi), (29, b_ (isR l ol x2.hi))] [] (fun κ => (IntKind.i64.wrap ((k : Int) + 1) = ((k : Int) + 1)) ∧ True) (by kernel_rfl) ⟨(wrap_i64 (e := (k : Int) + 1) (by constructor <;> omega)), trivial⟩ ?_))))
          refine A.tn (A.setH [sI ao (chRA l ol a (l.take (k + 1))) co, blk b3 (encCl x2) 98] (cc (slC (by first | rfl | exact chRA_t (by assumption) (by simp_all) (by simp_all) (by simp_all) | exact chRA_f (by assumption) (by first | (simp_all; done) | (simp_all; grind) | grind) | (simp [chRA]; done) | (rw [List.take_of_length_le (by omega)]) : (chRA l ol a (l.take k)) = (chRA l ol a (l.take (k + 1))))) rfl) ?_)
          refine A.sub [(0, vS al l cl), (1, vS bl ol dl), (2, i_ a), (10, vS al l cl), (11, c_ l.length), (12, i_ ((k : Int) + 1)), (7, vS ao (chRA l ol a (l.take (k + 1))) co), (25, vS al l cl), (26, vS bl ol dl), (27, p_ b3), (28, i_ x2.hi), (29, b_ (isR l ol x2.hi))] (by exact ⟨rfl, rfl, rfl, rfl, rfl, rfl, congrArg (fun z_ : List Int => some (Value.slice ao z_.length co)) (by first | rfl | exact chRA_t (by assumption) (by simp_all) (by simp_all) (by simp_all) | exact chRA_f (by assumption) (by first | (simp_all; done) | (simp_all; grind) | grind) | (simp [chRA]; done) | (rw [List.take_of_length_le (by omega)]) : (chRA l ol a (l.take k)) = (chRA l ol a (l.take (k + 1)))), rfl, rfl, rfl, rfl, rfl, trivial⟩) ?_
          refine A.next (k + 1, ao, co) (by first | assumption | omega | (simp_all; done) | (simp_all; omega) | grind) (by first | omega | (simp; omega) | (simp_all; omega)) ?_
          exact A.hereK [0] (by exact ⟨rfl, rfl, rfl, rfl, rfl, rfl, rfl, trivial⟩) (by kernel_rfl)
      · skip
        refine A.sub [(0, vS al l cl), (1, vS bl ol dl), (2, i_ a), (10, vS al l cl), (11, c_ l.length), (12, c_ k), (7, vS ao (chRA l ol a (l.take k)) co), (9, p_ b3), (24, b_ false)] (by exact ⟨rfl, rfl, rfl, rfl, rfl, rfl, rfl, rfl, congrArg (fun z => some (Value.bool z)) e2, trivial⟩) ?_
        refine A.goA [.sk, .sk, .sk, .sk, .sk, .p] [(0, vS al l cl), (1, vS bl ol dl), (2, i_ a), (10, vS al l cl), (11, c_ l.length), (12, c_ k), (7, vS ao (chRA l ol a (l.take k)) co), (9, p_ b3), (30, b_ false)] [] T0 (by kernel_rfl) trivial ?_
        refine A.tn (A.cond_f rfl (A.skip (A.bn (A.tn (A.region (A.goA [.w ((k : Int) + 1), .p] [(0, vS al l cl), (1, vS bl ol dl), (2, i_ a), (10, vS al l cl), (11, c_ l.length), (12, i_ ((k : Int) + 1)), (7, vS ao (chRA l ol a (l.take k)) co)] [] (fun κ => (IntKind.i64.wrap ((k : Int) + 1) = ((k : Int) + 1)) ∧ True) (by kernel_rfl) ⟨(wrap_i64 (e := (k : Int) + 1) (by constructor <;> omega)), trivial⟩ ?_))))))
        refine A.tn (A.setH [sI ao (chRA l ol a (l.take (k + 1))) co, blk b3 (encCl x2) 98] (cc (slC (by first | rfl | exact chRA_t (by assumption) (by simp_all) (by simp_all) (by simp_all) | exact chRA_f (by assumption) (by first | (simp_all; done) | (simp_all; grind) | grind) | (simp [chRA]; done) | (rw [List.take_of_length_le (by omega)]) : (chRA l ol a (l.take k)) = (chRA l ol a (l.take (k + 1))))) rfl) ?_)
        refine A.sub [(0, vS al l cl), (1, vS bl ol dl), (2, i_ a), (10, vS al l cl), (11, c_ l.length), (12, i_ ((k : Int) + 1)), (7, vS ao (chRA l ol a (l.take (k + 1))) co)] (by exact ⟨rfl, rfl, rfl, rfl, rfl, rfl, congrArg (fun z_ : List Int => some (Value.slice ao z_.length co)) (by first | rfl | exact chRA_t (by assumption) (by simp_all) (by simp_all) (by simp_all) | exact chRA_f (by assumption) (by first | (simp_all; done) | (simp_all; grind) | grind) | (simp [chRA]; done) | (rw [List.take_of_length_le (by omega)]) : (chRA l ol a (l.take k)) = (chRA l ol a (l.take (k + 1)))), trivial⟩) ?_
        refine A.next (k + 1, ao, co) (by first | assumption | omega | (simp_all; done) | (simp_all; omega) | grind) (by first | omega | (simp; omega) | (simp_all; omega)) ?_
        exact A.hereK [0] (by exact ⟨rfl, rfl, rfl, rfl, rfl, rfl, rfl, trivial⟩) (by kernel_rfl)
    · skip
      have p1 := of_decide_eq_false e1
      refine A.exit (A.te (A.te (A.bh (A.tn (A.seq (A.region (A.goA [.p, .p] [(6, vS ao (chRA l ol a (l.take k)) co)] [] T0 (by kernel_rfl) trivial ?_)))))))
      refine A.tn (A.ret (A.setH [sI ao (chRA l ol a l) co] (cc (slC (by first | rfl | exact chRA_t (by assumption) (by simp_all) (by simp_all) (by simp_all) | exact chRA_f (by assumption) (by first | (simp_all; done) | (simp_all; grind) | grind) | (simp [chRA]; done) | (rw [List.take_of_length_le (by omega)]) : (chRA l ol a (l.take k)) = (chRA l ol a l))) rfl) ?_))
      refine A.postK [0] [vS ao (chRA l ol a (l.take k)) co] (fun aa ww rr ss => ⟨rv_tmp rr rfl, trivial⟩) (ao, co) ?_ ?_ (by kernel_rfl)
      · show ((vS ao (chRA l ol a (l.take k)) co) : Value) = (vS ao (chRA l ol a l) co)
        rw [List.take_of_length_le (by omega)]
      · trivial

set_option maxHeartbeats 4000000 in
set_option maxRecDepth 100000 in
theorem all23_spec (al : Option Addr) (l : List Cl) (cl : Nat) (bl : Option Addr) (ol : List Int) (dl : Nat) (hl : l.length ≤ 100000) (ho : ol.length ≤ 1000) (w : World) (r0 : arrAt w al (V.flat encCl l)) (r1 : arrAt w bl (V.flat encI ol)) (hs : HS w (feet []) [] w) :
    Calls Try.prog 71 #[vS al l cl, vS bl ol dl] w fun e w' => ∃ zz, e = .returned ((fun (zz : (Option Addr) × Nat) => match zz with | (al', cl') => (vS al' (allR l ol l) cl')) zz) ∧ (fun (zz : (Option Addr) × Nat) => match zz with | (al', cl') => True) zz ∧ Turn [] ((fun (zz : (Option Addr) × Nat) => match zz with | (al', cl') => [sI al' (allR l ol l) cl']) zz) w w' := by
  refine calls_of (args := [vS al l cl, vS bl ol dl]) (penv [vS al l cl, vS bl ol dl]) (feet []) [] Try.func71 rfl rfl (look_penv _) hs ?_
  refine A.norm [(0, vS al l cl), (1, vS bl ol dl)] [] (by exact ⟨rfl, rfl, trivial⟩) rfl ?_
  refine A.seq (A.region (A.goA [.p] [(0, vS al l cl), (1, vS bl ol dl)] [] T0 (by kernel_rfl) trivial ?_))
  refine A.tn (A.seq (A.region (A.goA [.p] [(0, vS al l cl), (1, vS bl ol dl), (5, e_)] [] T0 (by kernel_rfl) trivial ?_)))
  refine A.tn (A.seq (A.seq (A.region (A.goA [.p, .p, .p] [(0, vS al l cl), (1, vS bl ol dl), (5, e_), (8, vS al l cl), (9, c_ l.length), (10, i_ 0)] [] T0 (by kernel_rfl) trivial ?_))))
  refine A.tn (A.block (A.ownNil 3 1 [sI none ([] : List Int) 0] rfl ?_))
  refine A.setH [sI none (allR l ol (l.take 0)) 0] (cc (slC (by first | rfl | exact allR_t (by assumption) (by assumption) | exact allR_f (by assumption) (by assumption) | (simp [allR]; done) | (rw [List.take_of_length_le (by omega)]) : ([] : List Int) = (allR l ol (l.take 0)))) rfl) ?_
  refine A.sub [(0, vS al l cl), (1, vS bl ol dl), (5, vS none (allR l ol (l.take 0)) 0), (8, vS al l cl), (9, c_ l.length), (10, i_ 0)] (by exact ⟨rfl, rfl, congrArg (fun z_ : List Int => some (Value.slice none z_.length 0)) (by first | rfl | exact allR_t (by assumption) (by assumption) | exact allR_f (by assumption) (by assumption) | (simp [allR]; done) | (rw [List.take_of_length_le (by omega)]) : ([] : List Int) = (allR l ol (l.take 0))), rfl, rfl, rfl, trivial⟩) ?_
  refine A.loop (fun (zz : Nat × (Option Addr) × Nat) => match zz with | (k, ao, co) => [(0, vS al l cl), (1, vS bl ol dl), (8, vS al l cl), (9, c_ l.length), (10, c_ k), (5, vS ao (allR l ol (l.take k)) co)]) (fun (zz : Nat × (Option Addr) × Nat) => match zz with | (k, ao, co) => [sI ao (allR l ol (l.take k)) co]) (fun (zz : Nat × (Option Addr) × Nat) => match zz with | (k, ao, co) => (k ≤ l.length)) (fun (zz : Nat × (Option Addr) × Nat) => match zz with | (k, ao, co) => l.length - k) (0, none, 0) (by first | assumption | omega | (simp_all; done) | (simp_all; omega) | grind) ?_ ?_
  · exact A.hereK [0] (by exact ⟨rfl, rfl, rfl, rfl, rfl, rfl, trivial⟩) (by kernel_rfl)
  · rintro ⟨k, ao, co⟩ hk
    have hk : k ≤ l.length := hk
    have hdl : (allR l ol (l.take k)).length ≤ k := Nat.le_trans (allR_len _ _ _) (by simp; omega)
    refine A.norm [(0, vS al l cl), (1, vS bl ol dl), (8, vS al l cl), (9, c_ l.length), (10, c_ k), (5, vS ao (allR l ol (l.take k)) co)] [sI ao (allR l ol (l.take k)) co] (by exact ⟨rfl, rfl, rfl, rfl, rfl, rfl, trivial⟩) rfl ?_
    refine A.seq (A.region (A.goA [.p] [(0, vS al l cl), (1, vS bl ol dl), (8, vS al l cl), (9, c_ l.length), (10, c_ k), (5, vS ao (allR l ol (l.take k)) co), (11, b_ (decide ((k : Int) < (l.length : Int))))] [] T0 (by kernel_rfl) trivial ?_))
    refine A.tn (A.seq (A.cond (E := decide ((k : Int) < (l.length : Int))) rfl (fun e1 => ?_) (fun e1 => ?_)))
    · skip
      have p1 := of_decide_eq_true e1
      refine A.skip (A.tn (A.seq (A.block (A.seq (A.region (A.goP [.ix] [(0, vS al l cl), (1, vS bl ol dl), (8, vS al l cl), (9, c_ l.length), (10, c_ k), (5, vS ao (allR l ol (l.take k)) co), (12, (.pointer (some ((at0 al).add (k * 14)))))] [] (fun κ => κ.ix al l.length (k : Int) ∧ True) (by kernel_rfl) ⟨(ixOf encCl_len (by decide) (rd_old r0 (by simp [feet])) (by first | omega | (simp; omega) | (simp; done))), trivial⟩ ?_))))))
      obtain ⟨x2, hx2⟩ : ∃ x, (l)[k]? = some x := ⟨_, List.getElem?_eq_getElem (by omega)⟩
      refine A.goA1 [.rd (encCl x2), .al, .st 1] [0, 1, 8, 9, 10, 5, 7] (fun b3 => [(0, vS al l cl), (1, vS bl ol dl), (8, vS al l cl), (9, c_ l.length), (10, c_ k), (5, vS ao (allR l ol (l.take k)) co), (7, p_ b3)]) (fun b3 => [sI ao (allR l ol (l.take k)) co, blk b3 (encCl x2) 98]) (fun b3 => [b3]) (fun _ => (fun κ => κ.rd ((at0 al).add (k * 14)) (encCl x2) ∧ True)) (fun _ => by kernel_rfl) (fun b3 => ⟨(reads_at0 (vs := (encCl x2)) encCl_len (rd_old r0 (by simp [feet])) hx2 (Nat.le_of_ble_eq_true rfl) rfl), trivial⟩) ?_
      intro b3
      refine A.tn (A.seq (A.region (A.goP [.p, .p, .p, .ld 1] [(0, vS al l cl), (1, vS bl ol dl), (8, vS al l cl), (9, c_ l.length), (10, c_ k), (5, vS ao (allR l ol (l.take k)) co), (7, p_ b3), (14, vS al l cl), (15, vS bl ol dl), (17, i_ x2.hi)] [b3] T0 (by kernel_rfl) trivial ?_)))
      refine A.cons (A.callT (some 18) [vS al l cl, vS bl ol dl, i_ x2.hi] [] ((fun _ => (b_ (isR l ol x2.hi)))) ((fun _ => True)) ((fun _ => [])) (fun _ => [sI ao (allR l ol (l.take k)) co, blk b3 (encCl x2) 98]) (by kernel_rfl) rfl rfl (fun ww ss hh => is23_spec al l cl bl ol dl x2.hi (by first | assumption | omega) (by first | assumption | omega) ww ((rd_old r0 (by simp [feet])) ww ss) ((rd_old r1 (by simp [feet])) ww ss) hh) (fun _ => rfl) ?_)
      rintro ⟨⟩ -
      refine A.done ?_
      refine A.tn (A.cond (E := (isR l ol x2.hi)) rfl (fun e3 => ?_) (fun e3 => ?_))
      · skip
        have p3 := e3; try simp only [nrm] at p3
        refine A.region (A.goP [.p, .p, .ld 1] [(0, vS al l cl), (1, vS bl ol dl), (8, vS al l cl), (9, c_ l.length), (10, c_ k), (5, vS ao (allR l ol (l.take k)) co), (19, vS ao (allR l ol (l.take k)) co), (21, i_ x2.hi)] [b3] T0 (by kernel_rfl) trivial ?_)
        refine A.cons (A.buildSlice 22 (e := 3) [i_ x2.hi] (by kernel_rfl) rfl (fun _ => by kernel_rfl) (fun b4 => [sI ao (allR l ol (l.take k)) co, blk b3 (encCl x2) 98, blk b4 [i_ x2.hi] 3]) (fun _ => rfl) ?_)
        intro b4
        refine A.cons (A.appendC (enc := encI) (xs := (allR l ol (l.take k))) ([x2.hi]) 0 23 (e := 3) (z := (i_ 0)) (sz := 1) (by_ := 8) (by kernel_rfl) rfl rfl rfl (by kernel_rfl) (by kernel_rfl) (by rfl) (by decide) encI_len encI_one rfl (rd_blk (i := 2) rfl) (by (simp; omega)) (fun A5 c5 => [sI A5 ((allR l ol (l.take k)) ++ ([x2.hi])) c5, blk b3 (encCl x2) 98, blk b4 [i_ x2.hi] 3]) (fun _ _ => rfl) ?_)
        intro A5 c5
        refine A.goA [.p] [(0, vS al l cl), (1, vS bl ol dl), (8, vS al l cl), (9, c_ l.length), (10, c_ k), (5, vS A5 ((allR l ol (l.take k)) ++ ([x2.hi])) c5)] [] T0 (by kernel_rfl) trivial ?_
        refine A.bn (A.tn (A.region (A.goA [.w ((k : Int) + 1), .p] [(0, vS al l cl), (1, vS bl ol dl), (8, vS al l cl), (9, c_ l.length), (10, i_ ((k : Int) + 1)), (5, vS A5 ((allR l ol (l.take k)) ++ ([x2.hi])) c5)] [] (fun κ => (IntKind.i64.wrap ((k : Int) + 1) = ((k : Int) + 1)) ∧ True) (by kernel_rfl) ⟨(wrap_i64 (e := (k : Int) + 1) (by constructor <;> omega)), trivial⟩ ?_)))
        refine A.tn (A.setH [sI A5 (allR l ol (l.take (k + 1))) c5, blk b3 (encCl x2) 98, blk b4 [i_ x2.hi] 3] (cc (slC (by first | rfl | exact allR_t (by assumption) (by assumption) | exact allR_f (by assumption) (by assumption) | (simp [allR]; done) | (rw [List.take_of_length_le (by omega)]) : (allR l ol (l.take k)) ++ ([x2.hi]) = (allR l ol (l.take (k + 1))))) rfl) ?_)
        refine A.sub [(0, vS al l cl), (1, vS bl ol dl), (8, vS al l cl), (9, c_ l.length), (10, i_ ((k : Int) + 1)), (5, vS A5 (allR l ol (l.take (k + 1))) c5)] (by exact ⟨rfl, rfl, rfl, rfl, rfl, congrArg (fun z_ : List Int => some (Value.slice A5 z_.length c5)) (by first | rfl | exact allR_t (by assumption) (by assumption) | exact allR_f (by assumption) (by assumption) | (simp [allR]; done) | (rw [List.take_of_length_le (by omega)]) : (allR l ol (l.take k)) ++ ([x2.hi]) = (allR l ol (l.take (k + 1)))), trivial⟩) ?_
        refine A.next (k + 1, A5, c5) (by first | assumption | omega | (simp_all; done) | (simp_all; omega) | grind) (by first | omega | (simp; omega) | (simp_all; omega)) ?_
        exact A.hereK [0] (by exact ⟨rfl, rfl, rfl, rfl, rfl, rfl, trivial⟩) (by kernel_rfl)
      · skip
        have p3 := e3; try simp only [nrm] at p3
        refine A.skip (A.bn (A.tn (A.region (A.goA [.w ((k : Int) + 1), .p] [(0, vS al l cl), (1, vS bl ol dl), (8, vS al l cl), (9, c_ l.length), (10, i_ ((k : Int) + 1)), (5, vS ao (allR l ol (l.take k)) co)] [] (fun κ => (IntKind.i64.wrap ((k : Int) + 1) = ((k : Int) + 1)) ∧ True) (by kernel_rfl) ⟨(wrap_i64 (e := (k : Int) + 1) (by constructor <;> omega)), trivial⟩ ?_))))
        refine A.tn (A.setH [sI ao (allR l ol (l.take (k + 1))) co, blk b3 (encCl x2) 98] (cc (slC (by first | rfl | exact allR_t (by assumption) (by assumption) | exact allR_f (by assumption) (by assumption) | (simp [allR]; done) | (rw [List.take_of_length_le (by omega)]) : (allR l ol (l.take k)) = (allR l ol (l.take (k + 1))))) rfl) ?_)
        refine A.sub [(0, vS al l cl), (1, vS bl ol dl), (8, vS al l cl), (9, c_ l.length), (10, i_ ((k : Int) + 1)), (5, vS ao (allR l ol (l.take (k + 1))) co)] (by exact ⟨rfl, rfl, rfl, rfl, rfl, congrArg (fun z_ : List Int => some (Value.slice ao z_.length co)) (by first | rfl | exact allR_t (by assumption) (by assumption) | exact allR_f (by assumption) (by assumption) | (simp [allR]; done) | (rw [List.take_of_length_le (by omega)]) : (allR l ol (l.take k)) = (allR l ol (l.take (k + 1)))), trivial⟩) ?_
        refine A.next (k + 1, ao, co) (by first | assumption | omega | (simp_all; done) | (simp_all; omega) | grind) (by first | omega | (simp; omega) | (simp_all; omega)) ?_
        exact A.hereK [0] (by exact ⟨rfl, rfl, rfl, rfl, rfl, rfl, trivial⟩) (by kernel_rfl)
    · skip
      have p1 := of_decide_eq_false e1
      refine A.exit (A.te (A.te (A.bh (A.tn (A.seq (A.region (A.goA [.p, .p] [(4, vS ao (allR l ol (l.take k)) co)] [] T0 (by kernel_rfl) trivial ?_)))))))
      refine A.tn (A.ret (A.setH [sI ao (allR l ol l) co] (cc (slC (by first | rfl | exact allR_t (by assumption) (by assumption) | exact allR_f (by assumption) (by assumption) | (simp [allR]; done) | (rw [List.take_of_length_le (by omega)]) : (allR l ol (l.take k)) = (allR l ol l))) rfl) ?_))
      refine A.postK [0] [vS ao (allR l ol (l.take k)) co] (fun aa ww rr ss => ⟨rv_tmp rr rfl, trivial⟩) (ao, co) ?_ ?_ (by kernel_rfl)
      · show ((vS ao (allR l ol (l.take k)) co) : Value) = (vS ao (allR l ol l) co)
        rw [List.take_of_length_le (by omega)]
      · trivial
end Go.Proofs.Ytinnnoimmioaiaa
