/- What the functions of this layer do, proved operation by operation, for all arguments, under the conditions that each theorem states. -/
import Derived.Test.YtkfmboicmdnjpaaProg
import Derived.Test.YtkfmboicmdnjpaaMatch8
namespace Go.Proofs.Ytkfmboicmdnjpaa
open Go V
set_option linter.unusedVariables false
set_option linter.unusedSimpArgs false
def NoM (l : List Rl) (h : Hd) (ms : List Int) : Prop := ∀ y ∈ ms, ∀ s, l[y.toNat]? = some s → mt s h = false
theorem NoM_snoc {l : List Rl} {h : Hd} {ms : List Int} {i : Nat} {r : Rl} (hn : NoM l h ms) (hr : l[i]? = some r) (e : mt r h = false) : NoM l h (ms ++ [(i : Int)]) := by
  intro y hy s hs
  rcases List.mem_append.1 hy with hy | hy
  · exact hn y hy s hs
  · simp at hy; subst hy; simp only [Int.toNat_natCast] at hs; rw [hr] at hs; cases hs; exact e
theorem maskL_lt (l : List Rl) : ∀ n, (∀ y ∈ maskL l n, y < (n : Int)) ∧ (maskL l n).Pairwise (· < ·)
  | 0 => ⟨by intro y hy; simp [maskL] at hy, by simp [maskL]⟩
  | n + 1 => by
    have ih := maskL_lt l n
    have up : (∀ y ∈ maskL l n, y < ((n + 1 : Nat) : Int)) ∧ (maskL l n).Pairwise (· < ·) := ⟨fun y hy => by have := ih.1 y hy; omega, ih.2⟩
    rw [maskL]; split
    · split
      · exact up
      · refine ⟨fun y hy => ?_, ?_⟩
        · rcases List.mem_append.1 hy with hy | hy
          · exact up.1 y hy
          · simp at hy; omega
        · rw [List.pairwise_append]; refine ⟨ih.2, by simp, fun a ha b hb => ?_⟩
          simp at hb; subst hb; exact ih.1 a ha
    · exact up
theorem maskL_mem (l : List Rl) {i : Nat} {r : Rl} (hl : l[i]? = some r) (hw : r.wh = false) : ∀ n, i < n → (i : Int) ∈ maskL l n
  | 0, h => by omega
  | n + 1, h => by
    rw [maskL]
    rcases Nat.lt_or_ge i n with g | g
    · have := maskL_mem l hl hw n g
      split
      · split
        · exact this
        · exact List.mem_append_left _ this
      · exact this
    · have e : i = n := by omega
      subst e; rw [hl]; simp only [hw, Bool.false_eq_true, if_false]; exact List.mem_append_right _ (by simp)
theorem maskL_before {l : List Rl} {k i j : Nat} {r : Rl} (hk : (maskL l l.length)[k]? = some (i : Int)) (hj : j < i) (hl : l[j]? = some r) (hw : r.wh = false) : (j : Int) ∈ (maskL l l.length).take k := by
  have hm := maskL_mem l hl hw l.length (List.getElem?_eq_some_iff.1 hl).1
  obtain ⟨q, hq⟩ := List.mem_iff_getElem?.1 hm
  obtain ⟨hk1, hk2⟩ := List.getElem?_eq_some_iff.1 hk
  obtain ⟨hq1, hq2⟩ := List.getElem?_eq_some_iff.1 hq
  rcases Nat.lt_trichotomy q k with g | g | g
  · exact List.mem_iff_getElem?.2 ⟨q, by rw [List.getElem?_take, if_pos g, hq]⟩
  · subst g; rw [hk] at hq; simp at hq; omega
  · have := List.pairwise_iff_getElem.1 (maskL_lt l l.length).2 k q hk1 hq1 g
    rw [hk2, hq2] at this; omega
theorem land_all {x : Int} (h : 0 ≤ x ∧ x < 65536) : land x 65535 = x := by
  obtain ⟨a, rfl⟩ := Int.eq_ofNat_of_zero_le h.1
  unfold land; have e : (65535 : Int).toNat = 2 ^ 16 - 1 := by decide
  rw [e, Int.toNat_natCast, Nat.and_two_pow_sub_one_eq_mod, Nat.mod_eq_of_lt (by omega)]
theorem wh_mt {r : Rl} {h : Hd} (hh : HdOk h) (hw : r.wh = true) : mt r h = true ↔ r.want = h := by
  obtain ⟨h1, h2, h3, h4⟩ := hh
  unfold Rl.wh at hw; simp at hw; obtain ⟨⟨⟨e1, e2⟩, e3⟩, e4⟩ := hw
  unfold mt; rw [e1, e2, e3, e4, land_all (by omega), land_all (by omega), land_all (by omega), land_all (by omega)]
  unfold Rl.want; cases h; simp; constructor
  · rintro ⟨⟨⟨a, b⟩, c⟩, d⟩; exact ⟨a.symm, b.symm, c.symm, d.symm⟩
  · rintro ⟨a, b, c, d⟩; exact ⟨⟨⟨a.symm, b.symm⟩, c.symm⟩, d.symm⟩
theorem findC_at {l : List Rl} {h : Hd} {i : Nat} {r : Rl} (hr : l[i]? = some r) (hg : ∀ x ∈ l, x.good = true) (hm : mt r h = true) (hb : ∀ (j : Nat) s, j < i → l[j]? = some s → mt s h = false) : r.cl = findC l h ∧ ¬ findC l h = 0 := by
  have e : r.cl = findC l h := findC_t hr (fun y hy => by
    obtain ⟨j, hj⟩ := List.mem_iff_getElem?.1 hy
    rw [List.getElem?_take] at hj; split at hj
    · exact hb j y (by assumption) hj
    · cases hj) hm
  refine ⟨e, ?_⟩; rw [← e]; have := hg r (List.mem_of_getElem? hr); unfold Rl.good at this; simp at this; omega
theorem exL_in {l : List Rl} {h : Hd} (p : (mget (exL l l.length) h).isSome = true) : 0 ≤ (mget (exL l l.length) h).getD 0 ∧ (mget (exL l l.length) h).getD 0 < l.length := by
  have e := exL_law l h l.length
  cases hm : mget (exL l l.length) h with
  | none => rw [hm] at p; cases p
  | some v => rw [hm] at e; obtain ⟨i, r, h1, h2, h3⟩ := e; subst h1; simp only [Option.getD_some]; omega
theorem at_some {l : List Rl} {h : Hd} (p : (mget (exL l l.length) h).isSome = true) : ∃ (i : Nat) (r : Rl), (mget (exL l l.length) h).getD 0 = (i : Int) ∧ l[i]? = some r ∧ r.wh = true ∧ r.want = h ∧ ∀ (j : Nat) s, j < i → l[j]? = some s → s.wh = true → s.want ≠ h := by
  have e := exL_law l h l.length
  cases hm : mget (exL l l.length) h with
  | none => rw [hm] at p; cases p
  | some v => rw [hm] at e; obtain ⟨i, r, h1, h2, h3⟩ := e; exact ⟨i, r, by simpa using h1, h3⟩
theorem at_none {l : List Rl} {h : Hd} (p : mget (exL l l.length) h = none) : ∀ (j : Nat) s, l[j]? = some s → s.wh = true → s.want ≠ h := by
  have e := exL_law l h l.length
  rw [p] at e; intro j s hs; exact e j s (List.getElem?_eq_some_iff.1 hs).1 hs
theorem all_below {l : List Rl} {h : Hd} {i : Nat} (hh : HdOk h) (h1 : ∀ (j : Nat) s, j < i → l[j]? = some s → s.wh = true → s.want ≠ h) (h2 : ∀ (j : Nat) s, j < i → l[j]? = some s → s.wh = false → mt s h = false) : ∀ (j : Nat) s, j < i → l[j]? = some s → mt s h = false := by
  intro j s hj hs
  cases hw : s.wh with
  | false => exact h2 j s hj hs hw
  | true =>
    cases hm : mt s h with
    | false => rfl
    | true => exact absurd ((wh_mt hh hw).1 hm) (h1 j s hj hs hw)
theorem NoM_bel {l : List Rl} {h : Hd} {ms : List Int} (hn : NoM l h ms) {j : Nat} {s : Rl} (hj : (j : Int) ∈ ms) (hs : l[j]? = some s) : mt s h = false := hn _ hj s (by simpa using hs)
theorem cl_break {l : List Rl} {h : Hd} {k i : Nat} {x : Rl} (hR : ∀ x ∈ l, RlOk x) (hh : HdOk h) (hg : ∀ x ∈ l, x.good = true) (hn : NoM l h ((maskL l l.length).take k))
    (p2 : (mget (exL l l.length) h).getD 0 < (i : Int)) (p3 : (mget (exL l l.length) h).isSome = true) (hk : (maskL l l.length)[k]? = some (i : Int)) (hx : l[((mget (exL l l.length) h).getD 0).toNat]? = some x) : x.cl = findC l h ∧ ¬ findC l h = 0 := by
  obtain ⟨q, r, h1, h2, h3, h4, h5⟩ := at_some p3
  rw [h1] at p2 hx; simp at hx; rw [h2] at hx; cases hx
  exact findC_at h2 hg ((wh_mt hh h3).2 h4) (all_below hh h5 (fun j s hj hs hw => NoM_bel hn (maskL_before hk (by omega) hs hw) hs))
theorem cl_match {l : List Rl} {h : Hd} {k i : Nat} {x : Rl} (hR : ∀ x ∈ l, RlOk x) (hh : HdOk h) (hg : ∀ x ∈ l, x.good = true) (hn : NoM l h ((maskL l l.length).take k))
    (hk : (maskL l l.length)[k]? = some (i : Int)) (hx : l[i]? = some x) (p : (mget (exL l l.length) h).isSome = true → (i : Int) ≤ (mget (exL l l.length) h).getD 0) (hm : mt x h = true) : x.cl = findC l h ∧ ¬ findC l h = 0 := by
  refine findC_at hx hg hm (all_below hh (fun j s hj hs hw => ?_) (fun j s hj hs hw => NoM_bel hn (maskL_before hk hj hs hw) hs))
  cases hp : (mget (exL l l.length) h).isSome with
  | true => obtain ⟨q, r, h1, h2, h3, h4, h5⟩ := at_some hp; have := p hp; exact h5 j s (by omega) hs hw
  | false => exact at_none (by simpa using hp) j s hs hw
theorem NoM_all {l : List Rl} {h : Hd} (hn : NoM l h (maskL l l.length)) {j : Nat} {s : Rl} (hs : l[j]? = some s) (hw : s.wh = false) : mt s h = false :=
  NoM_bel hn (maskL_mem l hs hw l.length (List.getElem?_eq_some_iff.1 hs).1) hs
theorem cl_at {l : List Rl} {h : Hd} {x : Rl} (hR : ∀ x ∈ l, RlOk x) (hh : HdOk h) (hg : ∀ x ∈ l, x.good = true) (hn : NoM l h (maskL l l.length))
    (p3 : (mget (exL l l.length) h).isSome = true) (hx : l[((mget (exL l l.length) h).getD 0).toNat]? = some x) : x.cl = findC l h ∧ ¬ findC l h = 0 := by
  obtain ⟨q, r, h1, h2, h3, h4, h5⟩ := at_some p3
  rw [h1] at hx; simp at hx; rw [h2] at hx; cases hx
  exact findC_at h2 hg ((wh_mt hh h3).2 h4) (all_below hh h5 (fun j s hj hs hw => NoM_all hn hs hw))
theorem cl_none {l : List Rl} {h : Hd} (hR : ∀ x ∈ l, RlOk x) (hh : HdOk h) (hg : ∀ x ∈ l, x.good = true) (hn : NoM l h (maskL l l.length)) (p : mget (exL l l.length) h = none) : 0 = findC l h ∧ findC l h = 0 := by
  have : 0 = findC l h := findC_f (k := l.length) (fun y hy => by
    obtain ⟨j, hj⟩ := List.mem_iff_getElem?.1 (List.mem_of_mem_take hy)
    exact all_below (i := l.length) hh (fun j s _ hs hw => at_none p j s hs hw) (fun j s _ hs hw => NoM_all hn hs hw) j y (List.getElem?_eq_some_iff.1 hj).1 hj) (Nat.le_refl _)
  exact ⟨this, this.symm⟩
theorem cl_q {l : List Rl} {h : Hd} {q : Nat} {r : Rl} (hh : HdOk h) (hg : ∀ x ∈ l, x.good = true) (h2 : l[q]? = some r) (h3 : r.wh = true) (h4 : r.want = h) (h5 : ∀ (j : Nat) s, j < q → l[j]? = some s → s.wh = true → s.want ≠ h)
    (hb : ∀ (j : Nat) s, j < q → l[j]? = some s → s.wh = false → mt s h = false) : r.cl = findC l h ∧ ¬ findC l h = 0 := findC_at h2 hg ((wh_mt hh h3).2 h4) (all_below hh h5 hb)
def errC (c : Int) : Int := if c = 0 then 31 else 0
theorem tu_ok {x c : Int} (h : x = c ∧ ¬ c = 0) : ((.tuple #[(i_ x), (i_ 0)]) : Value) = (.tuple #[(i_ c), (i_ (errC c))]) := by unfold errC; rw [if_neg h.2, h.1]
theorem tu_none {c : Int} (h : 0 = c ∧ c = 0) : ((.tuple #[(i_ 0), (i_ 31)]) : Value) = (.tuple #[(i_ c), (i_ (errC c))]) := by unfold errC; rw [if_pos h.2, h.2]

set_option maxHeartbeats 4000000 in
set_option maxRecDepth 100000 in
theorem find_nil (h : Hd) (w : World) :
    Calls Try.prog 35 #[n_, (.agg #[(w_ h.ha), (w_ h.hb), (w_ h.hc), (w_ h.hd)])] w fun e w' => e = .returned (.tuple #[(i_ 0), (i_ 7)]) ∧ Fr [] w w' := by
  refine calls_of (args := [n_, (.agg #[(w_ h.ha), (w_ h.hb), (w_ h.hc), (w_ h.hd)])]) (penv [n_, (.agg #[(w_ h.ha), (w_ h.hb), (w_ h.hc), (w_ h.hd)])]) [] [] Try.func35 rfl rfl (look_penv _) (HS.nil w) ?_
  refine A.norm [(0, n_), (1, (.agg #[(w_ h.ha), (w_ h.hb), (w_ h.hc), (w_ h.hd)]))] [] (by exact ⟨rfl, rfl, trivial⟩) rfl ?_
  refine A.seq ?_
  refine A.region (A.goA1 [.al, .p, .p] [0, 1, 3, 4, 5] (fun b1 => [(0, n_), (1, (.agg #[(w_ h.ha), (w_ h.hb), (w_ h.hc), (w_ h.hd)])), (3, (p_ b1)), (4, (i_ 0)), (5, (i_ 0))]) (fun b1 => [blk b1 [(w_ h.ha), (w_ h.hb), (w_ h.hc), (w_ h.hd)] 56]) (fun b1 => []) (fun _ => T0) (fun _ => by kernel_rfl) (fun b1 => trivial) ?_)
  intro b1
  refine A.tn ?_
  refine A.seq ?_
  refine A.seq ?_
  refine A.region (A.goA [.p, .p] [(0, n_), (1, (.agg #[(w_ h.ha), (w_ h.hb), (w_ h.hc), (w_ h.hd)])), (3, (p_ b1)), (4, (i_ 0)), (5, (i_ 0)), (11, (b_ true))] [] T0 (by kernel_rfl) trivial ?_)
  refine A.tn ?_
  refine A.cond_t rfl ?_
  refine A.seq ?_
  refine A.region (A.goA [.p, .p] [(0, n_), (1, (.agg #[(w_ h.ha), (w_ h.hb), (w_ h.hc), (w_ h.hd)])), (3, (p_ b1)), (4, (i_ 0)), (5, (i_ 7)), (11, (b_ true))] [] T0 (by kernel_rfl) trivial ?_)
  refine A.tn ?_
  refine A.ret ?_
  refine A.tr ?_
  refine A.postQ [(i_ 0), (i_ 7)] (fun aa ww rr ss => ⟨rv_tmp rr rfl, rv_tmp rr rfl, trivial⟩) ?_
  rfl

set_option maxHeartbeats 4000000 in
set_option maxRecDepth 100000 in
theorem find_ok (bt : Nat) (ar : Option Addr) (l : List Rl) (cr mb : Nat) (am : Option Addr) (cm : Nat) (h : Hd) (hl : l.length ≤ 32) (hR : ∀ x ∈ l, RlOk x) (hh : HdOk h) (hg : ∀ x ∈ l, x.good = true) (w : World) (r0 : (blk bt [(.slice ar l.length cr), (.map (some mb)), (.slice am ((maskL l l.length).length) cm)] 101).holds w) (r1 : (mapI encK (fun x : Int => i_ x) mb (exL l l.length)).holds w) (r2 : arrAt w ar (V.flat encRl l)) (r3 : arrAt w am (V.flat encI (maskL l l.length))) :
    Calls Try.prog 35 #[(p_ bt), (.agg #[(w_ h.ha), (w_ h.hb), (w_ h.hc), (w_ h.hd)])] w fun e w' => e = .returned (.tuple #[(i_ (findC l h)), (i_ (errC (findC l h)))]) ∧ Fr [] w w' := by
  refine calls_of (args := [(p_ bt), (.agg #[(w_ h.ha), (w_ h.hb), (w_ h.hc), (w_ h.hd)])]) (penv [(p_ bt), (.agg #[(w_ h.ha), (w_ h.hb), (w_ h.hc), (w_ h.hd)])]) [] [] Try.func35 rfl rfl (look_penv _) (HS.nil w) ?_
  refine A.norm [(0, (p_ bt)), (1, (.agg #[(w_ h.ha), (w_ h.hb), (w_ h.hc), (w_ h.hd)]))] [] (by exact ⟨rfl, rfl, trivial⟩) rfl ?_
  refine A.seq ?_
  refine A.region (A.goA1 [.al, .p, .p] [0, 1, 3, 4, 5] (fun b1 => [(0, (p_ bt)), (1, (.agg #[(w_ h.ha), (w_ h.hb), (w_ h.hc), (w_ h.hd)])), (3, (p_ b1)), (4, (i_ 0)), (5, (i_ 0))]) (fun b1 => [blk b1 [(w_ h.ha), (w_ h.hb), (w_ h.hc), (w_ h.hd)] 56]) (fun b1 => []) (fun _ => T0) (fun _ => by kernel_rfl) (fun b1 => trivial) ?_)
  intro b1
  refine A.tn ?_
  refine A.seq ?_
  refine A.seq ?_
  refine A.region (A.goA [.p, .p] [(0, (p_ bt)), (1, (.agg #[(w_ h.ha), (w_ h.hb), (w_ h.hc), (w_ h.hd)])), (3, (p_ b1)), (4, (i_ 0)), (5, (i_ 0)), (11, (b_ false))] [] T0 (by kernel_rfl) trivial ?_)
  refine A.tn ?_
  refine A.cond_f rfl ?_
  refine A.skip ?_
  refine A.tn ?_
  refine A.seq ?_
  refine A.draw2 [] 11 (by kernel_rfl) ?_
  refine A.drawP 6 [.p, .p, .p, .rd [(.map (some mb))], .ld 0] [0, 1, 2, 3, 4] [(0, (p_ bt)), (1, (.agg #[(w_ h.ha), (w_ h.hb), (w_ h.hc), (w_ h.hd)])), (3, (p_ b1)), (4, (i_ 0)), (5, (i_ 0)), (11, (b_ false)), (16, (.map (some mb))), (17, (.agg #[(w_ h.ha), (w_ h.hb), (w_ h.hc), (w_ h.hd)]))] [b1] (fun κ => κ.rd ⟨bt, 1, none⟩ [(.map (some mb))] ∧ True) (by kernel_rfl) ⟨(reads_oldblk r0 rfl), trivial⟩ ?_
  refine A.take2 5 (some 18) (.tuple #[(i_ ((mget (exL l l.length) h).getD 0)), (b_ ((mget (exL l l.length) h).isSome))]) rfl (by kernel_rfl) (by kernel_rfl) (qt_lookupOk (kt := 56) (et := 3) (enck := encK) (encv := (fun x : Int => i_ x)) (b := mb) (kv := (exL l l.length)) (k := h) (d0 := 0) (fun ww ss => old_item ss r1) rfl rfl rfl (by kernel_rfl) keyOk_H (by kernel_rfl) rfl) ?_
  refine A.drawP 0 [.p, .p, .p, .p, .p] [6, 7, 8, 9, 10] [(0, (p_ bt)), (1, (.agg #[(w_ h.ha), (w_ h.hb), (w_ h.hc), (w_ h.hd)])), (3, (p_ b1)), (4, (i_ 0)), (5, (i_ 0)), (11, (b_ false)), (6, (i_ ((mget (exL l l.length) h).getD 0))), (7, (b_ ((mget (exL l l.length) h).isSome)))] [] T0 (by kernel_rfl) trivial ?_
  refine A.fin2 (by kernel_rfl) ?_
  refine A.tn ?_
  refine A.seq ?_
  refine A.seq ?_
  refine A.region (A.goA [.p, .p, .p, .rd [(.slice am ((maskL l l.length).length) cm)], .p, .p] [(0, (p_ bt)), (1, (.agg #[(w_ h.ha), (w_ h.hb), (w_ h.hc), (w_ h.hd)])), (3, (p_ b1)), (4, (i_ 0)), (5, (i_ 0)), (11, (b_ false)), (6, (i_ ((mget (exL l l.length) h).getD 0))), (7, (b_ ((mget (exL l l.length) h).isSome))), (24, (.slice am ((maskL l l.length).length) cm)), (25, (i_ ((maskL l l.length).length : Int))), (26, (i_ 0))] [] (fun κ => κ.rd ⟨bt, 2, none⟩ [(.slice am ((maskL l l.length).length) cm)] ∧ True) (by kernel_rfl) ⟨(reads_oldblk r0 rfl), trivial⟩ ?_)
  refine A.tn ?_
  refine A.block ?_
  refine A.loop (fun (zz : Nat) => match zz with | k => [(0, (p_ bt)), (3, (p_ b1)), (6, (i_ ((mget (exL l l.length) h).getD 0))), (7, (b_ ((mget (exL l l.length) h).isSome))), (24, (.slice am ((maskL l l.length).length) cm)), (25, (i_ ((maskL l l.length).length : Int))), (26, (i_ (k : Int)))]) (fun (zz : Nat) => match zz with | k => [blk b1 [(w_ h.ha), (w_ h.hb), (w_ h.hc), (w_ h.hd)] 56]) (fun (zz : Nat) => match zz with | k => (k ≤ (maskL l l.length).length) ∧ (NoM l h ((maskL l l.length).take k))) (fun (zz : Nat) => match zz with | k => (maskL l l.length).length - k) (0 : Nat) ⟨(by first | assumption | omega | (simp_all; done) | (simp_all; omega) | grind), (by intro y hy; simp at hy)⟩ ?_ ?_
  · exact A.hereK [0] (by exact ⟨rfl, rfl, rfl, rfl, rfl, rfl, rfl, trivial⟩) (by kernel_rfl)
  · rintro k ⟨hk, hn⟩
    have hm := maskL_len l l.length
    refine A.norm [(0, (p_ bt)), (3, (p_ b1)), (6, (i_ ((mget (exL l l.length) h).getD 0))), (7, (b_ ((mget (exL l l.length) h).isSome))), (24, (.slice am ((maskL l l.length).length) cm)), (25, (i_ ((maskL l l.length).length : Int))), (26, (i_ (k : Int)))] [blk b1 [(w_ h.ha), (w_ h.hb), (w_ h.hc), (w_ h.hd)] 56] (by exact ⟨rfl, rfl, rfl, rfl, rfl, rfl, rfl, trivial⟩) rfl ?_
    refine A.seq ?_
    refine A.region (A.goA [.p] [(0, (p_ bt)), (3, (p_ b1)), (6, (i_ ((mget (exL l l.length) h).getD 0))), (7, (b_ ((mget (exL l l.length) h).isSome))), (24, (.slice am ((maskL l l.length).length) cm)), (25, (i_ ((maskL l l.length).length : Int))), (26, (i_ (k : Int))), (27, (b_ (decide ((k : Int) < ((maskL l l.length).length : Int)))))] [] T0 (by kernel_rfl) trivial ?_)
    refine A.tn ?_
    refine A.seq ?_
    refine A.cond (E := decide ((k : Int) < ((maskL l l.length).length : Int))) rfl (fun e1 => ?_) (fun e1 => ?_)
    · skip
      have p1 := of_decide_eq_true e1
      refine A.skip ?_
      refine A.tn ?_
      refine A.seq ?_
      refine A.block ?_
      refine A.seq ?_
      refine A.region (A.goP [.ix] [(0, (p_ bt)), (3, (p_ b1)), (6, (i_ ((mget (exL l l.length) h).getD 0))), (7, (b_ ((mget (exL l l.length) h).isSome))), (24, (.slice am ((maskL l l.length).length) cm)), (25, (i_ ((maskL l l.length).length : Int))), (26, (i_ (k : Int))), (27, (b_ (decide ((k : Int) < ((maskL l l.length).length : Int))))), (28, (.pointer (some ((at0 am).add (k * 1)))))] [] (fun κ => κ.ix am ((maskL l l.length).length) (k : Int) ∧ True) (by kernel_rfl) ⟨(ixOf encI_len (by decide) (rd_old r3 (by simp [feet])) (by first | omega | (simp; done))), trivial⟩ ?_)
      obtain ⟨x2, hx2⟩ : ∃ x, ((maskL l l.length))[k]? = some x := ⟨_, List.getElem?_eq_getElem (by omega)⟩
      refine A.goA [.rd [(i_ x2)], .p] [(0, (p_ bt)), (3, (p_ b1)), (6, (i_ ((mget (exL l l.length) h).getD 0))), (7, (b_ ((mget (exL l l.length) h).isSome))), (24, (.slice am ((maskL l l.length).length) cm)), (25, (i_ ((maskL l l.length).length : Int))), (26, (i_ (k : Int))), (27, (b_ (decide ((k : Int) < ((maskL l l.length).length : Int))))), (9, (i_ x2))] [] (fun κ => κ.rd ((at0 am).add (k * 1)) [(i_ x2)] ∧ True) (by kernel_rfl) ⟨(reads_at0 (vs := [(i_ x2)]) encI_len (rd_old r3 (by simp [feet])) hx2 (by simp) rfl), trivial⟩ ?_
      refine A.tn ?_
      refine A.seq ?_
      refine A.seq ?_
      obtain ⟨i3, ri3, hxi3, hli3, hri3, hwi3⟩ := maskL_at l l.length k x2 (by assumption)
      subst hxi3
      refine A.region (A.goA [.p, .p, .o, .p, .p, .p, .cl] [(0, (p_ bt)), (3, (p_ b1)), (6, (i_ ((mget (exL l l.length) h).getD 0))), (7, (b_ ((mget (exL l l.length) h).isSome))), (24, (.slice am ((maskL l l.length).length) cm)), (25, (i_ ((maskL l l.length).length : Int))), (26, (i_ (k : Int))), (27, (b_ (decide ((k : Int) < ((maskL l l.length).length : Int))))), (9, (i_ (i3 : Int))), (35, (b_ (((mget (exL l l.length) h).isSome) && (decide (((mget (exL l l.length) h).getD 0) < (i3 : Int))))))] [] T0 (by kernel_rfl) trivial ?_)
      refine A.tn ?_
      refine A.cond (E := ((mget (exL l l.length) h).isSome) && (decide (((mget (exL l l.length) h).getD 0) < (i3 : Int)))) rfl (fun e2 => ?_) (fun e2 => ?_)
      · skip
        have p2 := e2; try simp only [decide_eq_true_eq, decide_eq_false_iff_not, beq_iff_eq, beq_eq_false_iff_ne, bne_iff_ne, bne_eq_false_iff_eq, ne_eq, Bool.and_eq_true, Bool.or_eq_true, Bool.or_eq_false_iff, Bool.not_eq_true', Bool.not_eq_false', Int.not_lt, Int.not_le, gt_iff_lt, ge_iff_le, Classical.not_not] at p2
        refine A.exit ?_
        refine A.te ?_
        refine A.bm rfl ?_
        refine A.te ?_
        refine A.te ?_
        refine A.bh ?_
        refine A.tn ?_
        refine A.seq ?_
        refine A.seq ?_
        refine A.region (A.goA [.p, .p] [(0, (p_ bt)), (3, (p_ b1)), (6, (i_ ((mget (exL l l.length) h).getD 0))), (7, (b_ ((mget (exL l l.length) h).isSome))), (24, (.slice am ((maskL l l.length).length) cm)), (25, (i_ ((maskL l l.length).length : Int))), (26, (i_ (k : Int))), (27, (b_ (decide ((k : Int) < ((maskL l l.length).length : Int))))), (9, (i_ (i3 : Int))), (35, (b_ (((mget (exL l l.length) h).isSome) && (decide (((mget (exL l l.length) h).getD 0) < (i3 : Int)))))), (55, (b_ (!((mget (exL l l.length) h).isSome))))] [] T0 (by kernel_rfl) trivial ?_)
        refine A.tn ?_
        refine A.cond (E := !((mget (exL l l.length) h).isSome)) rfl (fun e3 => ?_) (fun e3 => ?_)
        · skip
          have p3 := e3; try simp only [decide_eq_true_eq, decide_eq_false_iff_not, beq_iff_eq, beq_eq_false_iff_ne, bne_iff_ne, bne_eq_false_iff_eq, ne_eq, Bool.and_eq_true, Bool.or_eq_true, Bool.or_eq_false_iff, Bool.not_eq_true', Bool.not_eq_false', Int.not_lt, Int.not_le, gt_iff_lt, ge_iff_le, Classical.not_not] at p3
          refine A.seq ?_
          refine A.region (A.goA [.p, .p] [(0, (p_ bt)), (3, (p_ b1)), (6, (i_ ((mget (exL l l.length) h).getD 0))), (7, (b_ ((mget (exL l l.length) h).isSome))), (24, (.slice am ((maskL l l.length).length) cm)), (25, (i_ ((maskL l l.length).length : Int))), (26, (i_ (k : Int))), (27, (b_ (decide ((k : Int) < ((maskL l l.length).length : Int))))), (9, (i_ (i3 : Int))), (35, (b_ (((mget (exL l l.length) h).isSome) && (decide (((mget (exL l l.length) h).getD 0) < (i3 : Int)))))), (55, (b_ (!((mget (exL l l.length) h).isSome)))), (4, (i_ 0)), (5, (i_ 31))] [] T0 (by kernel_rfl) trivial ?_)
          refine A.tn ?_
          refine A.ret ?_
          refine A.tr ?_
          refine A.postQ [(i_ 0), (i_ 31)] (fun aa ww rr ss => ⟨rv_tmp rr rfl, rv_tmp rr rfl, trivial⟩) ?_
          show ((.tuple #[(i_ 0), (i_ 31)]) : Value) = (.tuple #[(i_ (findC l h)), (i_ (errC (findC l h)))])
          first | (exfalso; simp_all; done) | exact tu_ok (cl_q hh hg (by assumption) (by assumption) (by assumption) (by assumption) (fun j s hj hs hw => NoM_bel hn (maskL_before (by assumption) (by omega) hs hw) hs)) | exact tu_ok (cl_match hR hh hg hn (by assumption) (by assumption) (by simp_all) (by assumption)) | exact tu_none (cl_none hR hh hg (by rw [List.take_of_length_le (by omega)] at hn; exact hn) (by simp_all)) | exact tu_ok (cl_q hh hg (by assumption) (by assumption) (by assumption) (by assumption) (fun j s hj hs hw => NoM_all (by rw [List.take_of_length_le (by omega)] at hn; exact hn) hs hw))
        · skip
          have p3 := e3; try simp only [decide_eq_true_eq, decide_eq_false_iff_not, beq_iff_eq, beq_eq_false_iff_ne, bne_iff_ne, bne_eq_false_iff_eq, ne_eq, Bool.and_eq_true, Bool.or_eq_true, Bool.or_eq_false_iff, Bool.not_eq_true', Bool.not_eq_false', Int.not_lt, Int.not_le, gt_iff_lt, ge_iff_le, Classical.not_not] at p3
          refine A.skip ?_
          refine A.tn ?_
          refine A.seq ?_
          obtain ⟨q4, rq4, hvq4, hlq4, hwq4, heq4, hmq4⟩ := at_some (l := l) (h := h) (by assumption)
          have hiq4 := (List.getElem?_eq_some_iff.1 hlq4).1
          rw [hvq4]
          refine A.region (A.goA [.p, .p, .p, .rd [(.slice ar l.length cr)], .p, .ix, .p, .rd [(i_ rq4.cl)], .p, .p] [(0, (p_ bt)), (3, (p_ b1)), (6, (i_ (q4 : Int))), (7, (b_ ((mget (exL l l.length) h).isSome))), (24, (.slice am ((maskL l l.length).length) cm)), (25, (i_ ((maskL l l.length).length : Int))), (26, (i_ (k : Int))), (27, (b_ (decide ((k : Int) < ((maskL l l.length).length : Int))))), (9, (i_ (i3 : Int))), (35, (b_ (((mget (exL l l.length) h).isSome) && (decide ((q4 : Int) < (i3 : Int)))))), (55, (b_ (!((mget (exL l l.length) h).isSome)))), (4, (i_ rq4.cl)), (5, (i_ 0))] [] (fun κ => κ.rd ⟨bt, 0, none⟩ [(.slice ar l.length cr)] ∧ κ.ix ar l.length (q4 : Int) ∧ κ.rd (((at0 ar).add (q4 * 9)).add 8) [(i_ rq4.cl)] ∧ True) (by kernel_rfl) ⟨(reads_oldblk r0 rfl), (ixOf encRl_len (by decide) (rd_old r2 (by simp [feet])) (by first | omega | (simp; done))), (reads_at2 (f := 8) (vs := [(i_ rq4.cl)]) encRl_len (rd_old r2 (by simp [feet])) hlq4 (by simp) rfl), trivial⟩ ?_)
          refine A.tn ?_
          refine A.ret ?_
          refine A.postQ [(i_ rq4.cl), (i_ 0)] (fun aa ww rr ss => ⟨rv_tmp rr rfl, rv_tmp rr rfl, trivial⟩) ?_
          show ((.tuple #[(i_ rq4.cl), (i_ 0)]) : Value) = (.tuple #[(i_ (findC l h)), (i_ (errC (findC l h)))])
          first | (exfalso; simp_all; done) | exact tu_ok (cl_q hh hg (by assumption) (by assumption) (by assumption) (by assumption) (fun j s hj hs hw => NoM_bel hn (maskL_before (by assumption) (by omega) hs hw) hs)) | exact tu_ok (cl_match hR hh hg hn (by assumption) (by assumption) (by simp_all) (by assumption)) | exact tu_none (cl_none hR hh hg (by rw [List.take_of_length_le (by omega)] at hn; exact hn) (by simp_all)) | exact tu_ok (cl_q hh hg (by assumption) (by assumption) (by assumption) (by assumption) (fun j s hj hs hw => NoM_all (by rw [List.take_of_length_le (by omega)] at hn; exact hn) hs hw))
      · skip
        have p2 := e2; try simp only [decide_eq_true_eq, decide_eq_false_iff_not, beq_iff_eq, beq_eq_false_iff_ne, bne_iff_ne, bne_eq_false_iff_eq, ne_eq, Bool.and_eq_true, Bool.or_eq_true, Bool.or_eq_false_iff, Bool.not_eq_true', Bool.not_eq_false', Int.not_lt, Int.not_le, gt_iff_lt, ge_iff_le, Classical.not_not] at p2
        refine A.skip ?_
        refine A.tn ?_
        refine A.seq ?_
        refine A.drawA [.p, .p, .p, .rd [(.slice ar l.length cr)], .p, .ix, .rd [(w_ ri3.ma), (w_ ri3.mb), (w_ ri3.mc), (w_ ri3.md), (w_ ri3.wa), (w_ ri3.wb), (w_ ri3.wc), (w_ ri3.wd), (i_ ri3.cl)], .ld 0, .cq (b_ (mt ri3 h))] [0, 1, 2, 3, 4, 5, 6, 7, 8] [(0, (p_ bt)), (3, (p_ b1)), (6, (i_ ((mget (exL l l.length) h).getD 0))), (7, (b_ ((mget (exL l l.length) h).isSome))), (24, (.slice am ((maskL l l.length).length) cm)), (25, (i_ ((maskL l l.length).length : Int))), (26, (i_ (k : Int))), (27, (b_ (decide ((k : Int) < ((maskL l l.length).length : Int))))), (9, (i_ (i3 : Int))), (35, (b_ (((mget (exL l l.length) h).isSome) && (decide (((mget (exL l l.length) h).getD 0) < (i3 : Int)))))), (44, (b_ (mt ri3 h)))] [b1] (fun κ => κ.rd ⟨bt, 0, none⟩ [(.slice ar l.length cr)] ∧ κ.ix ar l.length (i3 : Int) ∧ κ.rd ((at0 ar).add (i3 * 9)) [(w_ ri3.ma), (w_ ri3.mb), (w_ ri3.mc), (w_ ri3.md), (w_ ri3.wa), (w_ ri3.wb), (w_ ri3.wc), (w_ ri3.wd), (i_ ri3.cl)] ∧ κ.call 38 [(.agg #[(w_ ri3.ma), (w_ ri3.mb), (w_ ri3.mc), (w_ ri3.md), (w_ ri3.wa), (w_ ri3.wb), (w_ ri3.wc), (w_ ri3.wd), (i_ ri3.cl)]), (.agg #[(w_ h.ha), (w_ h.hb), (w_ h.hc), (w_ h.hd)])] (b_ (mt ri3 h)) ∧ True) (by kernel_rfl) (by kernel_rfl) ⟨(reads_oldblk r0 rfl), (ixOf encRl_len (by decide) (rd_old r2 (by simp [feet])) (by first | omega | (simp; done))), (reads_at0 (vs := [(w_ ri3.ma), (w_ ri3.mb), (w_ ri3.mc), (w_ ri3.md), (w_ ri3.wa), (w_ ri3.wb), (w_ ri3.wc), (w_ ri3.wd), (i_ ri3.cl)]) encRl_len (rd_old r2 (by simp [feet])) hri3 (by simp) rfl), (fun ww ss => matches_spec ri3 h (by first | assumption | exact hR _ (List.mem_of_getElem? (by assumption))) (by first | assumption | exact hR _ (List.mem_of_getElem? (by assumption))) ww), trivial⟩ ?_
        refine A.tn ?_
        refine A.cond (E := (mt ri3 h)) rfl (fun e4 => ?_) (fun e4 => ?_)
        · skip
          have p4 := e4; try simp only [decide_eq_true_eq, decide_eq_false_iff_not, beq_iff_eq, beq_eq_false_iff_ne, bne_iff_ne, bne_eq_false_iff_eq, ne_eq, Bool.and_eq_true, Bool.or_eq_true, Bool.or_eq_false_iff, Bool.not_eq_true', Bool.not_eq_false', Int.not_lt, Int.not_le, gt_iff_lt, ge_iff_le, Classical.not_not] at p4
          refine A.seq ?_
          refine A.region (A.goA [.p, .p, .p, .rd [(.slice ar l.length cr)], .p, .ix, .p, .rd [(i_ ri3.cl)], .p, .p] [(0, (p_ bt)), (3, (p_ b1)), (6, (i_ ((mget (exL l l.length) h).getD 0))), (7, (b_ ((mget (exL l l.length) h).isSome))), (24, (.slice am ((maskL l l.length).length) cm)), (25, (i_ ((maskL l l.length).length : Int))), (26, (i_ (k : Int))), (27, (b_ (decide ((k : Int) < ((maskL l l.length).length : Int))))), (9, (i_ (i3 : Int))), (35, (b_ (((mget (exL l l.length) h).isSome) && (decide (((mget (exL l l.length) h).getD 0) < (i3 : Int)))))), (44, (b_ (mt ri3 h))), (4, (i_ ri3.cl)), (5, (i_ 0))] [] (fun κ => κ.rd ⟨bt, 0, none⟩ [(.slice ar l.length cr)] ∧ κ.ix ar l.length (i3 : Int) ∧ κ.rd (((at0 ar).add (i3 * 9)).add 8) [(i_ ri3.cl)] ∧ True) (by kernel_rfl) ⟨(reads_oldblk r0 rfl), (ixOf encRl_len (by decide) (rd_old r2 (by simp [feet])) (by first | omega | (simp; done))), (reads_at2 (f := 8) (vs := [(i_ ri3.cl)]) encRl_len (rd_old r2 (by simp [feet])) hri3 (by simp) rfl), trivial⟩ ?_)
          refine A.tn ?_
          refine A.ret ?_
          refine A.br ?_
          refine A.tr ?_
          refine A.tr ?_
          refine A.br ?_
          refine A.tr ?_
          refine A.postQ [(i_ ri3.cl), (i_ 0)] (fun aa ww rr ss => ⟨rv_tmp rr rfl, rv_tmp rr rfl, trivial⟩) ?_
          show ((.tuple #[(i_ ri3.cl), (i_ 0)]) : Value) = (.tuple #[(i_ (findC l h)), (i_ (errC (findC l h)))])
          first | (exfalso; simp_all; done) | exact tu_ok (cl_q hh hg (by assumption) (by assumption) (by assumption) (by assumption) (fun j s hj hs hw => NoM_bel hn (maskL_before (by assumption) (by omega) hs hw) hs)) | exact tu_ok (cl_match hR hh hg hn (by assumption) (by assumption) (by simp_all) (by assumption)) | exact tu_none (cl_none hR hh hg (by rw [List.take_of_length_le (by omega)] at hn; exact hn) (by simp_all)) | exact tu_ok (cl_q hh hg (by assumption) (by assumption) (by assumption) (by assumption) (fun j s hj hs hw => NoM_all (by rw [List.take_of_length_le (by omega)] at hn; exact hn) hs hw))
        · skip
          have p4 := e4; try simp only [decide_eq_true_eq, decide_eq_false_iff_not, beq_iff_eq, beq_eq_false_iff_ne, bne_iff_ne, bne_eq_false_iff_eq, ne_eq, Bool.and_eq_true, Bool.or_eq_true, Bool.or_eq_false_iff, Bool.not_eq_true', Bool.not_eq_false', Int.not_lt, Int.not_le, gt_iff_lt, ge_iff_le, Classical.not_not] at p4
          refine A.skip ?_
          refine A.bn ?_
          refine A.tn ?_
          refine A.region (A.goA [.w ((k : Int) + 1), .p] [(0, (p_ bt)), (3, (p_ b1)), (6, (i_ ((mget (exL l l.length) h).getD 0))), (7, (b_ ((mget (exL l l.length) h).isSome))), (24, (.slice am ((maskL l l.length).length) cm)), (25, (i_ ((maskL l l.length).length : Int))), (26, (i_ ((k : Int) + 1))), (27, (b_ (decide ((k : Int) < ((maskL l l.length).length : Int))))), (9, (i_ (i3 : Int))), (35, (b_ (((mget (exL l l.length) h).isSome) && (decide (((mget (exL l l.length) h).getD 0) < (i3 : Int)))))), (44, (b_ (mt ri3 h)))] [] (fun κ => (IntKind.i64.wrap ((k : Int) + 1) = ((k : Int) + 1)) ∧ True) (by kernel_rfl) ⟨(wrap_i64 (e := (k : Int) + 1) (by constructor <;> omega)), trivial⟩ ?_)
          refine A.tn ?_
          refine A.next (k + 1) ⟨(by first | assumption | omega | (simp_all; done) | (simp_all; omega) | grind), (by (rw [take_snoc (by (first | assumption | (exact (List.getElem?_eq_getElem (by assumption)).trans (congrArg some (by assumption)))))]; exact NoM_snoc hn (by first | assumption | (exact (List.getElem?_eq_getElem (by assumption)).trans (congrArg some (by assumption)))) (by assumption)))⟩ (by first | omega | (simp; omega) | (simp_all; omega)) ?_
          exact A.hereK [0] (by exact ⟨rfl, rfl, rfl, rfl, rfl, rfl, rfl, trivial⟩) (by kernel_rfl)
    · skip
      have p1 := of_decide_eq_false e1
      refine A.exit ?_
      refine A.te ?_
      refine A.te ?_
      refine A.bh ?_
      refine A.tn ?_
      refine A.seq ?_
      refine A.seq ?_
      refine A.region (A.goA [.p, .p] [(0, (p_ bt)), (3, (p_ b1)), (6, (i_ ((mget (exL l l.length) h).getD 0))), (7, (b_ ((mget (exL l l.length) h).isSome))), (24, (.slice am ((maskL l l.length).length) cm)), (25, (i_ ((maskL l l.length).length : Int))), (26, (i_ (k : Int))), (27, (b_ (decide ((k : Int) < ((maskL l l.length).length : Int))))), (55, (b_ (!((mget (exL l l.length) h).isSome))))] [] T0 (by kernel_rfl) trivial ?_)
      refine A.tn ?_
      refine A.cond (E := !((mget (exL l l.length) h).isSome)) rfl (fun e5 => ?_) (fun e5 => ?_)
      · skip
        have p5 := e5; try simp only [decide_eq_true_eq, decide_eq_false_iff_not, beq_iff_eq, beq_eq_false_iff_ne, bne_iff_ne, bne_eq_false_iff_eq, ne_eq, Bool.and_eq_true, Bool.or_eq_true, Bool.or_eq_false_iff, Bool.not_eq_true', Bool.not_eq_false', Int.not_lt, Int.not_le, gt_iff_lt, ge_iff_le, Classical.not_not] at p5
        refine A.seq ?_
        refine A.region (A.goA [.p, .p] [(0, (p_ bt)), (3, (p_ b1)), (6, (i_ ((mget (exL l l.length) h).getD 0))), (7, (b_ ((mget (exL l l.length) h).isSome))), (24, (.slice am ((maskL l l.length).length) cm)), (25, (i_ ((maskL l l.length).length : Int))), (26, (i_ (k : Int))), (27, (b_ (decide ((k : Int) < ((maskL l l.length).length : Int))))), (55, (b_ (!((mget (exL l l.length) h).isSome)))), (4, (i_ 0)), (5, (i_ 31))] [] T0 (by kernel_rfl) trivial ?_)
        refine A.tn ?_
        refine A.ret ?_
        refine A.tr ?_
        refine A.postQ [(i_ 0), (i_ 31)] (fun aa ww rr ss => ⟨rv_tmp rr rfl, rv_tmp rr rfl, trivial⟩) ?_
        show ((.tuple #[(i_ 0), (i_ 31)]) : Value) = (.tuple #[(i_ (findC l h)), (i_ (errC (findC l h)))])
        first | (exfalso; simp_all; done) | exact tu_ok (cl_q hh hg (by assumption) (by assumption) (by assumption) (by assumption) (fun j s hj hs hw => NoM_bel hn (maskL_before (by assumption) (by omega) hs hw) hs)) | exact tu_ok (cl_match hR hh hg hn (by assumption) (by assumption) (by simp_all) (by assumption)) | exact tu_none (cl_none hR hh hg (by rw [List.take_of_length_le (by omega)] at hn; exact hn) (by simp_all)) | exact tu_ok (cl_q hh hg (by assumption) (by assumption) (by assumption) (by assumption) (fun j s hj hs hw => NoM_all (by rw [List.take_of_length_le (by omega)] at hn; exact hn) hs hw))
      · skip
        have p5 := e5; try simp only [decide_eq_true_eq, decide_eq_false_iff_not, beq_iff_eq, beq_eq_false_iff_ne, bne_iff_ne, bne_eq_false_iff_eq, ne_eq, Bool.and_eq_true, Bool.or_eq_true, Bool.or_eq_false_iff, Bool.not_eq_true', Bool.not_eq_false', Int.not_lt, Int.not_le, gt_iff_lt, ge_iff_le, Classical.not_not] at p5
        refine A.skip ?_
        refine A.tn ?_
        refine A.seq ?_
        obtain ⟨q5, rq5, hvq5, hlq5, hwq5, heq5, hmq5⟩ := at_some (l := l) (h := h) (by assumption)
        have hiq5 := (List.getElem?_eq_some_iff.1 hlq5).1
        rw [hvq5]
        refine A.region (A.goA [.p, .p, .p, .rd [(.slice ar l.length cr)], .p, .ix, .p, .rd [(i_ rq5.cl)], .p, .p] [(0, (p_ bt)), (3, (p_ b1)), (6, (i_ (q5 : Int))), (7, (b_ ((mget (exL l l.length) h).isSome))), (24, (.slice am ((maskL l l.length).length) cm)), (25, (i_ ((maskL l l.length).length : Int))), (26, (i_ (k : Int))), (27, (b_ (decide ((k : Int) < ((maskL l l.length).length : Int))))), (55, (b_ (!((mget (exL l l.length) h).isSome)))), (4, (i_ rq5.cl)), (5, (i_ 0))] [] (fun κ => κ.rd ⟨bt, 0, none⟩ [(.slice ar l.length cr)] ∧ κ.ix ar l.length (q5 : Int) ∧ κ.rd (((at0 ar).add (q5 * 9)).add 8) [(i_ rq5.cl)] ∧ True) (by kernel_rfl) ⟨(reads_oldblk r0 rfl), (ixOf encRl_len (by decide) (rd_old r2 (by simp [feet])) (by first | omega | (simp; done))), (reads_at2 (f := 8) (vs := [(i_ rq5.cl)]) encRl_len (rd_old r2 (by simp [feet])) hlq5 (by simp) rfl), trivial⟩ ?_)
        refine A.tn ?_
        refine A.ret ?_
        refine A.postQ [(i_ rq5.cl), (i_ 0)] (fun aa ww rr ss => ⟨rv_tmp rr rfl, rv_tmp rr rfl, trivial⟩) ?_
        show ((.tuple #[(i_ rq5.cl), (i_ 0)]) : Value) = (.tuple #[(i_ (findC l h)), (i_ (errC (findC l h)))])
        first | (exfalso; simp_all; done) | exact tu_ok (cl_q hh hg (by assumption) (by assumption) (by assumption) (by assumption) (fun j s hj hs hw => NoM_bel hn (maskL_before (by assumption) (by omega) hs hw) hs)) | exact tu_ok (cl_match hR hh hg hn (by assumption) (by assumption) (by simp_all) (by assumption)) | exact tu_none (cl_none hR hh hg (by rw [List.take_of_length_le (by omega)] at hn; exact hn) (by simp_all)) | exact tu_ok (cl_q hh hg (by assumption) (by assumption) (by assumption) (by assumption) (fun j s hj hs hw => NoM_all (by rw [List.take_of_length_le (by omega)] at hn; exact hn) hs hw))
end Go.Proofs.Ytkfmboicmdnjpaa
