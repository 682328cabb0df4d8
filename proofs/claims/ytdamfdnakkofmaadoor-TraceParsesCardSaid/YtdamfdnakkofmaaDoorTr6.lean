/- What the functions of this layer do, proved operation by operation, for all arguments, under the conditions that each theorem states. -/
import Derived.Test.YtdamfdnakkofmaaDoorProg
import Derived.Test.YtdamfdnakkofmaaDoorTr4
import Derived.Test.YtdamfdnakkofmaaDoorTr5
namespace Go.Proofs.YtdamfdnakkofmaaDoor
open Go V
set_option linter.unusedVariables false
set_option linter.unusedSimpArgs false
theorem words_app {c : UInt8} {r : List UInt8} : ∀ {x : List UInt8}, c ∉ x → words c (x ++ c :: r) = x :: words c r
  | [], _ => by simp [words]
  | b :: x, h => by
    have ih := words_app (r := r) (x := x) (fun hc => h (List.mem_cons_of_mem _ hc))
    have hb : ¬ b = c := fun hb => h (by simp [hb])
    rw [List.cons_append, words, if_neg hb, ih]
theorem words_one {c : UInt8} : ∀ {x : List UInt8}, c ∉ x → words c x = [x]
  | [], _ => rfl
  | b :: x, h => by
    have ih := words_one (x := x) (fun hc => h (List.mem_cons_of_mem _ hc))
    have hb : ¬ b = c := fun hb => h (by simp [hb])
    rw [words, if_neg hb, ih]
theorem words_join {c : UInt8} : ∀ {xs : List (List UInt8)}, xs ≠ [] → (∀ x ∈ xs, c ∉ x) → words c (Lib.join xs [c]) = xs
  | [], h, _ => absurd rfl h
  | [x], _, h => by rw [join_one]; exact words_one (h x (by simp))
  | x :: y :: r, _, h => by
    have ih := words_join (xs := y :: r) (by simp) fun z hz => h z (by simp [hz])
    rw [join_cons, List.singleton_append, words_app (h x (by simp)), ih]
theorem words_hd (c : UInt8) : ∀ l : List UInt8, ∃ x xs, words c l = x :: xs
  | [] => ⟨_, _, rfl⟩
  | b :: l => by
    obtain ⟨x, xs, h⟩ := words_hd c l
    rw [words]; split
    · exact ⟨_, _, rfl⟩
    · rw [h]; exact ⟨_, _, rfl⟩
theorem join_words (c : UInt8) : ∀ l : List UInt8, Lib.join (words c l) [c] = l
  | [] => join_one _ _
  | b :: l => by
    obtain ⟨x, xs, h⟩ := words_hd c l
    have ih := join_words c l
    rw [words]; split
    · rename_i hb; rw [h, join_cons, ← h, ih, hb]; rfl
    · rw [h] at ih ⊢
      show Lib.join ((b :: x) :: xs) [c] = b :: l
      cases xs with
      | nil => rw [join_one] at ih ⊢; rw [ih]
      | cons y r => rw [join_cons] at ih ⊢; rw [List.cons_append, ih]
theorem tens_32 (v : Int) : (32 : UInt8) ∉ tens v := fun h => by have := tn_digits _ _ h; revert this; decide
theorem tens_ne (v : Int) : tens v ≠ [] := tn_ne _
theorem lineW_in {e : Ev} (h : e.ei = true) : lineW e = [tens e.eo, [105, 110], tens e.ea, tens e.ec, tens e.ep, tens e.el, tens e.fa, tens e.fb, tens e.fc, tens e.fd] := by
  unfold lineW lineH; rw [if_pos h]; rfl
theorem lineW_out {e : Ev} (h : ¬ e.ei = true) : lineW e = [tens e.eo, (if e.er = true then [114, 101, 97, 108] else [115, 104, 97, 114, 101]), tens e.ea, tens e.ed, tens e.ec, tens e.ep, tens e.el, tens e.fa, tens e.fb, tens e.fc, tens e.fd] := by
  unfold lineW lineH; rw [if_neg h]; split <;> rfl
theorem lineW_ok (e : Ev) : (∀ x ∈ lineW e, (32 : UInt8) ∉ x) ∧ (∀ x ∈ lineW e, ¬ [] = x) := by
  have k1 : (32 : UInt8) ∉ ([105, 110] : List UInt8) := by decide
  have k2 : (32 : UInt8) ∉ (if e.er = true then [114, 101, 97, 108] else [115, 104, 97, 114, 101] : List UInt8) := by split <;> decide
  have k3 : ¬ [] = (if e.er = true then [114, 101, 97, 108] else [115, 104, 97, 114, 101] : List UInt8) := by split <;> decide
  have k4 : ∀ v : Int, ¬ [] = tens v := fun v h => tens_ne v h.symm
  by_cases h : e.ei = true
  · rw [lineW_in h]; simp [tens_32, tens_ne]
  · rw [lineW_out h]
    constructor
    · intro x hx
      simp only [List.mem_cons, List.not_mem_nil, or_false] at hx
      rcases hx with rfl | rfl | rfl | rfl | rfl | rfl | rfl | rfl | rfl | rfl | rfl
      all_goals first | exact tens_32 _ | exact k2
    · intro x hx
      simp only [List.mem_cons, List.not_mem_nil, or_false] at hx
      rcases hx with rfl | rfl | rfl | rfl | rfl | rfl | rfl | rfl | rfl | rfl | rfl
      all_goals first | exact k4 _ | exact k3
theorem line_words (e : Ev) : words 32 (lineJ e) = lineW e := words_join (by unfold lineW; simp) (lineW_ok e).1
/-- what Parse makes of an event's line -/
theorem parse_line {e : Ev} (hok : EvOk e) (hm : mayE e = true) : prE (lineJ e) = 0 ∧ prV (lineJ e) = e := by
  have hl := lineJ_len hok
  have hw := line_words e
  have hc : ¬ (words 32 (lineJ e)).contains [] = true := by rw [hw, cont_no (v := []) (k := (lineW e).length) (by rw [List.take_length]; exact (lineW_ok e).2) (Nat.le_refl _)]; decide
  obtain ⟨hp, hq⟩ := may_of.1 hm
  unfold EvOk at hok
  by_cases h : e.ei = true
  · have hW := hw.trans (lineW_in h)
    obtain ⟨hd, hr⟩ := hq h
    have hx : (words 32 (lineJ e)).getD 1 [] = [105, 110] := by rw [hW]; rfl
    have h2 : 2 ≤ (words 32 (lineJ e)).length := by rw [hW]; simp
    have gE := pr_in (l := lineJ e) (by omega) hc hx (by rw [hW]; rfl)
    rw [errsI_W h2, hW] at gE
    have g1 : prE (lineJ e) = 0 := by
      rw [gE]
      show fe [numE (tens e.eo) _, numE (tens e.ea) _, numE (tens e.ec) _, numE (tens e.ep) _, numE (tens e.el) _, numE (tens e.fa) _, numE (tens e.fb) _, numE (tens e.fc) _, numE (tens e.fd) _] = 0
      rw [(tens_back (v := e.eo) (by omega) (by omega)).2, (tens_back (v := e.ea) (by omega) (by omega)).2, (tens_back (v := e.ec) (by omega) (by omega)).2, (tens_back (v := e.ep) (by omega) (by omega)).2, (tens_back (v := e.el) (by omega) (by omega)).2, (tens_back (v := e.fa) (by omega) (by omega)).2, (tens_back (v := e.fb) (by omega) (by omega)).2, (tens_back (v := e.fc) (by omega) (by omega)).2, (tens_back (v := e.fd) (by omega) (by omega)).2]
      rfl
    refine ⟨g1, ?_⟩
    rw [pr_okI g1 hx, valI_W h2, hW]
    show (⟨numV (tens e.eo) _, true, false, numV (tens e.ea) _, 0, numV (tens e.ec) _, numV (tens e.ep) _, numV (tens e.el) _, numV (tens e.fa) _, numV (tens e.fb) _, numV (tens e.fc) _, numV (tens e.fd) _⟩ : Ev) = e
    rw [(tens_back (v := e.eo) (by omega) (by omega)).1, (tens_back (v := e.ea) (by omega) (by omega)).1, (tens_back (v := e.ec) (by omega) (by omega)).1, (tens_back (v := e.ep) (by omega) (by omega)).1, (tens_back (v := e.el) (by omega) (by omega)).1, (tens_back (v := e.fa) (by omega) (by omega)).1, (tens_back (v := e.fb) (by omega) (by omega)).1, (tens_back (v := e.fc) (by omega) (by omega)).1, (tens_back (v := e.fd) (by omega) (by omega)).1]
    obtain ⟨eo, ei, er, ea, ed, ec, ep, el, fa, fb, fc, fd⟩ := e
    simp at h hd hr; subst h hd hr; rfl
  · have hW := hw.trans (lineW_out h)
    have hx : ¬ (words 32 (lineJ e)).getD 1 [] = [105, 110] := by rw [hW]; show ¬ (if e.er = true then [114, 101, 97, 108] else [115, 104, 97, 114, 101] : List UInt8) = _; split <;> decide
    have hy : (words 32 (lineJ e)).getD 1 [] = [114, 101, 97, 108] ∨ (words 32 (lineJ e)).getD 1 [] = [115, 104, 97, 114, 101] := by
      rw [hW]; show (if e.er = true then [114, 101, 97, 108] else [115, 104, 97, 114, 101] : List UInt8) = _ ∨ (if e.er = true then [114, 101, 97, 108] else [115, 104, 97, 114, 101] : List UInt8) = _; split <;> simp
    have h2 : 2 ≤ (words 32 (lineJ e)).length := by rw [hW]; simp
    have gE := pr_out (l := lineJ e) (by omega) hc hx hy (by rw [hW]; rfl)
    rw [errsO_W h2, hW] at gE
    have g1 : prE (lineJ e) = 0 := by
      rw [gE]
      show fe [numE (tens e.eo) _, numE (tens e.ea) _, numE (tens e.ed) _, numE (tens e.ec) _, numE (tens e.ep) _, numE (tens e.el) _, numE (tens e.fa) _, numE (tens e.fb) _, numE (tens e.fc) _, numE (tens e.fd) _] = 0
      rw [(tens_back (v := e.eo) (by omega) (by omega)).2, (tens_back (v := e.ea) (by omega) (by omega)).2, (tens_back (v := e.ed) (by omega) (by omega)).2, (tens_back (v := e.ec) (by omega) (by omega)).2, (tens_back (v := e.ep) (by omega) (by omega)).2, (tens_back (v := e.el) (by omega) (by omega)).2, (tens_back (v := e.fa) (by omega) (by omega)).2, (tens_back (v := e.fb) (by omega) (by omega)).2, (tens_back (v := e.fc) (by omega) (by omega)).2, (tens_back (v := e.fd) (by omega) (by omega)).2]
      rfl
    refine ⟨g1, ?_⟩
    have hr : ((words 32 (lineJ e)).getD 1 [] == [114, 101, 97, 108]) = e.er := by rw [hW]; show ((if e.er = true then [114, 101, 97, 108] else [115, 104, 97, 114, 101] : List UInt8) == _) = _; cases e.er <;> decide
    rw [pr_okO g1 hx, valO_W _ h2, hr, hW]
    show (⟨numV (tens e.eo) _, false, e.er, numV (tens e.ea) _, numV (tens e.ed) _, numV (tens e.ec) _, numV (tens e.ep) _, numV (tens e.el) _, numV (tens e.fa) _, numV (tens e.fb) _, numV (tens e.fc) _, numV (tens e.fd) _⟩ : Ev) = e
    rw [(tens_back (v := e.eo) (by omega) (by omega)).1, (tens_back (v := e.ea) (by omega) (by omega)).1, (tens_back (v := e.ed) (by omega) (by omega)).1, (tens_back (v := e.ec) (by omega) (by omega)).1, (tens_back (v := e.ep) (by omega) (by omega)).1, (tens_back (v := e.el) (by omega) (by omega)).1, (tens_back (v := e.fa) (by omega) (by omega)).1, (tens_back (v := e.fb) (by omega) (by omega)).1, (tens_back (v := e.fc) (by omega) (by omega)).1, (tens_back (v := e.fd) (by omega) (by omega)).1]
    obtain ⟨eo, ei, er, ea, ed, ec, ep, el, fa, fb, fc, fd⟩ := e
    simp at h; subst h; rfl
theorem fe_all {x : Int} {xs : List Int} : fe (x :: xs) = 0 ↔ x = 0 ∧ fe xs = 0 := by
  show (if x = 0 then fe xs else x) = 0 ↔ _
  split
  · rename_i h; simp [h]
  · rename_i h; simp [h]
theorem ten10 {W : List (List UInt8)} (h : W.length = 10) : W = [W.getD 0 [], W.getD 1 [], W.getD 2 [], W.getD 3 [], W.getD 4 [], W.getD 5 [], W.getD 6 [], W.getD 7 [], W.getD 8 [], W.getD 9 []] := by
  match W, h with
  | [_, _, _, _, _, _, _, _, _, _], _ => rfl
theorem ten11 {W : List (List UInt8)} (h : W.length = 11) : W = [W.getD 0 [], W.getD 1 [], W.getD 2 [], W.getD 3 [], W.getD 4 [], W.getD 5 [], W.getD 6 [], W.getD 7 [], W.getD 8 [], W.getD 9 [], W.getD 10 []] := by
  match W, h with
  | [_, _, _, _, _, _, _, _, _, _, _], _ => rfl
theorem pr_0 {l : List UInt8} (h : prE l = 0) : ((words 32 l).getD 1 [] = [105, 110] ∧ (words 32 l).length = 10 ∧ fe (errsI (dl (words 32 l))) = 0) ∨ (¬ (words 32 l).getD 1 [] = [105, 110] ∧ ((words 32 l).getD 1 [] = [114, 101, 97, 108] ∨ (words 32 l).getD 1 [] = [115, 104, 97, 114, 101]) ∧ (words 32 l).length = 11 ∧ fe (errsO (dl (words 32 l))) = 0) := by
  unfold prE prW at h
  split at h
  · cases h
  · split at h
    · cases h
    · split at h
      · rename_i h1
        split at h
        · rename_i h2; exact .inl ⟨h1, h2, h⟩
        · cases h
      · rename_i h1
        split at h
        · rename_i h2
          split at h
          · rename_i h3; exact .inr ⟨h1, h2, h3, h⟩
          · cases h
        · cases h
theorem line_parse {l : List UInt8} (h : prE l = 0) : EvOk (prV l) ∧ mayE (prV l) = true ∧ lineJ (prV l) = l := by
  have hr : ∀ (k : Nat) (m : Int), 0 ≤ m → 0 ≤ numV ((words 32 l).getD k []) m ∧ numV ((words 32 l).getD k []) m ≤ m := fun k m hm => num_rng hm
  have r0 := hr 0 9223372036854775807 (by decide); have r2 := hr 2 18446744073709551615 (by decide); have r3 := hr 3 9223372036854775807 (by decide); have r3' := hr 3 18446744073709551615 (by decide)
  have r4 := hr 4 9223372036854775807 (by decide); have r4' := hr 4 18446744073709551615 (by decide); have r5 := hr 5 9223372036854775807 (by decide); have r5' := hr 5 18446744073709551615 (by decide); have r6 := hr 6 65535 (by decide); have r6' := hr 6 9223372036854775807 (by decide)
  have r7 := hr 7 65535 (by decide); have r8 := hr 8 65535 (by decide); have r9 := hr 9 65535 (by decide); have r10 := hr 10 65535 (by decide)
  rcases pr_0 h with ⟨hx, hn, hf⟩ | ⟨hx, hy, hn, hf⟩
  · have h2 : 2 ≤ (words 32 l).length := by omega
    rw [errsI_W h2] at hf
    simp only [fe_all] at hf
    obtain ⟨f0, f2, f3, f4, f5, f6, f7, f8, f9, _⟩ := hf
    have hv := (pr_okI h hx).trans (valI_W h2)
    rw [hv]
    refine ⟨by unfold EvOk; dsimp only; refine ⟨?_, trivial, trivial, ?_, ?_, ?_, ?_, ?_, ?_, ?_, ?_, ?_⟩ <;> omega, may_of.2 ⟨by simp only []; omega, fun _ => ⟨rfl, rfl⟩⟩, ?_⟩
    unfold lineJ
    rw [lineW_in rfl]
    simp only []
    rw [num_back f0, num_back f2, num_back f3, num_back f4, num_back f5, num_back f6, num_back f7, num_back f8, num_back f9, ← hx, ← ten10 hn]
    exact join_words 32 l
  · have h2 : 2 ≤ (words 32 l).length := by omega
    rw [errsO_W h2] at hf
    simp only [fe_all] at hf
    obtain ⟨f0, f2, f3, f4, f5, f6, f7, f8, f9, f10, _⟩ := hf
    have hv := (pr_okO h hx).trans (valO_W _ h2)
    have hz : (if ((words 32 l).getD 1 [] == [114, 101, 97, 108]) = true then [114, 101, 97, 108] else [115, 104, 97, 114, 101] : List UInt8) = (words 32 l).getD 1 [] := by
      rcases hy with hy | hy <;> rw [hy] <;> decide
    rw [hv]
    refine ⟨by unfold EvOk; dsimp only; refine ⟨?_, trivial, trivial, ?_, ?_, ?_, ?_, ?_, ?_, ?_, ?_, ?_⟩ <;> omega, may_of.2 ⟨by simp only []; omega, fun h => by cases h⟩, ?_⟩
    unfold lineJ
    rw [lineW_out (by simp)]
    simp only []
    rw [hz, num_back f0, num_back f2, num_back f3, num_back f4, num_back f5, num_back f6, num_back f7, num_back f8, num_back f9, num_back f10, ← ten11 hn]
    exact join_words 32 l
theorem sum_add {α : Type} (f g h : α → Int) (H : ∀ e, f e + g e = h e) : ∀ l : List α, (l.map f).sum + (l.map g).sum = (l.map h).sum
  | [] => rfl
  | e :: l => by have ih := sum_add f g h H l; have := H e; simp only [List.map_cons, List.sum_cons]; omega
theorem bySum_add {s1 s2 so : Ev → Bool} {cs : List Int} (H : ∀ e, byW s1 cs e + byW s2 cs e = byW so cs e) (l : List Ev) : (bySum s1 cs l + bySum s2 cs l) % 18446744073709551616 = bySum so cs l := by
  have := sum_add _ _ _ H l
  unfold bySum; omega
theorem byW_add {s1 s2 so : Ev → Bool} {cs : List Int} {e : Ev} (h : (s1 e = true ∧ s2 e = false ∧ so e = true) ∨ (s1 e = false ∧ s2 e = so e)) : byW s1 cs e + byW s2 cs e = byW so cs e := by
  unfold byW
  rcases h with ⟨h1, h2, h3⟩ | ⟨h1, h2⟩
  · rw [h1, h2, h3]; simp
  · rw [h1, h2]; simp
theorem joins_01 {q a b c : Int} (hq : q = 0 ∨ q = 1) (hab : a ≤ b) (hbc : b < c) (cs : List Int) (l : List Ev) : (bySum (fun e => soE q e a b) cs l + bySum (fun e => soE q e (b + 1) c) cs l) % 18446744073709551616 = bySum (fun e => soE q e a c) cs l := by
  refine bySum_add (fun e => byW_add ?_) l
  have h2 : (q == 2) = false := by rcases hq with rfl | rfl <;> rfl
  have h3 : decide (q < 2) = true := by rcases hq with rfl | rfl <;> rfl
  unfold soE; rw [h2, h3]
  cases (e.ei == (q == 0))
  · simp
  · simp only [Bool.true_and, Bool.false_and, Bool.or_false, Bool.and_eq_true, decide_eq_true_eq, Bool.and_eq_false_imp, decide_eq_false_iff_not]
    by_cases h : e.ea ≥ a ∧ e.ea ≤ b
    · left; omega
    · right; refine ⟨by omega, ?_⟩
      rw [Bool.eq_iff_iff]; simp only [Bool.and_eq_true, decide_eq_true_eq]; omega
theorem joins_2 {a b c : Int} (hab : a ≤ b) (hbc : b < c) (cs : List Int) (l : List Ev) : (bySum (fun e => soE 2 e a b) cs l + bySum (fun e => soE 2 e b c) cs l) % 18446744073709551616 = bySum (fun e => soE 2 e a c) cs l := by
  refine bySum_add (fun e => byW_add ?_) l
  unfold soE
  have h3 : decide ((2 : Int) < 2) = false := rfl
  rw [h3]
  cases (e.ei == ((2 : Int) == 0))
  · simp
  · simp only [Bool.true_and, Bool.false_and, Bool.false_or, Bool.and_eq_true, decide_eq_true_eq, Bool.and_eq_false_imp, decide_eq_false_iff_not, show ((2 : Int) == 2) = true from rfl]
    by_cases h : e.ed > a ∧ e.ed ≤ b
    · left; omega
    · right; refine ⟨by omega, ?_⟩
      rw [Bool.eq_iff_iff]; simp only [Bool.and_eq_true, decide_eq_true_eq]; omega

set_option maxHeartbeats 4000000 in
set_option maxRecDepth 100000 in
theorem seven30_spec (w : World) :
    Calls Tryd.prog 25 #[] w fun e w' => e = .returned (b_ true) ∧ Fr [] w w' := by
  have s3 : prE [52, 32, 114, 101, 97, 108, 32, 57, 32, 49, 48, 57, 32, 51, 32, 55, 32, 49, 48, 48, 32, 49, 32, 48, 32, 48, 32, 50] = 0 := by decide
  have s4 : prV [52, 32, 114, 101, 97, 108, 32, 57, 32, 49, 48, 57, 32, 51, 32, 55, 32, 49, 48, 48, 32, 49, 32, 48, 32, 48, 32, 50] = (⟨4, false, true, 9, 109, 3, 7, 100, 1, 0, 0, 2⟩ : Ev) := by rfl
  have sA : prE [50, 32, 105, 110, 32, 53, 32, 51, 32, 55, 32, 49, 48, 48, 32, 49, 32, 48, 32, 48, 32, 50] = 0 := by decide
  have sB : prV [50, 32, 105, 110, 32, 53, 32, 51, 32, 55, 32, 49, 48, 48, 32, 49, 32, 48, 32, 48, 32, 50] = (⟨2, true, false, 5, 0, 3, 7, 100, 1, 0, 0, 2⟩ : Ev) := by rfl
  have sC : mayE (⟨2, true, false, 5, 0, 3, 7, 100, 1, 0, 0, 2⟩ : Ev) = true := by rfl
  have s1 : lineE (⟨2, true, false, 5, 0, 3, 7, 100, 1, 0, 0, 2⟩ : Ev) = 0 := by unfold lineE; rw [if_pos sC]
  have s2 : lineL (⟨2, true, false, 5, 0, 3, 7, 100, 1, 0, 0, 2⟩ : Ev) = [50, 32, 105, 110, 32, 53, 32, 51, 32, 55, 32, 49, 48, 48, 32, 49, 32, 48, 32, 48, 32, 50] := by unfold lineL; rw [if_pos sC, ← sB]; exact (line_parse sA).2.2
  have ok1 : EvOk (⟨2, true, false, 5, 0, 3, 7, 100, 1, 0, 0, 2⟩ : Ev) := by unfold EvOk; decide
  have ok2 : ∀ e ∈ [(⟨2, true, false, 5, 0, 3, 7, 100, 1, 0, 0, 2⟩ : Ev), (⟨2, true, false, 5, 0, 3, 7, 100, 1, 0, 0, 2⟩ : Ev)], EvOk e := by intro e he; simp only [List.mem_cons, List.not_mem_nil, or_false] at he; rcases he with rfl | rfl <;> exact ok1
  have ok3 : ∀ e ∈ [prV [52, 32, 114, 101, 97, 108, 32, 57, 32, 49, 48, 57, 32, 51, 32, 55, 32, 49, 48, 48, 32, 49, 32, 48, 32, 48, 32, 50]], EvOk e := by intro e he; simp only [List.mem_singleton] at he; rw [he, s4]; unfold EvOk; decide
  have q1 : bySum (fun e => soE 0 e 5 5) ([3, 3]) [(⟨2, true, false, 5, 0, 3, 7, 100, 1, 0, 0, 2⟩ : Ev), (⟨2, true, false, 5, 0, 3, 7, 100, 1, 0, 0, 2⟩ : Ev)] = 200 := by rfl
  have q2 : bySum (fun e => soE 1 e 0 8) ([3]) [prV [52, 32, 114, 101, 97, 108, 32, 57, 32, 49, 48, 57, 32, 51, 32, 55, 32, 49, 48, 48, 32, 49, 32, 48, 32, 48, 32, 50]] = 0 := by rw [s4]; rfl
  have q3 : bySum (fun e => soE 2 e 108 109) ([3]) [prV [52, 32, 114, 101, 97, 108, 32, 57, 32, 49, 48, 57, 32, 51, 32, 55, 32, 49, 48, 48, 32, 49, 32, 48, 32, 48, 32, 50]] = 100 := by rw [s4]; rfl
  refine calls_of (args := []) (penv []) [] [] Tryd.func25 rfl rfl (look_penv _) (HS.nil w) ?_
  refine A.norm [] [] trivial rfl ?_
  refine A.seq (A.region (A.goA [.p] [(0, b_ false)] [] T0 (by kernel_rfl) trivial ?_))
  refine A.tn (A.seq (A.region (A.goA1 [.p, .p, .p, .al, .st 0] [0, 1] (fun b1 => [(0, b_ false), (1, p_ b1)]) (fun b1 => [blk b1 [i_ 2, b_ true, b_ false, u_ 5, u_ 0, i_ 3, u_ 7, i_ 100, w_ 1, w_ 0, w_ 0, w_ 2] 67]) (fun b1 => [b1]) (fun _ => T0) (fun _ => by kernel_rfl) (fun b1 => trivial) ?_)))
  intro b1
  refine A.tn (A.seq (A.region (A.goA [.ld 0, .cq (.tuple #[s_ (bs (lineL ⟨2, true, false, 5, 0, 3, 7, 100, 1, 0, 0, 2⟩)), i_ (lineE ⟨2, true, false, 5, 0, 3, 7, 100, 1, 0, 0, 2⟩)]), .p, .p, .p, .p, .p] [(0, b_ false), (1, p_ b1), (2, s_ (bs (lineL ⟨2, true, false, 5, 0, 3, 7, 100, 1, 0, 0, 2⟩))), (3, i_ (lineE ⟨2, true, false, 5, 0, 3, 7, 100, 1, 0, 0, 2⟩))] [b1] (fun κ => κ.call 30 [(.agg #[i_ 2, b_ true, b_ false, u_ 5, u_ 0, i_ 3, u_ 7, i_ 100, w_ 1, w_ 0, w_ 0, w_ 2])] (.tuple #[s_ (bs (lineL ⟨2, true, false, 5, 0, 3, 7, 100, 1, 0, 0, 2⟩)), i_ (lineE ⟨2, true, false, 5, 0, 3, 7, 100, 1, 0, 0, 2⟩)]) ∧ True) (by kernel_rfl) ⟨(fun ww ss => tline_spec 2 true false 5 0 3 7 100 1 0 0 2 (by first | assumption | omega | decide | (simp; done)) ww), trivial⟩ ?_)))
  refine A.tn (A.seq (A.region (A.goA1 [.cq (.tuple #[(.agg (encEv (prV ([52, 32, 114, 101, 97, 108, 32, 57, 32, 49, 48, 57, 32, 51, 32, 55, 32, 49, 48, 48, 32, 49, 32, 48, 32, 48, 32, 50]))).toArray), i_ (prE ([52, 32, 114, 101, 97, 108, 32, 57, 32, 49, 48, 57, 32, 51, 32, 55, 32, 49, 48, 48, 32, 49, 32, 48, 32, 48, 32, 50]))]), .p, .p, .p, .al, .st 1, .p] [0, 1, 2, 3, 4, 5] (fun b2 => [(0, b_ false), (1, p_ b1), (2, s_ (bs (lineL ⟨2, true, false, 5, 0, 3, 7, 100, 1, 0, 0, 2⟩))), (3, i_ (lineE ⟨2, true, false, 5, 0, 3, 7, 100, 1, 0, 0, 2⟩)), (4, p_ b2), (5, i_ (prE ([52, 32, 114, 101, 97, 108, 32, 57, 32, 49, 48, 57, 32, 51, 32, 55, 32, 49, 48, 48, 32, 49, 32, 48, 32, 48, 32, 50])))]) (fun b2 => [blk b1 [i_ 2, b_ true, b_ false, u_ 5, u_ 0, i_ 3, u_ 7, i_ 100, w_ 1, w_ 0, w_ 0, w_ 2] 67, blk b2 (encEv (prV ([52, 32, 114, 101, 97, 108, 32, 57, 32, 49, 48, 57, 32, 51, 32, 55, 32, 49, 48, 48, 32, 49, 32, 48, 32, 48, 32, 50]))) 67]) (fun b2 => [b2]) (fun _ => (fun κ => κ.call 32 [s_ (bs [52, 32, 114, 101, 97, 108, 32, 57, 32, 49, 48, 57, 32, 51, 32, 55, 32, 49, 48, 48, 32, 49, 32, 48, 32, 48, 32, 50])] (.tuple #[(.agg (encEv (prV ([52, 32, 114, 101, 97, 108, 32, 57, 32, 49, 48, 57, 32, 51, 32, 55, 32, 49, 48, 48, 32, 49, 32, 48, 32, 48, 32, 50]))).toArray), i_ (prE ([52, 32, 114, 101, 97, 108, 32, 57, 32, 49, 48, 57, 32, 51, 32, 55, 32, 49, 48, 48, 32, 49, 32, 48, 32, 48, 32, 50]))]) ∧ True)) (fun _ => by kernel_rfl) (fun b2 => ⟨(fun ww ss => tparse_spec ([52, 32, 114, 101, 97, 108, 32, 57, 32, 49, 48, 57, 32, 51, 32, 55, 32, 49, 48, 48, 32, 49, 32, 48, 32, 48, 32, 50]) (by first | assumption | omega | decide | (simp; done)) ww), trivial⟩) ?_)))
  intro b2
  refine A.tn (A.seq (A.region (A.goP [.p, .p, .p, .o, .p, .eq, .cl, .p, .o, .p, .p, .cl, .p, .o, .p, .ld 1, .cl, .p, .o, .p, .ld 1, .p, .cl, .p] [(0, b_ false), (1, p_ b1), (2, s_ (bs (lineL ⟨2, true, false, 5, 0, 3, 7, 100, 1, 0, 0, 2⟩))), (3, i_ (lineE ⟨2, true, false, 5, 0, 3, 7, 100, 1, 0, 0, 2⟩)), (4, p_ b2), (5, i_ (prE ([52, 32, 114, 101, 97, 108, 32, 57, 32, 49, 48, 57, 32, 51, 32, 55, 32, 49, 48, 48, 32, 49, 32, 48, 32, 48, 32, 50]))), (37, b_ ((((((lineE ⟨2, true, false, 5, 0, 3, 7, 100, 1, 0, 0, 2⟩) == 0) && ((bs (lineL ⟨2, true, false, 5, 0, 3, 7, 100, 1, 0, 0, 2⟩)) == (bs [50, 32, 105, 110, 32, 53, 32, 51, 32, 55, 32, 49, 48, 48, 32, 49, 32, 48, 32, 48, 32, 50]))) && ((prE ([52, 32, 114, 101, 97, 108, 32, 57, 32, 49, 48, 57, 32, 51, 32, 55, 32, 49, 48, 48, 32, 49, 32, 48, 32, 48, 32, 50])) == 0)) && ((prV ([52, 32, 114, 101, 97, 108, 32, 57, 32, 49, 48, 57, 32, 51, 32, 55, 32, 49, 48, 48, 32, 49, 32, 48, 32, 48, 32, 50])).er)) && (((prV ([52, 32, 114, 101, 97, 108, 32, 57, 32, 49, 48, 57, 32, 51, 32, 55, 32, 49, 48, 48, 32, 49, 32, 48, 32, 48, 32, 50])).ed) == 109)))] [b2, b2] T0 (by kernel_rfl) trivial ?_)))
  refine A.bool ((((((lineE ⟨2, true, false, 5, 0, 3, 7, 100, 1, 0, 0, 2⟩) == 0) && ((bs (lineL ⟨2, true, false, 5, 0, 3, 7, 100, 1, 0, 0, 2⟩)) == (bs [50, 32, 105, 110, 32, 53, 32, 51, 32, 55, 32, 49, 48, 48, 32, 49, 32, 48, 32, 48, 32, 50]))) && ((prE ([52, 32, 114, 101, 97, 108, 32, 57, 32, 49, 48, 57, 32, 51, 32, 55, 32, 49, 48, 48, 32, 49, 32, 48, 32, 48, 32, 50])) == 0)) && ((prV ([52, 32, 114, 101, 97, 108, 32, 57, 32, 49, 48, 57, 32, 51, 32, 55, 32, 49, 48, 48, 32, 49, 32, 48, 32, 48, 32, 50])).er)) && (((prV ([52, 32, 114, 101, 97, 108, 32, 57, 32, 49, 48, 57, 32, 51, 32, 55, 32, 49, 48, 48, 32, 49, 32, 48, 32, 48, 32, 50])).ed) == 109)) (fun e1 => ?_) (fun e1 => ?_)
  · skip
    refine A.sub [(0, b_ false), (1, p_ b1), (2, s_ (bs (lineL ⟨2, true, false, 5, 0, 3, 7, 100, 1, 0, 0, 2⟩))), (3, i_ (lineE ⟨2, true, false, 5, 0, 3, 7, 100, 1, 0, 0, 2⟩)), (4, p_ b2), (5, i_ (prE ([52, 32, 114, 101, 97, 108, 32, 57, 32, 49, 48, 57, 32, 51, 32, 55, 32, 49, 48, 48, 32, 49, 32, 48, 32, 48, 32, 50]))), (37, b_ true)] (by exact ⟨rfl, rfl, rfl, rfl, rfl, rfl, congrArg (fun z => some (Value.bool z)) e1, trivial⟩) ?_
    refine A.goP [.ld 0, .ld 0] [(0, b_ false), (1, p_ b1), (2, s_ (bs (lineL ⟨2, true, false, 5, 0, 3, 7, 100, 1, 0, 0, 2⟩))), (3, i_ (lineE ⟨2, true, false, 5, 0, 3, 7, 100, 1, 0, 0, 2⟩)), (4, p_ b2), (5, i_ (prE ([52, 32, 114, 101, 97, 108, 32, 57, 32, 49, 48, 57, 32, 51, 32, 55, 32, 49, 48, 48, 32, 49, 32, 48, 32, 48, 32, 50]))), (37, b_ true), (38, (.agg #[i_ 2, b_ true, b_ false, u_ 5, u_ 0, i_ 3, u_ 7, i_ 100, w_ 1, w_ 0, w_ 0, w_ 2])), (39, (.agg #[i_ 2, b_ true, b_ false, u_ 5, u_ 0, i_ 3, u_ 7, i_ 100, w_ 1, w_ 0, w_ 0, w_ 2]))] [b1, b1] T0 (by kernel_rfl) trivial ?_
    refine A.cons (A.buildSlice 40 (e := 67) [i_ 2, b_ true, b_ false, u_ 5, u_ 0, i_ 3, u_ 7, i_ 100, w_ 1, w_ 0, w_ 0, w_ 2, i_ 2, b_ true, b_ false, u_ 5, u_ 0, i_ 3, u_ 7, i_ 100, w_ 1, w_ 0, w_ 0, w_ 2] (by kernel_rfl) rfl (fun _ => by kernel_rfl) (fun b3 => [blk b1 [i_ 2, b_ true, b_ false, u_ 5, u_ 0, i_ 3, u_ 7, i_ 100, w_ 1, w_ 0, w_ 0, w_ 2] 67, blk b2 (encEv (prV ([52, 32, 114, 101, 97, 108, 32, 57, 32, 49, 48, 57, 32, 51, 32, 55, 32, 49, 48, 48, 32, 49, 32, 48, 32, 48, 32, 50]))) 67, blk b3 [i_ 2, b_ true, b_ false, u_ 5, u_ 0, i_ 3, u_ 7, i_ 100, w_ 1, w_ 0, w_ 0, w_ 2, i_ 2, b_ true, b_ false, u_ 5, u_ 0, i_ 3, u_ 7, i_ 100, w_ 1, w_ 0, w_ 0, w_ 2] 67]) (fun _ => rfl) ?_)
    intro b3
    refine A.cons (A.buildSlice 41 (e := 3) [i_ 3, i_ 3] (by kernel_rfl) rfl (fun _ => by kernel_rfl) (fun b4 => [blk b1 [i_ 2, b_ true, b_ false, u_ 5, u_ 0, i_ 3, u_ 7, i_ 100, w_ 1, w_ 0, w_ 0, w_ 2] 67, blk b2 (encEv (prV ([52, 32, 114, 101, 97, 108, 32, 57, 32, 49, 48, 57, 32, 51, 32, 55, 32, 49, 48, 48, 32, 49, 32, 48, 32, 48, 32, 50]))) 67, blk b3 [i_ 2, b_ true, b_ false, u_ 5, u_ 0, i_ 3, u_ 7, i_ 100, w_ 1, w_ 0, w_ 0, w_ 2, i_ 2, b_ true, b_ false, u_ 5, u_ 0, i_ 3, u_ 7, i_ 100, w_ 1, w_ 0, w_ 0, w_ 2] 67, blk b4 [i_ 3, i_ 3] 3]) (fun _ => rfl) ?_)
    intro b4
    refine A.goP [.cq (u_ (bySum (fun e => soE 0 e 5 5) ([3, 3]) ([(⟨2, true, false, 5, 0, 3, 7, 100, 1, 0, 0, 2⟩ : Ev), (⟨2, true, false, 5, 0, 3, 7, 100, 1, 0, 0, 2⟩ : Ev)]))), .p, .p, .p] [(0, b_ false), (1, p_ b1), (2, s_ (bs (lineL ⟨2, true, false, 5, 0, 3, 7, 100, 1, 0, 0, 2⟩))), (3, i_ (lineE ⟨2, true, false, 5, 0, 3, 7, 100, 1, 0, 0, 2⟩)), (4, p_ b2), (5, i_ (prE ([52, 32, 114, 101, 97, 108, 32, 57, 32, 49, 48, 57, 32, 51, 32, 55, 32, 49, 48, 48, 32, 49, 32, 48, 32, 48, 32, 50]))), (45, b_ ((bySum (fun e => soE 0 e 5 5) ([3, 3]) ([(⟨2, true, false, 5, 0, 3, 7, 100, 1, 0, 0, 2⟩ : Ev), (⟨2, true, false, 5, 0, 3, 7, 100, 1, 0, 0, 2⟩ : Ev)])) == 200))] [] (fun κ => κ.call 26 [(.slice (some ⟨b3, 0, none⟩) 2 2), (.slice (some ⟨b4, 0, none⟩) 2 2), u_ 5, u_ 5] (u_ (bySum (fun e => soE 0 e 5 5) ([3, 3]) ([(⟨2, true, false, 5, 0, 3, 7, 100, 1, 0, 0, 2⟩ : Ev), (⟨2, true, false, 5, 0, 3, 7, 100, 1, 0, 0, 2⟩ : Ev)]))) ∧ True) (by kernel_rfl) ⟨(fun ww ss => came_spec (some ⟨b3, 0, none⟩) ([(⟨2, true, false, 5, 0, 3, 7, 100, 1, 0, 0, 2⟩ : Ev), (⟨2, true, false, 5, 0, 3, 7, 100, 1, 0, 0, 2⟩ : Ev)]) 2 (some ⟨b4, 0, none⟩) ([3, 3]) 2 5 5 (by first | assumption | omega | decide | (simp; done)) (by first | assumption | omega | decide | (simp; done)) (by first | assumption | omega | decide | (simp; done)) ww ((rd_blk (i := 2) rfl) ww ss) ((rd_blk (i := 3) rfl) ww ss)), trivial⟩ ?_
    refine A.bool ((bySum (fun e => soE 0 e 5 5) ([3, 3]) ([(⟨2, true, false, 5, 0, 3, 7, 100, 1, 0, 0, 2⟩ : Ev), (⟨2, true, false, 5, 0, 3, 7, 100, 1, 0, 0, 2⟩ : Ev)])) == 200) (fun e2 => ?_) (fun e2 => ?_)
    · skip
      refine A.sub [(0, b_ false), (1, p_ b1), (2, s_ (bs (lineL ⟨2, true, false, 5, 0, 3, 7, 100, 1, 0, 0, 2⟩))), (3, i_ (lineE ⟨2, true, false, 5, 0, 3, 7, 100, 1, 0, 0, 2⟩)), (4, p_ b2), (5, i_ (prE ([52, 32, 114, 101, 97, 108, 32, 57, 32, 49, 48, 57, 32, 51, 32, 55, 32, 49, 48, 48, 32, 49, 32, 48, 32, 48, 32, 50]))), (45, b_ true)] (by exact ⟨rfl, rfl, rfl, rfl, rfl, rfl, congrArg (fun z => some (Value.bool z)) e2, trivial⟩) ?_
      refine A.goP [.ld 1] [(0, b_ false), (1, p_ b1), (2, s_ (bs (lineL ⟨2, true, false, 5, 0, 3, 7, 100, 1, 0, 0, 2⟩))), (3, i_ (lineE ⟨2, true, false, 5, 0, 3, 7, 100, 1, 0, 0, 2⟩)), (4, p_ b2), (5, i_ (prE ([52, 32, 114, 101, 97, 108, 32, 57, 32, 49, 48, 57, 32, 51, 32, 55, 32, 49, 48, 48, 32, 49, 32, 48, 32, 48, 32, 50]))), (45, b_ true), (46, (.agg (encEv (prV ([52, 32, 114, 101, 97, 108, 32, 57, 32, 49, 48, 57, 32, 51, 32, 55, 32, 49, 48, 48, 32, 49, 32, 48, 32, 48, 32, 50]))).toArray))] [b2] T0 (by kernel_rfl) trivial ?_
      refine A.cons (A.buildSlice 47 (e := 67) (encEv (prV ([52, 32, 114, 101, 97, 108, 32, 57, 32, 49, 48, 57, 32, 51, 32, 55, 32, 49, 48, 48, 32, 49, 32, 48, 32, 48, 32, 50]))) (by kernel_rfl) rfl (fun _ => by kernel_rfl) (fun b5 => [blk b1 [i_ 2, b_ true, b_ false, u_ 5, u_ 0, i_ 3, u_ 7, i_ 100, w_ 1, w_ 0, w_ 0, w_ 2] 67, blk b2 (encEv (prV ([52, 32, 114, 101, 97, 108, 32, 57, 32, 49, 48, 57, 32, 51, 32, 55, 32, 49, 48, 48, 32, 49, 32, 48, 32, 48, 32, 50]))) 67, blk b3 [i_ 2, b_ true, b_ false, u_ 5, u_ 0, i_ 3, u_ 7, i_ 100, w_ 1, w_ 0, w_ 0, w_ 2, i_ 2, b_ true, b_ false, u_ 5, u_ 0, i_ 3, u_ 7, i_ 100, w_ 1, w_ 0, w_ 0, w_ 2] 67, blk b4 [i_ 3, i_ 3] 3, blk b5 (encEv (prV ([52, 32, 114, 101, 97, 108, 32, 57, 32, 49, 48, 57, 32, 51, 32, 55, 32, 49, 48, 48, 32, 49, 32, 48, 32, 48, 32, 50]))) 67]) (fun _ => rfl) ?_)
      intro b5
      refine A.cons (A.buildSlice 48 (e := 3) [i_ 3] (by kernel_rfl) rfl (fun _ => by kernel_rfl) (fun b6 => [blk b1 [i_ 2, b_ true, b_ false, u_ 5, u_ 0, i_ 3, u_ 7, i_ 100, w_ 1, w_ 0, w_ 0, w_ 2] 67, blk b2 (encEv (prV ([52, 32, 114, 101, 97, 108, 32, 57, 32, 49, 48, 57, 32, 51, 32, 55, 32, 49, 48, 48, 32, 49, 32, 48, 32, 48, 32, 50]))) 67, blk b3 [i_ 2, b_ true, b_ false, u_ 5, u_ 0, i_ 3, u_ 7, i_ 100, w_ 1, w_ 0, w_ 0, w_ 2, i_ 2, b_ true, b_ false, u_ 5, u_ 0, i_ 3, u_ 7, i_ 100, w_ 1, w_ 0, w_ 0, w_ 2] 67, blk b4 [i_ 3, i_ 3] 3, blk b5 (encEv (prV ([52, 32, 114, 101, 97, 108, 32, 57, 32, 49, 48, 57, 32, 51, 32, 55, 32, 49, 48, 48, 32, 49, 32, 48, 32, 48, 32, 50]))) 67, blk b6 [i_ 3] 3]) (fun _ => rfl) ?_)
      intro b6
      refine A.goP [.cq (u_ (bySum (fun e => soE 1 e 0 8) ([3]) ([prV ([52, 32, 114, 101, 97, 108, 32, 57, 32, 49, 48, 57, 32, 51, 32, 55, 32, 49, 48, 48, 32, 49, 32, 48, 32, 48, 32, 50])]))), .p, .p, .p] [(0, b_ false), (1, p_ b1), (2, s_ (bs (lineL ⟨2, true, false, 5, 0, 3, 7, 100, 1, 0, 0, 2⟩))), (3, i_ (lineE ⟨2, true, false, 5, 0, 3, 7, 100, 1, 0, 0, 2⟩)), (4, p_ b2), (5, i_ (prE ([52, 32, 114, 101, 97, 108, 32, 57, 32, 49, 48, 57, 32, 51, 32, 55, 32, 49, 48, 48, 32, 49, 32, 48, 32, 48, 32, 50]))), (52, b_ ((bySum (fun e => soE 1 e 0 8) ([3]) ([prV ([52, 32, 114, 101, 97, 108, 32, 57, 32, 49, 48, 57, 32, 51, 32, 55, 32, 49, 48, 48, 32, 49, 32, 48, 32, 48, 32, 50])])) == 0))] [] (fun κ => κ.call 28 [(.slice (some ⟨b5, 0, none⟩) 1 1), (.slice (some ⟨b6, 0, none⟩) 1 1), u_ 0, u_ 8] (u_ (bySum (fun e => soE 1 e 0 8) ([3]) ([prV ([52, 32, 114, 101, 97, 108, 32, 57, 32, 49, 48, 57, 32, 51, 32, 55, 32, 49, 48, 48, 32, 49, 32, 48, 32, 48, 32, 50])]))) ∧ True) (by kernel_rfl) ⟨(fun ww ss => begun_spec (some ⟨b5, 0, none⟩) ([prV ([52, 32, 114, 101, 97, 108, 32, 57, 32, 49, 48, 57, 32, 51, 32, 55, 32, 49, 48, 48, 32, 49, 32, 48, 32, 48, 32, 50])]) 1 (some ⟨b6, 0, none⟩) ([3]) 1 0 8 (by first | assumption | omega | decide | (simp; done)) (by first | assumption | omega | decide | (simp; done)) (by first | assumption | omega | decide | (simp; done)) ww ((rd_blk (i := 4) rfl) ww ss) ((rd_blk (i := 5) rfl) ww ss)), trivial⟩ ?_
      refine A.bool ((bySum (fun e => soE 1 e 0 8) ([3]) ([prV ([52, 32, 114, 101, 97, 108, 32, 57, 32, 49, 48, 57, 32, 51, 32, 55, 32, 49, 48, 48, 32, 49, 32, 48, 32, 48, 32, 50])])) == 0) (fun e3 => ?_) (fun e3 => ?_)
      · skip
        refine A.sub [(0, b_ false), (1, p_ b1), (2, s_ (bs (lineL ⟨2, true, false, 5, 0, 3, 7, 100, 1, 0, 0, 2⟩))), (3, i_ (lineE ⟨2, true, false, 5, 0, 3, 7, 100, 1, 0, 0, 2⟩)), (4, p_ b2), (5, i_ (prE ([52, 32, 114, 101, 97, 108, 32, 57, 32, 49, 48, 57, 32, 51, 32, 55, 32, 49, 48, 48, 32, 49, 32, 48, 32, 48, 32, 50]))), (52, b_ true)] (by exact ⟨rfl, rfl, rfl, rfl, rfl, rfl, congrArg (fun z => some (Value.bool z)) e3, trivial⟩) ?_
        refine A.goP [.ld 1] [(0, b_ false), (1, p_ b1), (2, s_ (bs (lineL ⟨2, true, false, 5, 0, 3, 7, 100, 1, 0, 0, 2⟩))), (3, i_ (lineE ⟨2, true, false, 5, 0, 3, 7, 100, 1, 0, 0, 2⟩)), (4, p_ b2), (5, i_ (prE ([52, 32, 114, 101, 97, 108, 32, 57, 32, 49, 48, 57, 32, 51, 32, 55, 32, 49, 48, 48, 32, 49, 32, 48, 32, 48, 32, 50]))), (52, b_ true), (53, (.agg (encEv (prV ([52, 32, 114, 101, 97, 108, 32, 57, 32, 49, 48, 57, 32, 51, 32, 55, 32, 49, 48, 48, 32, 49, 32, 48, 32, 48, 32, 50]))).toArray))] [b2] T0 (by kernel_rfl) trivial ?_
        refine A.cons (A.buildSlice 54 (e := 67) (encEv (prV ([52, 32, 114, 101, 97, 108, 32, 57, 32, 49, 48, 57, 32, 51, 32, 55, 32, 49, 48, 48, 32, 49, 32, 48, 32, 48, 32, 50]))) (by kernel_rfl) rfl (fun _ => by kernel_rfl) (fun b7 => [blk b1 [i_ 2, b_ true, b_ false, u_ 5, u_ 0, i_ 3, u_ 7, i_ 100, w_ 1, w_ 0, w_ 0, w_ 2] 67, blk b2 (encEv (prV ([52, 32, 114, 101, 97, 108, 32, 57, 32, 49, 48, 57, 32, 51, 32, 55, 32, 49, 48, 48, 32, 49, 32, 48, 32, 48, 32, 50]))) 67, blk b3 [i_ 2, b_ true, b_ false, u_ 5, u_ 0, i_ 3, u_ 7, i_ 100, w_ 1, w_ 0, w_ 0, w_ 2, i_ 2, b_ true, b_ false, u_ 5, u_ 0, i_ 3, u_ 7, i_ 100, w_ 1, w_ 0, w_ 0, w_ 2] 67, blk b4 [i_ 3, i_ 3] 3, blk b5 (encEv (prV ([52, 32, 114, 101, 97, 108, 32, 57, 32, 49, 48, 57, 32, 51, 32, 55, 32, 49, 48, 48, 32, 49, 32, 48, 32, 48, 32, 50]))) 67, blk b6 [i_ 3] 3, blk b7 (encEv (prV ([52, 32, 114, 101, 97, 108, 32, 57, 32, 49, 48, 57, 32, 51, 32, 55, 32, 49, 48, 48, 32, 49, 32, 48, 32, 48, 32, 50]))) 67]) (fun _ => rfl) ?_)
        intro b7
        refine A.cons (A.buildSlice 55 (e := 3) [i_ 3] (by kernel_rfl) rfl (fun _ => by kernel_rfl) (fun b8 => [blk b1 [i_ 2, b_ true, b_ false, u_ 5, u_ 0, i_ 3, u_ 7, i_ 100, w_ 1, w_ 0, w_ 0, w_ 2] 67, blk b2 (encEv (prV ([52, 32, 114, 101, 97, 108, 32, 57, 32, 49, 48, 57, 32, 51, 32, 55, 32, 49, 48, 48, 32, 49, 32, 48, 32, 48, 32, 50]))) 67, blk b3 [i_ 2, b_ true, b_ false, u_ 5, u_ 0, i_ 3, u_ 7, i_ 100, w_ 1, w_ 0, w_ 0, w_ 2, i_ 2, b_ true, b_ false, u_ 5, u_ 0, i_ 3, u_ 7, i_ 100, w_ 1, w_ 0, w_ 0, w_ 2] 67, blk b4 [i_ 3, i_ 3] 3, blk b5 (encEv (prV ([52, 32, 114, 101, 97, 108, 32, 57, 32, 49, 48, 57, 32, 51, 32, 55, 32, 49, 48, 48, 32, 49, 32, 48, 32, 48, 32, 50]))) 67, blk b6 [i_ 3] 3, blk b7 (encEv (prV ([52, 32, 114, 101, 97, 108, 32, 57, 32, 49, 48, 57, 32, 51, 32, 55, 32, 49, 48, 48, 32, 49, 32, 48, 32, 48, 32, 50]))) 67, blk b8 [i_ 3] 3]) (fun _ => rfl) ?_)
        intro b8
        refine A.goA [.cq (u_ (bySum (fun e => soE 2 e 108 109) ([3]) ([prV ([52, 32, 114, 101, 97, 108, 32, 57, 32, 49, 48, 57, 32, 51, 32, 55, 32, 49, 48, 48, 32, 49, 32, 48, 32, 48, 32, 50])]))), .p, .p, .p] [(0, b_ ((bySum (fun e => soE 2 e 108 109) ([3]) ([prV ([52, 32, 114, 101, 97, 108, 32, 57, 32, 49, 48, 57, 32, 51, 32, 55, 32, 49, 48, 48, 32, 49, 32, 48, 32, 48, 32, 50])])) == 100)), (1, p_ b1), (2, s_ (bs (lineL ⟨2, true, false, 5, 0, 3, 7, 100, 1, 0, 0, 2⟩))), (3, i_ (lineE ⟨2, true, false, 5, 0, 3, 7, 100, 1, 0, 0, 2⟩)), (4, p_ b2), (5, i_ (prE ([52, 32, 114, 101, 97, 108, 32, 57, 32, 49, 48, 57, 32, 51, 32, 55, 32, 49, 48, 48, 32, 49, 32, 48, 32, 48, 32, 50])))] [] (fun κ => κ.call 29 [(.slice (some ⟨b7, 0, none⟩) 1 1), (.slice (some ⟨b8, 0, none⟩) 1 1), u_ 108, u_ 109] (u_ (bySum (fun e => soE 2 e 108 109) ([3]) ([prV ([52, 32, 114, 101, 97, 108, 32, 57, 32, 49, 48, 57, 32, 51, 32, 55, 32, 49, 48, 48, 32, 49, 32, 48, 32, 48, 32, 50])]))) ∧ True) (by kernel_rfl) ⟨(fun ww ss => sent_spec (some ⟨b7, 0, none⟩) ([prV ([52, 32, 114, 101, 97, 108, 32, 57, 32, 49, 48, 57, 32, 51, 32, 55, 32, 49, 48, 48, 32, 49, 32, 48, 32, 48, 32, 50])]) 1 (some ⟨b8, 0, none⟩) ([3]) 1 108 109 (by first | assumption | omega | decide | (simp; done)) (by first | assumption | omega | decide | (simp; done)) (by first | assumption | omega | decide | (simp; done)) ww ((rd_blk (i := 6) rfl) ww ss) ((rd_blk (i := 7) rfl) ww ss)), trivial⟩ ?_
        refine A.tn (A.ret (A.postQ [b_ ((bySum (fun e => soE 2 e 108 109) ([3]) ([prV ([52, 32, 114, 101, 97, 108, 32, 57, 32, 49, 48, 57, 32, 51, 32, 55, 32, 49, 48, 48, 32, 49, 32, 48, 32, 48, 32, 50])])) == 100)] (fun aa ww rr ss => ⟨rv_tmp rr rfl, trivial⟩) ?_))
        show ((b_ ((bySum (fun e => soE 2 e 108 109) ([3]) ([prV ([52, 32, 114, 101, 97, 108, 32, 57, 32, 49, 48, 57, 32, 51, 32, 55, 32, 49, 48, 48, 32, 49, 32, 48, 32, 48, 32, 50])])) == 100)) : Value) = (b_ true)
        first | (rw [q3]; rfl) | (exfalso; first | (rw [q2] at e3; exact absurd e3 (by decide)) | (rw [q1] at e2; exact absurd e2 (by decide)) | (rw [s1, s2, s3, s4, bs_beq] at e1; exact absurd e1 (by decide)))
      · skip
        refine A.sub [(0, b_ false), (1, p_ b1), (2, s_ (bs (lineL ⟨2, true, false, 5, 0, 3, 7, 100, 1, 0, 0, 2⟩))), (3, i_ (lineE ⟨2, true, false, 5, 0, 3, 7, 100, 1, 0, 0, 2⟩)), (4, p_ b2), (5, i_ (prE ([52, 32, 114, 101, 97, 108, 32, 57, 32, 49, 48, 57, 32, 51, 32, 55, 32, 49, 48, 48, 32, 49, 32, 48, 32, 48, 32, 50]))), (52, b_ false)] (by exact ⟨rfl, rfl, rfl, rfl, rfl, rfl, congrArg (fun z => some (Value.bool z)) e3, trivial⟩) ?_
        refine A.goA [.sk, .sk, .sk, .sk, .sk, .p, .p] [(0, b_ false), (1, p_ b1), (2, s_ (bs (lineL ⟨2, true, false, 5, 0, 3, 7, 100, 1, 0, 0, 2⟩))), (3, i_ (lineE ⟨2, true, false, 5, 0, 3, 7, 100, 1, 0, 0, 2⟩)), (4, p_ b2), (5, i_ (prE ([52, 32, 114, 101, 97, 108, 32, 57, 32, 49, 48, 57, 32, 51, 32, 55, 32, 49, 48, 48, 32, 49, 32, 48, 32, 48, 32, 50])))] [] T0 (by kernel_rfl) trivial ?_
        refine A.tn (A.ret (A.postQ [b_ false] (fun aa ww rr ss => ⟨rv_tmp rr rfl, trivial⟩) ?_))
        show ((b_ false) : Value) = (b_ true)
        first | (rw [q3]; rfl) | (exfalso; first | (rw [q2] at e3; exact absurd e3 (by decide)) | (rw [q1] at e2; exact absurd e2 (by decide)) | (rw [s1, s2, s3, s4, bs_beq] at e1; exact absurd e1 (by decide)))
    · skip
      refine A.sub [(0, b_ false), (1, p_ b1), (2, s_ (bs (lineL ⟨2, true, false, 5, 0, 3, 7, 100, 1, 0, 0, 2⟩))), (3, i_ (lineE ⟨2, true, false, 5, 0, 3, 7, 100, 1, 0, 0, 2⟩)), (4, p_ b2), (5, i_ (prE ([52, 32, 114, 101, 97, 108, 32, 57, 32, 49, 48, 57, 32, 51, 32, 55, 32, 49, 48, 48, 32, 49, 32, 48, 32, 48, 32, 50]))), (45, b_ false)] (by exact ⟨rfl, rfl, rfl, rfl, rfl, rfl, congrArg (fun z => some (Value.bool z)) e2, trivial⟩) ?_
      refine A.goA [.sk, .sk, .sk, .sk, .sk, .p, .p, .sk, .sk, .sk, .sk, .sk, .p, .p] [(0, b_ false), (1, p_ b1), (2, s_ (bs (lineL ⟨2, true, false, 5, 0, 3, 7, 100, 1, 0, 0, 2⟩))), (3, i_ (lineE ⟨2, true, false, 5, 0, 3, 7, 100, 1, 0, 0, 2⟩)), (4, p_ b2), (5, i_ (prE ([52, 32, 114, 101, 97, 108, 32, 57, 32, 49, 48, 57, 32, 51, 32, 55, 32, 49, 48, 48, 32, 49, 32, 48, 32, 48, 32, 50])))] [] T0 (by kernel_rfl) trivial ?_
      refine A.tn (A.ret (A.postQ [b_ false] (fun aa ww rr ss => ⟨rv_tmp rr rfl, trivial⟩) ?_))
      show ((b_ false) : Value) = (b_ true)
      first | (rw [q3]; rfl) | (exfalso; first | (rw [q2] at e3; exact absurd e3 (by decide)) | (rw [q1] at e2; exact absurd e2 (by decide)) | (rw [s1, s2, s3, s4, bs_beq] at e1; exact absurd e1 (by decide)))
  · skip
    refine A.sub [(0, b_ false), (1, p_ b1), (2, s_ (bs (lineL ⟨2, true, false, 5, 0, 3, 7, 100, 1, 0, 0, 2⟩))), (3, i_ (lineE ⟨2, true, false, 5, 0, 3, 7, 100, 1, 0, 0, 2⟩)), (4, p_ b2), (5, i_ (prE ([52, 32, 114, 101, 97, 108, 32, 57, 32, 49, 48, 57, 32, 51, 32, 55, 32, 49, 48, 48, 32, 49, 32, 48, 32, 48, 32, 50]))), (37, b_ false)] (by exact ⟨rfl, rfl, rfl, rfl, rfl, rfl, congrArg (fun z => some (Value.bool z)) e1, trivial⟩) ?_
    refine A.goA [.sk, .sk, .sk, .sk, .sk, .sk, .p, .p, .sk, .sk, .sk, .sk, .sk, .p, .p, .sk, .sk, .sk, .sk, .sk, .p, .p] [(0, b_ false), (1, p_ b1), (2, s_ (bs (lineL ⟨2, true, false, 5, 0, 3, 7, 100, 1, 0, 0, 2⟩))), (3, i_ (lineE ⟨2, true, false, 5, 0, 3, 7, 100, 1, 0, 0, 2⟩)), (4, p_ b2), (5, i_ (prE ([52, 32, 114, 101, 97, 108, 32, 57, 32, 49, 48, 57, 32, 51, 32, 55, 32, 49, 48, 48, 32, 49, 32, 48, 32, 48, 32, 50])))] [] T0 (by kernel_rfl) trivial ?_
    refine A.tn (A.ret (A.postQ [b_ false] (fun aa ww rr ss => ⟨rv_tmp rr rfl, trivial⟩) ?_))
    show ((b_ false) : Value) = (b_ true)
    first | (rw [q3]; rfl) | (exfalso; first | (rw [q2] at e3; exact absurd e3 (by decide)) | (rw [q1] at e2; exact absurd e2 (by decide)) | (rw [s1, s2, s3, s4, bs_beq] at e1; exact absurd e1 (by decide)))
end Go.Proofs.YtdamfdnakkofmaaDoor
