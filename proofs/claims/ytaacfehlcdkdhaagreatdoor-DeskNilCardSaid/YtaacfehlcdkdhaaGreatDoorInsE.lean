/- What a class's text is read as: plain laws of lists of bytes. -/
import Derived.Test.YtaacfehlcdkdhaaGreatDoorIns6
namespace Go.Proofs.YtaacfehlcdkdhaaGreatDoor
open Go V
set_option linter.unusedVariables false
set_option linter.unusedSimpArgs false
theorem words_app {c : UInt8} {r : List UInt8} : ∀ {x : List UInt8}, c ∉ x → words c (x ++ c :: r) = x :: words c r
  | [], _ => by simp [words]
  | b :: x, h => by
    have ih := words_app (r := r) (x := x) (fun hc => h (List.mem_cons_of_mem _ hc))
    have hb : ¬ b = c := fun hb => h (by simp [hb])
    rw [List.cons_append, words, if_neg hb, ih]
theorem words_one {c : UInt8} : ∀ {x : List UInt8}, c ∉ x → words c x = [x]
  | [], _ => rfl
  | b :: x, h => by
    have ih := words_one (x := x) (fun hc => h (List.mem_cons_of_mem _ hc))
    have hb : ¬ b = c := fun hb => h (by simp [hb])
    rw [words, if_neg hb, ih]
theorem words_join {c : UInt8} : ∀ {xs : List (List UInt8)}, xs ≠ [] → (∀ x ∈ xs, c ∉ x) → words c (Lib.join xs [c]) = xs
  | [], h, _ => absurd rfl h
  | [x], _, h => by rw [join_one]; exact words_one (h x (by simp))
  | x :: y :: r, _, h => by
    have ih := words_join (xs := y :: r) (by simp) fun z hz => h z (by simp [hz])
    rw [join_cons, List.singleton_append, words_app (h x (by simp)), ih]
theorem words_hd (c : UInt8) : ∀ l : List UInt8, ∃ x xs, words c l = x :: xs
  | [] => ⟨_, _, rfl⟩
  | b :: l => by
    obtain ⟨x, xs, h⟩ := words_hd c l
    rw [words]; split
    · exact ⟨_, _, rfl⟩
    · rw [h]; exact ⟨_, _, rfl⟩
theorem join_words (c : UInt8) : ∀ l : List UInt8, Lib.join (words c l) [c] = l
  | [] => join_one _ _
  | b :: l => by
    obtain ⟨x, xs, h⟩ := words_hd c l
    have ih := join_words c l
    rw [words]; split
    · rename_i hb; rw [h, join_cons, ← h, ih, hb]; rfl
    · rw [h] at ih ⊢
      show Lib.join ((b :: x) :: xs) [c] = b :: l
      cases xs with
      | nil => rw [join_one] at ih ⊢; rw [ih]
      | cons y r => rw [join_cons] at ih ⊢; rw [List.cons_append, ih]
theorem tens_32 (v : Int) : (32 : UInt8) ∉ tens v := fun h => by have := tn_digits _ _ h; revert this; decide
theorem tens_ne (v : Int) : tens v ≠ [] := tn_ne _
theorem tens_58 (v : Int) : (58 : UInt8) ∉ tens v := fun h => by have := tn_digits _ _ h; revert this; decide
theorem tens_45 (v : Int) : ¬ tens v = [45] := fun h => by have := tn_digits v.toNat 45 (by show (45 : UInt8) ∈ tens v; rw [h]; simp); revert this; decide
theorem cuL_parse {a b c : Int} (ha : 0 ≤ a ∧ a ≤ 18446744073709551615) (hb : 0 ≤ b ∧ b ≤ 18446744073709551615) (hc : 0 ≤ c ∧ c ≤ 18446744073709551615) : pcP (cuL a b c) = ⟨a, b, c, 0⟩ := by
  have hl := cuL_len (a := a) (b := b) (c := c) (by omega) (by omega) (by omega)
  by_cases h1 : b = 0 ∧ a = c
  · obtain ⟨rfl, rfl⟩ := h1
    by_cases h2 : a = 0
    · subst h2; rfl
    · have e : cuL a 0 a = tens a := by unfold cuL; rw [if_pos ⟨rfl, rfl⟩, if_neg h2]
      have hw : words 58 (tens a) = [tens a] := words_one (tens_58 a)
      have t := tens_back ha.1 ha.2
      rw [e] at hl ⊢
      rw [pc_1 (by omega) (tens_45 a) (by rw [hw]; rfl) (by rw [hw]; exact t.2), hw]
      show pcF _ (numV (tens a) _) 0 (numV (tens a) _) = _
      rw [t.1]; unfold pcF; rw [if_pos e]
  · have e : cuL a b c = tens a ++ (58 :: (tens b ++ (58 :: tens c))) := by unfold cuL; rw [if_neg h1]; simp
    have hw : words 58 (cuL a b c) = [tens a, tens b, tens c] := by rw [e, words_app (tens_58 a), words_app (tens_58 b), words_one (tens_58 c)]
    have t1 := tens_back ha.1 ha.2
    have t2 := tens_back hb.1 hb.2
    have t3 := tens_back hc.1 hc.2
    rw [pc_3 (l := cuL a b c) (by omega) (by rw [hw]; rfl) (by rw [hw]; exact t1.2) (by rw [hw]; exact t2.2) (by rw [hw]; exact t3.2), hw]
    show pcF _ (numV (tens a) _) (numV (tens b) _) (numV (tens c) _) = _
    rw [t1.1, t2.1, t3.1]; unfold pcF; rw [if_pos rfl]
theorem numE_nn (l : List UInt8) (m : Int) : ∀ {P : Prop}, numE l m ≠ 0 → numE l m = 0 → P := fun h1 h2 => absurd h2 h1
theorem pcF_back {l : List UInt8} {a b c : Int} (h : (pcF l a b c).pz = 0) : cuL (pcF l a b c).pa (pcF l a b c).pb (pcF l a b c).pc = l := by
  unfold pcF at h ⊢; split
  · assumption
  · rename_i hn; rw [if_neg hn] at h; exact absurd h (by decide)
theorem pc_back {l : List UInt8} (h : (pcP l).pz = 0) : cuL (pcP l).pa (pcP l).pb (pcP l).pc = l := by
  unfold pcP at h ⊢
  split
  · rename_i h1; rw [if_pos h1] at h; exact absurd h (by decide)
  rename_i h1; rw [if_neg h1] at h
  split
  · rename_i h2; subst h2; rfl
  rename_i h2; rw [if_neg h2] at h
  split
  · rename_i h3; rw [if_pos h3] at h; exact absurd h (by decide)
  rename_i h3; rw [if_neg h3] at h
  split
  · rename_i h4; rw [if_pos h4] at h; exact absurd h h4
  rename_i h4; rw [if_neg h4] at h
  split
  · rename_i h5; rw [if_pos h5] at h; exact pcF_back h
  rename_i h5; rw [if_neg h5] at h
  split
  · rename_i h6; rw [if_pos h6] at h; exact absurd h h6
  rename_i h6; rw [if_neg h6] at h
  split
  · rename_i h7; rw [if_pos h7] at h; exact absurd h h7
  rename_i h7; rw [if_neg h7] at h; exact pcF_back h
/-! classes -/
def clW (x : Ck) : List (List UInt8) := [tens x.ni, tens x.np, kindL x.nl, cuL x.ra x.rb x.rc, cuL x.la x.lb x.lc, cuL x.ua x.ub x.uc, tens x.nk, tens x.nb]
theorem cuL_ok (a b c : Int) : (32 : UInt8) ∉ cuL a b c ∧ ¬ [] = cuL a b c := by
  unfold cuL
  split
  · split
    · exact ⟨by decide, by decide⟩
    · exact ⟨tens_32 c, fun h => tens_ne c h.symm⟩
  · refine ⟨fun h => ?_, fun h => ?_⟩
    · simp only [List.mem_append, List.mem_singleton] at h
      rcases h with (((h | h) | h) | h) | h
      · exact tens_32 _ h
      · revert h; decide
      · exact tens_32 _ h
      · revert h; decide
      · exact tens_32 _ h
    · have := congrArg List.length h; simp at this
theorem kindL_ok (b : Bool) : (32 : UInt8) ∉ kindL b ∧ ¬ [] = kindL b := by cases b <;> exact ⟨by decide, by decide⟩
theorem clW_ok (x : Ck) : (∀ m ∈ clW x, (32 : UInt8) ∉ m) ∧ (∀ m ∈ clW x, ¬ [] = m) := by
  have tn : ∀ v : Int, (32 : UInt8) ∉ tens v ∧ ¬ [] = tens v := fun v => ⟨tens_32 v, fun h => tens_ne v h.symm⟩
  have hk := kindL_ok x.nl
  have h1 := cuL_ok x.ra x.rb x.rc; have h2 := cuL_ok x.la x.lb x.lc; have h3 := cuL_ok x.ua x.ub x.uc
  have h4 := tn x.ni; have h5 := tn x.np; have h6 := tn x.nk; have h7 := tn x.nb
  constructor <;> intro m hm <;> simp only [clW, List.mem_cons, List.not_mem_nil, or_false] at hm <;> rcases hm with rfl | rfl | rfl | rfl | rfl | rfl | rfl | rfl <;> first | exact hk.1 | exact hk.2 | exact h1.1 | exact h1.2 | exact h2.1 | exact h2.2 | exact h3.1 | exact h3.2 | exact h4.1 | exact h4.2 | exact h5.1 | exact h5.2 | exact h6.1 | exact h6.2 | exact h7.1 | exact h7.2
theorem clL_words (x : Ck) : words 32 (clL x) = clW x := words_join (xs := clW x) (by unfold clW; simp) (clW_ok x).1
theorem kind_E (b : Bool) : wdE 2 (kindL b) = 0 := by cases b <;> rfl
theorem class_parse {x : Ck} (hok : CkOk x) (hm : mayC x = true) : cpE (clL x) = 0 ∧ cpV (clL x) = x := by
  have hl := clL_len hok
  have hmm := may_of40.1 hm
  have hw := clL_words x
  unfold CkOk at hok
  have hwb : wholeB (clL x) = true := by
    have h1 : (clW x).contains [] = false := by
      rw [Bool.eq_false_iff, Ne, List.contains_iff_mem]; exact fun h => (clW_ok x).2 _ h rfl
    unfold wholeB; rw [hw, h1]; rfl
  have t1 := tens_back (v := x.ni) (most := 9223372036854775807) hmm.1 hok.1.2
  have t2 := tens_back (v := x.np) (most := 9223372036854775807) hmm.2.1 (by omega)
  have t3 := tens_back (v := x.nk) (most := 9223372036854775807) hmm.2.2.1 (by omega)
  have t4 := tens_back (v := x.nb) (most := 9223372036854775807) hmm.2.2.2 (by omega)
  have c1 := cuL_parse (a := x.ra) (b := x.rb) (c := x.rc) (by omega) (by omega) (by omega)
  have c2 := cuL_parse (a := x.la) (b := x.lb) (c := x.lc) (by omega) (by omega) (by omega)
  have c3 := cuL_parse (a := x.ua) (b := x.ub) (c := x.uc) (by omega) (by omega) (by omega)
  have g : ∀ j, j < 8 → wE (clL x) j = 0 := by
    intro j hj
    unfold wE; rw [hw]
    rcases j with _ | _ | _ | _ | _ | _ | _ | _ | j
    · exact t1.2
    · exact t2.2
    · exact kind_E _
    · show (pcP (cuL x.ra x.rb x.rc)).pz = 0; rw [c1]
    · show (pcP (cuL x.la x.lb x.lc)).pz = 0; rw [c2]
    · show (pcP (cuL x.ua x.ub x.uc)).pz = 0; rw [c3]
    · exact t3.2
    · exact t4.2
    · omega
  obtain ⟨g1, g2⟩ := cp_ok (by omega) hwb g
  refine ⟨g1, g2.trans ?_⟩
  unfold cpX wN wC; rw [hw]
  show (⟨numV (tens x.ni) _, numV (tens x.np) _, kindL x.nl == _, (pcP (cuL x.ra x.rb x.rc)).pa, (pcP (cuL x.ra x.rb x.rc)).pb, (pcP (cuL x.ra x.rb x.rc)).pc, (pcP (cuL x.la x.lb x.lc)).pa, (pcP (cuL x.la x.lb x.lc)).pb, (pcP (cuL x.la x.lb x.lc)).pc, (pcP (cuL x.ua x.ub x.uc)).pa, (pcP (cuL x.ua x.ub x.uc)).pb, (pcP (cuL x.ua x.ub x.uc)).pc, numV (tens x.nk) _, numV (tens x.nb) _⟩ : Ck) = x
  have hk : (kindL x.nl == [108, 101, 97, 102]) = x.nl := by cases x.nl <;> rfl
  rw [t1.1, t2.1, t3.1, t4.1, c1, c2, c3, hk]
theorem eight {W : List (List UInt8)} (h : W.length = 8) : W = [W.getD 0 [], W.getD 1 [], W.getD 2 [], W.getD 3 [], W.getD 4 [], W.getD 5 [], W.getD 6 [], W.getD 7 []] := by
  match W, h with
  | [a, b, c, d, e, f, g, i], _ => rfl
theorem parse_class {l : List UInt8} (h : cpE l = 0) : CkOk (cpV l) ∧ mayC (cpV l) = true ∧ clL (cpV l) = l := by
  have h0 : ¬ 400 < l.length := fun hc => by rw [(cp_long hc).1] at h; exact absurd h (by decide)
  have hwb : wholeB l = true := by
    cases hb : wholeB l with
    | true => rfl
    | false => rw [(cp_whole h0 hb).1] at h; exact absurd h (by decide)
  have h8 := whole_len hwb
  have hz : ∀ j, j < 8 → wE l j = 0 := fst8_of (by have := h; unfold cpE at this; rw [if_neg h0, if_neg (by simp [hwb])] at this; exact this)
  have hv : cpV l = cpX l := by unfold cpV; rw [if_pos h]
  rw [hv]
  have n0 := num_rng (l := (words 32 l).getD 0 []) (most := 9223372036854775807) (by decide)
  have n1 := num_rng (l := (words 32 l).getD 1 []) (most := 9223372036854775807) (by decide)
  have n6 := num_rng (l := (words 32 l).getD 6 []) (most := 9223372036854775807) (by decide)
  have n7 := num_rng (l := (words 32 l).getD 7 []) (most := 9223372036854775807) (by decide)
  have r3 := pcP_rng ((words 32 l).getD 3 []); have r4 := pcP_rng ((words 32 l).getD 4 []); have r5 := pcP_rng ((words 32 l).getD 5 [])
  have e0 := num_back ((wE_num (l := l) (k := 0) (by decide)).symm.trans (hz 0 (by decide)))
  have e1 := num_back ((wE_num (l := l) (k := 1) (by decide)).symm.trans (hz 1 (by decide)))
  have e6 := num_back ((wE_num (l := l) (k := 6) (by decide)).symm.trans (hz 6 (by decide)))
  have e7 := num_back ((wE_num (l := l) (k := 7) (by decide)).symm.trans (hz 7 (by decide)))
  have e3 := pc_back ((wE_cur (l := l) (k := 3) (by decide)).symm.trans (hz 3 (by decide)))
  have e4 := pc_back ((wE_cur (l := l) (k := 4) (by decide)).symm.trans (hz 4 (by decide)))
  have e5 := pc_back ((wE_cur (l := l) (k := 5) (by decide)).symm.trans (hz 5 (by decide)))
  have e2 : kindL ((words 32 l).getD 2 [] == [108, 101, 97, 102]) = (words 32 l).getD 2 [] := by
    have h2 := hz 2 (by decide)
    unfold wE wdE at h2; rw [if_pos (show ((2 : Nat) : Int) = 2 from rfl)] at h2
    split at h2
    · rename_i h3
      rcases h3 with h3 | h3 <;> rw [h3] <;> rfl
    · exact absurd h2 (by decide)
  refine ⟨?_, ?_, ?_⟩
  · unfold CkOk cpX; simp only [wN, wC]; exact ⟨by omega, by omega, trivial, by omega, by omega, by omega, by omega, by omega, by omega, by omega, by omega, by omega, by omega, by omega⟩
  · rw [may_of40]; unfold cpX; simp only [wN]; exact ⟨n0.1, n1.1, n6.1, n7.1⟩
  · have hj := join_words 32 l
    rw [eight h8] at hj
    refine Eq.trans ?_ hj
    show Lib.join (clW (cpX l)) [32] = _
    unfold clW cpX; simp only [wN, wC]
    rw [e0, e1, e2, e3, e4, e5, e6, e7]
theorem tens_at {v : Int} {l : List UInt8} (h : numE l 18446744073709551615 = 0) (hv : numV l 18446744073709551615 = v) : tens v = l := hv ▸ num_back h
/-- the text of the example -/
abbrev sT : List UInt8 := [49, 32, 48, 32, 108, 101, 97, 102, 32, 45, 32, 54, 53, 53, 51, 54, 32, 45, 32, 57, 32, 57, 48, 48]
abbrev xT : Ck := ⟨1, 0, true, 0, 0, 0, 65536, 0, 65536, 0, 0, 0, 9, 900⟩
theorem clL_T : clL xT = sT := by
  show Lib.join [tens 1, tens 0, kindL true, cuL 0 0 0, cuL 65536 0 65536, cuL 0 0 0, tens 9, tens 900] [32] = sT
  have c1 : cuL 65536 0 65536 = [54, 53, 53, 51, 54] := by unfold cuL; rw [if_pos (by decide), if_neg (by decide)]; exact tens_at (by decide) (by decide)
  rw [c1, show tens 1 = [49] from tens_at (by decide) (by decide), show tens 0 = [48] from tens_at (by decide) (by decide), show tens 9 = [57] from tens_at (by decide) (by decide), show tens 900 = [57, 48, 48] from tens_at (by decide) (by decide)]
  rfl
theorem ok_T : CkOk xT := by unfold CkOk; decide
theorem may_T : mayC xT = true := by rfl
theorem cp_T : cpE sT = 0 ∧ cpV sT = xT := by rw [← clL_T]; exact class_parse ok_T may_T
end Go.Proofs.YtaacfehlcdkdhaaGreatDoor
