/- What the functions of this layer do, proved operation by operation, for all arguments, under the conditions that each theorem states. -/
import Derived.Test.YtinnnoimmioaiaaProg
import Derived.Test.YtinnnoimmioaiaaActR
import Derived.Test.YtinnnoimmioaiaaAct4
namespace Go.Proofs.Ytinnnoimmioaiaa
open Go V
set_option linter.unusedVariables false
set_option linter.unusedSimpArgs false
/-! which classes are active: sets of classes -/
theorem shC_cl {kv : List (Int × Cl)} {i : Int} (h : shC kv i = true) : ∃ c, mget kv i = some c ∧ gcl kv i = c := by
  cases e : mget kv i with
  | some c => exact ⟨c, rfl, gcl_of e⟩
  | none => exfalso; unfold shC at h; rw [gcl_no e] at h; revert h; decide
theorem new_get (kv : List (Int × Cl)) : ∀ (l : List Int) (m : List (Int × Pl)) (i : Int), mget (l.foldl (newP kv) m) i = if i ∈ l ∧ shC kv i = true then some ⟨(gcl kv i).hp, if (gcl kv i).hl = true then 1 else 0⟩ else mget m i
  | [], m, i => by simp
  | x :: l, m, i => by
    rw [List.foldl_cons, new_get kv l]
    by_cases hs : shC kv i = true
    · by_cases hl : i ∈ l
      · simp [hl, hs]
      · rw [if_neg (fun h => hl h.1)]
        by_cases e : i = x
        · subst e; rw [if_pos (c := i ∈ i :: l ∧ shC kv i = true) ⟨by simp, hs⟩]; unfold newP; rw [if_pos hs, mget_put, if_pos rfl]
        · rw [if_neg (fun h => by rcases List.mem_cons.1 h.1 with h | h; exact e h; exact hl h)]
          unfold newP; split
          · rw [mget_put, if_neg (fun h => e h.symm)]
          · rfl
    · rw [if_neg (fun h => hs h.2), if_neg (fun h => hs h.2)]
      unfold newP; split
      · rename_i hx; rw [mget_put, if_neg (fun h => hs (by rw [← h]; exact hx))]
      · rfl
theorem newY_get {kv : List (Int × Cl)} {R : List Cl} (hK : KR kv R) (i : Int) : mget (newY kv) i = if shC kv i = true then some ⟨(gcl kv i).hp, if (gcl kv i).hl = true then 1 else 0⟩ else none := by
  unfold newY; rw [new_get]
  by_cases hs : shC kv i = true
  · obtain ⟨c, h1, _⟩ := shC_cl hs
    rw [if_pos hs, if_pos ⟨mem_keysF h1 rfl, hs⟩]
  · rw [if_neg hs, if_neg (fun h => hs h.2)]; rfl
theorem parA_new {kv : List (Int × Cl)} {R : List Cl} (hK : KR kv R) (i : Int) : parA (newY kv) i = if shC kv i = true then (gcl kv i).hp else 0 := by
  unfold parA; rw [newY_get hK]; split <;> rfl
theorem lfA_new {kv : List (Int × Cl)} {R : List Cl} (hK : KR kv R) (i : Int) : lfA (newY kv) i = (shC kv i && (gcl kv i).hl) := by
  unfold lfA; rw [newY_get hK]; by_cases h : shC kv i = true
  · rw [if_pos h, h]; cases hh : (gcl kv i).hl <;> simp
  · rw [if_neg h]; simp [pl0, h]
theorem depA_of {kv : List (Int × Cl)} {R : List Cl} (hK : KR kv R) : ∀ (n : Nat) (i : Int), depN kv n i < n → depA (newY kv) n i
  | 0, _, h => by omega
  | n + 1, i, h => by
    unfold depA; rw [parA_new hK]
    by_cases hs : shC kv i = true
    · obtain ⟨c, h1, h2⟩ := shC_cl hs
      rw [if_pos hs]; right
      unfold depN at h; rw [h1] at h; simp at h
      exact depA_of hK n _ h
    · rw [if_neg hs]; exact .inl rfl
theorem depA_up {ym : List (Int × Pl)} : ∀ (n : Nat) (i : Int), depA ym n i → depA ym (n + 1) i
  | 0, _, h => h.elim
  | n + 1, i, h => by
    rcases h with h | h
    · exact .inl h
    · exact .inr (depA_up n _ h)
theorem depA_add {ym : List (Int × Pl)} {i : Int} : ∀ (m n : Nat), depA ym n i → depA ym (n + m) i
  | 0, _, h => h
  | m + 1, n, h => depA_up _ _ (depA_add m n h)
theorem depA_laid {kv : List (Int × Cl)} {R : List Cl} (hK : KR kv R) (hL : Laid kv) (i : Int) : depA (newY kv) 40 i :=
  depA_add 23 17 (depA_of hK 17 i (by have := hL.dep i; unfold dep at this; omega))
/-- the classes from one on upward -/
def upc (kv : List (Int × Cl)) (i : Int) : List Int := upL kv i (dep kv i)
theorem dep_some {kv : List (Int × Cl)} (hL : Laid kv) {i : Int} {c : Cl} (h : mget kv i = some c) : dep kv i = dep kv c.hp + 1 := by
  have h1 : dep kv i = depN kv 16 c.hp + 1 := by unfold dep; rw [depN, h, gcl_of h]; rfl
  have h2 := hL.dep i
  rw [h1]; congr 1; unfold dep
  exact (depN_stop kv 1 16 c.hp (by omega)).symm
theorem dep_none {kv : List (Int × Cl)} {i : Int} (h : mget kv i = none) : dep kv i = 0 := by unfold dep; rw [depN, h]; rfl
theorem upc_some {kv : List (Int × Cl)} (hL : Laid kv) {i : Int} {c : Cl} (h : mget kv i = some c) : upc kv i = i :: upc kv c.hp := by
  unfold upc; rw [dep_some hL h]; unfold upL
  rw [List.range_succ_eq_map, List.map_cons, List.map_map]
  congr 1
  refine List.map_congr_left fun j _ => ?_
  show upA kv i (j + 1) = _
  rw [upA_succ, gcl_of h]
theorem upc_none {kv : List (Int × Cl)} {i : Int} (h : mget kv i = none) : upc kv i = [] := by unfold upc; rw [dep_none h]; rfl
theorem par_ok {kv : List (Int × Cl)} (hL : Laid kv) {i : Int} (hs : shC kv i = true) : (gcl kv i).hp = 0 ∨ (shC kv (gcl kv i).hp = true ∧ (gcl kv (gcl kv i).hp).hl = false) := by
  obtain ⟨c, h1, h2⟩ := shC_cl hs
  rcases hL.par i c h1 with h | ⟨p, h3, h4⟩
  · left; rw [h2]; exact h
  · by_cases h0 : c.hp = 0
    · left; rw [h2]; exact h0
    · right; rw [h2]
      have h5 := hL.shr i c h1 (by unfold shC at hs; rw [h2] at hs; simpa using hs)
      refine ⟨?_, by rw [gcl_of h3]; exact h4⟩
      unfold sharesH at h5; unfold shC
      have : (c.hp == 0) = false := by simpa using h0
      rw [this] at h5; simpa using h5
/-- a set of classes that is closed upward, all of which share; each is one of some, or has one below it -/
structure ASet (kv : List (Int × Cl)) (ol : List Int) (A : Int → Prop) : Prop where
  sh : ∀ i, A i → shC kv i = true
  up : ∀ i, A i → (gcl kv i).hp = 0 ∨ A (gcl kv i).hp
  sup : ∀ i, A i → i ∈ ol ∨ ∃ r, A r ∧ (gcl kv r).hp = i
  ons : ∀ i ∈ ol, A i
  lf : ∀ i ∈ ol, (gcl kv i).hl = true
/-- the maps say who is active below whom -/
def FOk (kv : List (Int × Cl)) (A : Int → Prop) (F : Int → List (Int × Int)) : Prop := ∀ p, ((F p).map (·.1)).Nodup ∧ ∀ i, (mget (F p) i ≠ none ↔ A i ∧ (gcl kv i).hp = p)
theorem aset_upc {kv : List (Int × Cl)} (hL : Laid kv) {ol : List Int} {A : Int → Prop} (h : ASet kv ol A) : ∀ (n : Nat) (i : Int), dep kv i ≤ n → A i → ∀ q ∈ upc kv i, A q
  | 0, i, hn, hi, q, hq => by
    unfold upc at hq; rw [show dep kv i = 0 by omega] at hq; simp [upL] at hq
  | n + 1, i, hn, hi, q, hq => by
    obtain ⟨c, h1, h2⟩ := shC_cl (h.sh i hi)
    rw [upc_some hL h1] at hq
    rcases List.mem_cons.1 hq with rfl | hq
    · exact hi
    · rcases h.up i hi with h0 | h0
      · rw [h2] at h0; rw [h0, upc_none (laid_0 hL)] at hq; cases hq
      · rw [h2] at h0; exact aset_upc hL h n _ (by rw [dep_some hL h1] at hn; omega) h0 q hq
theorem aset_sup {kv : List (Int × Cl)} (hL : Laid kv) {ol : List Int} {A : Int → Prop} (h : ASet kv ol A) : ∀ (n : Nat) (i : Int), 17 ≤ dep kv i + n → A i → ∃ m ∈ ol, i ∈ upc kv m
  | 0, i, hn, hi => by have := hL.dep i; omega
  | n + 1, i, hn, hi => by
    obtain ⟨c, h1, h2⟩ := shC_cl (h.sh i hi)
    rcases h.sup i hi with h0 | ⟨r, h3, h4⟩
    · exact ⟨i, h0, by rw [upc_some hL h1]; simp⟩
    · obtain ⟨d, h5, h6⟩ := shC_cl (h.sh r h3)
      rw [h6] at h4
      obtain ⟨m, hm, hr⟩ := aset_sup hL h n r (by rw [dep_some hL h5, h4]; omega) h3
      refine ⟨m, hm, ?_⟩
      exact upc_trans hL (by rw [upc_some hL h5]; exact List.mem_cons_of_mem _ (by rw [h4, upc_some hL h1]; simp)) hr
  where
  upc_trans {kv : List (Int × Cl)} (hL : Laid kv) {i r m : Int} (h1 : i ∈ upc kv r) (h2 : r ∈ upc kv m) : i ∈ upc kv m := by
    have key : ∀ (n : Nat) (m : Int), dep kv m ≤ n → r ∈ upc kv m → i ∈ upc kv m := by
      intro n
      induction n with
      | zero => intro m hm hr; unfold upc at hr; rw [show dep kv m = 0 by omega] at hr; simp [upL] at hr
      | succ n ih =>
        intro m hm hr
        cases e : mget kv m with
        | none => rw [upc_none e] at hr; cases hr
        | some c =>
          rw [upc_some hL e] at hr ⊢
          rcases List.mem_cons.1 hr with rfl | hr
          · rw [upc_some hL e] at h1; exact h1
          · exact List.mem_cons_of_mem _ (ih _ (by rw [dep_some hL e] at hm; omega) hr)
    exact key _ m (Nat.le_refl _) h2
/-- who is active: those above the active leaves -/
theorem aset_iff {kv : List (Int × Cl)} (hL : Laid kv) {ol : List Int} {A : Int → Prop} (h : ASet kv ol A) (i : Int) : A i ↔ ∃ m ∈ ol, i ∈ upc kv m :=
  ⟨fun hi => aset_sup hL h 17 i (by omega) hi, fun ⟨m, hm, hi⟩ => aset_upc hL h _ m (Nat.le_refl _) (h.ons m hm) i hi⟩
theorem upc_dep {kv : List (Int × Cl)} (hL : Laid kv) : ∀ (n : Nat) (p q : Int), dep kv p ≤ n → q ∈ upc kv p → dep kv q ≤ dep kv p
  | 0, p, q, hn, hq => by unfold upc at hq; rw [show dep kv p = 0 by omega] at hq; simp [upL] at hq
  | n + 1, p, q, hn, hq => by
    cases e : mget kv p with
    | none => rw [upc_none e] at hq; cases hq
    | some c =>
      rw [upc_some hL e] at hq
      rcases List.mem_cons.1 hq with rfl | hq
      · omega
      · have h2 := dep_some hL e; have := upc_dep hL n c.hp q (by omega) hq; omega
theorem ne_nil_iff {l : List (Int × Int)} : l ≠ [] ↔ ∃ i, mget l i ≠ none := by
  constructor
  · intro h
    cases l with
    | nil => exact absurd rfl h
    | cons p l => exact ⟨p.1, by simp [mget]⟩
  · rintro ⟨i, h⟩ rfl; exact h rfl
theorem fok_add {kv : List (Int × Cl)} {A : Int → Prop} {F : Int → List (Int × Int)} (h : FOk kv A F) (i : Int) : FOk kv (fun q => A q ∨ q = i) (addF F (gcl kv i).hp i) := by
  intro p; unfold addF
  by_cases e : (gcl kv i).hp = p
  · simp only [if_pos e]; subst e
    refine ⟨mput_nodup (h _).1 _ _, fun q => ?_⟩
    rw [mget_put]; by_cases eq : i = q
    · subst eq; simp
    · rw [if_neg eq, (h _).2]; constructor
      · rintro ⟨h1, h2⟩; exact ⟨.inl h1, h2⟩
      · rintro ⟨h1 | h1, h2⟩
        · exact ⟨h1, h2⟩
        · exact absurd h1.symm eq
  · simp only [if_neg e]
    refine ⟨(h p).1, fun q => ?_⟩
    rw [(h p).2]; constructor
    · rintro ⟨h1, h2⟩; exact ⟨.inl h1, h2⟩
    · rintro ⟨h1 | h1, h2⟩
      · exact ⟨h1, h2⟩
      · subst h1; exact absurd h2 e
theorem fok_del {kv : List (Int × Cl)} {A : Int → Prop} {F : Int → List (Int × Int)} (h : FOk kv A F) (i : Int) : FOk kv (fun q => A q ∧ q ≠ i) (delF F (gcl kv i).hp i) := by
  intro p; unfold delF
  by_cases e : (gcl kv i).hp = p
  · simp only [if_pos e]; subst e
    refine ⟨mdel_nodup (h _).1 _, fun q => ?_⟩
    rw [mget_mdel (h _).1]; by_cases eq : i = q
    · subst eq; simp
    · rw [if_neg eq, (h _).2]; constructor
      · rintro ⟨h1, h2⟩; exact ⟨⟨h1, fun h => eq h.symm⟩, h2⟩
      · rintro ⟨⟨h1, _⟩, h2⟩; exact ⟨h1, h2⟩
  · simp only [if_neg e]
    refine ⟨(h p).1, fun q => ?_⟩
    rw [(h p).2]; constructor
    · rintro ⟨h1, h2⟩; exact ⟨⟨h1, fun h => e (h ▸ h2)⟩, h2⟩
    · rintro ⟨⟨h1, _⟩, h2⟩; exact ⟨h1, h2⟩
/-- on the way up: closed but for i -/
structure OnWay (kv : List (Int × Cl)) (ol : List Int) (A : Int → Prop) (i : Int) : Prop where
  sh : ∀ q, A q → shC kv q = true
  up : ∀ q, A q → (gcl kv q).hp = 0 ∨ A (gcl kv q).hp ∨ (gcl kv q).hp = i
  sup : ∀ q, A q → q ∈ ol ∨ ∃ r, A r ∧ (gcl kv r).hp = q
  me : i ∈ ol ∨ ∃ r, A r ∧ (gcl kv r).hp = i
  mysh : shC kv i = true
  no : ¬ A i
  ons : ∀ q ∈ ol, A q ∨ q = i
  lf : ∀ q ∈ ol, (gcl kv q).hl = true
theorem wrong_ne {kv : List (Int × Cl)} (hL : Laid kv) {i : Int} (hs : shC kv i = true) : (gcl kv i).hp ≠ i := by
  obtain ⟨c, h1, h2⟩ := shC_cl hs
  obtain ⟨h3, h4⟩ := hL.key i c h1
  have := (wrong_id h4).2.2
  rw [h2, ← h3]; exact fun e => this e.symm
open Classical in
theorem onC_ok {kv : List (Int × Cl)} {R : List Cl} (hK : KR kv R) (hL : Laid kv) {ol : List Int} : ∀ (n : Nat) (i : Int) (A : Int → Prop) (F : Int → List (Int × Int)), OnWay kv ol A i → FOk kv A F → depA (newY kv) n i →
    ∃ A' : Int → Prop, ASet kv ol A' ∧ FOk kv A' (onC (newY kv) F n i).2 ∧ (∀ q, A q → A' q) ∧ (onC (newY kv) F n i).1 = (upc kv i).filter (fun q => decide (¬ A q)) ∧ A' i
  | 0, i, A, F, hW, hF, hd => hd.elim
  | n + 1, i, A, F, hW, hF, hd => by
    have hp : parA (newY kv) i = (gcl kv i).hp := by rw [parA_new hK, if_pos hW.mysh]
    have hfa := fok_add hF i
    obtain ⟨c, h1, h2⟩ := shC_cl hW.mysh
    have hne := wrong_ne hL hW.mysh
    have hiff : ∀ p, p = (gcl kv i).hp → p ≠ 0 → (F p ≠ [] ↔ A p) := by
      intro p hpe hp0
      rw [ne_nil_iff]; constructor
      · rintro ⟨q, hq⟩
        obtain ⟨h3, h4⟩ := ((hF p).2 q).1 hq
        rcases hW.up q h3 with h | h | h
        · exact absurd (h4.symm.trans h) hp0
        · rw [h4] at h; exact h
        · exact absurd ((hpe.symm.trans h4.symm).trans h) hne
      · intro ha
        rcases hW.sup p ha with h | ⟨r, h3, h4⟩
        · have h5 := hW.lf p h
          rcases par_ok hL hW.mysh with h6 | ⟨_, h6⟩
          · exact absurd (hpe.trans h6) hp0
          · rw [← hpe, h5] at h6; cases h6
        · exact ⟨r, ((hF p).2 r).2 ⟨h3, h4⟩⟩
    by_cases hst : F (parA (newY kv) i) ≠ [] ∨ parA (newY kv) i = 0
    · rw [on_stop hst]
      rw [hp] at hst ⊢
      have hcl : (gcl kv i).hp = 0 ∨ A (gcl kv i).hp := by
        by_cases h0 : (gcl kv i).hp = 0
        · exact .inl h0
        · rcases hst with h | h
          · exact .inr ((hiff _ rfl h0).1 h)
          · exact absurd h h0
      have hA' : ASet kv ol (fun q => A q ∨ q = i) := by
        refine ⟨?_, ?_, ?_, fun q hq => hW.ons q hq, hW.lf⟩
        · rintro q (h | rfl)
          · exact hW.sh q h
          · exact hW.mysh
        · rintro q (h | rfl)
          · rcases hW.up q h with h | h | h
            · exact .inl h
            · exact .inr (.inl h)
            · exact .inr (.inr h)
          · rcases hcl with h | h
            · exact .inl h
            · exact .inr (.inl h)
        · rintro q (h | rfl)
          · rcases hW.sup q h with h | ⟨r, h3, h4⟩
            · exact .inl h
            · exact .inr ⟨r, .inl h3, h4⟩
          · rcases hW.me with h | ⟨r, h3, h4⟩
            · exact .inl h
            · exact .inr ⟨r, .inl h3, h4⟩
      refine ⟨_, hA', hfa, fun q h => .inl h, ?_, .inr rfl⟩
      rw [upc_some hL h1, List.filter_cons, if_pos (by simpa using hW.no)]
      have : (upc kv c.hp).filter (fun q => decide (¬ A q)) = [] := by
        rw [List.filter_eq_nil_iff]; intro q hq
        rw [h2] at hcl
        rcases hcl with h | h
        · rw [h, upc_none (laid_0 hL)] at hq; cases hq
        · have hqA := aset_upc hL hA' _ c.hp (Nat.le_refl _) (.inl h) q hq
          rcases hqA with h3 | h3
          · simpa using h3
          · exfalso
            have := upc_dep hL _ c.hp q (Nat.le_refl _) hq
            rw [h3, dep_some hL h1] at this; omega
      rw [this]
    · rw [on_go hst]
      rw [hp] at hst ⊢
      have h0 : (gcl kv i).hp ≠ 0 := fun h => hst (.inr h)
      have hnp : ¬ A (gcl kv i).hp := fun h => hst (.inl ((hiff _ rfl h0).2 h))
      have hsp : shC kv (gcl kv i).hp = true := by
        rcases par_ok hL hW.mysh with h | h
        · exact absurd h h0
        · exact h.1
      have hW' : OnWay kv ol (fun q => A q ∨ q = i) (gcl kv i).hp := by
        refine ⟨?_, ?_, ?_, .inr ⟨i, .inr rfl, rfl⟩, hsp, ?_, fun q hq => .inl (hW.ons q hq), hW.lf⟩
        · rintro q (h | rfl)
          · exact hW.sh q h
          · exact hW.mysh
        · rintro q (h | rfl)
          · rcases hW.up q h with h | h | h
            · exact .inl h
            · exact .inr (.inl (.inl h))
            · exact .inr (.inl (.inr h))
          · exact .inr (.inr rfl)
        · rintro q (h | rfl)
          · rcases hW.sup q h with h | ⟨r, h3, h4⟩
            · exact .inl h
            · exact .inr ⟨r, .inl h3, h4⟩
          · rcases hW.me with h | ⟨r, h3, h4⟩
            · exact .inl h
            · exact .inr ⟨r, .inl h3, h4⟩
        · rintro (h | h)
          · exact hnp h
          · exact hne h
      have hd' : depA (newY kv) n (gcl kv i).hp := by
        rcases hd with h | h
        · rw [hp] at h; exact absurd h h0
        · rw [hp] at h; exact h
      obtain ⟨A', a1, a2, a3, a4, a5⟩ := onC_ok hK hL n _ _ _ hW' hfa hd'
      refine ⟨A', a1, a2, fun q h => a3 q (.inl h), ?_, a3 i (.inr rfl)⟩
      rw [a4, upc_some hL h1, List.filter_cons, if_pos (by simpa using hW.no), h2]
      refine congrArg (i :: ·) (List.filter_congr fun q hq => ?_)
      have hqi : ¬ q = i := by
        intro e
        have := upc_dep hL _ c.hp q (Nat.le_refl _) hq
        rw [e, dep_some hL h1] at this; omega
      simp [hqi]
/-- on the way up, who becomes passive -/
structure OffWay (kv : List (Int × Cl)) (ol : List Int) (A : Int → Prop) (i : Int) : Prop where
  sh : ∀ q, A q → shC kv q = true
  up : ∀ q, A q → (gcl kv q).hp = 0 ∨ A (gcl kv q).hp
  sup : ∀ q, A q → q ≠ i → q ∈ ol ∨ ∃ r, A r ∧ (gcl kv r).hp = q
  me : A i
  lone : ∀ r, A r → (gcl kv r).hp ≠ i
  no : i ∉ ol
  ons : ∀ q ∈ ol, A q
  lf : ∀ q ∈ ol, (gcl kv q).hl = true
open Classical in
theorem offC_ok {kv : List (Int × Cl)} {R : List Cl} (hK : KR kv R) (hL : Laid kv) {ol : List Int} : ∀ (n : Nat) (i : Int) (A : Int → Prop) (F : Int → List (Int × Int)), OffWay kv ol A i → FOk kv A F → depA (newY kv) n i →
    ∃ A' : Int → Prop, ASet kv ol A' ∧ FOk kv A' (offC (newY kv) F n i).2 ∧ (∀ q, A' q → A q ∧ q ≠ i) ∧ (offC (newY kv) F n i).1 = (upc kv i).filter (fun q => decide (¬ A' q))
  | 0, i, A, F, hW, hF, hd => hd.elim
  | n + 1, i, A, F, hW, hF, hd => by
    have mysh := hW.sh i hW.me
    have hp : parA (newY kv) i = (gcl kv i).hp := by rw [parA_new hK, if_pos mysh]
    have hfa := fok_del hF i
    obtain ⟨c, h1, h2⟩ := shC_cl mysh
    have hne := wrong_ne hL mysh
    have hcl := hW.up i hW.me
    by_cases hst : delF F (parA (newY kv) i) i (parA (newY kv) i) ≠ [] ∨ parA (newY kv) i = 0
    · rw [off_stop hst]
      rw [hp] at hst ⊢
      have hA' : ASet kv ol (fun q => A q ∧ q ≠ i) := by
        refine ⟨fun q h => hW.sh q h.1, ?_, ?_, fun q hq => ⟨hW.ons q hq, fun e => hW.no (e ▸ hq)⟩, hW.lf⟩
        · rintro q ⟨h, hqi⟩
          rcases hW.up q h with h3 | h3
          · exact .inl h3
          · exact .inr ⟨h3, fun e => hW.lone q h e⟩
        · rintro q ⟨h, hqi⟩
          rcases hW.sup q h hqi with h3 | ⟨r, h3, h4⟩
          · exact .inl h3
          · by_cases hri : r = i
            · subst hri
              rcases hst with h5 | h5
              · obtain ⟨s, hs⟩ := ne_nil_iff.1 h5
                obtain ⟨h6, h7⟩ := ((hfa _).2 s).1 hs
                exact .inr ⟨s, h6, h7.trans h4⟩
              · exfalso
                have hq0 : q = 0 := h4.symm.trans h5
                have := hW.sh q h
                obtain ⟨d, h6, _⟩ := shC_cl this
                rw [hq0, laid_0 hL] at h6; cases h6
            · exact .inr ⟨r, ⟨h3, hri⟩, h4⟩
      refine ⟨_, hA', hfa, fun q h => h, ?_⟩
      rw [upc_some hL h1, List.filter_cons, if_pos (by simp)]
      refine congrArg (i :: ·) (Eq.symm (List.filter_eq_nil_iff.2 fun q hq => ?_))
      rw [h2] at hcl
      rcases hcl with h | h
      · rw [h, upc_none (laid_0 hL)] at hq; cases hq
      · have hci : c.hp ≠ i := by rw [← h2]; exact hne
        have hqA := aset_upc hL hA' _ c.hp (Nat.le_refl _) ⟨h, hci⟩ q hq
        simpa using hqA
    · rw [off_go hst]
      rw [hp] at hst ⊢
      have h0 : (gcl kv i).hp ≠ 0 := fun h => hst (.inr h)
      have hE : ∀ r, (A r ∧ r ≠ i) → (gcl kv r).hp ≠ (gcl kv i).hp := fun r hr e => hst (.inl (ne_nil_iff.2 ⟨r, ((hfa _).2 r).2 ⟨hr, e⟩⟩))
      have hpA : A (gcl kv i).hp := hcl.resolve_left h0
      have hW' : OffWay kv ol (fun q => A q ∧ q ≠ i) (gcl kv i).hp := by
        refine ⟨fun q h => hW.sh q h.1, ?_, ?_, ⟨hpA, hne⟩, fun r hr => hE r hr, ?_, fun q hq => ⟨hW.ons q hq, fun e => hW.no (e ▸ hq)⟩, hW.lf⟩
        · rintro q ⟨h, hqi⟩
          rcases hW.up q h with h3 | h3
          · exact .inl h3
          · exact .inr ⟨h3, fun e => hW.lone q h e⟩
        · rintro q ⟨h, hqi⟩ hqp
          rcases hW.sup q h hqi with h3 | ⟨r, h3, h4⟩
          · exact .inl h3
          · by_cases hri : r = i
            · subst hri; exact absurd h4.symm hqp
            · exact .inr ⟨r, ⟨h3, hri⟩, h4⟩
        · intro h
          have h5 := hW.lf _ h
          rcases par_ok hL mysh with h6 | ⟨_, h6⟩
          · exact h0 h6
          · rw [h5] at h6; cases h6
      have hd' : depA (newY kv) n (gcl kv i).hp := by
        rcases hd with h | h
        · rw [hp] at h; exact absurd h h0
        · rw [hp] at h; exact h
      obtain ⟨A', a1, a2, a3, a4⟩ := offC_ok hK hL n _ _ _ hW' hfa hd'
      refine ⟨A', a1, a2, fun q h => (a3 q h).1, ?_⟩
      rw [a4, upc_some hL h1, List.filter_cons, if_pos (by simp; exact fun h => (a3 i h).1.2 rfl), h2]
/-- what the program has, beside the document's classes and active leaves -/
structure AInv (kv : List (Int × Cl)) (on : List (Int × Int)) (F : Int → List (Int × Int)) (ol : List Int) : Prop where
  ex : ∃ A, ASet kv ol A ∧ FOk kv A F
  on_iff : ∀ i, mget on i ≠ none ↔ i ∈ ol
  nd : (on.map (·.1)).Nodup
  rise : ol.Pairwise (· < ·)
def actP (kv : List (Int × Cl)) (ol : List Int) (i : Int) : Prop := ∃ m ∈ ol, i ∈ upc kv m
theorem ainv_act {kv : List (Int × Cl)} (hL : Laid kv) {on : List (Int × Int)} {F : Int → List (Int × Int)} {ol : List Int} (h : AInv kv on F ol) : ASet kv ol (actP kv ol) ∧ FOk kv (actP kv ol) F := by
  obtain ⟨A, h1, h2⟩ := h.ex
  have e : A = actP kv ol := by funext i; exact propext (aset_iff hL h1 i)
  rw [← e]; exact ⟨h1, h2⟩
theorem isA_iff {kv : List (Int × Cl)} (hL : Laid kv) {on : List (Int × Int)} {kd : List (Int × MB)} {ol : List Int} (h : AInv kv on (kx kd) ol) (i : Int) (h0 : i ≠ 0) : isA on kd i = true ↔ actP kv ol i := by
  obtain ⟨h1, h2⟩ := ainv_act hL h
  have e : isA on kd i = true ↔ mget on i ≠ none ∨ kx kd i ≠ [] := by
    unfold isA; rw [Bool.or_eq_true, Option.isSome_iff_ne_none, decide_eq_true_eq, gt_iff_lt, List.length_pos_iff]
  rw [e, h.on_iff, ne_nil_iff]; constructor
  · rintro (h3 | ⟨r, h3⟩)
    · exact h1.ons i h3
    · obtain ⟨h4, h5⟩ := ((h2 i).2 r).1 h3
      rcases h1.up r h4 with h6 | h6
      · exact absurd (h5.symm.trans h6) h0
      · rw [h5] at h6; exact h6
  · intro h3
    rcases h1.sup i h3 with h4 | ⟨r, h4, h5⟩
    · exact .inl h4
    · exact .inr ⟨r, ((h2 i).2 r).2 ⟨h4, h5⟩⟩
theorem isA_0 {kv : List (Int × Cl)} (hL : Laid kv) {on : List (Int × Int)} {kd : List (Int × MB)} {ol : List Int} (h : AInv kv on (kx kd) ol) : isA on kd 0 = decide ((ol.length : Int) > 0) := by
  obtain ⟨h1, h2⟩ := ainv_act hL h
  have hn : mget on 0 = none := by
    by_cases e : mget on 0 = none
    · exact e
    · have := h1.sh 0 (h1.ons 0 ((h.on_iff 0).1 e))
      obtain ⟨c, h3, _⟩ := shC_cl this; rw [laid_0 hL] at h3; cases h3
  unfold isA; rw [hn]; simp only [Option.isSome_none, Bool.false_or]
  rw [decide_eq_decide, gt_iff_lt, List.length_pos_iff, ne_nil_iff]
  constructor
  · rintro ⟨r, h3⟩
    obtain ⟨m, hm, _⟩ := (((h2 0).2 r).1 h3).1
    have := List.length_pos_of_mem hm; omega
  · intro h3
    cases ol with
    | nil => simp at h3
    | cons m ol =>
      have key : ∀ (n : Nat) (q : Int), dep kv q ≤ n → actP kv (m :: ol) q → ∃ r, mget (kx kd 0) r ≠ none := by
        intro n
        induction n with
        | zero =>
          intro q hq ha
          obtain ⟨c, h4, _⟩ := shC_cl (h1.sh q ha)
          rw [dep_some hL h4] at hq; omega
        | succ n ih =>
          intro q hq ha
          obtain ⟨c, h4, h5⟩ := shC_cl (h1.sh q ha)
          rcases h1.up q ha with h6 | h6
          · exact ⟨q, ((h2 0).2 q).2 ⟨ha, h6⟩⟩
          · rw [h5] at h6; exact ih _ (by rw [dep_some hL h4] at hq; omega) h6
      exact key _ m (Nat.le_refl _) (h1.ons m (by simp))
/-! beside the document's answer -/
theorem riseE : ∀ {a b : List Int}, a.Pairwise (· < ·) → b.Pairwise (· < ·) → (∀ z, z ∈ a ↔ z ∈ b) → a = b := fun {a b} ha hb h =>
  List.Perm.eq_of_pairwise (le := fun x y : Int => x ≤ y) (fun x y _ _ h1 h2 => by omega) (ha.imp fun h => by omega) (hb.imp fun h => by omega) ((List.perm_ext_iff_of_nodup (ha.imp fun h => by omega) (hb.imp fun h => by omega)).2 h)
theorem sort_rise {l : List Int} (h : l.Nodup) : (sortI l).Pairwise (· < ·) ∧ ∀ z, z ∈ sortI l ↔ z ∈ l := by
  have tr : ∀ a b c : Int, decide (a ≤ b) = true → decide (b ≤ c) = true → decide (a ≤ c) = true := fun a b c h1 h2 => by simp only [decide_eq_true_eq] at *; omega
  have to : ∀ a b : Int, (decide (a ≤ b) || decide (b ≤ a)) = true := fun a b => by simp only [Bool.or_eq_true, decide_eq_true_eq]; omega
  have hp := List.mergeSort_perm l fun x y => decide (x ≤ y)
  refine ⟨?_, fun z => hp.mem_iff⟩
  have h1 : (sortI l).Pairwise (fun a b => decide (a ≤ b) = true) := List.pairwise_mergeSort tr to l
  have h2 : (sortI l).Pairwise (· ≠ ·) := hp.nodup_iff.2 h
  exact (h1.and h2).imp fun ⟨a, b⟩ => by simp at a; omega
theorem upc_R {kv : List (Int × Cl)} {R : List Cl} (hK : KR kv R) (hL : Laid kv) (n : Int) : upL (kvl R) n (upD R n) = upc kv n := by
  unfold upc; rw [kr_upD hK hL.dep, kr_upL hK]
theorem upc_in {kv : List (Int × Cl)} (hL : Laid kv) : ∀ (n : Nat) (p q : Int), dep kv p ≤ n → q ∈ upc kv p → mget kv q ≠ none
  | 0, p, q, hn, hq => by unfold upc at hq; rw [show dep kv p = 0 by omega] at hq; simp [upL] at hq
  | n + 1, p, q, hn, hq => by
    cases e : mget kv p with
    | none => rw [upc_none e] at hq; cases hq
    | some c =>
      rw [upc_some hL e] at hq
      rcases List.mem_cons.1 hq with rfl | hq
      · rw [e]; simp
      · exact upc_in hL n c.hp q (by have := dep_some hL e; omega) hq
theorem hasL_iff {l : List Int} {a : Int} : hasL l a = true ↔ a ∈ l := by
  unfold hasL; rw [List.any_eq_true]; constructor
  · rintro ⟨x, h1, h2⟩; simp at h2; subst h2; exact h1
  · intro h; exact ⟨a, h, by simp⟩
theorem isR_iff {kv : List (Int × Cl)} {R : List Cl} (hK : KR kv R) (hL : Laid kv) {ol : List Int} {a : Int} : isR R ol a = true ↔ ∃ n ∈ ol, a = 0 ∨ a ∈ upc kv n := by
  unfold isR; rw [List.any_eq_true]; constructor
  · rintro ⟨n, h1, h2⟩
    rw [Bool.or_eq_true, hasL_iff, upc_R hK hL] at h2
    exact ⟨n, h1, h2.imp (fun h => by simpa using h) id⟩
  · rintro ⟨n, h1, h2⟩
    refine ⟨n, h1, ?_⟩
    rw [Bool.or_eq_true, hasL_iff, upc_R hK hL]
    exact h2.imp (fun h => by simpa using h) id
theorem isR_act {kv : List (Int × Cl)} {R : List Cl} (hK : KR kv R) (hL : Laid kv) {ol : List Int} {a : Int} (h0 : a ≠ 0) : isR R ol a = true ↔ actP kv ol a := by
  rw [isR_iff hK hL]; unfold actP; constructor
  · rintro ⟨n, h1, h2⟩; exact ⟨n, h1, h2.resolve_left h0⟩
  · rintro ⟨n, h1, h2⟩; exact ⟨n, h1, .inr h2⟩
theorem isA_isR {kv : List (Int × Cl)} {R : List Cl} (hK : KR kv R) (hL : Laid kv) {on : List (Int × Int)} {kd : List (Int × MB)} {ol : List Int} (h : AInv kv on (kx kd) ol) (a : Int) : isA on kd a = isR R ol a := by
  by_cases h0 : a = 0
  · subst h0; rw [isA_0 hL h, Bool.eq_iff_iff, isR_iff hK hL, decide_eq_true_eq]
    cases ol with
    | nil => simp
    | cons m ol => simp
  · rw [Bool.eq_iff_iff, isA_iff hL h a h0, isR_act hK hL h0]
theorem lf_R {kv : List (Int × Cl)} {R : List Cl} (hK : KR kv R) (a : Int) : lfA (newY kv) a = lfR R a := by
  rw [lfA_new hK]; unfold lfR shC; rw [← kr_gcl hK, ls_eq (kr_gok hK a), Bool.and_comm]
theorem act_sh {kv : List (Int × Cl)} (hL : Laid kv) {on : List (Int × Int)} {F : Int → List (Int × Int)} {ol : List Int} (h : AInv kv on F ol) {i : Int} (hi : actP kv ol i) : ∃ c, mget kv i = some c ∧ gcl kv i = c ∧ shC kv i = true ∧ i ≠ 0 := by
  obtain ⟨h1, _⟩ := ainv_act hL h
  obtain ⟨c, h2, h3⟩ := shC_cl (h1.sh i hi)
  exact ⟨c, h2, h3, h1.sh i hi, fun e => by rw [e, laid_0 hL] at h2; cases h2⟩
theorem keys_ok {kv : List (Int × Cl)} (hL : Laid kv) {on : List (Int × Int)} {F : Int → List (Int × Int)} {ol : List Int} (h : AInv kv on F ol) (p : Int) : (∀ x ∈ F p, I64 x.1) ∧ (F p).length ≤ 64 := by
  obtain ⟨h1, h2⟩ := ainv_act hL h
  have hin : ∀ x ∈ F p, ∃ c, mget kv x.1 = some c := fun x hx => by
    have h3 := mget_of_mem (h2 p).1 (show (x.1, x.2) ∈ F p from hx)
    obtain ⟨c, h4, _⟩ := act_sh hL h (((h2 p).2 x.1).1 (by rw [h3]; simp)).1
    exact ⟨c, h4⟩
  constructor
  · intro x hx
    obtain ⟨c, h3⟩ := hin x hx
    obtain ⟨h4, h5⟩ := hL.key _ c h3
    unfold wrongC at h5; unfold I64
    by_cases hw : c.hi < 1 ∨ c.hi > 65536 ∨ c.hp < 0 ∨ c.hp > 65536 ∨ c.hi = c.hp
    · rw [if_pos hw] at h5; cases h5
    · omega
  · have hs : ∀ y ∈ (F p).map (·.1), y ∈ kv.map (·.1) := fun y hy => by
      obtain ⟨x, hx, rfl⟩ := List.mem_map.1 hy
      obtain ⟨c, h3⟩ := hin x hx
      exact List.mem_map.2 ⟨(x.1, c), mget_mem h3, rfl⟩
    have := len_sub (h2 p).1 hs
    simp only [List.length_map] at this
    have := hL.len; omega
  where
  len_sub : ∀ {a b : List Int}, a.Nodup → (∀ y ∈ a, y ∈ b) → a.length ≤ b.length
    | [], _, _, _ => by simp
    | x :: a, b, hn, hs => by
      have hx := hs x (List.mem_cons_self ..)
      have h1 := len_sub (a := a) (b := b.erase x) (List.nodup_cons.1 hn).2 fun z hz => by
        have hne : z ≠ x := fun e => (List.nodup_cons.1 hn).1 (e ▸ hz)
        exact (List.mem_erase_of_ne hne).2 (hs z (List.mem_cons_of_mem _ hz))
      rw [List.length_erase_of_mem hx] at h1
      have := List.length_pos_of_mem hx
      simp; omega
theorem R_rise {R : List Cl} (h : RS R) (f : Cl → Bool) : ((R.filter f).map (·.hi)).Pairwise (· < ·) := List.pairwise_map.2 (h.filter f)
theorem ch_R {kv : List (Int × Cl)} {R : List Cl} (hK : KR kv R) (hL : Laid kv) {on : List (Int × Int)} {kd : List (Int × MB)} {ol : List Int} (h : AInv kv on (kx kd) ol) (a : Int) : sortK (kx kd a) = chRA R ol a R := by
  obtain ⟨h1, h2⟩ := ainv_act hL h
  obtain ⟨s1, s2⟩ := sort_rise (h2 a).1
  refine riseE s1 (R_rise hK.srt _) fun z => ?_
  show z ∈ sortI ((kx kd a).map (·.1)) ↔ z ∈ chRA R ol a R
  rw [s2]; unfold chRA; rw [List.mem_map, List.mem_map]
  constructor
  · rintro ⟨x, hx, rfl⟩
    have h3 := mget_of_mem (h2 a).1 (show (x.1, x.2) ∈ kx kd a from hx)
    obtain ⟨h4, h5⟩ := ((h2 a).2 x.1).1 (by rw [h3]; simp)
    obtain ⟨c, h6, h7, h8, h9⟩ := act_sh hL h h4
    obtain ⟨h10, h11⟩ := (hK.get _ _).1 h6
    refine ⟨c, List.mem_filter.2 ⟨h10, ?_⟩, h11⟩
    rw [Bool.and_eq_true, Bool.and_eq_true, decide_eq_true_eq, decide_eq_true_eq, h11]
    refine ⟨by rw [← h7]; exact h5, ?_, (isR_act hK hL h9).2 h4⟩
    unfold shC at h8; rw [h7, ls_eq (hK.rng c h10)] at h8; simpa using h8
  · rintro ⟨c, hc, rfl⟩
    obtain ⟨h3, h4⟩ := List.mem_filter.1 hc
    rw [Bool.and_eq_true, Bool.and_eq_true, decide_eq_true_eq, decide_eq_true_eq] at h4
    have h5 := kr_at hK h3
    have h0 : c.hi ≠ 0 := fun e => by rw [e, laid_0 hL] at h5; cases h5
    have h6 := (isR_act hK hL h0).1 h4.2.2
    have h7 := ((h2 a).2 c.hi).2 ⟨h6, by rw [gcl_of h5]; exact h4.1⟩
    cases e : mget (kx kd a) c.hi with
    | none => exact absurd e h7
    | some v => exact ⟨_, mget_mem e, rfl⟩
theorem new_nd (kv : List (Int × Cl)) : ∀ (l : List Int) (m : List (Int × Pl)), (m.map (·.1)).Nodup → ((l.foldl (newP kv) m).map (·.1)).Nodup
  | [], _, h => h
  | x :: l, m, h => by
    rw [List.foldl_cons]; refine new_nd kv l _ ?_
    unfold newP; split
    · exact mput_nodup h _ _
    · exact h
theorem mput_len {β : Type} (k : Int) (v : β) : ∀ l : List (Int × β), (mput l k v).length ≤ l.length + 1
  | [] => by simp [mput]
  | p :: l => by
    simp only [mput]; split
    · simp
    · simp; exact mput_len k v l
theorem new_len (kv : List (Int × Cl)) : ∀ (l : List Int) (m : List (Int × Pl)), (l.foldl (newP kv) m).length ≤ m.length + l.length
  | [], _ => by simp
  | x :: l, m => by
    rw [List.foldl_cons]
    refine Nat.le_trans (new_len kv l _) ?_
    have : (newP kv m x).length ≤ m.length + 1 := by
      unfold newP; split
      · exact mput_len _ _ _
      · omega
    simp; omega
theorem newY_len {kv : List (Int × Cl)} (hL : Laid kv) : (newY kv).length ≤ 64 := by
  have h1 := new_len kv (keysF kv (fun v_ => true)) []
  have h2 := keysF_len kv (fun v_ => true)
  have := hL.len
  unfold newY; simp at h1; omega
theorem all_R {kv : List (Int × Cl)} {R : List Cl} (hK : KR kv R) (hL : Laid kv) {on : List (Int × Int)} {kd : List (Int × MB)} {ol : List Int} (h : AInv kv on (kx kd) ol) : allA (newY kv) (isA on kd) = allR R ol R := by
  have hnd : ((newY kv).map (·.1)).Nodup := new_nd kv _ [] (by simp)
  obtain ⟨s1, s2⟩ := sort_rise (hnd.sublist (List.Sublist.map _ (List.filter_sublist (p := fun p : Int × Pl => isA on kd p.1))))
  refine riseE s1 (R_rise hK.srt _) fun z => ?_
  show z ∈ sortI _ ↔ z ∈ allR R ol R
  rw [s2]; unfold allR; rw [List.mem_map, List.mem_map]
  constructor
  · rintro ⟨x, hx, rfl⟩
    obtain ⟨h3, h4⟩ := List.mem_filter.1 hx
    rw [isA_isR hK hL h] at h4
    have h5 := mget_of_mem hnd (show (x.1, x.2) ∈ newY kv from h3)
    rw [newY_get hK] at h5
    split at h5
    · rename_i hs
      obtain ⟨c, h6, _⟩ := shC_cl hs
      obtain ⟨h7, h8⟩ := (hK.get _ _).1 h6
      exact ⟨c, List.mem_filter.2 ⟨h7, by rw [h8]; exact h4⟩, h8⟩
    · cases h5
  · rintro ⟨c, hc, rfl⟩
    obtain ⟨h3, h4⟩ := List.mem_filter.1 hc
    have h5 := kr_at hK h3
    have h0 : c.hi ≠ 0 := fun e => by rw [e, laid_0 hL] at h5; cases h5
    obtain ⟨_, _, _, h8, _⟩ := act_sh hL h ((isR_act hK hL h0).1 h4)
    have h9 := newY_get hK c.hi
    rw [if_pos h8] at h9
    exact ⟨_, List.mem_filter.2 ⟨mget_mem h9, by dsimp only; rw [isA_isR hK hL h]; exact h4⟩, rfl⟩
theorem there_iff {kv : List (Int × Cl)} {R : List Cl} (hK : KR kv R) (hL : Laid kv) {on : List (Int × Int)} {kd : List (Int × MB)} {ol : List Int} (h : AInv kv on (kx kd) ol) (i : Int) : hasL ol i = (lfA (newY kv) i && isA on kd i) := by
  obtain ⟨h1, h2⟩ := ainv_act hL h
  rw [Bool.eq_iff_iff, hasL_iff, Bool.and_eq_true, lfA_new hK, Bool.and_eq_true]; constructor
  · intro hi
    have h3 := h1.ons i hi
    obtain ⟨_, _, _, h4, h5⟩ := act_sh hL h h3
    exact ⟨⟨h4, h1.lf i hi⟩, (isA_iff hL h i h5).2 h3⟩
  · rintro ⟨⟨h3, h4⟩, h5⟩
    obtain ⟨c, h6, _⟩ := shC_cl h3
    have h0 : i ≠ 0 := fun e => by rw [e, laid_0 hL] at h6; cases h6
    rcases h1.sup i ((isA_iff hL h i h0).1 h5) with h7 | ⟨r, h7, h8⟩
    · exact h7
    · rcases par_ok hL (h1.sh r h7) with h9 | ⟨_, h9⟩
      · exact absurd (h8.symm.trans h9) h0
      · rw [h8, h4] at h9; cases h9
theorem mem_with {ol : List Int} {a z : Int} : z ∈ withL ol a ↔ z ∈ ol ∨ z = a := by
  unfold withL; simp only [List.mem_append, List.mem_filter, List.mem_singleton, decide_eq_true_eq]
  constructor
  · rintro ((⟨h, _⟩ | h) | ⟨h, _⟩)
    · exact .inl h
    · exact .inr h
    · exact .inl h
  · rintro (h | h)
    · rcases Int.le_total z a with g | g
      · exact .inl (.inl ⟨h, g⟩)
      · by_cases e : z = a
        · exact .inl (.inr e)
        · exact .inr ⟨h, by omega⟩
    · exact .inl (.inr h)
theorem with_rise {ol : List Int} (hr : ol.Pairwise (· < ·)) {a : Int} (hn : a ∉ ol) : (withL ol a).Pairwise (· < ·) := by
  unfold withL
  refine List.pairwise_append.2 ⟨List.pairwise_append.2 ⟨hr.filter _, by simp, fun x hx y hy => ?_⟩, hr.filter _, fun x hx y hy => ?_⟩
  · simp only [List.mem_filter, decide_eq_true_eq, List.mem_singleton] at hx hy
    have : x ≠ a := fun e => hn (e ▸ hx.1)
    omega
  · simp only [List.mem_append, List.mem_filter, decide_eq_true_eq, List.mem_singleton] at hx hy
    rcases hx with ⟨_, h⟩ | h <;> omega
theorem with_len {ol : List Int} {a : Int} (hr : ol.Pairwise (· < ·)) (hn : a ∉ ol) : (withL ol a).length ≤ ol.length + 1 := by
  have := keys_ok.len_sub (a := withL ol a) (b := a :: ol) ((with_rise hr hn).imp fun h => by omega) fun y hy => by
    rcases mem_with.1 hy with h | h
    · exact List.mem_cons_of_mem _ h
    · rw [h]; simp
  simpa using this
open Classical in
/-- On, beside the document -/
theorem act_on {kv : List (Int × Cl)} {R : List Cl} (hK : KR kv R) (hL : Laid kv) {on : List (Int × Int)} {kd : List (Int × MB)} {ol : List Int} (h : AInv kv on (kx kd) ol) {i p : Int} (hlf : lfA (newY kv) i = true) (hn : i ∉ ol) :
    AInv kv (mput on i p) (onC (newY kv) (kx kd) 40 i).2 (withL ol i) ∧ (onC (newY kv) (kx kd) 40 i).1 = trnR R (withL ol i) ol (upL (kvl R) i (upD R i)) := by
  obtain ⟨h1, h2⟩ := ainv_act hL h
  rw [lfA_new hK, Bool.and_eq_true] at hlf
  obtain ⟨hs, hl⟩ := hlf
  obtain ⟨c, hc1, hc2⟩ := shC_cl hs
  have hnA : ¬ actP kv ol i := fun ha => by
    rcases h1.sup i ha with h3 | ⟨r, h3, h4⟩
    · exact hn h3
    · rcases par_ok hL (h1.sh r h3) with h5 | ⟨_, h5⟩
      · rw [← h4, h5, laid_0 hL] at hc1; cases hc1
      · rw [h4, hl] at h5; cases h5
  have hW : OnWay kv (withL ol i) (actP kv ol) i := by
    refine ⟨h1.sh, fun q hq => (h1.up q hq).imp id .inl, fun q hq => (h1.sup q hq).imp (fun h => mem_with.2 (.inl h)) id, .inl (mem_with.2 (.inr rfl)), hs, hnA, fun q hq => ?_, fun q hq => ?_⟩
    · exact (mem_with.1 hq).imp (h1.ons q) id
    · rcases mem_with.1 hq with h3 | h3
      · exact h1.lf q h3
      · rw [h3]; exact hl
  obtain ⟨A', a1, a2, a3, a4, a5⟩ := onC_ok hK hL 40 i _ _ hW h2 (depA_laid hK hL i)
  refine ⟨⟨⟨A', a1, a2⟩, fun q => ?_, mput_nodup h.nd _ _, with_rise h.rise hn⟩, ?_⟩
  · rw [mget_put, mem_with, ← h.on_iff q]
    by_cases e : i = q
    · rw [if_pos e]; simp [e.symm]
    · rw [if_neg e]; constructor
      · exact .inl
      · rintro (g | g)
        · exact g
        · exact absurd g.symm e
  · rw [a4, upc_R hK hL]; unfold trnR
    refine List.filter_congr fun q hq => ?_
    have hq0 : q ≠ 0 := fun e => by have := upc_in hL _ i q (Nat.le_refl _) hq; rw [e, laid_0 hL] at this; exact this rfl
    have e1 : isR R (withL ol i) q = true := (isR_iff hK hL).2 ⟨i, mem_with.2 (.inr rfl), .inr hq⟩
    rw [e1, Bool.true_and]
    by_cases g : actP kv ol q
    · rw [(isR_act hK hL hq0).2 g]; simp [g]
    · have : isR R ol q = false := by
        cases e2 : isR R ol q with
        | false => rfl
        | true => exact absurd ((isR_act hK hL hq0).1 e2) g
      rw [this]; simp [g]
theorem mem_wo {ol : List Int} {a z : Int} : z ∈ woI a ol ↔ z ∈ ol ∧ z ≠ a := by unfold woI; rw [List.mem_filter]; simp
open Classical in
/-- Off, beside the document -/
theorem act_off {kv : List (Int × Cl)} {R : List Cl} (hK : KR kv R) (hL : Laid kv) {on : List (Int × Int)} {kd : List (Int × MB)} {ol : List Int} (h : AInv kv on (kx kd) ol) {i : Int} (hi : i ∈ ol) :
    AInv kv (mdel on i) (offC (newY kv) (kx kd) 40 i).2 (woI i ol) ∧ (offC (newY kv) (kx kd) 40 i).1 = trnR R ol (woI i ol) (upL (kvl R) i (upD R i)) := by
  obtain ⟨h1, h2⟩ := ainv_act hL h
  have hA := h1.ons i hi
  obtain ⟨c, hc1, hc2, hs, h0⟩ := act_sh hL h hA
  have hW : OffWay kv (woI i ol) (actP kv ol) i := by
    refine ⟨h1.sh, h1.up, fun q hq hqi => (h1.sup q hq).imp (fun h => mem_wo.2 ⟨h, hqi⟩) id, hA, fun r hr e => ?_, fun g => (mem_wo.1 g).2 rfl, fun q hq => h1.ons q (mem_wo.1 hq).1, fun q hq => h1.lf q (mem_wo.1 hq).1⟩
    rcases par_ok hL (h1.sh r hr) with h5 | ⟨_, h5⟩
    · exact h0 (e.symm.trans h5)
    · rw [e, h1.lf i hi] at h5; cases h5
  obtain ⟨A', a1, a2, a3, a4⟩ := offC_ok hK hL 40 i _ _ hW h2 (depA_laid hK hL i)
  refine ⟨⟨⟨A', a1, a2⟩, fun q => ?_, mdel_nodup h.nd _, h.rise.filter _⟩, ?_⟩
  · rw [mget_mdel h.nd, mem_wo, ← h.on_iff q]
    by_cases e : i = q
    · rw [if_pos e]; simp [e.symm]
    · rw [if_neg e]; exact ⟨fun g => ⟨g, fun e2 => e e2.symm⟩, fun g => g.1⟩
  · rw [a4, upc_R hK hL]; unfold trnR
    refine List.filter_congr fun q hq => ?_
    have hq0 : q ≠ 0 := fun e => by have := upc_in hL _ i q (Nat.le_refl _) hq; rw [e, laid_0 hL] at this; exact this rfl
    have e1 : isR R ol q = true := (isR_iff hK hL).2 ⟨i, hi, .inr hq⟩
    rw [e1, Bool.true_and]
    have hiff : A' q ↔ isR R (woI i ol) q = true := by rw [isR_act hK hL hq0]; exact aset_iff hL a1 q
    by_cases g : A' q
    · rw [hiff.1 g]; simp [g]
    · have : isR R (woI i ol) q = false := by
        cases e2 : isR R (woI i ol) q with
        | false => rfl
        | true => exact absurd (hiff.2 e2) g
      rw [this]; simp [g]
theorem ainv_0 (kv : List (Int × Cl)) : AInv kv [] (kx []) [] :=
  ⟨⟨fun _ => False, ⟨fun _ h => h.elim, fun _ h => h.elim, fun _ h => h.elim, by simp, by simp⟩, fun p => ⟨by simp [kx, mget, m0], fun i => by simp [kx, mget, m0]⟩⟩, fun i => by simp [mget], by simp, by simp⟩

end Go.Proofs.Ytinnnoimmioaiaa
