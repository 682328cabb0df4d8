/- What the functions of this layer do, proved operation by operation, for all arguments, under the conditions that each theorem states. -/
import Derived.Test.YtdhcglflmkjneaaProg
import Derived.Test.YtdhcglflmkjneaaEltK
namespace Go.Proofs.Ytdhcglflmkjneaa
open Go V
set_option linter.unusedVariables false
set_option linter.unusedSimpArgs false
def itR (r : Rw) : It := ⟨r.ra, r.ri, r.rb, r.ri⟩
def RS (R : List Rw) : Prop := R.Pairwise (fun a b => a.ri < b.ri)
structure KRel (kv : List (Int × It)) (R : List Rw) : Prop where
  srt : RS R
  get : ∀ k y, mget kv k = some y ↔ ∃ r ∈ R, r.ri = k ∧ itR r = y
  rng : ∀ r ∈ R, RwOk r
theorem krel_nil : KRel [] [] := ⟨by simp [RS], fun k y => by simp [mget], by simp⟩
theorem rs_uniq {R : List Rw} (h : RS R) {r s : Rw} (hr : r ∈ R) (hs : s ∈ R) (e : r.ri = s.ri) : r = s := by
  obtain ⟨i, hi, rfl⟩ := List.mem_iff_getElem.1 hr
  obtain ⟨j, hj, rfl⟩ := List.mem_iff_getElem.1 hs
  rcases Nat.lt_trichotomy i j with g | g | g
  · have := List.pairwise_iff_getElem.1 h i j hi hj g; omega
  · subst g; rfl
  · have := List.pairwise_iff_getElem.1 h j i hj hi g; omega
theorem krel_get {kv : List (Int × It)} {R : List Rw} (h : KRel kv R) {r : Rw} (hr : r ∈ R) : mget kv r.ri = some (itR r) := (h.get _ _).2 ⟨r, hr, rfl, rfl⟩
theorem krel_at {kv : List (Int × It)} {R : List Rw} (h : KRel kv R) {k : Nat} {r : Rw} (hr : R[k]? = some r) : getE kv r.ri = 0 ∧ getA kv r.ri = r.ra ∧ getB kv r.ri = r.rb := by
  unfold getA getB getE; rw [krel_get h (List.mem_of_getElem? hr)]; exact ⟨rfl, rfl, rfl⟩
theorem krel_none {kv : List (Int × It)} {R : List Rw} (h : KRel kv R) (k : Int) : mget kv k = none ↔ ∀ r ∈ R, ¬ r.ri = k := by
  constructor
  · intro e r hr e2; subst e2; rw [krel_get h hr] at e; cases e
  · intro e; cases hm : mget kv k with
    | none => rfl
    | some y => obtain ⟨r, hr, e1, _⟩ := (h.get k y).1 hm; exact absurd e1 (e r hr)
theorem krel_find {kv : List (Int × It)} {R : List Rw} (h : KRel kv R) (k : Int) : 0 ≤ fdI k R ↔ mget kv k ≠ none := by
  rw [fdI_pos, ne_eq, krel_none h]; constructor
  · rintro ⟨y, hy, e⟩ g; exact g y hy e
  · intro g; rcases Classical.em (∃ y ∈ R, y.ri = k) with q | q
    · exact q
    · exact absurd (fun r hr e => q ⟨r, hr, e⟩) g
theorem krel_del {kv : List (Int × It)} {R : List Rw} (hn : (kv.map (·.1)).Nodup) (h : KRel kv R) (a : Int) : KRel (mdel kv a) (wo a R) := by
  refine ⟨List.Pairwise.filter _ h.srt, fun k y => ?_, fun r hr => h.rng r (List.mem_filter.1 hr).1⟩
  rw [mget_mdel hn]
  by_cases e : a = k
  · rw [if_pos e]; subst e; constructor
    · intro g; cases g
    · rintro ⟨r, hr, e1, _⟩; have := (List.mem_filter.1 hr).2; simp [e1] at this
  · rw [if_neg e, h.get]; constructor
    · rintro ⟨r, hr, e1, e2⟩; exact ⟨r, List.mem_filter.2 ⟨hr, by simp [e1]; exact fun g => e g.symm⟩, e1, e2⟩
    · rintro ⟨r, hr, e1, e2⟩; exact ⟨r, (List.mem_filter.1 hr).1, e1, e2⟩
structure SF (x : Rw) (R : List Rw) (k : Nat) : Prop where
  mem : ∀ y, y ∈ (sfo x R k).1 ↔ ((sfo x R k).2 = true ∧ y = x) ∨ (y ∈ R.take k ∧ y.ri ≠ x.ri)
  lo : (sfo x R k).2 = false → ∀ r ∈ R.take k, r.ri < x.ri
  hi : (sfo x R k).2 = true → ∃ r ∈ R.take k, x.ri ≤ r.ri
  srt : RS (sfo x R k).1
theorem rs_snoc {A : List Rw} {y : Rw} (h : RS A) (hy : ∀ a ∈ A, a.ri < y.ri) : RS (A ++ [y]) := List.pairwise_append.2 ⟨h, by simp, fun a ha b hb => by simp at hb; subst hb; exact hy a ha⟩
theorem sf_all (x : Rw) {R : List Rw} (h : RS R) : ∀ k, SF x R k
  | 0 => ⟨by simp [sfo], by simp, by simp [sfo], by simp [sfo, RS]⟩
  | k + 1 => by
    have ih := sf_all x h k
    cases hr : R[k]? with
    | none =>
      have e1 : sfo x R (k + 1) = sfo x R k := by rw [sfo, hr]
      have e2 : R.take (k + 1) = R.take k := by rw [List.take_add_one, hr]; simp
      exact ⟨by rw [e1, e2]; exact ih.mem, by rw [e1, e2]; exact ih.lo, by rw [e1, e2]; exact ih.hi, by rw [e1]; exact ih.srt⟩
    | some r =>
      have et : R.take (k + 1) = R.take k ++ [r] := take_snoc hr
      have hlt : ∀ a ∈ R.take k, a.ri < r.ri := fun a ha => by
        obtain ⟨i, hi⟩ := List.mem_iff_getElem?.1 ha
        rw [List.getElem?_take] at hi; split at hi
        · obtain ⟨h1, h2⟩ := List.getElem?_eq_some_iff.1 hi
          obtain ⟨h3, h4⟩ := List.getElem?_eq_some_iff.1 hr
          have := List.pairwise_iff_getElem.1 h i k h1 h3 (by assumption); rw [h2, h4] at this; exact this
        · cases hi
      have es := sfo_succ (x := x) hr
      have keep : ∀ a ∈ (sfo x R k).1, a = x ∨ a.ri < r.ri := fun a ha => by
        rcases (ih.mem a).1 ha with ⟨_, e⟩ | ⟨e, _⟩
        · exact .inl e
        · exact .inr (hlt a e)
      cases hp : (sfo x R k).2 with
      | true =>
        obtain ⟨q, hq, hqx⟩ := ih.hi hp
        have hxr : x.ri < r.ri := by have := hlt q hq; omega
        have hne : r.ri ≠ x.ri := by omega
        have e : sfo x R (k + 1) = ((sfo x R k).1 ++ [r], true) := by rw [es, hp]; simp [hne]
        refine ⟨fun y => ?_, ?_, ?_, ?_⟩
        · rw [e, et]; simp only [List.mem_append, List.mem_singleton, ih.mem y, hp]; constructor
          · rintro ((h1 | ⟨h1, h2⟩) | h1)
            · exact .inl h1
            · exact .inr ⟨.inl h1, h2⟩
            · exact .inr ⟨.inr h1, by rw [h1]; exact hne⟩
          · rintro (h1 | ⟨h1 | h1, h2⟩)
            · exact .inl (.inl h1)
            · exact .inl (.inr ⟨h1, h2⟩)
            · exact .inr h1
        · rw [e]; intro g; cases g
        · rw [e, et]; intro _; exact ⟨q, by simp [hq], hqx⟩
        · rw [e]; exact rs_snoc ih.srt fun a ha => by
            rcases keep a ha with rfl | g
            · exact hxr
            · exact g
      | false =>
        have hlo := ih.lo hp
        have hsub : ∀ a ∈ (sfo x R k).1, a.ri < x.ri ∧ a.ri < r.ri := fun a ha => by
          rcases (ih.mem a).1 ha with ⟨e, _⟩ | ⟨e, _⟩
          · rw [hp] at e; cases e
          · exact ⟨hlo a e, hlt a e⟩
        by_cases hge : x.ri ≤ r.ri
        · by_cases hne : r.ri = x.ri
          · have e : sfo x R (k + 1) = ((sfo x R k).1 ++ [x], true) := by rw [es, hp]; simp [hne]
            refine ⟨fun y => ?_, ?_, ?_, ?_⟩
            · rw [e, et]; simp only [List.mem_append, List.mem_singleton, ih.mem y, hp]; constructor
              · rintro ((⟨h1, _⟩ | ⟨h1, h2⟩) | h1)
                · cases h1
                · exact .inr ⟨.inl h1, h2⟩
                · exact .inl ⟨trivial, h1⟩
              · rintro (⟨_, h1⟩ | ⟨h1 | h1, h2⟩)
                · exact .inr h1
                · exact .inl (.inr ⟨h1, h2⟩)
                · exact absurd (by rw [h1]; exact hne) h2
            · rw [e]; intro g; cases g
            · rw [e, et]; intro _; exact ⟨r, by simp, hge⟩
            · rw [e]; exact rs_snoc ih.srt fun a ha => (hsub a ha).1
          · have e : sfo x R (k + 1) = (((sfo x R k).1 ++ [x]) ++ [r], true) := by rw [es, hp]; simp [hne, hge]
            refine ⟨fun y => ?_, ?_, ?_, ?_⟩
            · rw [e, et]; simp only [List.mem_append, List.mem_singleton, ih.mem y, hp]; constructor
              · rintro (((⟨h1, _⟩ | ⟨h1, h2⟩) | h1) | h1)
                · cases h1
                · exact .inr ⟨.inl h1, h2⟩
                · exact .inl ⟨trivial, h1⟩
                · exact .inr ⟨.inr h1, by rw [h1]; exact hne⟩
              · rintro (⟨_, h1⟩ | ⟨h1 | h1, h2⟩)
                · exact .inl (.inr h1)
                · exact .inl (.inl (.inr ⟨h1, h2⟩))
                · exact .inr h1
            · rw [e]; intro g; cases g
            · rw [e, et]; intro _; exact ⟨r, by simp, hge⟩
            · rw [e]; refine rs_snoc (rs_snoc ih.srt fun a ha => (hsub a ha).1) fun a ha => ?_
              rcases List.mem_append.1 ha with ha | ha
              · exact (hsub a ha).2
              · simp at ha; subst ha; omega
        · have hne : r.ri ≠ x.ri := by omega
          have e : sfo x R (k + 1) = ((sfo x R k).1 ++ [r], false) := by rw [es, hp]; simp [hne, hge]
          refine ⟨fun y => ?_, ?_, ?_, ?_⟩
          · rw [e, et]; simp only [List.mem_append, List.mem_singleton, ih.mem y, hp]; constructor
            · rintro ((⟨h1, _⟩ | ⟨h1, h2⟩) | h1)
              · cases h1
              · exact .inr ⟨.inl h1, h2⟩
              · exact .inr ⟨.inr h1, by rw [h1]; exact hne⟩
            · rintro (⟨h1, _⟩ | ⟨h1 | h1, h2⟩)
              · cases h1
              · exact .inl (.inr ⟨h1, h2⟩)
              · exact .inr h1
          · rw [e, et]; intro _ a ha
            rcases List.mem_append.1 ha with ha | ha
            · exact hlo a ha
            · simp at ha; subst ha; omega
          · rw [e]; intro g; cases g
          · rw [e]; exact rs_snoc ih.srt fun a ha => (hsub a ha).2
theorem setL_mem {x : Rw} {R : List Rw} (h : RS R) (y : Rw) : y ∈ setL x R ↔ y = x ∨ (y ∈ R ∧ y.ri ≠ x.ri) := by
  have s := (sf_all x h R.length).mem y
  rw [List.take_length] at s
  unfold setL; split
  · rename_i hp; rw [s, hp]; simp
  · rename_i hp; rw [List.mem_append, s]; simp [hp]; exact or_comm
theorem setL_srt {x : Rw} {R : List Rw} (h : RS R) : RS (setL x R) := by
  have s := sf_all x h R.length
  unfold setL; split
  · exact s.srt
  · rename_i hp; refine rs_snoc s.srt fun a ha => ?_
    rcases (s.mem a).1 ha with ⟨e, _⟩ | ⟨e, _⟩
    · exact absurd e hp
    · exact s.lo (by simpa using hp) a e
theorem krel_put {kv : List (Int × It)} {R : List Rw} (h : KRel kv R) {x : Rw} (hx : RwOk x) {kv' : List (Int × It)} (hg : ∀ k, mget kv' k = if x.ri = k then some (itR x) else mget kv k) : KRel kv' (setL x R) := by
  refine ⟨setL_srt h.srt, fun k y => ?_, fun r hr => ?_⟩
  · rw [hg]; by_cases e : x.ri = k
    · rw [if_pos e]; subst e; constructor
      · intro g; cases g; exact ⟨x, (setL_mem h.srt x).2 (.inl rfl), rfl, rfl⟩
      · rintro ⟨r, hr, e1, e2⟩
        rcases (setL_mem h.srt r).1 hr with rfl | ⟨_, g⟩
        · rw [e2]
        · exact absurd e1 g
    · rw [if_neg e, h.get]; constructor
      · rintro ⟨r, hr, e1, e2⟩; exact ⟨r, (setL_mem h.srt r).2 (.inr ⟨hr, fun g => e (by rw [← g, e1])⟩), e1, e2⟩
      · rintro ⟨r, hr, e1, e2⟩
        rcases (setL_mem h.srt r).1 hr with rfl | ⟨g, _⟩
        · exact absurd e1 e
        · exact ⟨r, g, e1, e2⟩
  · rcases (setL_mem h.srt r).1 hr with rfl | ⟨g, _⟩
    · exact hx
    · exact h.rng r g
theorem krel_setE {kv : List (Int × It)} {R : List Rw} (hn : (kv.map (·.1)).Nodup) (h : KRel kv R) {x : Rw} (hx : RwOk x) : KRel (mput (mdel kv x.ri) x.ri ⟨x.ra, x.ri, x.rb, x.ri⟩) (setL x R) :=
  krel_put h hx fun k => by
    rw [mget_put]; split
    · rfl
    · rw [mget_mdel hn, if_neg (by assumption)]
theorem krel_setV {kv : List (Int × It)} {R : List Rw} (h : KRel kv R) {x : Rw} (hx : RwOk x) : KRel (mput kv x.ri ⟨x.ra, x.ri, x.rb, x.ri⟩) (setL x R) := krel_put h hx fun k => mget_put _ _ _
theorem krel_perm {kv : List (Int × It)} {R : List Rw} (hn : (kv.map (·.1)).Nodup) (h : KRel kv R) : (kv.map (·.1)).Perm (R.map (·.ri)) := by
  have hs : (R.map (·.ri)).Nodup := List.pairwise_map.2 (h.srt.imp fun h1 e => by omega)
  refine (List.perm_ext_iff_of_nodup hn hs).2 fun k => ?_
  rw [List.mem_map, List.mem_map]; constructor
  · rintro ⟨p, hp, rfl⟩
    obtain ⟨r, hr, e, _⟩ := (h.get p.1 p.2).1 (mget_of_mem hn hp); exact ⟨r, hr, e⟩
  · rintro ⟨r, hr, rfl⟩; exact ⟨_, mget_mem (krel_get h hr), rfl⟩
theorem krel_len {kv : List (Int × It)} {R : List Rw} (hn : (kv.map (·.1)).Nodup) (h : KRel kv R) : kv.length = R.length := by simpa using (krel_perm hn h).length_eq
theorem krel_sort {kv : List (Int × It)} {R : List Rw} (hn : (kv.map (·.1)).Nodup) (h : KRel kv R) : sortK kv = R.map (·.ri) := by
  have tr : ∀ a b c : Int, decide (a ≤ b) = true → decide (b ≤ c) = true → decide (a ≤ c) = true := fun a b c h1 h2 => by simp only [decide_eq_true_eq] at *; omega
  have to : ∀ a b : Int, (decide (a ≤ b) || decide (b ≤ a)) = true := fun a b => by simp only [Bool.or_eq_true, decide_eq_true_eq]; omega
  unfold sortK
  refine List.Perm.eq_of_pairwise (le := fun a b : Int => decide (a ≤ b) = true) (fun a b _ _ h1 h2 => ?_) (List.pairwise_mergeSort tr to _) ?_ ((List.mergeSort_perm _ _).trans (krel_perm hn h))
  · simp only [decide_eq_true_eq] at h1 h2; omega
  · exact List.pairwise_map.2 (h.srt.imp fun h1 => by simp; omega)
theorem krel_i64 {kv : List (Int × It)} {R : List Rw} (hn : (kv.map (·.1)).Nodup) (h : KRel kv R) : ∀ p ∈ kv, I64 p.1 := fun p hp => by
  obtain ⟨r, hr, e, _⟩ := (h.get p.1 p.2).1 (mget_of_mem hn hp)
  have := (h.rng r hr).1; rw [← e]; exact this
theorem toL_mem {t : T} {kv : List (Int × It)} {R : List Rw} (hE : ERel t kv) (h : KRel kv R) (y : It) : y ∈ t.toL ↔ ∃ r ∈ R, itR r = y := by
  rw [hE.mem, h.get]; constructor
  · rintro ⟨r, hr, _, e⟩; exact ⟨r, hr, e⟩
  · rintro ⟨r, hr, e⟩; exact ⟨r, hr, by rw [← e]; rfl, e⟩

set_option maxHeartbeats 4000000 in
set_option maxRecDepth 100000 in
theorem el_ids (be bt mb : Nat) (t : T) (kv : List (Int × It)) (hr_ : ∀ p ∈ kv, I64 p.1) (hl_ : kv.length ≤ 1000000) (w : World) (r0 : (blk be [(p_ bt), (.map (some mb))] 64).holds w) (r1 : (blk bt [(.pointer (T.ptr t))] 86).holds w) (r2 : (treeI 92 t).holds w) (r3 : (mapI (fun k : Int => i_ k) (fun y : It => (.agg #[u_ y.ka, i_ y.ki, u_ y.va, i_ y.vi])) mb kv).holds w) (hs : HS w (feet []) [] w) :
    Calls Try.prog 19 #[(p_ be)] w fun e w' => ∃ zz, e = .returned ((fun (zz : (Option Addr) × Nat) => match zz with | (al', cl') => (.slice al' ((sortK kv).length) cl')) zz) ∧ (fun (zz : (Option Addr) × Nat) => match zz with | (al', cl') => True) zz ∧ Turn [] ((fun (zz : (Option Addr) × Nat) => match zz with | (al', cl') => [sl al' ((sortK kv).length) cl' 3 1 (V.flat encI (sortK kv))]) zz) w w' := by
  refine calls_of (args := [(p_ be)]) (penv [(p_ be)]) (feet []) [] Try.func19 rfl rfl (look_penv _) hs ?_
  refine A.norm [(0, (p_ be))] [] (by exact ⟨rfl, trivial⟩) rfl ?_
  refine A.seq ?_
  refine A.region (A.goA [.p] [(0, (p_ be)), (2, e_)] [] T0 (by kernel_rfl) trivial ?_)
  refine A.tn ?_
  refine A.seq ?_
  refine A.seq ?_
  refine A.region (A.goA [.p, .p] [(0, (p_ be)), (2, e_), (4, (b_ false))] [] T0 (by kernel_rfl) trivial ?_)
  refine A.tn ?_
  refine A.cond_f rfl ?_
  refine A.skip ?_
  refine A.tn ?_
  refine A.seq ?_
  refine A.region (A.goP [.p, .p, .p, .rd [(.map (some mb))]] [(0, (p_ be)), (2, e_), (4, (b_ false)), (8, (.map (some mb)))] [] (fun κ => κ.rd ⟨be, 1, none⟩ [(.map (some mb))] ∧ True) (by kernel_rfl) ⟨(reads_oldblk r0 rfl), trivial⟩ ?_)
  refine A.cons (A.callT (some 9) [(.map (some mb))] [] ((fun bx1 => (.func (.func 56) #[] #[(p_ bx1)]))) ((fun bx1 => True)) ((fun bx1 => [blk bx1 [(.map (some mb))] 62])) (fun bx1 => [blk bx1 [(.map (some mb))] 62]) (by kernel_rfl) rfl rfl (fun ww ss hh => keys_spec mb ww hh) (fun _ => rfl) ?_)
  rintro bx1 -
  refine A.cons (A.callT (some 10) [(.func (.func 56) #[] #[(p_ bx1)])] [] ((fun zz => match zz with | (al'2, cl'3) => (.slice al'2 ((sortK kv).length) cl'3))) ((fun zz => match zz with | (al'2, cl'3) => True)) ((fun zz => match zz with | (al'2, cl'3) => [sl al'2 ((sortK kv).length) cl'3 3 1 (V.flat encI (sortK kv))])) (fun zz => match zz with | (al'2, cl'3) => [sl al'2 ((sortK kv).length) cl'3 3 1 (V.flat encI (sortK kv)), blk bx1 [(.map (some mb))] 62]) (by kernel_rfl) rfl rfl (fun ww ss hh => sorted_spec bx1 mb kv (by assumption) (by assumption) ww (ss.mem (i := 0) rfl) (old_item ss r3) hh) (fun _ => rfl) ?_)
  rintro ⟨al'2, cl'3⟩ -
  refine A.goA [.p] [(0, (p_ be)), (2, (.slice al'2 ((sortK kv).length) cl'3)), (4, (b_ false))] [] T0 (by kernel_rfl) trivial ?_
  refine A.tn ?_
  refine A.ret ?_
  refine A.postK [0] [(.slice al'2 ((sortK kv).length) cl'3)] (fun aa ww rr ss => ⟨rv_tmp rr rfl, trivial⟩) (al'2, cl'3) ?_ ?_ (by kernel_rfl)
  · rfl
  · trivial

set_option maxHeartbeats 4000000 in
set_option maxRecDepth 100000 in
theorem vt_ids (be bt mb : Nat) (t : T) (kv : List (Int × It)) (hr_ : ∀ p ∈ kv, I64 p.1) (hl_ : kv.length ≤ 1000000) (w : World) (r0 : (blk be [(p_ bt), (.map (some mb))] 82).holds w) (r1 : (blk bt [(.pointer (T.ptr t))] 86).holds w) (r2 : (treeI 92 t).holds w) (r3 : (mapI (fun k : Int => i_ k) (fun y : It => (.agg #[u_ y.ka, i_ y.ki, u_ y.va, i_ y.vi])) mb kv).holds w) (hs : HS w (feet []) [] w) :
    Calls Try.prog 30 #[(p_ be)] w fun e w' => ∃ zz, e = .returned ((fun (zz : (Option Addr) × Nat) => match zz with | (al', cl') => (.slice al' ((sortK kv).length) cl')) zz) ∧ (fun (zz : (Option Addr) × Nat) => match zz with | (al', cl') => True) zz ∧ Turn [] ((fun (zz : (Option Addr) × Nat) => match zz with | (al', cl') => [sl al' ((sortK kv).length) cl' 3 1 (V.flat encI (sortK kv))]) zz) w w' := by
  refine calls_of (args := [(p_ be)]) (penv [(p_ be)]) (feet []) [] Try.func30 rfl rfl (look_penv _) hs ?_
  refine A.norm [(0, (p_ be))] [] (by exact ⟨rfl, trivial⟩) rfl ?_
  refine A.seq ?_
  refine A.region (A.goA [.p] [(0, (p_ be)), (2, e_)] [] T0 (by kernel_rfl) trivial ?_)
  refine A.tn ?_
  refine A.seq ?_
  refine A.seq ?_
  refine A.region (A.goA [.p, .p] [(0, (p_ be)), (2, e_), (4, (b_ false))] [] T0 (by kernel_rfl) trivial ?_)
  refine A.tn ?_
  refine A.cond_f rfl ?_
  refine A.skip ?_
  refine A.tn ?_
  refine A.seq ?_
  refine A.region (A.goP [.p, .p, .p, .rd [(.map (some mb))]] [(0, (p_ be)), (2, e_), (4, (b_ false)), (8, (.map (some mb)))] [] (fun κ => κ.rd ⟨be, 1, none⟩ [(.map (some mb))] ∧ True) (by kernel_rfl) ⟨(reads_oldblk r0 rfl), trivial⟩ ?_)
  refine A.cons (A.callT (some 9) [(.map (some mb))] [] ((fun bx1 => (.func (.func 56) #[] #[(p_ bx1)]))) ((fun bx1 => True)) ((fun bx1 => [blk bx1 [(.map (some mb))] 62])) (fun bx1 => [blk bx1 [(.map (some mb))] 62]) (by kernel_rfl) rfl rfl (fun ww ss hh => keys_spec mb ww hh) (fun _ => rfl) ?_)
  rintro bx1 -
  refine A.cons (A.callT (some 10) [(.func (.func 56) #[] #[(p_ bx1)])] [] ((fun zz => match zz with | (al'2, cl'3) => (.slice al'2 ((sortK kv).length) cl'3))) ((fun zz => match zz with | (al'2, cl'3) => True)) ((fun zz => match zz with | (al'2, cl'3) => [sl al'2 ((sortK kv).length) cl'3 3 1 (V.flat encI (sortK kv))])) (fun zz => match zz with | (al'2, cl'3) => [sl al'2 ((sortK kv).length) cl'3 3 1 (V.flat encI (sortK kv)), blk bx1 [(.map (some mb))] 62]) (by kernel_rfl) rfl rfl (fun ww ss hh => sorted_spec bx1 mb kv (by assumption) (by assumption) ww (ss.mem (i := 0) rfl) (old_item ss r3) hh) (fun _ => rfl) ?_)
  rintro ⟨al'2, cl'3⟩ -
  refine A.goA [.p] [(0, (p_ be)), (2, (.slice al'2 ((sortK kv).length) cl'3)), (4, (b_ false))] [] T0 (by kernel_rfl) trivial ?_
  refine A.tn ?_
  refine A.ret ?_
  refine A.postK [0] [(.slice al'2 ((sortK kv).length) cl'3)] (fun aa ww rr ss => ⟨rv_tmp rr rfl, trivial⟩) (al'2, cl'3) ?_ ?_ (by kernel_rfl)
  · rfl
  · trivial
end Go.Proofs.Ytdhcglflmkjneaa
