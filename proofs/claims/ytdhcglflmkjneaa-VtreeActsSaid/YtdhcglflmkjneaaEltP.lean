/- The plain laws of the layers eltree and vtree: a tree of items beside a map from numbers to items. -/
import Derived.Test.YtdhcglflmkjneaaAvlQ
import Derived.Test.YtdhcglflmkjneaaVn
namespace Go.Proofs.Ytdhcglflmkjneaa
open Go V
structure ERel (t : T) (kv : List (Int × It)) : Prop where
  wf : WF t
  mem : ∀ y, y ∈ t.toL ↔ mget kv y.ki = some y
  own : ∀ k y, mget kv k = some y → y.ki = k ∧ y.vi = k
  nd : (kv.map (·.1)).Nodup
  len : t.toL.length = kv.length
theorem erel_nil : ERel .nil [] := ⟨wf_nil, fun y => by simp [T.toL, mget], fun k y h => by simp [mget] at h, by simp, rfl⟩
theorem mget_some {kv : List (Int × It)} {k : Int} (h : mget kv k ≠ none) : ∃ y, mget kv k = some y := by
  cases e : mget kv k with
  | none => exact absurd e h
  | some y => exact ⟨y, rfl⟩
theorem delL_len1 {L : List It} (hS : Srt L) {x : It} (hx : x ∈ L) : (delL x.ka x.ki L).length + 1 = L.length := by
  obtain ⟨A, B, rfl⟩ := List.append_of_mem hx
  rw [delL_at hS]; simp; omega
theorem erel_mem {t : T} {kv : List (Int × It)} {k : Int} (h : ERel t kv) (hk : mget kv k ≠ none) : ∃ y ∈ t.toL, y.ka = ((mget kv k).getD default).ka ∧ y.ki = ((mget kv k).getD default).ki := by
  obtain ⟨y, e⟩ := mget_some hk
  have := h.own k y e
  exact ⟨y, (h.mem y).2 (by rw [this.1]; exact e), by rw [e]; rfl, by rw [e]; rfl⟩
theorem erel_del {t z : T} {kv : List (Int × It)} {k : Int} (h : ERel t kv) (hk : mget kv k ≠ none) (hz : WF z ∧ z.toL = delL ((mget kv k).getD default).ka ((mget kv k).getD default).ki t.toL) : ERel z (mdel kv k) := by
  obtain ⟨hW, e⟩ := hz
  obtain ⟨x, ex⟩ := mget_some hk
  have ox := h.own k x ex
  rw [ex] at e; simp only [Option.getD_some] at e
  have hx : x ∈ t.toL := (h.mem x).2 (by rw [ox.1]; exact ex)
  refine ⟨hW, fun y => ?_, fun q y hq => ?_, mdel_nodup h.nd k, ?_⟩
  · rw [e, mget_mdel h.nd]
    unfold delL; rw [List.mem_filter, h.mem y]
    by_cases e2 : k = y.ki
    · rw [if_pos e2]; subst e2
      constructor
      · rintro ⟨h1, h2⟩; rw [ex] at h1; cases h1; simp at h2
      · intro h1; cases h1
    · rw [if_neg e2]
      constructor
      · exact fun h1 => h1.1
      · intro h1; refine ⟨h1, ?_⟩
        simp; right; intro h3; exact e2 (by rw [h3, ox.1])
  · rw [mget_mdel h.nd] at hq; split at hq
    · cases hq
    · exact h.own q y hq
  · have h1 := delL_len1 h.wf.srt hx; have h2 := mdel_len hk; have h3 := h.len
    rw [e]; omega
theorem erel_new {t : T} {kv : List (Int × It)} {k a : Int} (h : ERel t kv) (hk : mget kv k = none) : ∀ y ∈ t.toL, ¬ (y.ka = a ∧ y.ki = k) := by
  rintro y hy ⟨_, e⟩
  have := (h.mem y).1 hy; rw [e, hk] at this; cases this
theorem erel_ins {t z : T} {kv : List (Int × It)} {k a b : Int} (h : ERel t kv) (hk : mget kv k = none) (hz : WF z ∧ z.toL = insL ⟨a, k, b, k⟩ t.toL) : ERel z (mput kv k ⟨a, k, b, k⟩) := by
  obtain ⟨hW, e⟩ := hz
  refine ⟨hW, fun y => ?_, fun q y hq => ?_, mput_nodup h.nd _ _, ?_⟩
  · rw [e, mem_insL, mget_put, h.mem y]
    by_cases e2 : k = y.ki
    · rw [if_pos e2]; subst e2
      constructor
      · rintro (h1 | h1)
        · rw [← h1]
        · rw [hk] at h1; cases h1
      · intro h1; left; simpa using h1.symm
    · rw [if_neg e2]
      constructor
      · rintro (h1 | h1)
        · exact absurd (by rw [h1]) e2
        · exact h1
      · exact .inr
  · rw [mget_put] at hq; split at hq
    · cases hq; exact ⟨by assumption, by assumption⟩
    · exact h.own q y hq
  · rw [e, insL_len, mput_len_new _ hk, h.len]
theorem erel_same {t : T} {kv kv' : List (Int × It)} (h : ERel t kv) (hg : ∀ k, mget kv' k = mget kv k) (hn : (kv'.map (·.1)).Nodup) (hl : kv'.length = kv.length) : ERel t kv' :=
  ⟨h.wf, fun y => by rw [hg]; exact h.mem y, fun k y hk => h.own k y (by rw [← hg]; exact hk), hn, by rw [hl]; exact h.len⟩
theorem mdel_id {kv : List (Int × It)} {k : Int} (h : mget kv k = none) : mdel kv k = kv := by
  induction kv with
  | nil => rfl
  | cons p kv ih =>
    simp only [mget] at h; simp only [mdel]
    by_cases e : p.1 = k
    · rw [if_pos e] at h; cases h
    · rw [if_neg e] at h; rw [if_neg e, ih h]
theorem mget_del_same {kv : List (Int × It)} (hn : (kv.map (·.1)).Nodup) (k : Int) : mget (mdel kv k) k = none := by rw [mget_mdel hn, if_pos rfl]
/-- the insert behind a delete of the same number, where the map has kept its place -/
theorem erel_put {t z : T} {kv : List (Int × It)} {k a b : Int} (hkv : (kv.map (·.1)).Nodup) (hk : mget kv k ≠ none) (h : ERel t (mdel kv k)) (hz : WF z ∧ z.toL = insL ⟨a, k, b, k⟩ t.toL) : ERel z (mput kv k ⟨a, k, b, k⟩) := by
  have h1 := erel_ins h (mget_del_same hkv k) hz
  refine erel_same h1 (fun q => ?_) (mput_nodup hkv _ _) ?_
  · rw [mget_put, mget_put]; split
    · rfl
    · rw [mget_mdel hkv, if_neg (by assumption)]
  · rw [mput_len_old _ hk, mput_len_new _ (mget_del_same hkv k)]; have := mdel_len hk; omega
theorem mdel_le (kv : List (Int × It)) (k : Int) : (mdel kv k).length ≤ kv.length := by
  by_cases h : mget kv k = none
  · rw [mdel_id h]; exact Nat.le_refl _
  · have := mdel_len h; omega
def getA (kv : List (Int × It)) (k : Int) : Int := ((mget kv k).getD default).ka
def getB (kv : List (Int × It)) (k : Int) : Int := ((mget kv k).getD default).va
def getE (kv : List (Int × It)) (k : Int) : Int := if (mget kv k).isSome then 0 else 6
theorem get_none {kv : List (Int × It)} {k : Int} (h : mget kv k = none) : 0 = getA kv k ∧ 0 = getB kv k ∧ 6 = getE kv k := by
  unfold getA getB getE; rw [h]; exact ⟨rfl, rfl, rfl⟩
theorem get_some {kv : List (Int × It)} {k : Int} (h : (mget kv k).isSome = true) : 0 = getE kv k := by unfold getE; rw [if_pos h]
def never : Int := 9223372036854775808
def nextV (L : List It) : Int := if L = [] then never else imin (L.head?.getD default).ka never
def fitV (L : List It) : Int := if L = [] then never else imin ((belowL 18446744073709551615 L).getD default).va never
theorem erel_empty {t : T} {kv : List (Int × It)} (h : ERel t kv) : (kv.length : Int) = 0 ↔ t.toL = [] := by
  have := h.len; rw [← List.length_eq_zero_iff]; omega
theorem srt_ext : ∀ {a b : List It}, Srt a → Srt b → (∀ y, y ∈ a ↔ y ∈ b) → a = b
  | [], [], _, _, _ => rfl
  | [], y :: b, _, _, h => by have := (h y).2 (by simp); simp at this
  | x :: a, [], _, _, h => by have := (h x).1 (by simp); simp at this
  | x :: a, y :: b, ha, hb, h => by
    obtain ⟨a1, a2⟩ := List.pairwise_cons.1 ha
    obtain ⟨b1, b2⟩ := List.pairwise_cons.1 hb
    have hxy : x = y := by
      rcases List.mem_cons.1 ((h x).1 (by simp)) with e | e
      · exact e
      · rcases List.mem_cons.1 ((h y).2 (by simp)) with e' | e'
        · exact e'.symm
        · exact absurd (a1 y e') (kl_asym (b1 x e))
    subst hxy
    rw [srt_ext a2 b2 fun z => ?_]
    constructor
    · intro hz
      rcases List.mem_cons.1 ((h z).1 (by simp [hz])) with e | e
      · exact absurd (e ▸ a1 z hz) kl_irr
      · exact e
    · intro hz
      rcases List.mem_cons.1 ((h z).2 (by simp [hz])) with e | e
      · exact absurd (e ▸ b1 z hz) kl_irr
      · exact e
def lstOf : List (Int × It) → List It
  | [] => []
  | p :: kv => insL p.2 (lstOf kv)
theorem mem_lstOf {y : It} : ∀ {kv : List (Int × It)}, y ∈ lstOf kv ↔ ∃ p ∈ kv, p.2 = y
  | [] => by simp [lstOf]
  | p :: kv => by simp only [lstOf, mem_insL, mem_lstOf (kv := kv), List.mem_cons]; constructor
                  · rintro (rfl | ⟨q, hq, rfl⟩)
                    · exact ⟨p, .inl rfl, rfl⟩
                    · exact ⟨q, .inr hq, rfl⟩
                  · rintro ⟨q, rfl | hq, rfl⟩
                    · exact .inl rfl
                    · exact .inr ⟨q, hq, rfl⟩
theorem srt_lstOf : ∀ {kv : List (Int × It)}, (kv.map (·.1)).Nodup → (∀ p ∈ kv, p.2.ki = p.1) → Srt (lstOf kv)
  | [], _, _ => by simp [lstOf, Srt]
  | p :: kv, hn, ho => by
    simp only [List.map_cons, List.nodup_cons] at hn
    refine insL_srt (srt_lstOf hn.2 fun q hq => ho q (by simp [hq])) fun y hy => ?_
    obtain ⟨q, hq, rfl⟩ := mem_lstOf.1 hy
    rintro ⟨_, e⟩
    rw [ho q (by simp [hq]), ho p (by simp)] at e
    exact hn.1 (e ▸ List.mem_map_of_mem hq)
theorem erel_list {t : T} {kv : List (Int × It)} (h : ERel t kv) : t.toL = lstOf kv := by
  have own : ∀ p ∈ kv, p.2.ki = p.1 := fun p hp => (h.own p.1 p.2 (mget_of_mem h.nd hp)).1
  refine srt_ext h.wf.srt (srt_lstOf h.nd own) fun y => ?_
  rw [h.mem, mem_lstOf]
  constructor
  · exact fun e => ⟨_, mget_mem e, rfl⟩
  · rintro ⟨p, hp, rfl⟩; rw [own p hp]; exact mget_of_mem h.nd hp
end Go.Proofs.Ytdhcglflmkjneaa
