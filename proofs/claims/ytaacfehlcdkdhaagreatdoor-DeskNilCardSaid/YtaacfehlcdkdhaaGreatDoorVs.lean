/- My own verifier: a map from ints to slices of its own. Generic: nothing of the dump. -/
import Derived.Test.YtaacfehlcdkdhaaGreatDoorVk
import Derived.Test.YtaacfehlcdkdhaaGreatDoorVu
namespace Go.Proofs.YtaacfehlcdkdhaaGreatDoor.V
set_option linter.unusedVariables false
set_option linter.unusedSimpArgs false
open Go
/-- a slice that a map holds: where it lies, its room, what it has -/
structure SL where
  sa : Option Addr
  sc : Nat
  sx : List Int
  deriving Inhabited
def slV (s : SL) : Value := .slice s.sa s.sx.length s.sc
def bagFoot (kv : List (Int × SL)) : List Nat := kv.flatMap fun p => slFoot p.2.sa
/-- all the slices' arrays, owned -/
def bagI (t : TypeId) (enc : Int → List Value) (kv : List (Int × SL)) : Item where
  foot := bagFoot kv
  holds w := ∀ p ∈ kv, (sl p.2.sa p.2.sx.length p.2.sc t 1 (flat enc p.2.sx)).holds w
  loc w w' h hw p hp := (sl p.2.sa p.2.sx.length p.2.sc t 1 (flat enc p.2.sx)).loc w w' (fun b hb => h b (List.mem_flatMap.2 ⟨p, hp, hb⟩)) (hw p hp)
  here w hw b hb := by
    obtain ⟨p, hp, hb⟩ := List.mem_flatMap.1 hb
    exact (sl p.2.sa p.2.sx.length p.2.sc t 1 (flat enc p.2.sx)).here w (hw p hp) b hb
def sl0 : SL := ⟨none, 0, []⟩
theorem mput_perm (k : Int) (s : SL) : ∀ kv : List (Int × SL), (mput kv k s).Perm ((k, s) :: mdel kv k)
  | [] => .refl _
  | p :: kv => by
    simp only [mput, mdel]
    by_cases e : p.1 = k
    · rw [if_pos e, if_pos e, e]
    · rw [if_neg e, if_neg e]; exact ((mput_perm k s kv).cons p).trans (.swap _ _ _)
theorem mget_perm {k : Int} {s : SL} : ∀ {kv : List (Int × SL)}, mget kv k = some s → kv.Perm ((k, s) :: mdel kv k)
  | [], h => by simp [mget] at h
  | p :: kv, h => by
    simp only [mget] at h; simp only [mdel]
    by_cases e : p.1 = k
    · rw [if_pos e] at h ⊢; cases h; rw [← e]
    · rw [if_neg e] at h ⊢; exact ((mget_perm h).cons p).trans (.swap _ _ _)
theorem mdel_same {k : Int} : ∀ {kv : List (Int × SL)}, mget kv k = none → mdel kv k = kv
  | [], _ => rfl
  | p :: kv, h => by
    simp only [mget] at h; simp only [mdel]
    by_cases e : p.1 = k
    · rw [if_pos e] at h; cases h
    · rw [if_neg e] at h; rw [if_neg e, mdel_same h]
section
variable {t : TypeId} {enc : Int → List Value}
theorem bag_get {kv : List (Int × SL)} {w : World} (h : (bagI t enc kv).holds w) (k : Int) : (sl ((mget kv k).getD sl0).sa ((mget kv k).getD sl0).sx.length ((mget kv k).getD sl0).sc t 1 (flat enc ((mget kv k).getD sl0).sx)).holds w := by
  cases e : mget kv k with
  | none => exact sl_nil _ _ _
  | some s => exact h (k, s) (mget_mem e)
theorem bag_open (kv : List (Int × SL)) (k : Int) {w : World} (hs : HS w (feet [bagI t enc kv]) [bagI t enc kv] w) :
    ∃ _x : Unit, True ∧ (∀ it ∈ [bagI t enc (mdel kv k), sl ((mget kv k).getD sl0).sa ((mget kv k).getD sl0).sx.length ((mget kv k).getD sl0).sc t 1 (flat enc ((mget kv k).getD sl0).sx)], it.holds w) ∧
      (feet [bagI t enc (mdel kv k), sl ((mget kv k).getD sl0).sa ((mget kv k).getD sl0).sx.length ((mget kv k).getD sl0).sc t 1 (flat enc ((mget kv k).getD sl0).sx)]).Nodup ∧
      ∀ b ∈ feet [bagI t enc (mdel kv k), sl ((mget kv k).getD sl0).sa ((mget kv k).getD sl0).sx.length ((mget kv k).getD sl0).sc t 1 (flat enc ((mget kv k).getD sl0).sx)], b ∈ feet [bagI t enc kv] := by
  have hb : (bagI t enc kv).holds w := hs.all _ (by simp)
  have hn := hs.nodup
  have hsub : ∀ p ∈ mdel kv k, p ∈ kv := by
    intro p hp; cases e : mget kv k with
    | none => rw [mdel_same e] at hp; exact hp
    | some s => exact (mget_perm e).mem_iff.2 (by simp [hp])
  have hp : (bagFoot (mdel kv k) ++ slFoot ((mget kv k).getD sl0).sa).Perm (bagFoot kv) := by
    cases e : mget kv k with
    | none => rw [mdel_same e]; simp [sl0, slFoot]
    | some s =>
      have := (mget_perm e).flatMap_right (fun p : Int × SL => slFoot p.2.sa)
      simp only [List.flatMap_cons] at this
      exact List.perm_append_comm.trans this.symm
  refine ⟨(), trivial, ?_, ?_, ?_⟩
  · intro it hi
    simp only [List.mem_cons, List.not_mem_nil, or_false] at hi
    rcases hi with rfl | rfl
    · exact fun p hp => hb p (hsub p hp)
    · exact bag_get hb k
  · simp only [feet, bagI, sl, List.flatMap_cons, List.flatMap_nil, List.append_nil] at hn ⊢
    exact hp.nodup_iff.2 hn
  · intro b hb2
    simp only [feet, bagI, sl, List.flatMap_cons, List.flatMap_nil, List.append_nil] at hb2 ⊢
    exact hp.mem_iff.1 hb2
theorem bag_fold (kv : List (Int × SL)) (k : Int) (A : Option Addr) (c : Nat) (xs : List Int) {w : World} (hs : HS w (feet [bagI t enc (mdel kv k), sl A xs.length c t 1 (flat enc xs)]) [bagI t enc (mdel kv k), sl A xs.length c t 1 (flat enc xs)] w) :
    ∃ _x : Unit, True ∧ (∀ it ∈ [bagI t enc (mput kv k ⟨A, c, xs⟩)], it.holds w) ∧ (feet [bagI t enc (mput kv k ⟨A, c, xs⟩)]).Nodup ∧ ∀ b ∈ feet [bagI t enc (mput kv k ⟨A, c, xs⟩)], b ∈ feet [bagI t enc (mdel kv k), sl A xs.length c t 1 (flat enc xs)] := by
  have hb : (bagI t enc (mdel kv k)).holds w := hs.all _ (by simp)
  have hq : (sl A xs.length c t 1 (flat enc xs)).holds w := hs.all _ (by simp)
  have hn := hs.nodup
  have hp : (bagFoot (mput kv k ⟨A, c, xs⟩)).Perm (bagFoot (mdel kv k) ++ slFoot A) := by
    have := (mput_perm k ⟨A, c, xs⟩ kv).flatMap_right (fun p : Int × SL => slFoot p.2.sa)
    simp only [List.flatMap_cons] at this
    exact this.trans List.perm_append_comm
  refine ⟨(), trivial, ?_, ?_, ?_⟩
  · intro it hi
    simp only [List.mem_singleton] at hi; subst hi
    intro p hp
    rcases List.mem_cons.1 ((mput_perm k _ kv).mem_iff.1 hp) with rfl | h
    · exact hq
    · exact hb p h
  · simp only [feet, bagI, sl, List.flatMap_cons, List.flatMap_nil, List.append_nil] at hn ⊢
    exact hp.nodup_iff.2 hn
  · intro b hb2
    simp only [feet, bagI, sl, List.flatMap_cons, List.flatMap_nil, List.append_nil] at hb2 ⊢
    exact hp.mem_iff.1 hb2
theorem sl_cut {A : Option Addr} {c : Nat} {x : Int} {xs : List Int} {w : World} (he : ∀ x, (enc x).length = 1) (h : (sl A (x :: xs).length c t 1 (flat enc (x :: xs))).holds w) : (sl (cutA A c 1 1) xs.length (c - 1) t 1 (flat enc xs)).holds w := by
  obtain ⟨h1, h2, h3, h4⟩ := h
  simp only [List.length_cons] at h1 h2
  have hl : (flat enc xs).length = xs.length := by rw [flat_len he]; simp
  have hf : flat enc (x :: xs) = enc x ++ flat enc xs := by simp [flat]
  rcases h4 with ⟨rfl, rfl⟩ | ⟨g, off, cur, rfl, hg, hsz, hcs⟩
  · omega
  · refine ⟨by omega, by omega, by omega, .inr ?_⟩
    unfold cutA
    by_cases hc : c = 1
    · rw [if_pos hc]
      have : xs = [] := List.eq_nil_of_length_eq_zero (by omega)
      subst this
      exact ⟨g, off, cur, rfl, hg, by omega, by simp [flat]⟩
    · rw [if_neg hc]
      refine ⟨g, off + 1, cur, rfl, hg, by omega, ?_⟩
      have e1 := congrArg (List.drop 1) hcs
      rw [hf] at e1
      have e2 : (enc x ++ flat enc xs).drop 1 = flat enc xs := by rw [List.drop_append_of_le_length (by rw [he]; exact Nat.le_refl _), List.drop_eq_nil_of_le (by rw [he]; exact Nat.le_refl _)]; rfl
      rw [e2, List.drop_take, List.drop_drop] at e1
      simp only [List.length_cons] at e1
      rw [← e1]; congr 1
theorem slFoot_cutA (A : Option Addr) (c m sz : Nat) : slFoot (cutA A c m sz) = slFoot A := by
  unfold cutA; split
  · rfl
  · cases A with
    | none => rfl
    | some a => simp [slFoot, Addr.add]; split <;> rfl
theorem bag_cut (he : ∀ x, (enc x).length = 1) (kv : List (Int × SL)) (k : Int) (h1 : 1 ≤ ((mget kv k).getD sl0).sx.length) {w : World} (hs : HS w (feet [bagI t enc kv]) [bagI t enc kv] w) :
    ∃ _x : Unit, True ∧ (∀ it ∈ [bagI t enc (mput kv k ⟨cutA ((mget kv k).getD sl0).sa ((mget kv k).getD sl0).sc 1 1, ((mget kv k).getD sl0).sc - 1, ((mget kv k).getD sl0).sx.drop 1⟩)], it.holds w) ∧
      (feet [bagI t enc (mput kv k ⟨cutA ((mget kv k).getD sl0).sa ((mget kv k).getD sl0).sc 1 1, ((mget kv k).getD sl0).sc - 1, ((mget kv k).getD sl0).sx.drop 1⟩)]).Nodup ∧
      ∀ b ∈ feet [bagI t enc (mput kv k ⟨cutA ((mget kv k).getD sl0).sa ((mget kv k).getD sl0).sc 1 1, ((mget kv k).getD sl0).sc - 1, ((mget kv k).getD sl0).sx.drop 1⟩)], b ∈ feet [bagI t enc kv] := by
  have hb : (bagI t enc kv).holds w := hs.all _ (by simp)
  have hn := hs.nodup
  cases e : mget kv k with
  | none => rw [e] at h1; simp [sl0] at h1
  | some s =>
    rw [e] at h1
    simp only [Option.getD_some] at h1 ⊢
    have hpm := mget_perm e
    have hp : (bagFoot (mput kv k ⟨cutA s.sa s.sc 1 1, s.sc - 1, s.sx.drop 1⟩)).Perm (bagFoot kv) := by
      have a1 := (mput_perm k ⟨cutA s.sa s.sc 1 1, s.sc - 1, s.sx.drop 1⟩ kv).flatMap_right (fun p : Int × SL => slFoot p.2.sa)
      have a2 := hpm.flatMap_right (fun p : Int × SL => slFoot p.2.sa)
      simp only [List.flatMap_cons, slFoot_cutA] at a1 a2
      exact a1.trans a2.symm
    refine ⟨(), trivial, ?_, ?_, ?_⟩
    · intro it hi
      simp only [List.mem_singleton] at hi; subst hi
      intro p hp
      rcases List.mem_cons.1 ((mput_perm k _ kv).mem_iff.1 hp) with rfl | h
      · have h2 := hb (k, s) (mget_mem e)
        cases hx : s.sx with
        | nil => rw [hx] at h1; simp at h1
        | cons x xs => simp only [hx] at h2; exact sl_cut he h2
      · exact hb p (hpm.mem_iff.2 (by simp [h]))
    · simp only [feet, bagI, List.flatMap_cons, List.flatMap_nil, List.append_nil] at hn ⊢
      exact hp.nodup_iff.2 hn
    · intro b hb2
      simp only [feet, bagI, List.flatMap_cons, List.flatMap_nil, List.append_nil] at hb2 ⊢
      exact hp.mem_iff.1 hb2
end
section
variable {w0 : World} {S : List Nat} {H : List Item} {t : TypeId} {enc : Int → List Value} {kv : List (Int × SL)}
theorem rd_bag (i : Nat) (hi : H[i]? = some (bagI t enc kv)) (k : Int) : Rd w0 S H ((mget kv k).getD sl0).sa (flat enc ((mget kv k).getD sl0).sx) := fun w hs => arr_sl (bag_get (hs.mem hi) k)
theorem bag_capS (i : Nat) (hi : H[i]? = some (bagI t enc kv)) (k : Int) : ∀ w, HS w0 S H w → ((mget kv k).getD sl0).sx.length ≤ ((mget kv k).getD sl0).sc := fun w hs => (bag_get (hs.mem hi) k).2.1
theorem A.bagNil {n : Nat} {env : Env} {G : Act → World → Prop} (t : TypeId) (enc : Int → List Value) (H' : List Item) (hH : H ++ [bagI t enc []] = H') (h : V.A n env w0 S H' G) : V.A n env w0 S H G := fun a w r s =>
  h a w r (by rw [← hH]; exact s.add (Fr.refl _ _) (by intro p hp; cases hp) (by simp [bagI, bagFoot]) (by simp [bagI, bagFoot]))
end
section
variable {P : Program} {n : Nat} {env : Env} {w0 : World} {S : List Nat} {H : List Item} {ops : Array Oper} {o : Oper} {K : Act → World → Prop} {f : Nat} {L : List Nat} {listed : Array Bool}
theorem A.fork3 (i i2 j : Nat) {o2 o' : Oper} (hi : ops[i]? = some o) (hi2 : ops[i2]? = some o2) (hj : ops[j]? = some o') (hr : (Region.ready .any ops listed, Nat.beq i j || Nat.beq i2 j) = ([i, i2, j], false))
    (h1 : A n env w0 S H (Step P ops o (fun a w => HS w0 S H w ∧ U2 P ops K f (j :: L) (HS w0 S H) (listed.setIfInBounds i true) a w)))
    (h1b : A n env w0 S H (Step P ops o2 (fun a w => HS w0 S H w ∧ U2 P ops K f (j :: L) (HS w0 S H) (listed.setIfInBounds i2 true) a w)))
    (h2 : A n env w0 S H (Step P ops o' (fun a w => ∃ S' : World → Prop, (∀ w w', S' w → Fr [] w w' → S' w') ∧ S' w ∧ U2 P ops K f L S' (listed.setIfInBounds j true) a w))) : A n env w0 S H (U2 P ops K (f + 1) (j :: L) (HS w0 S H) listed) := by
  intro a w r s
  simp only [Prod.mk.injEq, Bool.or_eq_false_iff] at hr
  refine ⟨fun h0 => (by rw [hr.1] at h0; cases h0), fun m hm w' hf => ?_⟩
  have hij := Nat.ne_of_beq_eq_false hr.2.1
  have hij2 := Nat.ne_of_beq_eq_false hr.2.2
  rw [hr.1] at hm
  simp only [List.mem_cons, List.not_mem_nil, or_false] at hm
  rcases hm with rfl | rfl | rfl
  · have h := h1 a w' r (s.kept hf)
    unfold Step at h
    unfold wpOp
    simp only [hi]
    split
    · rename_i hw; rw [if_pos hw] at h; exact .inl (Oper.wp_imp h fun _ _ h => .inr ⟨by simpa using fun e => hij e.symm, h⟩)
    · rename_i hw; rw [if_neg hw] at h; exact .inr ⟨by simpa using fun e => hij e.symm, h⟩
  · have h := h1b a w' r (s.kept hf)
    unfold Step at h
    unfold wpOp
    simp only [hi2]
    split
    · rename_i hw; rw [if_pos hw] at h; exact .inl (Oper.wp_imp h fun _ _ h => .inr ⟨by simpa using fun e => hij2 e.symm, h⟩)
    · rename_i hw; rw [if_neg hw] at h; exact .inr ⟨by simpa using fun e => hij2 e.symm, h⟩
  · have h := h2 a w' r (s.kept hf)
    unfold Step at h
    unfold wpOp
    simp only [hj]
    split
    · rename_i hw; rw [if_pos hw] at h; exact .inl (Oper.wp_imp h fun _ _ h => .inl ⟨rfl, h⟩)
    · rename_i hw; rw [if_neg hw] at h; exact .inl ⟨rfl, h⟩
end
end Go.Proofs.YtaacfehlcdkdhaaGreatDoor.V
