/- What the functions of this layer do, proved operation by operation, for all arguments, under the conditions that each theorem states. -/
import Derived.Test.YtinnnoimmioaiaaGreatProg
import Derived.Test.YtinnnoimmioaiaaGreatTraA
namespace Go.Proofs.YtinnnoimmioaiaaGreat
open Go V
set_option linter.unusedVariables false
set_option linter.unusedSimpArgs false
theorem tch_sw (kv kw : List (Int × Cl)) : tchL kw kv = tchL kv kw := by
  refine rsi_ext (tch_rsi kw kv).1 (tch_rsi kv kw).1 fun z => ?_
  rw [(tch_rsi kw kv).2, (tch_rsi kv kw).2, difB_sw]; exact and_congr_left fun _ => or_comm
theorem tch_none {kv : List (Int × Cl)} {R : List Cl} (h : KR kv R) : tchL [] kv = idsK kv := by
  have e1 : idsK kv = R.map Cl.hi := kr_ids h
  have hs : RSI (idsK kv) := by rw [e1]; exact List.pairwise_map.2 h.srt
  refine rsi_ext (tch_rsi [] kv).1 hs fun z => ?_
  rw [(tch_rsi [] kv).2]; constructor
  · rintro ⟨h1 | h1, h2⟩
    · rw [idsK_nil] at h1; simp at h1
    · exact h1
  · intro h1
    refine ⟨.inr h1, ?_⟩
    rw [e1] at h1; obtain ⟨y, hy, rfl⟩ := List.mem_map.1 h1
    unfold difB; rw [kr_at h hy]; simp [mget]
theorem st_get {kv : List (Int × Cl)} (hL : Laid kv) {z : Zc} {i : Int} (h : ¬ z.zi = i) : mget (stK kv z) i = mget kv i := by
  have hh : ¬ (clZ z).hi = i := h
  unfold stK; split
  · unfold addK; split
    · rw [mget_put, if_neg hh]
    · rfl
  · split
    · unfold setK; split
      · rw [mget_put, if_neg hh]
      · rfl
    · split
      · unfold delK; split
        · rw [mget_mdel hL.nd, if_neg h]
        · rfl
      · rfl
theorem ap_get : ∀ {l : List Zc} {kv : List (Int × Cl)} {i : Int}, Laid kv → (∀ z ∈ l, ¬ z.zi = i) → mget (apK kv l) i = mget kv i
  | [], _, _, _, _ => rfl
  | z :: l, kv, i, hL, h => by
    have h1 := ap_get (l := l) (laid_st hL z) (fun y hy => h y (by simp [hy]))
    exact h1.trans (st_get hL (h z (by simp)))
def nmB (l : List Zc) (i : Int) : Bool := l.any fun z => z.zi == i
/-- what is touched is named -/
theorem nm_ok {kv : List (Int × Cl)} (hL : Laid kv) {l : List Zc} {i : Int} (h : i ∈ tchL kv (apK kv l)) : nmB l i = true := by
  have h1 := ((tch_rsi _ _).2 i |>.1 h).2
  cases hb : nmB l i with
  | true => rfl
  | false =>
    have h2 : ∀ z ∈ l, ¬ z.zi = i := fun z hz e => by
      have h3 : nmB l i = true := List.any_eq_true.2 ⟨z, hz, by simp [e]⟩
      rw [hb] at h3; cases h3
    unfold difB at h1; rw [ap_get hL h2] at h1; simp at h1
theorem nm_snoc {l : List Zc} {k : Nat} {z : Zc} (h : l[k]? = some z) (i : Int) : nmB (l.take (k + 1)) i = (nmB (l.take k) i || z.zi == i) := by
  unfold nmB; rw [List.take_add_one, h, List.any_append]; simp
theorem tr_0 {kv : List (Int × Cl)} {t : Int} {l : List Zc} (h : trE kv t l = 0) : apE kv l = 0 ∧ fitE t (realsL (apK kv l)) = 0 ∧ l.length ≤ 32 := by
  unfold trE at h; split at h
  · cases h
  · split at h
    · cases h
    · split at h
      · rename_i h3; exact absurd h h3
      · rename_i h3; exact ⟨by simpa using h3, h, by omega⟩
theorem apK_app : ∀ (l m : List Zc) (kv : List (Int × Cl)), apK kv (l ++ m) = apK (apK kv l) m
  | [], _, _ => rfl
  | z :: l, m, kv => apK_app l m (stK kv z)
theorem apE_app : ∀ (l m : List Zc) (kv : List (Int × Cl)), apE kv l = 0 → apE kv (l ++ m) = apE (apK kv l) m
  | [], _, _, _ => rfl
  | z :: l, m, kv, h => by
    unfold apE at h; split at h
    · exact absurd h (by assumption)
    · rename_i h1; show (if stE kv z ≠ 0 then stE kv z else apE (stK kv z) (l ++ m)) = _; rw [if_neg h1]; exact apE_app l m (stK kv z) h
/-- two transactions are one -/
theorem tr_join {kv : List (Int × Cl)} {l : List Zc} {m : Nat} (h1 : trE kv 3 (l.take m) = 0) (h2 : trE (apK kv (l.take m)) 3 (l.drop m) = 0) (hl : l.length ≤ 32) : trE kv 3 l = 0 ∧ apK kv l = apK (apK kv (l.take m)) (l.drop m) := by
  obtain ⟨a1, _, _⟩ := tr_0 h1
  obtain ⟨b1, b2, _⟩ := tr_0 h2
  have e := apK_app (l.take m) (l.drop m) kv
  have e2 := apE_app (l.take m) (l.drop m) kv a1
  rw [List.take_append_drop] at e e2
  refine ⟨?_, e⟩
  rw [(tr_4 (t := 3) (by omega) (by omega) (e2.trans b1)).1, e]; exact b2
theorem kr_aps {b : List Zc} (hb : ∀ z ∈ b, ZcOk z) : KR (apK [] b) (apR [] b) ∧ Laid (apK [] b) := ⟨kr_ap kr_nil laid_nil hb, laid_ap laid_nil⟩
theorem ids_len {kv : List (Int × Cl)} {R : List Cl} (h : KR kv R) (hL : Laid kv) : (keysF kv (fun v_ => true)).length ≤ 64 := by
  have := hL.len; have := idsK_len kv; unfold idsK at this; omega

end Go.Proofs.YtinnnoimmioaiaaGreat
