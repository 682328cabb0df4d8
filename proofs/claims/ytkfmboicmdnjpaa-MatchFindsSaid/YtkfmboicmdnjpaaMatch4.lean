/- What the functions of this layer do, proved operation by operation, for all arguments, under the conditions that each theorem states. -/
import Derived.Test.YtkfmboicmdnjpaaProg
import Derived.Test.YtkfmboicmdnjpaaMatch3
namespace Go.Proofs.Ytkfmboicmdnjpaa
open Go V
set_option linter.unusedVariables false
set_option linter.unusedSimpArgs false
def encK (h : Hd) : Value := .agg #[(w_ h.ha), (w_ h.hb), (w_ h.hc), (w_ h.hd)]
theorem keyOk_H : KeyOk Try.prog 56 encK := keyOk_wide (by kernel_rfl)
  (fun a b => by
    have e : eqV Try.prog 10000 56 (encK a) (encK b) = some ((a.ha == b.ha) && ((a.hb == b.hb) && ((a.hc == b.hc) && (a.hd == b.hd)))) := by
      show _ = _
      cases a; cases b; kernel_rfl
    rw [e]; refine congrArg some ?_; cases a; cases b; rw [Bool.eq_iff_iff]; simp)
  (fun a em => by cases em <;> kernel_rfl) (fun a => by
    have e : Instr.sameBits 10000 (encK a) (encK a) = ((a.ha == a.ha) && ((a.hb == a.hb) && ((a.hc == a.hc) && ((a.hd == a.hd) && true)))) := by kernel_rfl
    rw [e]; simp)
def Rl.want (r : Rl) : Hd := ⟨r.wa, r.wb, r.wc, r.wd⟩
def Rl.wh (r : Rl) : Bool := r.ma == 65535 && r.mb == 65535 && r.mc == 65535 && r.md == 65535
def Rl.good (r : Rl) : Bool := decide (1 ≤ r.cl) && decide (r.cl ≤ 65536) && mt r r.want
def exL (l : List Rl) : Nat → List (Hd × Int)
  | 0 => []
  | k + 1 => match l[k]? with
    | some r => if r.wh && !(mget (exL l k) r.want).isSome then mput (exL l k) r.want k else exL l k
    | none => exL l k
def maskL (l : List Rl) : Nat → List Int
  | 0 => []
  | k + 1 => match l[k]? with
    | some r => if r.wh then maskL l k else maskL l k ++ [(k : Int)]
    | none => maskL l k
theorem new_err {r : Rl} (h : RlOk r) : (((decide (r.cl < 1)) || (decide (r.cl > 65536))) || (!(((bitsV .and .u16 r.wa r.ma) == r.wa) && (((bitsV .and .u16 r.wb r.mb) == r.wb) && (((bitsV .and .u16 r.wc r.mc) == r.wc) && ((bitsV .and .u16 r.wd r.md) == r.wd)))))) = !r.good := by
  obtain ⟨h1, h2, h3, h4, h5, h6, h7, h8, h9⟩ := h
  rw [bits_land (by omega) (by omega), bits_land (by omega) (by omega), bits_land (by omega) (by omega), bits_land (by omega) (by omega)]
  have e1 : decide (r.cl < 1) = !decide (1 ≤ r.cl) := by rw [Bool.eq_iff_iff]; simp
  have e2 : decide (r.cl > 65536) = !decide (r.cl ≤ 65536) := by rw [Bool.eq_iff_iff]; simp
  unfold Rl.good mt Rl.want; rw [e1, e2]; simp only [Bool.not_and, Bool.and_assoc]; simp [Bool.and_assoc, Bool.or_assoc]
theorem wh_not (r : Rl) : (!((r.ma == 65535) && ((r.mb == 65535) && ((r.mc == 65535) && (r.md == 65535))))) = !r.wh := by unfold Rl.wh; simp [Bool.and_assoc]
theorem exL_put {l : List Rl} {k : Nat} {r : Rl} (hr : l[k]? = some r) (h1 : (!((r.ma == 65535) && ((r.mb == 65535) && ((r.mc == 65535) && (r.md == 65535))))) = false) (h2 : (!(mget (exL l k) (⟨r.wa, r.wb, r.wc, r.wd⟩ : Hd)).isSome) = true) : mput (exL l k) (⟨r.wa, r.wb, r.wc, r.wd⟩ : Hd) (k : Int) = exL l (k + 1) := by
  rw [wh_not] at h1; have : r.wh = true := by simpa using h1
  rw [exL]; simp only [hr]; rw [if_pos (by rw [this]; simpa [Rl.want] using h2)]; rfl
theorem exL_same {l : List Rl} {k : Nat} {r : Rl} (hr : l[k]? = some r) (h : (!((r.ma == 65535) && ((r.mb == 65535) && ((r.mc == 65535) && (r.md == 65535))))) = true ∨ (!(mget (exL l k) (⟨r.wa, r.wb, r.wc, r.wd⟩ : Hd)).isSome) = false) : exL l k = exL l (k + 1) := by
  rw [wh_not] at h
  rw [exL]; simp only [hr]; rw [if_neg]; rcases h with h | h
  · simp at h; simp [h]
  · have : (!(mget (exL l k) r.want).isSome) = false := h
    rw [this]; simp
theorem maskL_put {l : List Rl} {k : Nat} {r : Rl} (hr : l[k]? = some r) (h1 : (!((r.ma == 65535) && ((r.mb == 65535) && ((r.mc == 65535) && (r.md == 65535))))) = true) : maskL l k ++ [(k : Int)] = maskL l (k + 1) := by
  rw [wh_not] at h1; simp at h1; rw [maskL]; simp [hr, h1]
theorem maskL_same {l : List Rl} {k : Nat} {r : Rl} (hr : l[k]? = some r) (h1 : (!((r.ma == 65535) && ((r.mb == 65535) && ((r.mc == 65535) && (r.md == 65535))))) = false) : maskL l k = maskL l (k + 1) := by
  rw [wh_not] at h1; simp at h1; rw [maskL]; simp [hr, h1]
theorem maskL_len (l : List Rl) : ∀ k, (maskL l k).length ≤ k
  | 0 => by simp [maskL]
  | k + 1 => by have := maskL_len l k; unfold maskL; split; (split; omega; simp; omega); omega

end Go.Proofs.Ytkfmboicmdnjpaa
