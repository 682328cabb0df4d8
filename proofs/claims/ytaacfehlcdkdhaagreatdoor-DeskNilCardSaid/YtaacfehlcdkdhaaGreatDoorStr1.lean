/- What the functions of this layer do, proved operation by operation, for all arguments, under the conditions that each theorem states. -/
import Derived.Test.YtaacfehlcdkdhaaGreatDoorProg
import Derived.Test.YtaacfehlcdkdhaaGreatDoorWa
namespace Go.Proofs.YtaacfehlcdkdhaaGreatDoor
open Go V
set_option linter.unusedVariables false
set_option linter.unusedSimpArgs false
/-- a digit -/
def isD (b : UInt8) : Bool := decide (48 ≤ b.toNat) && decide (b.toNat ≤ 57)
def val (l : List UInt8) : Nat := l.foldl (fun a b => a * 10 + (b.toNat - 48)) 0
def numOk (l : List UInt8) : Bool := !(l == []) && !((l.getD 0 0).toNat == 48 && decide (1 < l.length)) && l.all isD
/-- the number out of a text, and its error -/
def numV (l : List UInt8) (most : Int) : Int := if numOk l = true ∧ (val l : Int) ≤ most then (val l : Int) else 0
def numE (l : List UInt8) (most : Int) : Int := if numOk l = true then (if (val l : Int) ≤ most then 0 else 20) else 4
theorem val_snoc (l : List UInt8) (b : UInt8) : val (l ++ [b]) = val l * 10 + (b.toNat - 48) := by simp [val, List.foldl_append]
theorem takeS {α : Type} {l : List α} {k : Nat} {x : α} (h : l[k]? = some x) : l.take (k + 1) = l.take k ++ [x] := by rw [List.take_add_one, h]; rfl
theorem val_take {l : List UInt8} {k : Nat} {b : UInt8} (h : l[k]? = some b) : val (l.take (k + 1)) = val (l.take k) * 10 + (b.toNat - 48) := by rw [takeS h, val_snoc]
theorem val_app : ∀ (m l : List UInt8), val l ≤ val (l ++ m)
  | [], l => by simp
  | b :: m, l => by
    have h1 := val_app m (l ++ [b])
    have h2 := val_snoc l b
    have e : l ++ b :: m = (l ++ [b]) ++ m := by simp
    rw [e]; omega
theorem val_le (l : List UInt8) (k : Nat) : val (l.take k) ≤ val l := by
  have := val_app (l.drop k) (l.take k); rwa [List.take_append_drop] at this
theorem isD_iff (b : UInt8) : isD b = true ↔ 48 ≤ b.toNat ∧ b.toNat ≤ 57 := by simp [isD]
theorem all_take {l : List UInt8} {k : Nat} {b : UInt8} (h : ∀ x ∈ l.take k, isD x = true) (hb : l[k]? = some b) (hd : isD b = true) : ∀ x ∈ l.take (k + 1), isD x = true := by
  rw [takeS hb]; intro x hx
  rcases List.mem_append.1 hx with hx | hx
  · exact h x hx
  · simp at hx; subst hx; exact hd
theorem numOk_not {l : List UInt8} {k : Nat} {b : UInt8} (hb : l[k]? = some b) (hd : ¬ isD b = true) : numOk l = false := by
  have : l.all isD = false := by
    rw [List.all_eq_false]; exact ⟨b, List.mem_of_getElem? hb, by simpa using hd⟩
  simp [numOk, this]
theorem numOk_yes {l : List UInt8} (h1 : ¬ l = []) (h2 : ¬ ((l.getD 0 0).toNat = 48 ∧ 1 < l.length)) (h3 : ∀ x ∈ l.take l.length, isD x = true) : numOk l = true := by
  rw [List.take_length] at h3
  have : l.all isD = true := List.all_eq_true.2 h3
  have e : ((l.getD 0 0).toNat == 48 && decide (1 < l.length)) = false := by
    rw [Bool.eq_false_iff]; intro e; simp only [Bool.and_eq_true, beq_iff_eq, decide_eq_true_eq] at e; exact h2 e
  have e2 : (l == []) = false := by simpa using h1
  simp only [numOk, this, e, e2]; rfl
theorem numOk_no {l : List UInt8} (h : l = [] ∨ ((l.getD 0 0).toNat = 48 ∧ 1 < l.length)) : numOk l = false := by
  unfold numOk
  rcases h with rfl | ⟨h1, h2⟩
  · rfl
  · have e : ((l.getD 0 0).toNat == 48 && decide (1 < l.length)) = true := by
      simp only [Bool.and_eq_true, beq_iff_eq, decide_eq_true_eq]; exact ⟨h1, h2⟩
    rw [e]; simp only [Bool.not_true, Bool.and_false, Bool.false_and]
theorem num_4 {l : List UInt8} (most : Int) (h : numOk l = false) : numV l most = 0 ∧ numE l most = 4 := by simp [numV, numE, h]
theorem num_20 {l : List UInt8} {most : Int} (h : numOk l = true) (hm : most < (val l : Int)) : numV l most = 0 ∧ numE l most = 20 := by
  unfold numV numE; rw [if_pos h, if_neg (by omega), if_neg (by omega)]; exact ⟨rfl, rfl⟩
theorem num_0 {l : List UInt8} {most : Int} (h : numOk l = true) (hm : (val l : Int) ≤ most) : numV l most = val l ∧ numE l most = 0 := by
  unfold numV numE; rw [if_pos h, if_pos hm, if_pos ⟨h, hm⟩]; exact ⟨rfl, rfl⟩
/-- a number in tens -/
def dg (n : Nat) : UInt8 := UInt8.ofNat (48 + n % 10)
def tn (n : Nat) : List UInt8 := if h : n < 10 then [dg n] else tn (n / 10) ++ [dg n]
termination_by n
def tens (v : Int) : List UInt8 := tn v.toNat
theorem dg_toNat (n : Nat) : (dg n).toNat = 48 + n % 10 := by simp [dg, UInt8.toNat_ofNat']; omega
theorem dgI {v : Int} (h : 0 ≤ v) : UInt8.ofNat (Int.toNat (48 + v % 10)) = dg v.toNat := by
  unfold dg; congr 1; omega
theorem tens_step {v : Int} (h : 0 ≤ v) : tens v = (if v / 10 = 0 then [] else tens (v / 10)) ++ [UInt8.ofNat (Int.toNat (48 + v % 10))] := by
  rw [dgI h]; unfold tens; rw [tn]
  split
  · rw [if_pos (by omega)]; rfl
  · rw [if_neg (by omega), show (v / 10).toNat = v.toNat / 10 by omega]
theorem tn_len : ∀ (k n : Nat), n < 10 ^ (k + 1) → (tn n).length ≤ k + 1
  | 0, n, h => by rw [tn, dif_pos (by simpa using h)]; simp
  | k + 1, n, h => by
    rw [tn]; split
    · simp
    · have : n / 10 < 10 ^ (k + 1) := by rw [Nat.pow_succ] at h; omega
      have := tn_len k (n / 10) this
      simp; omega
theorem tens_len {v : Int} (h : v < 18446744073709551616) : (tens v).length ≤ 20 := tn_len 19 _ (by omega)
theorem tn_val (n : Nat) : val (tn n) = n := by
  induction n using Nat.strongRecOn with
  | ind n ih =>
    rw [tn]; split
    · have := dg_toNat n; simp [val, this]; omega
    · rw [val_snoc, ih _ (by omega), dg_toNat]; omega
theorem tn_digits (n : Nat) : ∀ b ∈ tn n, isD b = true := by
  induction n using Nat.strongRecOn with
  | ind n ih =>
    have hd : isD (dg n) = true := by rw [isD_iff, dg_toNat]; omega
    rw [tn]; split
    · intro b hb; simp at hb; subst hb; exact hd
    · intro b hb
      rcases List.mem_append.1 hb with hb | hb
      · exact ih _ (by omega) b hb
      · simp at hb; subst hb; exact hd
theorem val_app2 (m : List UInt8) : ∀ l : List UInt8, val l ≤ val (l ++ m) := fun l => val_app m l
theorem tens_mono {v q : Int} {m : List UInt8} (h : tens v = tens q ++ m) : q.toNat ≤ v.toNat := by
  have h1 := val_app m (tens q)
  rw [← h] at h1; unfold tens at h1; rw [tn_val, tn_val] at h1; exact h1
theorem tn_ne (n : Nat) : tn n ≠ [] := by rw [tn]; split <;> simp
theorem tn_head {n : Nat} (h : 0 < n) : ((tn n).getD 0 0).toNat ≠ 48 := by
  induction n using Nat.strongRecOn with
  | ind n ih =>
    rw [tn]; split
    · have := dg_toNat n; simp [this]; omega
    · have h2 := ih (n / 10) (by omega) (by omega)
      have h3 := tn_ne (n / 10)
      cases hq : tn (n / 10) with
      | nil => exact absurd hq h3
      | cons a q => rw [hq] at h2; simpa using h2
theorem tens_ok {v : Int} (h : 0 ≤ v) : numOk (tens v) = true ∧ (val (tens v) : Int) = v := by
  refine ⟨numOk_yes (tn_ne _) ?_ ?_, by unfold tens; rw [tn_val]; omega⟩
  · rintro ⟨h1, h2⟩
    by_cases h0 : 0 < v.toNat
    · exact tn_head h0 h1
    · have : v.toNat = 0 := by omega
      unfold tens at h2; rw [this, tn, dif_pos (by decide)] at h2; simp at h2
  · rw [List.take_length]; exact tn_digits _
theorem tens_back {v most : Int} (h : 0 ≤ v) (hm : v ≤ most) : numV (tens v) most = v ∧ numE (tens v) most = 0 := by
  obtain ⟨h1, h2⟩ := tens_ok h
  have := num_0 (most := most) h1 (by omega)
  rw [h2] at this; exact this
/-- a text that is a number is told again -/
theorem val_back : ∀ (k : Nat) (l : List UInt8), l.length = k → numOk l = true → tn (val l) = l := by
  intro k
  induction k with
  | zero => intro l hl h; simp at hl; subst hl; simp [numOk] at h
  | succ k ih =>
    intro l hl h
    have hne : l ≠ [] := by intro e; rw [e] at hl; exact absurd hl (by simp)
    obtain ⟨m, b, rfl⟩ : ∃ m b, l = m ++ [b] := ⟨l.dropLast, l.getLast hne, (List.dropLast_concat_getLast hne).symm⟩
    have hm : m.length = k := by simpa using hl
    have hall : (m ++ [b]).all isD = true := by unfold numOk at h; simp only [Bool.and_eq_true] at h; exact h.2
    have hb : 48 ≤ b.toNat ∧ b.toNat ≤ 57 := (isD_iff b).1 (List.all_eq_true.1 hall b (by simp))
    have hdgb : ∀ n, n % 10 = b.toNat - 48 → dg n = b := fun n hn => by
      apply UInt8.toNat_inj.1; rw [dg_toNat]; omega
    rw [val_snoc]
    by_cases h0 : m = []
    · subst h0
      rw [tn, dif_pos (by simp [val]; omega), hdgb _ (by simp [val]; omega)]; rfl
    · have hhead : ¬ (((m ++ [b]).getD 0 0).toNat = 48) := by
        intro h48
        have := numOk_no (l := m ++ [b]) (.inr ⟨h48, by have := List.length_pos_iff.2 h0; simp; omega⟩)
        rw [this] at h; cases h
      have hhm : ¬ ((m.getD 0 0).toNat = 48) := by
        cases m with
        | nil => exact absurd rfl h0
        | cons a q => simpa using hhead
      have hmo : numOk m = true := numOk_yes h0 (fun hh => hhm hh.1) (by rw [List.take_length]; intro x hx; exact List.all_eq_true.1 hall x (by simp [hx]))
      have ih' := ih m hm hmo
      have hpos : 0 < val m := by
        rcases Nat.eq_zero_or_pos (val m) with hz | hz
        · rw [hz, tn, dif_pos (by decide)] at ih'
          rw [← ih'] at hhm
          exact absurd (dg_toNat 0) hhm
        · exact hz
      rw [tn, dif_neg (by omega), show (val m * 10 + (b.toNat - 48)) / 10 = val m by omega, ih', hdgb _ (by omega)]
theorem tens_val {l : List UInt8} (h : numOk l = true) : tens (val l : Int) = l := by
  unfold tens; rw [Int.toNat_natCast]; exact val_back _ l rfl h
theorem num_back {l : List UInt8} {most : Int} (h : numE l most = 0) : tens (numV l most) = l := by
  unfold numE at h
  split at h
  · split at h
    · rw [(num_0 (by assumption) (by assumption)).1]; exact tens_val (by assumption)
    · cases h
  · cases h
theorem num_rng {l : List UInt8} {most : Int} (h : 0 ≤ most) : 0 ≤ numV l most ∧ numV l most ≤ most := by
  unfold numV; split <;> omega
theorem numE_3 (l : List UInt8) (most : Int) : numE l most = 0 ∨ (numE l most = 4 ∧ numV l most = 0) ∨ (numE l most = 20 ∧ numV l most = 0) := by
  unfold numE numV; split
  · split
    · exact .inl rfl
    · rename_i h1 h2; exact .inr (.inr ⟨rfl, by rw [if_neg (fun h => h2 h.2)]⟩)
  · rename_i h1; exact .inr (.inl ⟨rfl, by rw [if_neg (fun h => h1 h.1)]⟩)

set_option maxHeartbeats 4000000 in
set_option maxRecDepth 100000 in
theorem inum_spec (l : List UInt8) (m : Int) (hm : 0 ≤ m ∧ m < 18446744073709551616) (w : World) :
    Calls Tryz.prog 22 #[s_ (bs l), u_ m] w fun e w' => e = .returned (.tuple #[u_ (numV l m), i_ (numE l m)]) ∧ Fr [] w w' := by
  refine calls_of (args := [s_ (bs l), u_ m]) (penv [s_ (bs l), u_ m]) [] [] Tryz.func22 rfl rfl (look_penv _) (HS.nil w) ?_
  refine A.norm [(0, s_ (bs l)), (1, u_ m)] [] (by exact ⟨rfl, rfl, trivial⟩) rfl ?_
  refine A.seq (A.region (A.goA [.p, .p] [(0, s_ (bs l)), (1, u_ m)] [] T0 (by kernel_rfl) trivial ?_))
  refine A.tn (A.seq (A.seq (A.region (A.goA [.p, .eq, .p, .o, .p, .si (l.getD 0 0), .p, .p, .o, .p, .p, .p, .cl, .cl] [(0, s_ (bs l)), (1, u_ m), (22, b_ (((bs l) == (bs [])) || ((((l.getD 0 0).toNat : Int) == 48) && (decide ((l.length : Int) > 1)))))] [] (fun κ => ((true && (((bs l) == (bs [])) == false)) = true → (0 ≤ (0 : Int) ∧ l[0]? = some (l.getD 0 0))) ∧ True) (by kernel_rfl) ⟨(fun h_ => ⟨by omega, gdS (by first | assumption | omega | (simp [bs_beq, bs_inj] at h_; exact List.length_pos_iff.2 h_))⟩), trivial⟩ ?_))))
  refine A.tn (A.cond (E := ((bs l) == (bs [])) || ((((l.getD 0 0).toNat : Int) == 48) && (decide ((l.length : Int) > 1)))) rfl (fun e1 => ?_) (fun e1 => ?_))
  · skip
    have p1 := e1; try simp only [nrm, bs_inj, Bool.or_eq_true, Bool.or_eq_false_iff, Bool.and_eq_true, Bool.and_eq_false_imp, decide_eq_true_eq, decide_eq_false_iff_not] at p1
    refine A.seq (A.region (A.goA [.p, .p] [(4, u_ 0), (5, i_ 4)] [] T0 (by kernel_rfl) trivial ?_))
    refine A.tn (A.ret (A.tr (A.postQ [u_ 0, i_ 4] (fun aa ww rr ss => ⟨rv_tmp rr rfl, rv_tmp rr rfl, trivial⟩) ?_)))
    show ((.tuple #[u_ 0, i_ 4]) : Value) = (.tuple #[u_ (numV l m), i_ (numE l m)])
    refine Eq.trans ?_ (show ((.tuple #[u_ (numV l m), i_ (numE l m)]) : Value) = (.tuple #[u_ (numV l m), i_ (numE l m)]) from rfl)
    obtain ⟨h1_, h2_⟩ : numV l m = 0 ∧ numE l m = 4 := by first | exact num_4 m (numOk_no (by (try simp [bs_beq, bs_inj] at e1); (try simp); first | omega | (rcases e1 with h_ | h_; exact .inl h_; exact .inr (by omega)))) | exact num_4 m (numOk_not (by assumption) (by rw [isD_iff]; omega)) | exact num_4 (l := l) m (numOk_not (gdS (i := k) (by omega)) (by rw [isD_iff]; omega))
    rw [h1_, h2_]
  · skip
    have p1 := e1; try simp only [nrm, bs_inj, Bool.or_eq_true, Bool.or_eq_false_iff, Bool.and_eq_true, Bool.and_eq_false_imp, decide_eq_true_eq, decide_eq_false_iff_not] at p1
    refine A.skip (A.tn (A.seq (A.region (A.goA [.p] [(0, s_ (bs l)), (1, u_ m), (6, u_ 0)] [] T0 (by kernel_rfl) trivial ?_))))
    refine A.tn (A.seq (A.region (A.goA [.p] [(0, s_ (bs l)), (1, u_ m), (6, u_ 0), (7, b_ false)] [] T0 (by kernel_rfl) trivial ?_)))
    refine A.tn (A.seq (A.seq (A.region (A.goP [.p] [(1, u_ m), (6, u_ 0), (7, b_ false), (23, s_ (bs l))] [] T0 (by kernel_rfl) trivial ?_))))
    refine A.cons (A.rangeS 24 (by kernel_rfl) rfl rfl (by kernel_rfl) (fun b1 => [strI b1 l 0]) (fun _ => rfl) ?_)
    intro b1
    refine A.done ?_
    refine A.tn (A.block (A.sub [(1, u_ m), (6, u_ ((val (l.take 0) % 18446744073709551616 : Nat) : Int)), (7, b_ false), (23, s_ (bs l)), (24, p_ b1)] (by exact ⟨rfl, congrArg (fun z_ => some (u_ z_)) (by (first | (show _ = _; rw [val_take (by assumption)]; rw [wrap_u64m, wrap_u64m]; have hd_ := (isD_iff _).1 hdg; omega) | (have hd_ := (isD_iff _).1 hdg; rw [val_take (by assumption)]; rw [Bool.eq_iff_iff]; simp only [Bool.or_eq_true, decide_eq_true_eq]; omega) | (simp [val])) : 0 = ((val (l.take 0) % 18446744073709551616 : Nat) : Int)), rfl, rfl, rfl, trivial⟩) ?_))
    refine A.sub [(1, u_ m), (6, u_ ((val (l.take 0) % 18446744073709551616 : Nat) : Int)), (7, b_ (decide (18446744073709551616 ≤ val (l.take 0)))), (23, s_ (bs l)), (24, p_ b1)] (by exact ⟨rfl, rfl, congrArg (fun z_ => some (b_ z_)) (by (first | (show _ = _; rw [val_take (by assumption)]; rw [wrap_u64m, wrap_u64m]; have hd_ := (isD_iff _).1 hdg; omega) | (have hd_ := (isD_iff _).1 hdg; rw [val_take (by assumption)]; rw [Bool.eq_iff_iff]; simp only [Bool.or_eq_true, decide_eq_true_eq]; omega) | (simp [val])) : false = decide (18446744073709551616 ≤ val (l.take 0))), rfl, rfl, trivial⟩) ?_
    refine A.loop (fun (zz : Nat) => match zz with | k => [(1, u_ m), (24, p_ b1), (6, u_ ((val (l.take k) % 18446744073709551616 : Nat) : Int)), (7, b_ (decide (18446744073709551616 ≤ val (l.take k))))]) (fun (zz : Nat) => match zz with | k => [strI b1 l k]) (fun (zz : Nat) => match zz with | k => (k ≤ l.length) ∧ (∀ x ∈ l.take k, isD x = true)) (fun (zz : Nat) => match zz with | k => l.length - k) (0 : Nat) ⟨(by omega), (by simp)⟩ ?_ ?_
    · exact A.hereK [0] (by exact ⟨rfl, rfl, rfl, rfl, trivial⟩) (by kernel_rfl)
    · rintro k ⟨hk, hD⟩
      refine A.norm [(1, u_ m), (24, p_ b1), (6, u_ ((val (l.take k) % 18446744073709551616 : Nat) : Int)), (7, b_ (decide (18446744073709551616 ≤ val (l.take k))))] [strI b1 l k] (by exact ⟨rfl, rfl, rfl, rfl, trivial⟩) rfl ?_
      refine A.seq (A.region (A.cons (A.nextS (l := l) (pos := k) 0 25 (by kernel_rfl) rfl rfl rfl (fun p_ => [strI b1 l p_]) (fun _ => rfl) (fun ho2 => ?_) (fun u2 hu2 hl2 => ?_) (fun u2 hu2 hl2 c2 k2 hc2 hd2 => ?_))))
      · skip
        refine A.goA [.p] [(1, u_ m), (24, p_ b1), (6, u_ ((val (l.take k) % 18446744073709551616 : Nat) : Int)), (7, b_ (decide (18446744073709551616 ≤ val (l.take k)))), (25, (.tuple #[b_ false])), (26, b_ false)] [] T0 (by kernel_rfl) trivial ?_
        refine A.tn (A.seq (A.cond_f rfl (A.exit (A.te (A.te (A.bh (A.tn (A.seq (A.seq (A.region (A.goA [.p, .p, .o, .p, .p, .p, .cl] [(6, u_ ((val (l.take k) % 18446744073709551616 : Nat) : Int)), (54, b_ ((decide (18446744073709551616 ≤ val (l.take k))) || (decide (((val (l.take k) % 18446744073709551616 : Nat) : Int) > m))))] [] T0 (by kernel_rfl) trivial ?_)))))))))))
        refine A.tn (A.cond (E := (decide (18446744073709551616 ≤ val (l.take k))) || (decide (((val (l.take k) % 18446744073709551616 : Nat) : Int) > m))) rfl (fun e2 => ?_) (fun e2 => ?_))
        · skip
          have p2 := e2; try simp only [nrm, bs_inj, Bool.or_eq_true, Bool.or_eq_false_iff, Bool.and_eq_true, Bool.and_eq_false_imp, decide_eq_true_eq, decide_eq_false_iff_not] at p2
          refine A.seq (A.region (A.goA [.p, .p] [(4, u_ 0), (5, i_ 20)] [] T0 (by kernel_rfl) trivial ?_))
          refine A.tn (A.ret (A.tr (A.postQ [u_ 0, i_ 20] (fun aa ww rr ss => ⟨rv_tmp rr rfl, rv_tmp rr rfl, trivial⟩) ?_)))
          show ((.tuple #[u_ 0, i_ 20]) : Value) = (.tuple #[u_ (numV l m), i_ (numE l m)])
          refine Eq.trans ?_ (show ((.tuple #[u_ (numV l m), i_ (numE l m)]) : Value) = (.tuple #[u_ (numV l m), i_ (numE l m)]) from rfl)
          have hok := (numOk_yes (l := l) (by first | assumption | exact p1.1 | (intro h_; subst h_; simp at p1)) (by (try simp [bs_beq, bs_inj] at e1); (try simp); omega) (by have hh_ := hD; rw [show k = l.length by omega] at hh_; exact hh_))
          try (have hvt : val (l.take k) = val l := by rw [show k = l.length by omega, List.take_length])
          obtain ⟨h1_, h2_⟩ : numV l m = 0 ∧ numE l m = 20 := by exact num_20 hok (by omega)
          rw [h1_, h2_]
        · skip
          have p2 := e2; try simp only [nrm, bs_inj, Bool.or_eq_true, Bool.or_eq_false_iff, Bool.and_eq_true, Bool.and_eq_false_imp, decide_eq_true_eq, decide_eq_false_iff_not] at p2
          refine A.skip (A.tn (A.seq (A.region (A.goA [.p, .p, .p] [(4, u_ ((val (l.take k) % 18446744073709551616 : Nat) : Int)), (5, i_ 0)] [] T0 (by kernel_rfl) trivial ?_))))
          refine A.tn (A.ret (A.postQ [u_ ((val (l.take k) % 18446744073709551616 : Nat) : Int), i_ 0] (fun aa ww rr ss => ⟨rv_tmp rr rfl, rv_tmp rr rfl, trivial⟩) ?_))
          show ((.tuple #[u_ ((val (l.take k) % 18446744073709551616 : Nat) : Int), i_ 0]) : Value) = (.tuple #[u_ (numV l m), i_ (numE l m)])
          refine Eq.trans ?_ (show ((.tuple #[u_ (numV l m), i_ (numE l m)]) : Value) = (.tuple #[u_ (numV l m), i_ (numE l m)]) from rfl)
          have hok := (numOk_yes (l := l) (by first | assumption | exact p1.1 | (intro h_; subst h_; simp at p1)) (by (try simp [bs_beq, bs_inj] at e1); (try simp); omega) (by have hh_ := hD; rw [show k = l.length by omega] at hh_; exact hh_))
          try (have hvt : val (l.take k) = val l := by rw [show k = l.length by omega, List.take_length])
          obtain ⟨h1_, h2_⟩ : numV l m = ((val (l.take k) % 18446744073709551616 : Nat) : Int) ∧ numE l m = 0 := by (have h_ := num_0 (l := l) (most := m) hok (by omega); exact ⟨h_.1.trans (by omega), h_.2⟩)
          rw [h1_, h2_]
      · skip
        refine A.goA [.p] [(1, u_ m), (24, p_ b1), (6, u_ ((val (l.take k) % 18446744073709551616 : Nat) : Int)), (7, b_ (decide (18446744073709551616 ≤ val (l.take k)))), (25, (.tuple #[b_ true, c_ k, (.int .i32 (u2.toNat : Int))])), (26, b_ true)] [] T0 (by kernel_rfl) trivial ?_
        refine A.tn (A.seq (A.cond_t rfl (A.skip (A.tn (A.block (A.seq (A.region (A.goA [.p, .p] [(1, u_ m), (24, p_ b1), (6, u_ ((val (l.take k) % 18446744073709551616 : Nat) : Int)), (7, b_ (decide (18446744073709551616 ≤ val (l.take k)))), (9, (.int .i32 (u2.toNat : Int)))] [] T0 (by kernel_rfl) trivial ?_))))))))
        refine A.tn (A.seq (A.seq (A.region (A.goA [.p, .p, .p, .o, .p, .p, .cl] [(1, u_ m), (24, p_ b1), (6, u_ ((val (l.take k) % 18446744073709551616 : Nat) : Int)), (7, b_ (decide (18446744073709551616 ≤ val (l.take k)))), (9, (.int .i32 (u2.toNat : Int))), (33, b_ ((decide ((u2.toNat : Int) < 48)) || (decide ((u2.toNat : Int) > 57))))] [] T0 (by kernel_rfl) trivial ?_))))
        refine A.tn (A.cond (E := (decide ((u2.toNat : Int) < 48)) || (decide ((u2.toNat : Int) > 57))) rfl (fun e3 => ?_) (fun e3 => ?_))
        · skip
          have p3 := e3; try simp only [nrm, bs_inj, Bool.or_eq_true, Bool.or_eq_false_iff, Bool.and_eq_true, Bool.and_eq_false_imp, decide_eq_true_eq, decide_eq_false_iff_not] at p3
          refine A.seq (A.region (A.goA [.p, .p] [(4, u_ 0), (5, i_ 4)] [] T0 (by kernel_rfl) trivial ?_))
          refine A.tn (A.ret (A.tr (A.br (A.tr (A.br (A.tr (A.postQ [u_ 0, i_ 4] (fun aa ww rr ss => ⟨rv_tmp rr rfl, rv_tmp rr rfl, trivial⟩) ?_)))))))
          show ((.tuple #[u_ 0, i_ 4]) : Value) = (.tuple #[u_ (numV l m), i_ (numE l m)])
          refine Eq.trans ?_ (show ((.tuple #[u_ (numV l m), i_ (numE l m)]) : Value) = (.tuple #[u_ (numV l m), i_ (numE l m)]) from rfl)
          obtain ⟨h1_, h2_⟩ : numV l m = 0 ∧ numE l m = 4 := by first | exact num_4 m (numOk_no (by (try simp [bs_beq, bs_inj] at e1); (try simp); first | omega | (rcases e1 with h_ | h_; exact .inl h_; exact .inr (by omega)))) | exact num_4 m (numOk_not (by assumption) (by rw [isD_iff]; omega)) | exact num_4 (l := l) m (numOk_not (gdS (i := k) (by omega)) (by rw [isD_iff]; omega))
          rw [h1_, h2_]
        · skip
          have p3 := e3; try simp only [nrm, bs_inj, Bool.or_eq_true, Bool.or_eq_false_iff, Bool.and_eq_true, Bool.and_eq_false_imp, decide_eq_true_eq, decide_eq_false_iff_not] at p3
          refine A.skip (A.tn (A.seq ?_))
          have hdg : isD u2 = true := (isD_iff _).2 (by omega)
          refine A.region (A.goA [.p, .w ((u2.toNat : Int) - 48), .w ((u2.toNat : Int) - 48), .p] [(1, u_ m), (24, p_ b1), (6, u_ ((val (l.take k) % 18446744073709551616 : Nat) : Int)), (7, b_ (decide (18446744073709551616 ≤ val (l.take k)))), (10, u_ ((u2.toNat : Int) - 48))] [] (fun κ => (IntKind.i32.wrap ((u2.toNat : Int) - 48) = ((u2.toNat : Int) - 48)) ∧ (IntKind.u64.wrap ((u2.toNat : Int) - 48) = ((u2.toNat : Int) - 48)) ∧ True) (by kernel_rfl) ⟨(wrap_i32 (e := (u2.toNat : Int) - 48) (by constructor <;> omega)), wrap_u64 (e := (u2.toNat : Int) - 48) (by constructor <;> omega), trivial⟩ ?_)
          refine A.tn (A.seq (A.region (A.goA [.p, .p, .o, .p, .p, .w (18446744073709551615 - ((u2.toNat : Int) - 48)), .w ((18446744073709551615 - ((u2.toNat : Int) - 48)) / 10), .p, .cl, .p] [(1, u_ m), (24, p_ b1), (6, u_ ((val (l.take k) % 18446744073709551616 : Nat) : Int)), (7, b_ ((decide (18446744073709551616 ≤ val (l.take k))) || (decide (((val (l.take k) % 18446744073709551616 : Nat) : Int) > ((18446744073709551615 - ((u2.toNat : Int) - 48)) / 10))))), (10, u_ ((u2.toNat : Int) - 48))] [] (fun κ => ((true && ((decide (18446744073709551616 ≤ val (l.take k))) == false)) = true → (IntKind.u64.wrap (18446744073709551615 - ((u2.toNat : Int) - 48)) = (18446744073709551615 - ((u2.toNat : Int) - 48)))) ∧ ((true && ((decide (18446744073709551616 ≤ val (l.take k))) == false)) = true → (IntKind.u64.wrap ((18446744073709551615 - ((u2.toNat : Int) - 48)).tdiv 10) = (18446744073709551615 - ((u2.toNat : Int) - 48)) / 10)) ∧ True) (by kernel_rfl) ⟨(fun h_ => (wrap_u64 (e := 18446744073709551615 - ((u2.toNat : Int) - 48)) (by constructor <;> omega))), (fun h_ => (u_tdiv (by omega) (by decide))), trivial⟩ ?_)))
          refine A.tn (A.region (A.goA [.p, .p, .p, .p, .p] [(1, u_ m), (24, p_ b1), (6, u_ (IntKind.u64.wrap ((IntKind.u64.wrap (((val (l.take k) % 18446744073709551616 : Nat) : Int) * 10)) + ((u2.toNat : Int) - 48)))), (7, b_ ((decide (18446744073709551616 ≤ val (l.take k))) || (decide (((val (l.take k) % 18446744073709551616 : Nat) : Int) > ((18446744073709551615 - ((u2.toNat : Int) - 48)) / 10)))))] [] T0 (by kernel_rfl) trivial ?_))
          refine A.bn (A.tn (A.sub [(1, u_ m), (24, p_ b1), (6, u_ ((val (l.take (k + 1)) % 18446744073709551616 : Nat) : Int)), (7, b_ ((decide (18446744073709551616 ≤ val (l.take k))) || (decide (((val (l.take k) % 18446744073709551616 : Nat) : Int) > ((18446744073709551615 - ((u2.toNat : Int) - 48)) / 10)))))] (by exact ⟨rfl, rfl, congrArg (fun z_ => some (u_ z_)) (by (first | (show _ = _; rw [val_take (by assumption)]; rw [wrap_u64m, wrap_u64m]; have hd_ := (isD_iff _).1 hdg; omega) | (have hd_ := (isD_iff _).1 hdg; rw [val_take (by assumption)]; rw [Bool.eq_iff_iff]; simp only [Bool.or_eq_true, decide_eq_true_eq]; omega) | (simp [val])) : IntKind.u64.wrap ((IntKind.u64.wrap (((val (l.take k) % 18446744073709551616 : Nat) : Int) * 10)) + ((u2.toNat : Int) - 48)) = ((val (l.take (k + 1)) % 18446744073709551616 : Nat) : Int)), rfl, trivial⟩) ?_))
          refine A.sub [(1, u_ m), (24, p_ b1), (6, u_ ((val (l.take (k + 1)) % 18446744073709551616 : Nat) : Int)), (7, b_ (decide (18446744073709551616 ≤ val (l.take (k + 1)))))] (by exact ⟨rfl, rfl, rfl, congrArg (fun z_ => some (b_ z_)) (by (first | (show _ = _; rw [val_take (by assumption)]; rw [wrap_u64m, wrap_u64m]; have hd_ := (isD_iff _).1 hdg; omega) | (have hd_ := (isD_iff _).1 hdg; rw [val_take (by assumption)]; rw [Bool.eq_iff_iff]; simp only [Bool.or_eq_true, decide_eq_true_eq]; omega) | (simp [val])) : ((decide (18446744073709551616 ≤ val (l.take k))) || (decide (((val (l.take k) % 18446744073709551616 : Nat) : Int) > ((18446744073709551615 - ((u2.toNat : Int) - 48)) / 10)))) = decide (18446744073709551616 ≤ val (l.take (k + 1)))), trivial⟩) ?_
          refine A.next (k + 1) ⟨(by have := (List.getElem?_eq_some_iff.1 (by assumption)).1; omega), (by exact all_take hD (by assumption) hdg)⟩ (by (have h_ := (List.getElem?_eq_some_iff.1 (by assumption : l[k]? = some _)).1; show l.length - (k + 1) < l.length - k; omega)) ?_
          exact A.hereK [0] (by exact ⟨rfl, rfl, rfl, rfl, trivial⟩) (by kernel_rfl)
      · skip
        refine A.goA [.p] [(1, u_ m), (24, p_ b1), (6, u_ ((val (l.take k) % 18446744073709551616 : Nat) : Int)), (7, b_ (decide (18446744073709551616 ≤ val (l.take k)))), (25, (.tuple #[b_ true, c_ k, (.int .i32 (c2 : Int))])), (26, b_ true)] [] T0 (by kernel_rfl) trivial ?_
        refine A.tn (A.seq (A.cond_t rfl (A.skip (A.tn (A.block (A.seq (A.region (A.goA [.p, .p] [(1, u_ m), (24, p_ b1), (6, u_ ((val (l.take k) % 18446744073709551616 : Nat) : Int)), (7, b_ (decide (18446744073709551616 ≤ val (l.take k)))), (9, (.int .i32 (c2 : Int)))] [] T0 (by kernel_rfl) trivial ?_))))))))
        refine A.tn (A.seq (A.seq (A.region (A.goA [.p, .p, .p, .o, .p, .p, .cl] [(1, u_ m), (24, p_ b1), (6, u_ ((val (l.take k) % 18446744073709551616 : Nat) : Int)), (7, b_ (decide (18446744073709551616 ≤ val (l.take k)))), (9, (.int .i32 (c2 : Int))), (33, b_ ((decide ((c2 : Int) < 48)) || (decide ((c2 : Int) > 57))))] [] T0 (by kernel_rfl) trivial ?_))))
        refine A.tn (A.cond (E := (decide ((c2 : Int) < 48)) || (decide ((c2 : Int) > 57))) rfl (fun e4 => ?_) (fun e4 => ?_))
        · skip
          have p4 := e4; try simp only [nrm, bs_inj, Bool.or_eq_true, Bool.or_eq_false_iff, Bool.and_eq_true, Bool.and_eq_false_imp, decide_eq_true_eq, decide_eq_false_iff_not] at p4
          refine A.seq (A.region (A.goA [.p, .p] [(4, u_ 0), (5, i_ 4)] [] T0 (by kernel_rfl) trivial ?_))
          refine A.tn (A.ret (A.tr (A.br (A.tr (A.br (A.tr (A.postQ [u_ 0, i_ 4] (fun aa ww rr ss => ⟨rv_tmp rr rfl, rv_tmp rr rfl, trivial⟩) ?_)))))))
          show ((.tuple #[u_ 0, i_ 4]) : Value) = (.tuple #[u_ (numV l m), i_ (numE l m)])
          refine Eq.trans ?_ (show ((.tuple #[u_ (numV l m), i_ (numE l m)]) : Value) = (.tuple #[u_ (numV l m), i_ (numE l m)]) from rfl)
          obtain ⟨h1_, h2_⟩ : numV l m = 0 ∧ numE l m = 4 := by first | exact num_4 m (numOk_no (by (try simp [bs_beq, bs_inj] at e1); (try simp); first | omega | (rcases e1 with h_ | h_; exact .inl h_; exact .inr (by omega)))) | exact num_4 m (numOk_not (by assumption) (by rw [isD_iff]; omega)) | exact num_4 (l := l) m (numOk_not (gdS (i := k) (by omega)) (by rw [isD_iff]; omega))
          rw [h1_, h2_]
        · skip
          have p4 := e4; try simp only [nrm, bs_inj, Bool.or_eq_true, Bool.or_eq_false_iff, Bool.and_eq_true, Bool.and_eq_false_imp, decide_eq_true_eq, decide_eq_false_iff_not] at p4
          refine A.skip (A.tn (A.seq ?_))
          exfalso; omega

set_option maxHeartbeats 4000000 in
set_option maxRecDepth 100000 in
theorem itens_spec (v : Int) (hv : 0 ≤ v ∧ v < 18446744073709551616) (w : World) :
    Calls Tryz.prog 13 #[u_ v] w fun e w' => e = .returned (s_ (bs (tens v))) ∧ Fr [] w w' := by
  refine calls_of (args := [u_ v]) (penv [u_ v]) [] [] Tryz.func13 rfl rfl (look_penv _) (HS.nil w) ?_
  refine A.norm [(0, u_ v)] [] (by exact ⟨rfl, trivial⟩) rfl ?_
  refine A.seq (A.region (A.goA [.p] [(0, u_ v)] [] T0 (by kernel_rfl) trivial ?_))
  refine A.tn (A.seq (A.region (A.goP [.p] [(0, u_ v), (4, u_ v)] [] T0 (by kernel_rfl) trivial ?_)))
  refine A.cons (A.q (some 5) (u_ (v % 10)) (by kernel_rfl) (qt_as (congrArg (Value.int .u64) (u_tmod (by omega))) (qt_pure (v := .int .u64 (v.tmod 10)) (by kernel_rfl) fun _ => by kernel_rfl)) ?_)
  refine A.goP [.w (48 + (v % 10)), .w (48 + (v % 10))] [(0, u_ v), (7, y_ (48 + (v % 10)))] [] (fun κ => (IntKind.u64.wrap (48 + (v % 10)) = (48 + (v % 10))) ∧ (IntKind.u8.wrap (48 + (v % 10)) = (48 + (v % 10))) ∧ True) (by kernel_rfl) ⟨(wrap_u64 (e := 48 + (v % 10)) (by constructor <;> omega)), wrap_u8 (e := 48 + (v % 10)) (by constructor <;> omega), trivial⟩ ?_
  refine A.cons (A.buildSlice 8 (e := 5) [y_ (48 + (v % 10))] (by kernel_rfl) rfl (fun _ => by kernel_rfl) (fun b1 => [blk b1 [y_ (48 + (v % 10))] 5]) (fun _ => rfl) ?_)
  intro b1
  refine A.cons (A.q (some 9) (s_ (bs [UInt8.ofNat (Int.toNat (48 + (v % 10)))])) (by kernel_rfl) (qt_b2s (e := 5) (ns := [48 + (v % 10)]) rfl rfl (by kernel_rfl) (by kernel_rfl) (by kernel_rfl) (reads_blk (i := 0) rfl rfl)) ?_)
  refine A.goA [.p] [(0, u_ v), (3, s_ (bs [UInt8.ofNat (Int.toNat (48 + (v % 10)))]))] [] T0 (by kernel_rfl) trivial ?_
  refine A.tn (A.seq (A.seq (A.region (A.goA [.p, .w (v / 10), .p] [(0, u_ (v / 10)), (3, s_ (bs [UInt8.ofNat (Int.toNat (48 + (v % 10)))]))] [] (fun κ => (IntKind.u64.wrap (v.tdiv 10) = v / 10) ∧ True) (by kernel_rfl) ⟨(u_tdiv (by omega) (by decide)), trivial⟩ ?_))))
  refine A.tn (A.block (A.loop (fun (zz : Int × (List UInt8)) => match zz with | (q, m) => [(0, u_ q), (3, s_ (bs m))]) (fun (zz : Int × (List UInt8)) => match zz with | (q, m) => [blk b1 [y_ (48 + (v % 10))] 5]) (fun (zz : Int × (List UInt8)) => match zz with | (q, m) => (0 ≤ q ∧ q < 18446744073709551616) ∧ (tens v = (if q = 0 then [] else tens q) ++ m)) (fun (zz : Int × (List UInt8)) => match zz with | (q, m) => q.toNat) (v / 10, [UInt8.ofNat (Int.toNat (48 + (v % 10)))]) ⟨(by omega), (by exact tens_step hv.1)⟩ ?_ ?_))
  · exact A.hereK [0] (by exact ⟨rfl, rfl, trivial⟩) (by kernel_rfl)
  · rintro ⟨q, m⟩ ⟨hq, hm⟩
    refine A.norm [(0, u_ q), (3, s_ (bs m))] [blk b1 [y_ (48 + (v % 10))] 5] (by exact ⟨rfl, rfl, trivial⟩) rfl ?_
    refine A.seq (A.seq (A.region (A.goA [.p, .p] [(0, u_ q), (3, s_ (bs m)), (13, b_ (decide (q > 0)))] [] T0 (by kernel_rfl) trivial ?_)))
    refine A.tn (A.cond (E := decide (q > 0)) rfl (fun e1 => ?_) (fun e1 => ?_))
    · skip
      have p1 := of_decide_eq_true e1
      refine A.skip (A.tn (A.seq (A.block (A.region (A.goP [.p] [(0, u_ q), (3, s_ (bs m)), (16, u_ q)] [] T0 (by kernel_rfl) trivial ?_)))))
      refine A.cons (A.q (some 17) (u_ (q % 10)) (by kernel_rfl) (qt_as (congrArg (Value.int .u64) (u_tmod (by omega))) (qt_pure (v := .int .u64 (q.tmod 10)) (by kernel_rfl) fun _ => by kernel_rfl)) ?_)
      refine A.goP [.w (48 + (q % 10)), .w (48 + (q % 10))] [(0, u_ q), (3, s_ (bs m)), (19, y_ (48 + (q % 10)))] [] (fun κ => (IntKind.u64.wrap (48 + (q % 10)) = (48 + (q % 10))) ∧ (IntKind.u8.wrap (48 + (q % 10)) = (48 + (q % 10))) ∧ True) (by kernel_rfl) ⟨(wrap_u64 (e := 48 + (q % 10)) (by constructor <;> omega)), wrap_u8 (e := 48 + (q % 10)) (by constructor <;> omega), trivial⟩ ?_
      refine A.cons (A.buildSlice 20 (e := 5) [y_ (48 + (q % 10))] (by kernel_rfl) rfl (fun _ => by kernel_rfl) (fun b2 => [blk b1 [y_ (48 + (v % 10))] 5, blk b2 [y_ (48 + (q % 10))] 5]) (fun _ => rfl) ?_)
      intro b2
      refine A.cons (A.q (some 21) (s_ (bs [UInt8.ofNat (Int.toNat (48 + (q % 10)))])) (by kernel_rfl) (qt_b2s (e := 5) (ns := [48 + (q % 10)]) rfl rfl (by kernel_rfl) (by kernel_rfl) (by kernel_rfl) (reads_blk (i := 1) rfl rfl)) ?_)
      refine A.goA [.p, .ct, .p] [(0, u_ q), (3, s_ (bs (([UInt8.ofNat (Int.toNat (48 + (q % 10)))]) ++ m)))] [] (fun κ => ([UInt8.ofNat (Int.toNat (48 + (q % 10)))]).length + m.length ≤ 9223372036854775807 ∧ True) (by kernel_rfl) ⟨(by have hlt_ := tens_len (v := v) (by omega); rw [hm] at hlt_; simp at hlt_; simp; omega), trivial⟩ ?_
      refine A.bn (A.tn (A.region (A.goA [.p, .w (q / 10), .p] [(0, u_ (q / 10)), (3, s_ (bs (([UInt8.ofNat (Int.toNat (48 + (q % 10)))]) ++ m)))] [] (fun κ => (IntKind.u64.wrap (q.tdiv 10) = q / 10) ∧ True) (by kernel_rfl) ⟨(u_tdiv (by omega) (by decide)), trivial⟩ ?_)))
      refine A.tn (A.next (q / 10, ([UInt8.ofNat (Int.toNat (48 + (q % 10)))]) ++ m) ⟨(by omega), (by (rw [hm, if_neg (by omega), tens_step hq.1, List.append_assoc]))⟩ (by (show (q / 10).toNat < q.toNat; omega)) ?_)
      exact A.hereK [0] (by exact ⟨rfl, rfl, trivial⟩) (by kernel_rfl)
    · skip
      have p1 := of_decide_eq_false e1
      refine A.exit (A.te (A.te (A.bh (A.tn (A.seq (A.region (A.goA [.p, .p] [(2, s_ (bs m))] [] T0 (by kernel_rfl) trivial ?_)))))))
      refine A.tn (A.ret (A.postQ [s_ (bs m)] (fun aa ww rr ss => ⟨rv_tmp rr rfl, trivial⟩) ?_))
      show ((s_ (bs m)) : Value) = (s_ (bs (tens v)))
      (obtain rfl : q = 0 := by omega); rw [hm]; rfl
end Go.Proofs.YtaacfehlcdkdhaaGreatDoor
