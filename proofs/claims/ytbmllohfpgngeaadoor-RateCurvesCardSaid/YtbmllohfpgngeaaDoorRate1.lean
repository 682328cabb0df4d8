/- What the functions of this layer do, proved operation by operation, for all arguments, under the conditions that each theorem states. -/
import Derived.Test.YtbmllohfpgngeaaDoorProg
import Derived.Test.YtbmllohfpgngeaaDoorStrL
import Derived.Test.YtbmllohfpgngeaaDoorRat1
import Derived.Test.YtbmllohfpgngeaaDoorCurve1
namespace Go.Proofs.YtbmllohfpgngeaaDoor
open Go V
set_option linter.unusedVariables false
set_option linter.unusedSimpArgs false
structure Un where
  uw : List UInt8
  ut : Int
  deriving Inhabited, DecidableEq
def encUn (x : Un) : List Value := [(s_ (bs x.uw)), (u_ x.ut)]
theorem encUn_len (x : Un) : (encUn x).length = 2 := rfl
theorem encUn_one (x : Un) : (encUn x).all Value.oneCell' = true := rfl
abbrev sUn (A : Option Addr) (xs : List Un) (c : Nat) : V.Item := sl A xs.length c 57 2 (V.flat encUn xs)
/-- a number, and an error -/
structure PE where
  pv : Int
  pe : Int
structure CE where
  ca : Int
  cb : Int
  cc : Int
  ce : Int
def rd1 (h : List UInt8) (t m : Int) : PE := if numE h m = 0 then (if numV h m > m / t then ⟨0, 20⟩ else ⟨numV h m * t, 0⟩) else ⟨0, numE h m⟩
def rdP (l : List UInt8) (m : Int) : List Un → PE
  | [] => ⟨0, 4⟩
  | u :: us => if Lib.hasSuffix l u.uw = true then rd1 (Lib.trimSuffix l u.uw) u.ut m else rdP l m us
def rateU : List Un := [(⟨[103, 98, 105, 116], 1000000000⟩ : Un), (⟨[109, 98, 105, 116], 1000000⟩ : Un), (⟨[107, 98, 105, 116], 1000⟩ : Un), (⟨[98, 105, 116], 1⟩ : Un)]
def timeU : List Un := [(⟨[109, 115], 1000⟩ : Un), (⟨[117, 115], 1⟩ : Un), (⟨[115], 1000000⟩ : Un)]
def rateP (l : List UInt8) : PE := if (rdP l 1000000000000 rateU).pe = 0 ∧ (rdP l 1000000000000 rateU).pv = 0 then ⟨0, 1⟩ else rdP l 1000000000000 rateU
def timeP (l : List UInt8) : PE := rdP l 1000000000 timeU
theorem suf_len {l p : List UInt8} (h : Lib.hasSuffix l p = true) : p.length ≤ l.length := (List.isSuffixOf_iff_suffix.1 h).length_le
theorem suf_trim {l p : List UInt8} (h : Lib.hasSuffix l p = true) : Lib.trimSuffix l p = l.take (l.length - p.length) := by unfold Lib.trimSuffix; rw [if_pos h]
theorem suf_excl {l p q : List UInt8} (h : Lib.hasSuffix l p = true) (hl : p.length = q.length) (hne : p ≠ q) : ¬ Lib.hasSuffix l q = true := by
  intro h2
  have e1 := List.suffix_iff_eq_drop.1 (List.isSuffixOf_iff_suffix.1 h)
  have e2 := List.suffix_iff_eq_drop.1 (List.isSuffixOf_iff_suffix.1 h2)
  rw [hl] at e1; exact hne (e1.trans e2.symm)
theorem suf_tail {l p : List UInt8} {b : UInt8} (h : Lib.hasSuffix l (b :: p) = true) : Lib.hasSuffix l p = true :=
  List.isSuffixOf_iff_suffix.2 ((List.suffix_cons b p).trans (List.isSuffixOf_iff_suffix.1 h))
theorem suf_of (l p : List UInt8) (h : p.length ≤ l.length) : (bs ((l.take l.length).drop ((l.length : Int) - (p.length : Int)).toNat) == bs p) = Lib.hasSuffix l p := by
  rw [bs_beq, List.take_length, show ((l.length : Int) - (p.length : Int)).toNat = l.length - p.length by omega, Bool.eq_iff_iff, beq_iff_eq]
  unfold Lib.hasSuffix
  rw [List.isSuffixOf_iff_suffix, List.suffix_iff_eq_drop]; exact eq_comm
theorem rdP_at {l : List UInt8} {m : Int} {us : List Un} {k : Nat} {x : Un} (hx : us[k]? = some x) : rdP l m (us.drop k) = if Lib.hasSuffix l x.uw = true then rd1 (Lib.trimSuffix l x.uw) x.ut m else rdP l m (us.drop (k + 1)) := by
  obtain ⟨hlt, rfl⟩ := List.getElem?_eq_some_iff.1 hx
  rw [List.drop_eq_getElem_cons hlt, rdP]
theorem trim_len (l p : List UInt8) : (Lib.trimSuffix l p).length ≤ l.length := by unfold Lib.trimSuffix; split <;> simp <;> omega
theorem mul_le_div {x m t : Int} (hm : 0 ≤ m) (ht : 1 ≤ t) (hx : 0 ≤ x) (h : x ≤ m / t) : 0 ≤ x * t ∧ x * t ≤ m := by
  have h1 := Int.ediv_mul_le m (b := t) (by omega)
  exact ⟨Int.mul_nonneg hx (by omega), Int.le_trans (Int.mul_le_mul_of_nonneg_right h (by omega)) h1⟩
theorem rd1_rng (h : List UInt8) {t m : Int} (hm : 0 ≤ m) (ht : 1 ≤ t) : 0 ≤ (rd1 h t m).pv ∧ (rd1 h t m).pv ≤ m := by
  have hn := num_rng (l := h) hm
  unfold rd1; split
  · split
    · exact ⟨by simp, by simpa using hm⟩
    · exact mul_le_div hm ht hn.1 (by omega)
  · exact ⟨by simp, by simpa using hm⟩
theorem rdP_rng (l : List UInt8) {m : Int} (hm : 0 ≤ m) : ∀ {us : List Un}, (∀ u ∈ us, 1 ≤ u.ut) → 0 ≤ (rdP l m us).pv ∧ (rdP l m us).pv ≤ m
  | [], _ => ⟨by simp [rdP], by simpa [rdP] using hm⟩
  | u :: us, h => by
    rw [rdP]; split
    · exact rd1_rng _ hm (h u (by simp))
    · exact rdP_rng l hm fun v hv => h v (by simp [hv])
theorem rd1_err (h : List UInt8) (t m : Int) : (rd1 h t m).pe ≠ 0 → (rd1 h t m).pv = 0 := by
  unfold rd1; split
  · split <;> simp
  · simp
theorem rdP_err (l : List UInt8) (m : Int) : ∀ us : List Un, (rdP l m us).pe ≠ 0 → (rdP l m us).pv = 0
  | [] => by simp [rdP]
  | u :: us => by
    rw [rdP]; split
    · exact rd1_err _ _ _
    · exact rdP_err l m us
theorem rateU_ok : ∀ u ∈ rateU, 1 ≤ u.ut ∧ u.ut < 18446744073709551616 := by decide
theorem timeU_ok : ∀ u ∈ timeU, 1 ≤ u.ut ∧ u.ut < 18446744073709551616 := by decide
theorem rateP_rng (l : List UInt8) : 0 ≤ (rateP l).pv ∧ (rateP l).pv ≤ 1000000000000 := by
  unfold rateP; split
  · simp
  · exact rdP_rng l (by decide) fun u hu => (rateU_ok u hu).1
theorem rateP_err (l : List UInt8) : (rateP l).pe ≠ 0 → (rateP l).pv = 0 := by
  unfold rateP; split
  · simp
  · exact rdP_err _ _ _
theorem rateP_pos (l : List UInt8) : (rateP l).pe = 0 → 1 ≤ (rateP l).pv := by
  have h := rateP_rng l
  unfold rateP at h ⊢; split
  · simp
  · rename_i h1; intro h2; rw [if_neg h1] at h; omega
theorem timeP_rng (l : List UInt8) : 0 ≤ (timeP l).pv ∧ (timeP l).pv ≤ 1000000000 := rdP_rng l (by decide) fun u hu => (timeU_ok u hu).1
theorem timeP_err (l : List UInt8) : (timeP l).pe ≠ 0 → (timeP l).pv = 0 := rdP_err _ _ _
/-- told shortest -/
def rateT (v : Int) : List UInt8 := if v < 1 ∨ v > 1000000000000 then [] else
  if v % 1000000000 = 0 then tens (v / 1000000000) ++ [103, 98, 105, 116] else if v % 1000000 = 0 then tens (v / 1000000) ++ [109, 98, 105, 116] else
  if v % 1000 = 0 then tens (v / 1000) ++ [107, 98, 105, 116] else tens v ++ [98, 105, 116]
def timeT (v : Int) : List UInt8 := if v > 1000000000 then [] else
  if v % 1000000 = 0 then tens (v / 1000000) ++ [115] else if v % 1000 = 0 then tens (v / 1000) ++ [109, 115] else tens v ++ [117, 115]
/-- may a number, and a clock, be? -/
def mayB (n a b h : Int) : Bool := decide (n ≥ a) && decide (n ≤ b) && decide (h ≥ 1) && decide (h ≤ 1000000000)
def witP (n e m : Int) : PE := if e ≠ 0 ∨ n > m then ⟨0, 20⟩ else ⟨n, 0⟩
def slP (n h : Int) : PE := if mayB n 1 1000000000000 h = true then witP (nrV (n * 8192 / h)) (nrE (n * 8192 / h)) 4294967295 else ⟨0, 1⟩
def tkP (n h : Int) : PE := if mayB n 0 1000000000 h = true then witP (nrV (cdI (n * h) 1000000)) (nrE (cdI (n * h) 1000000)) 1048576 else ⟨0, 1⟩
def byP (n h : Int) : PE := if mayB n 1 1000000000000 h = true then witP (nrV (cdI (8 * h) n)) (nrE (cdI (8 * h) n)) 65536 else ⟨0, 1⟩
theorem may_iff {n a b h : Int} : mayB n a b h = true ↔ (n ≥ a ∧ n ≤ b) ∧ h ≥ 1 ∧ h ≤ 1000000000 := by simp [mayB, and_assoc]
theorem wit_rng {n e m : Int} (hn : 0 ≤ n) (hm : 0 ≤ m) : 0 ≤ (witP n e m).pv ∧ (witP n e m).pv ≤ m := by
  unfold witP; split
  · exact ⟨by simp, by simpa using hm⟩
  · exact ⟨by simpa using hn, by simp; omega⟩
theorem nrV_nn {v : Int} (h : 0 ≤ v) : 0 ≤ nrV v := by unfold nrV; split <;> omega
theorem cd_nn {a b : Int} (ha : 0 ≤ a) (hb : 0 < b) : 0 ≤ cdI a b := by
  have := Int.ediv_nonneg ha (Int.le_of_lt hb); unfold cdI; split <;> omega
theorem slP_rng (n h : Int) : 0 ≤ (slP n h).pv ∧ (slP n h).pv ≤ 4294967295 := by
  unfold slP; split
  · rename_i hm; obtain ⟨⟨h1, h2⟩, h3, h4⟩ := may_iff.1 hm
    exact wit_rng (nrV_nn (Int.ediv_nonneg (by omega) (by omega))) (by decide)
  · simp
theorem tkP_rng (n h : Int) : 0 ≤ (tkP n h).pv ∧ (tkP n h).pv ≤ 1048576 := by
  unfold tkP; split
  · rename_i hm; obtain ⟨⟨h1, h2⟩, h3, h4⟩ := may_iff.1 hm
    exact wit_rng (nrV_nn (cd_nn (Int.mul_nonneg (by omega) (by omega)) (by decide))) (by decide)
  · simp
theorem byP_rng (n h : Int) : 0 ≤ (byP n h).pv ∧ (byP n h).pv ≤ 65536 := by
  unfold byP; split
  · rename_i hm; obtain ⟨⟨h1, h2⟩, h3, h4⟩ := may_iff.1 hm
    exact wit_rng (nrV_nn (cd_nn (by omega) (by omega))) (by decide)
  · simp
theorem wit_err (n e m : Int) : (witP n e m).pe ≠ 0 → (witP n e m).pv = 0 := by unfold witP; split <;> simp
/-- of a text -/
def slS (l : List UInt8) (h : Int) : PE := if (rateP l).pe ≠ 0 then ⟨0, (rateP l).pe⟩ else slP (rateP l).pv h
def tkS (l : List UInt8) (h : Int) : PE := if (timeP l).pe ≠ 0 then ⟨0, (timeP l).pe⟩ else tkP (timeP l).pv h
theorem slS_rng (l : List UInt8) (h : Int) : 0 ≤ (slS l h).pv ∧ (slS l h).pv ≤ 4294967295 := by unfold slS; split; simp; exact slP_rng _ _
theorem tkS_rng (l : List UInt8) (h : Int) : 0 ≤ (tkS l h).pv ∧ (tkS l h).pv ≤ 1048576 := by unfold tkS; split; simp; exact tkP_rng _ _
def crP (l : List UInt8) (h : Int) : CE :=
  if h < 1 ∨ h > 1000000000 then ⟨0, 0, 0, 1⟩ else if l = [45] then ⟨0, 0, 0, 0⟩ else
  if ((words 32 l).length : Int) ≠ 1 ∧ ((words 32 l).length : Int) ≠ 3 then ⟨0, 0, 0, 4⟩ else
  if (slS ((words 32 l).getD 0 []) h).pe ≠ 0 then ⟨0, 0, 0, (slS ((words 32 l).getD 0 []) h).pe⟩ else
  if ((words 32 l).length : Int) = 1 then ⟨(slS ((words 32 l).getD 0 []) h).pv, 0, (slS ((words 32 l).getD 0 []) h).pv, 0⟩ else
  if (tkS ((words 32 l).getD 1 []) h).pe ≠ 0 then ⟨0, 0, 0, (tkS ((words 32 l).getD 1 []) h).pe⟩ else
  if (slS ((words 32 l).getD 2 []) h).pe ≠ 0 then ⟨0, 0, 0, (slS ((words 32 l).getD 2 []) h).pe⟩ else
  if ofC (slS ((words 32 l).getD 0 []) h).pv (tkS ((words 32 l).getD 1 []) h).pv (slS ((words 32 l).getD 2 []) h).pv = 0 then ⟨0, 0, 0, 21⟩ else
  ⟨(slS ((words 32 l).getD 0 []) h).pv, (tkS ((words 32 l).getD 1 []) h).pv, (slS ((words 32 l).getD 2 []) h).pv, 0⟩
theorem ofC_lin {a : Int} (h : 0 ≤ a ∧ a ≤ 4294967295) : ofC a 0 a ≠ 0 := by unfold ofC; grind
theorem gdL {α : Type} {l : List α} {i : Nat} {d : α} (h : i < l.length) : l[i]? = some (l.getD i d) := by simp [List.getD, List.getElem?_eq_getElem h]
/-- words behind the beginning of one -/
def glue (m : List UInt8) : List (List UInt8) → List (List UInt8)
  | [] => [m]
  | x :: xs => (m ++ x) :: xs
theorem glue_nil (c : UInt8) (l : List UInt8) : glue [] (words c l) = words c l := by
  cases h : words c l with
  | nil => exact absurd h (words_ne c l)
  | cons x xs => rfl
theorem cut1 {l : List UInt8} {k : Nat} (h : k < l.length) : (l.take (k + 1)).drop k = [l.getD k 0] := by
  rw [List.take_add_one, gdS h]; simp [List.drop_append, Nat.min_eq_left (Nat.le_of_lt h)]
theorem words_sp {c : UInt8} {l m : List UInt8} {k : Nat} (h : k < l.length) (hb : l.getD k 0 = c) : glue m (words c (l.drop k)) = m :: words c (l.drop (k + 1)) := by
  have e : l[k] = c := by have := gdS h; rw [List.getElem?_eq_getElem h] at this; rw [← hb]; exact Option.some.inj this
  rw [List.drop_eq_getElem_cons h, words, if_pos e]; simp [glue]
theorem words_no {c : UInt8} {l m : List UInt8} {k : Nat} (h : k < l.length) (hb : ¬ l.getD k 0 = c) : glue m (words c (l.drop k)) = glue (m ++ [l.getD k 0]) (words c (l.drop (k + 1))) := by
  have e : l[k] = l.getD k 0 := by have := gdS h; rw [List.getElem?_eq_getElem h] at this; exact Option.some.inj this
  rw [List.drop_eq_getElem_cons h, words, if_neg (by rw [e]; exact hb), e]
  cases hw : words c (l.drop (k + 1)) with
  | nil => exact absurd hw (words_ne _ _)
  | cons x xs => simp [glue]

set_option maxHeartbeats 4000000 in
set_option maxRecDepth 100000 in
theorem rates_spec (w : World) (hs : HS w (feet []) [] w) :
    Calls Tryd.prog 29 #[] w fun e w' => ∃ zz, e = .returned ((fun (zz : (Option Addr) × Nat) => match zz with | (au', cu') => (vS au' ([(⟨[103, 98, 105, 116], 1000000000⟩ : Un), (⟨[109, 98, 105, 116], 1000000⟩ : Un), (⟨[107, 98, 105, 116], 1000⟩ : Un), (⟨[98, 105, 116], 1⟩ : Un)]) cu')) zz) ∧ (fun (zz : (Option Addr) × Nat) => match zz with | (au', cu') => True) zz ∧ Turn [] ((fun (zz : (Option Addr) × Nat) => match zz with | (au', cu') => [sUn au' ([(⟨[103, 98, 105, 116], 1000000000⟩ : Un), (⟨[109, 98, 105, 116], 1000000⟩ : Un), (⟨[107, 98, 105, 116], 1000⟩ : Un), (⟨[98, 105, 116], 1⟩ : Un)]) cu']) zz) w w' := by
  refine calls_of (args := []) (penv []) (feet []) [] Tryd.func29 rfl rfl (look_penv _) hs ?_
  refine A.norm [] [] trivial rfl ?_
  refine A.seq (A.region (A.goA [.p] [(0, e_)] [] T0 (by kernel_rfl) trivial ?_))
  refine A.tn (A.seq (A.region (A.goP [.p, .p, .p, .p] [(0, e_), (1, (.agg #[s_ (bs [103, 98, 105, 116]), u_ 1000000000])), (2, (.agg #[s_ (bs [109, 98, 105, 116]), u_ 1000000])), (3, (.agg #[s_ (bs [107, 98, 105, 116]), u_ 1000])), (4, (.agg #[s_ (bs [98, 105, 116]), u_ 1]))] [] T0 (by kernel_rfl) trivial ?_)))
  refine A.cons (A.buildSlice 5 (e := 57) [s_ (bs [103, 98, 105, 116]), u_ 1000000000, s_ (bs [109, 98, 105, 116]), u_ 1000000, s_ (bs [107, 98, 105, 116]), u_ 1000, s_ (bs [98, 105, 116]), u_ 1] (by kernel_rfl) rfl (fun _ => by kernel_rfl) (fun b1 => [blk b1 [s_ (bs [103, 98, 105, 116]), u_ 1000000000, s_ (bs [109, 98, 105, 116]), u_ 1000000, s_ (bs [107, 98, 105, 116]), u_ 1000, s_ (bs [98, 105, 116]), u_ 1] 57]) (fun _ => rfl) ?_)
  intro b1
  refine A.goA [.p] [(0, (.slice (some ⟨b1, 0, none⟩) 4 4))] [] T0 (by kernel_rfl) trivial ?_
  refine A.tn (A.ret (A.ownBlk 0 (b := b1) 4 2 [sUn (some ⟨b1, 0, none⟩) ([(⟨[103, 98, 105, 116], 1000000000⟩ : Un), (⟨[109, 98, 105, 116], 1000000⟩ : Un), (⟨[107, 98, 105, 116], 1000⟩ : Un), (⟨[98, 105, 116], 1⟩ : Un)]) 4] rfl rfl (by decide) rfl ?_))
  refine A.postK [0] [(.slice (some ⟨b1, 0, none⟩) 4 4)] (fun aa ww rr ss => ⟨rv_tmp rr rfl, trivial⟩) ((some ⟨b1, 0, none⟩), 4) ?_ ?_ (by kernel_rfl)
  · rfl
  · trivial

set_option maxHeartbeats 4000000 in
set_option maxRecDepth 100000 in
theorem times_spec (w : World) (hs : HS w (feet []) [] w) :
    Calls Tryd.prog 30 #[] w fun e w' => ∃ zz, e = .returned ((fun (zz : (Option Addr) × Nat) => match zz with | (au', cu') => (vS au' ([(⟨[109, 115], 1000⟩ : Un), (⟨[117, 115], 1⟩ : Un), (⟨[115], 1000000⟩ : Un)]) cu')) zz) ∧ (fun (zz : (Option Addr) × Nat) => match zz with | (au', cu') => True) zz ∧ Turn [] ((fun (zz : (Option Addr) × Nat) => match zz with | (au', cu') => [sUn au' ([(⟨[109, 115], 1000⟩ : Un), (⟨[117, 115], 1⟩ : Un), (⟨[115], 1000000⟩ : Un)]) cu']) zz) w w' := by
  refine calls_of (args := []) (penv []) (feet []) [] Tryd.func30 rfl rfl (look_penv _) hs ?_
  refine A.norm [] [] trivial rfl ?_
  refine A.seq (A.region (A.goA [.p] [(0, e_)] [] T0 (by kernel_rfl) trivial ?_))
  refine A.tn (A.seq (A.region (A.goP [.p, .p, .p] [(0, e_), (1, (.agg #[s_ (bs [109, 115]), u_ 1000])), (2, (.agg #[s_ (bs [117, 115]), u_ 1])), (3, (.agg #[s_ (bs [115]), u_ 1000000]))] [] T0 (by kernel_rfl) trivial ?_)))
  refine A.cons (A.buildSlice 4 (e := 57) [s_ (bs [109, 115]), u_ 1000, s_ (bs [117, 115]), u_ 1, s_ (bs [115]), u_ 1000000] (by kernel_rfl) rfl (fun _ => by kernel_rfl) (fun b1 => [blk b1 [s_ (bs [109, 115]), u_ 1000, s_ (bs [117, 115]), u_ 1, s_ (bs [115]), u_ 1000000] 57]) (fun _ => rfl) ?_)
  intro b1
  refine A.goA [.p] [(0, (.slice (some ⟨b1, 0, none⟩) 3 3))] [] T0 (by kernel_rfl) trivial ?_
  refine A.tn (A.ret (A.ownBlk 0 (b := b1) 3 2 [sUn (some ⟨b1, 0, none⟩) ([(⟨[109, 115], 1000⟩ : Un), (⟨[117, 115], 1⟩ : Un), (⟨[115], 1000000⟩ : Un)]) 3] rfl rfl (by decide) rfl ?_))
  refine A.postK [0] [(.slice (some ⟨b1, 0, none⟩) 3 3)] (fun aa ww rr ss => ⟨rv_tmp rr rfl, trivial⟩) ((some ⟨b1, 0, none⟩), 3) ?_ ?_ (by kernel_rfl)
  · rfl
  · trivial

set_option maxHeartbeats 4000000 in
set_option maxRecDepth 100000 in
theorem rread_spec (l : List UInt8) (au : Option Addr) (us : List Un) (cu : Nat) (m : Int) (hl : l.length ≤ 1000) (hm : 0 ≤ m ∧ m < 18446744073709551616) (hu : ∀ u ∈ us, 1 ≤ u.ut ∧ u.ut < 18446744073709551616) (hus : us.length ≤ 1000) (w : World) (r0 : arrAt w au (V.flat encUn us)) :
    Calls Tryd.prog 28 #[s_ (bs l), vS au us cu, u_ m] w fun e w' => e = .returned (.tuple #[u_ ((rdP l m us).pv), i_ ((rdP l m us).pe)]) ∧ Fr [] w w' := by
  refine calls_of (args := [s_ (bs l), vS au us cu, u_ m]) (penv [s_ (bs l), vS au us cu, u_ m]) [] [] Tryd.func28 rfl rfl (look_penv _) (HS.nil w) ?_
  refine A.norm [(0, s_ (bs l)), (1, vS au us cu), (2, u_ m)] [] (by exact ⟨rfl, rfl, rfl, trivial⟩) rfl ?_
  refine A.seq (A.region (A.goA [.p, .p] [(0, s_ (bs l)), (1, vS au us cu), (2, u_ m), (6, u_ 0), (7, i_ 0)] [] T0 (by kernel_rfl) trivial ?_))
  refine A.tn (A.seq (A.seq (A.region (A.goA [.p, .p, .p] [(0, s_ (bs l)), (1, vS au us cu), (2, u_ m), (6, u_ 0), (7, i_ 0), (14, vS au us cu), (15, c_ us.length), (16, i_ 0)] [] T0 (by kernel_rfl) trivial ?_))))
  refine A.tn (A.block (A.loop (fun (zz : Nat) => match zz with | k => [(0, s_ (bs l)), (2, u_ m), (14, vS au us cu), (15, c_ us.length), (16, c_ k)]) (fun (zz : Nat) => match zz with | k => []) (fun (zz : Nat) => match zz with | k => (k ≤ us.length) ∧ (rdP l m us = rdP l m (us.drop k))) (fun (zz : Nat) => match zz with | k => us.length - k) (0 : Nat) ⟨(by omega), (by rfl)⟩ ?_ ?_))
  · exact A.hereK [] (by exact ⟨rfl, rfl, rfl, rfl, rfl, trivial⟩) (by kernel_rfl)
  · rintro k ⟨hk, hd⟩
    refine A.norm [(0, s_ (bs l)), (2, u_ m), (14, vS au us cu), (15, c_ us.length), (16, c_ k)] [] (by exact ⟨rfl, rfl, rfl, rfl, rfl, trivial⟩) rfl ?_
    refine A.seq (A.region (A.goA [.p] [(0, s_ (bs l)), (2, u_ m), (14, vS au us cu), (15, c_ us.length), (16, c_ k), (17, b_ (decide ((k : Int) < (us.length : Int))))] [] T0 (by kernel_rfl) trivial ?_))
    refine A.tn (A.seq (A.cond (E := decide ((k : Int) < (us.length : Int))) rfl (fun e1 => ?_) (fun e1 => ?_)))
    · skip
      have p1 := of_decide_eq_true e1
      refine A.skip (A.tn (A.seq (A.block (A.seq (A.region (A.goP [.ix] [(0, s_ (bs l)), (2, u_ m), (14, vS au us cu), (15, c_ us.length), (16, c_ k), (17, b_ (decide ((k : Int) < (us.length : Int)))), (18, (.pointer (some ((at0 au).add (k * 2)))))] [] (fun κ => κ.ix au us.length (k : Int) ∧ True) (by kernel_rfl) ⟨(ixOf encUn_len (by decide) (rd_old r0 (by simp [feet])) (by first | omega | (simp; omega) | (simp; done))), trivial⟩ ?_))))))
      obtain ⟨x1, hx1⟩ : ∃ x, (us)[k]? = some x := ⟨_, List.getElem?_eq_getElem (by omega)⟩
      refine A.goA1 [.rd [s_ (bs x1.uw), u_ x1.ut], .al, .st 0] [0, 2, 14, 15, 16, 17, 9] (fun b2 => [(0, s_ (bs l)), (2, u_ m), (14, vS au us cu), (15, c_ us.length), (16, c_ k), (17, b_ (decide ((k : Int) < (us.length : Int)))), (9, p_ b2)]) (fun b2 => [blk b2 [s_ (bs x1.uw), u_ x1.ut] 57]) (fun b2 => [b2]) (fun _ => (fun κ => κ.rd ((at0 au).add (k * 2)) [s_ (bs x1.uw), u_ x1.ut] ∧ True)) (fun _ => by kernel_rfl) (fun b2 => ⟨(reads_at0 (vs := [s_ (bs x1.uw), u_ x1.ut]) encUn_len (rd_old r0 (by simp [feet])) hx1 (Nat.le_of_ble_eq_true rfl) rfl), trivial⟩) ?_
      intro b2
      refine A.tn (A.seq ?_)
      have hur := hu _ (List.mem_of_getElem? (by assumption)); have htl := trim_len l
      refine A.region (A.goA [.p, .p, .ld 0, .cq (.tuple #[s_ (bs (Lib.trimSuffix l x1.uw)), b_ (Lib.hasSuffix l x1.uw)]), .p, .p, .p, .p, .p] [(0, s_ (bs l)), (2, u_ m), (14, vS au us cu), (15, c_ us.length), (16, c_ k), (17, b_ (decide ((k : Int) < (us.length : Int)))), (9, p_ b2), (10, s_ (bs (Lib.trimSuffix l x1.uw))), (11, b_ (Lib.hasSuffix l x1.uw))] [b2] (fun κ => κ.call 52 [s_ (bs l), s_ (bs x1.uw)] (.tuple #[s_ (bs (Lib.trimSuffix l x1.uw)), b_ (Lib.hasSuffix l x1.uw)]) ∧ True) (by kernel_rfl) ⟨(fun ww ss => cut_spec l x1.uw (by first | assumption | omega | exact Nat.le_trans (trim_len _ _) (by omega)) ww), trivial⟩ ?_)
      refine A.tn (A.seq (A.seq (A.region (A.goA [.p, .p] [(0, s_ (bs l)), (2, u_ m), (14, vS au us cu), (15, c_ us.length), (16, c_ k), (17, b_ (decide ((k : Int) < (us.length : Int)))), (9, p_ b2), (10, s_ (bs (Lib.trimSuffix l x1.uw))), (11, b_ (Lib.hasSuffix l x1.uw)), (28, b_ (!(Lib.hasSuffix l x1.uw)))] [] T0 (by kernel_rfl) trivial ?_))))
      refine A.tn (A.cond (E := !(Lib.hasSuffix l x1.uw)) rfl (fun e2 => ?_) (fun e2 => ?_))
      · skip
        have p2 := e2; try simp only [nrm, bs_inj, Bool.or_eq_true, Bool.or_eq_false_iff, Bool.and_eq_true, Bool.and_eq_false_imp, decide_eq_true_eq, decide_eq_false_iff_not] at p2
        refine A.exit (A.te (A.bh (A.tn (A.region (A.goA [.w ((k : Int) + 1), .p] [(0, s_ (bs l)), (2, u_ m), (14, vS au us cu), (15, c_ us.length), (16, i_ ((k : Int) + 1)), (17, b_ (decide ((k : Int) < (us.length : Int)))), (9, p_ b2), (10, s_ (bs (Lib.trimSuffix l x1.uw))), (11, b_ (Lib.hasSuffix l x1.uw)), (28, b_ (!(Lib.hasSuffix l x1.uw)))] [] (fun κ => (IntKind.i64.wrap ((k : Int) + 1) = ((k : Int) + 1)) ∧ True) (by kernel_rfl) ⟨(wrap_i64 (e := (k : Int) + 1) (by constructor <;> omega)), trivial⟩ ?_)))))
        refine A.tn (A.next (k + 1) ⟨(by omega), (by (rw [hd, rdP_at (by assumption), if_neg (by simp_all)]))⟩ (by (show us.length - (k + 1) < us.length - k; omega)) ?_)
        exact A.hereK [] (by exact ⟨rfl, rfl, rfl, rfl, rfl, trivial⟩) (by kernel_rfl)
      · skip
        have p2 := e2; try simp only [nrm, bs_inj, Bool.or_eq_true, Bool.or_eq_false_iff, Bool.and_eq_true, Bool.and_eq_false_imp, decide_eq_true_eq, decide_eq_false_iff_not] at p2
        refine A.skip (A.tn (A.seq (A.region (A.goA [.p, .p, .cq (.tuple #[u_ (numV (Lib.trimSuffix l x1.uw) m), i_ (numE (Lib.trimSuffix l x1.uw) m)]), .p, .p, .p, .p, .p] [(0, s_ (bs l)), (2, u_ m), (14, vS au us cu), (15, c_ us.length), (16, c_ k), (17, b_ (decide ((k : Int) < (us.length : Int)))), (9, p_ b2), (10, s_ (bs (Lib.trimSuffix l x1.uw))), (11, b_ (Lib.hasSuffix l x1.uw)), (28, b_ (!(Lib.hasSuffix l x1.uw))), (12, u_ (numV (Lib.trimSuffix l x1.uw) m)), (13, i_ (numE (Lib.trimSuffix l x1.uw) m))] [] (fun κ => κ.call 53 [s_ (bs (Lib.trimSuffix l x1.uw)), u_ m] (.tuple #[u_ (numV (Lib.trimSuffix l x1.uw) m), i_ (numE (Lib.trimSuffix l x1.uw) m)]) ∧ True) (by kernel_rfl) ⟨(fun ww ss => inum_spec (Lib.trimSuffix l x1.uw) m (by first | assumption | omega | exact Nat.le_trans (trim_len _ _) (by omega)) ww), trivial⟩ ?_))))
        refine A.tn (A.seq (A.seq (A.region (A.goA [.p, .p] [(0, s_ (bs l)), (2, u_ m), (14, vS au us cu), (15, c_ us.length), (16, c_ k), (17, b_ (decide ((k : Int) < (us.length : Int)))), (9, p_ b2), (10, s_ (bs (Lib.trimSuffix l x1.uw))), (11, b_ (Lib.hasSuffix l x1.uw)), (28, b_ (!(Lib.hasSuffix l x1.uw))), (12, u_ (numV (Lib.trimSuffix l x1.uw) m)), (13, i_ (numE (Lib.trimSuffix l x1.uw) m)), (36, b_ ((numE (Lib.trimSuffix l x1.uw) m) != 0))] [] T0 (by kernel_rfl) trivial ?_))))
        refine A.tn (A.cond (E := (numE (Lib.trimSuffix l x1.uw) m) != 0) rfl (fun e3 => ?_) (fun e3 => ?_))
        · skip
          have p3 := e3; try simp only [nrm, bs_inj, Bool.or_eq_true, Bool.or_eq_false_iff, Bool.and_eq_true, Bool.and_eq_false_imp, decide_eq_true_eq, decide_eq_false_iff_not] at p3
          refine A.seq (A.region (A.goA [.p, .p, .p] [(0, s_ (bs l)), (2, u_ m), (14, vS au us cu), (15, c_ us.length), (16, c_ k), (17, b_ (decide ((k : Int) < (us.length : Int)))), (9, p_ b2), (10, s_ (bs (Lib.trimSuffix l x1.uw))), (11, b_ (Lib.hasSuffix l x1.uw)), (28, b_ (!(Lib.hasSuffix l x1.uw))), (12, u_ (numV (Lib.trimSuffix l x1.uw) m)), (13, i_ (numE (Lib.trimSuffix l x1.uw) m)), (36, b_ ((numE (Lib.trimSuffix l x1.uw) m) != 0)), (6, u_ 0), (7, i_ (numE (Lib.trimSuffix l x1.uw) m))] [] T0 (by kernel_rfl) trivial ?_))
          refine A.tn (A.ret (A.tr (A.br (A.tr (A.tr (A.br (A.tr (A.postQ [u_ 0, i_ (numE (Lib.trimSuffix l x1.uw) m)] (fun aa ww rr ss => ⟨rv_tmp rr rfl, rv_tmp rr rfl, trivial⟩) ?_))))))))
          show ((.tuple #[u_ 0, i_ (numE (Lib.trimSuffix l x1.uw) m)]) : Value) = (.tuple #[u_ ((rdP l m us).pv), i_ ((rdP l m us).pe)])
          rw [hd]; first | (rw [show us.drop k = [] from List.drop_eq_nil_of_le (by omega)]; rfl) | (rw [rdP_at (by assumption), if_pos (by simp_all)]; unfold rd1; first | (rw [if_neg (by simp_all)]; done) | (rw [if_pos (by simp_all), if_pos (by omega)]; done) | (rw [if_pos (by simp_all), if_neg (by omega)]; done))
        · skip
          have p3 := e3; try simp only [nrm, bs_inj, Bool.or_eq_true, Bool.or_eq_false_iff, Bool.and_eq_true, Bool.and_eq_false_imp, decide_eq_true_eq, decide_eq_false_iff_not] at p3
          refine A.skip (A.tn (A.seq (A.seq (A.region (A.goP [.p, .p, .p, .ld 0] [(0, s_ (bs l)), (2, u_ m), (14, vS au us cu), (15, c_ us.length), (16, c_ k), (17, b_ (decide ((k : Int) < (us.length : Int)))), (9, p_ b2), (10, s_ (bs (Lib.trimSuffix l x1.uw))), (11, b_ (Lib.hasSuffix l x1.uw)), (28, b_ (!(Lib.hasSuffix l x1.uw))), (12, u_ (numV (Lib.trimSuffix l x1.uw) m)), (13, i_ (numE (Lib.trimSuffix l x1.uw) m)), (36, b_ ((numE (Lib.trimSuffix l x1.uw) m) != 0)), (38, u_ (numV (Lib.trimSuffix l x1.uw) m)), (39, u_ m), (41, u_ x1.ut)] [b2] T0 (by kernel_rfl) trivial ?_)))))
          refine A.cons (A.q (some 42) (u_ (m / x1.ut)) (by kernel_rfl) (qt_as (congrArg (Value.int .u64) (u_tdivV (by omega) (by omega))) (qt_quo rfl rfl rfl (by first | omega | (simp; omega) | (simp; done)))) ?_)
          refine A.goA [.p] [(0, s_ (bs l)), (2, u_ m), (14, vS au us cu), (15, c_ us.length), (16, c_ k), (17, b_ (decide ((k : Int) < (us.length : Int)))), (9, p_ b2), (10, s_ (bs (Lib.trimSuffix l x1.uw))), (11, b_ (Lib.hasSuffix l x1.uw)), (28, b_ (!(Lib.hasSuffix l x1.uw))), (12, u_ (numV (Lib.trimSuffix l x1.uw) m)), (13, i_ (numE (Lib.trimSuffix l x1.uw) m)), (36, b_ ((numE (Lib.trimSuffix l x1.uw) m) != 0)), (43, b_ (decide ((numV (Lib.trimSuffix l x1.uw) m) > (m / x1.ut))))] [] T0 (by kernel_rfl) trivial ?_
          refine A.tn (A.cond (E := decide ((numV (Lib.trimSuffix l x1.uw) m) > (m / x1.ut))) rfl (fun e4 => ?_) (fun e4 => ?_))
          · skip
            have p4 := of_decide_eq_true e4
            refine A.seq (A.region (A.goA [.p, .p] [(0, s_ (bs l)), (2, u_ m), (14, vS au us cu), (15, c_ us.length), (16, c_ k), (17, b_ (decide ((k : Int) < (us.length : Int)))), (9, p_ b2), (10, s_ (bs (Lib.trimSuffix l x1.uw))), (11, b_ (Lib.hasSuffix l x1.uw)), (28, b_ (!(Lib.hasSuffix l x1.uw))), (12, u_ (numV (Lib.trimSuffix l x1.uw) m)), (13, i_ (numE (Lib.trimSuffix l x1.uw) m)), (36, b_ ((numE (Lib.trimSuffix l x1.uw) m) != 0)), (43, b_ (decide ((numV (Lib.trimSuffix l x1.uw) m) > (m / x1.ut)))), (6, u_ 0), (7, i_ 20)] [] T0 (by kernel_rfl) trivial ?_))
            refine A.tn (A.ret (A.tr (A.br (A.tr (A.tr (A.br (A.tr (A.postQ [u_ 0, i_ 20] (fun aa ww rr ss => ⟨rv_tmp rr rfl, rv_tmp rr rfl, trivial⟩) ?_))))))))
            show ((.tuple #[u_ 0, i_ 20]) : Value) = (.tuple #[u_ ((rdP l m us).pv), i_ ((rdP l m us).pe)])
            rw [hd]; first | (rw [show us.drop k = [] from List.drop_eq_nil_of_le (by omega)]; rfl) | (rw [rdP_at (by assumption), if_pos (by simp_all)]; unfold rd1; first | (rw [if_neg (by simp_all)]; done) | (rw [if_pos (by simp_all), if_pos (by omega)]; done) | (rw [if_pos (by simp_all), if_neg (by omega)]; done))
          · skip
            have p4 := of_decide_eq_false e4
            refine A.skip (A.tn (A.seq ?_))
            have hmx := mul_le_div (x := numV (Lib.trimSuffix l x1.uw) m) hm.1 hur.1 (num_rng hm.1).1 (by omega)
            refine A.region (A.goA [.p, .p, .ld 0, .w ((numV (Lib.trimSuffix l x1.uw) m) * x1.ut), .p, .p] [(0, s_ (bs l)), (2, u_ m), (14, vS au us cu), (15, c_ us.length), (16, c_ k), (17, b_ (decide ((k : Int) < (us.length : Int)))), (9, p_ b2), (10, s_ (bs (Lib.trimSuffix l x1.uw))), (11, b_ (Lib.hasSuffix l x1.uw)), (28, b_ (!(Lib.hasSuffix l x1.uw))), (12, u_ (numV (Lib.trimSuffix l x1.uw) m)), (13, i_ (numE (Lib.trimSuffix l x1.uw) m)), (36, b_ ((numE (Lib.trimSuffix l x1.uw) m) != 0)), (43, b_ (decide ((numV (Lib.trimSuffix l x1.uw) m) > (m / x1.ut)))), (6, u_ ((numV (Lib.trimSuffix l x1.uw) m) * x1.ut)), (7, i_ 0)] [b2] (fun κ => (IntKind.u64.wrap ((numV (Lib.trimSuffix l x1.uw) m) * x1.ut) = ((numV (Lib.trimSuffix l x1.uw) m) * x1.ut)) ∧ True) (by kernel_rfl) ⟨(wrap_u64 (e := (numV (Lib.trimSuffix l x1.uw) m) * x1.ut) (by constructor <;> omega)), trivial⟩ ?_)
            refine A.tn (A.ret (A.br (A.tr (A.tr (A.br (A.tr (A.postQ [u_ ((numV (Lib.trimSuffix l x1.uw) m) * x1.ut), i_ 0] (fun aa ww rr ss => ⟨rv_tmp rr rfl, rv_tmp rr rfl, trivial⟩) ?_)))))))
            show ((.tuple #[u_ ((numV (Lib.trimSuffix l x1.uw) m) * x1.ut), i_ 0]) : Value) = (.tuple #[u_ ((rdP l m us).pv), i_ ((rdP l m us).pe)])
            rw [hd]; first | (rw [show us.drop k = [] from List.drop_eq_nil_of_le (by omega)]; rfl) | (rw [rdP_at (by assumption), if_pos (by simp_all)]; unfold rd1; first | (rw [if_neg (by simp_all)]; done) | (rw [if_pos (by simp_all), if_pos (by omega)]; done) | (rw [if_pos (by simp_all), if_neg (by omega)]; done))
    · skip
      have p1 := of_decide_eq_false e1
      refine A.exit (A.te (A.te (A.bh (A.tn (A.seq (A.region (A.goA [.p, .p] [(0, s_ (bs l)), (2, u_ m), (14, vS au us cu), (15, c_ us.length), (16, c_ k), (17, b_ (decide ((k : Int) < (us.length : Int)))), (6, u_ 0), (7, i_ 4)] [] T0 (by kernel_rfl) trivial ?_)))))))
      refine A.tn (A.ret (A.postQ [u_ 0, i_ 4] (fun aa ww rr ss => ⟨rv_tmp rr rfl, rv_tmp rr rfl, trivial⟩) ?_))
      show ((.tuple #[u_ 0, i_ 4]) : Value) = (.tuple #[u_ ((rdP l m us).pv), i_ ((rdP l m us).pe)])
      rw [hd]; first | (rw [show us.drop k = [] from List.drop_eq_nil_of_le (by omega)]; rfl) | (rw [rdP_at (by assumption), if_pos (by simp_all)]; unfold rd1; first | (rw [if_neg (by simp_all)]; done) | (rw [if_pos (by simp_all), if_pos (by omega)]; done) | (rw [if_pos (by simp_all), if_neg (by omega)]; done))

set_option maxHeartbeats 4000000 in
set_option maxRecDepth 100000 in
theorem rrate_spec (l : List UInt8) (hl : l.length ≤ 1000) (w : World) :
    Calls Tryd.prog 10 #[s_ (bs l)] w fun e w' => e = .returned (.tuple #[u_ ((rateP l).pv), i_ ((rateP l).pe)]) ∧ Fr [] w w' := by
  refine calls_of (args := [s_ (bs l)]) (penv [s_ (bs l)]) [] [] Tryd.func10 rfl rfl (look_penv _) (HS.nil w) ?_
  refine A.norm [(0, s_ (bs l))] [] (by exact ⟨rfl, trivial⟩) rfl ?_
  refine A.seq (A.region (A.goA [.p, .p] [(0, s_ (bs l)), (2, u_ 0), (3, i_ 0)] [] T0 (by kernel_rfl) trivial ?_))
  refine A.tn (A.seq (A.region (A.goP [.p] [(0, s_ (bs l)), (2, u_ 0), (3, i_ 0), (7, s_ (bs l))] [] T0 (by kernel_rfl) trivial ?_)))
  refine A.cons (A.callT (some 8) [] [] ((fun zz => match zz with | (au'1, cu'2) => (vS au'1 ([(⟨[103, 98, 105, 116], 1000000000⟩ : Un), (⟨[109, 98, 105, 116], 1000000⟩ : Un), (⟨[107, 98, 105, 116], 1000⟩ : Un), (⟨[98, 105, 116], 1⟩ : Un)]) cu'2))) ((fun zz => match zz with | (au'1, cu'2) => True)) ((fun zz => match zz with | (au'1, cu'2) => [sUn au'1 ([(⟨[103, 98, 105, 116], 1000000000⟩ : Un), (⟨[109, 98, 105, 116], 1000000⟩ : Un), (⟨[107, 98, 105, 116], 1000⟩ : Un), (⟨[98, 105, 116], 1⟩ : Un)]) cu'2])) (fun zz => match zz with | (au'1, cu'2) => [sUn au'1 ([(⟨[103, 98, 105, 116], 1000000000⟩ : Un), (⟨[109, 98, 105, 116], 1000000⟩ : Un), (⟨[107, 98, 105, 116], 1000⟩ : Un), (⟨[98, 105, 116], 1⟩ : Un)]) cu'2]) (by kernel_rfl) rfl rfl (fun ww ss hh => rates_spec ww hh) (fun _ => rfl) ?_)
  rintro ⟨au'1, cu'2⟩ -
  refine A.goA [.cq (.tuple #[u_ ((rdP l 1000000000000 ([(⟨[103, 98, 105, 116], 1000000000⟩ : Un), (⟨[109, 98, 105, 116], 1000000⟩ : Un), (⟨[107, 98, 105, 116], 1000⟩ : Un), (⟨[98, 105, 116], 1⟩ : Un)])).pv), i_ ((rdP l 1000000000000 ([(⟨[103, 98, 105, 116], 1000000000⟩ : Un), (⟨[109, 98, 105, 116], 1000000⟩ : Un), (⟨[107, 98, 105, 116], 1000⟩ : Un), (⟨[98, 105, 116], 1⟩ : Un)])).pe)]), .p, .p, .p, .p, .p] [(0, s_ (bs l)), (2, u_ 0), (3, i_ 0), (4, u_ ((rdP l 1000000000000 ([(⟨[103, 98, 105, 116], 1000000000⟩ : Un), (⟨[109, 98, 105, 116], 1000000⟩ : Un), (⟨[107, 98, 105, 116], 1000⟩ : Un), (⟨[98, 105, 116], 1⟩ : Un)])).pv)), (5, i_ ((rdP l 1000000000000 ([(⟨[103, 98, 105, 116], 1000000000⟩ : Un), (⟨[109, 98, 105, 116], 1000000⟩ : Un), (⟨[107, 98, 105, 116], 1000⟩ : Un), (⟨[98, 105, 116], 1⟩ : Un)])).pe))] [] (fun κ => κ.call 28 [s_ (bs l), vS au'1 ([(⟨[103, 98, 105, 116], 1000000000⟩ : Un), (⟨[109, 98, 105, 116], 1000000⟩ : Un), (⟨[107, 98, 105, 116], 1000⟩ : Un), (⟨[98, 105, 116], 1⟩ : Un)]) cu'2, u_ 1000000000000] (.tuple #[u_ ((rdP l 1000000000000 ([(⟨[103, 98, 105, 116], 1000000000⟩ : Un), (⟨[109, 98, 105, 116], 1000000⟩ : Un), (⟨[107, 98, 105, 116], 1000⟩ : Un), (⟨[98, 105, 116], 1⟩ : Un)])).pv), i_ ((rdP l 1000000000000 ([(⟨[103, 98, 105, 116], 1000000000⟩ : Un), (⟨[109, 98, 105, 116], 1000000⟩ : Un), (⟨[107, 98, 105, 116], 1000⟩ : Un), (⟨[98, 105, 116], 1⟩ : Un)])).pe)]) ∧ True) (by kernel_rfl) ⟨(fun ww ss => rread_spec l au'1 ([(⟨[103, 98, 105, 116], 1000000000⟩ : Un), (⟨[109, 98, 105, 116], 1000000⟩ : Un), (⟨[107, 98, 105, 116], 1000⟩ : Un), (⟨[98, 105, 116], 1⟩ : Un)]) cu'2 1000000000000 (by first | assumption | omega | exact rateU_ok | exact timeU_ok | (simp; done) | (simp; omega)) (by first | assumption | omega | exact rateU_ok | exact timeU_ok | (simp; done) | (simp; omega)) (by first | assumption | omega | exact rateU_ok | exact timeU_ok | (simp; done) | (simp; omega)) (by first | assumption | omega | exact rateU_ok | exact timeU_ok | (simp; done) | (simp; omega)) ww ((rd_sl (i := 0) rfl) ww ss)), trivial⟩ ?_
  refine A.tn (A.seq (A.seq (A.region (A.goA [.p, .p, .p, .o, .p, .p, .cl] [(0, s_ (bs l)), (2, u_ 0), (3, i_ 0), (4, u_ ((rdP l 1000000000000 ([(⟨[103, 98, 105, 116], 1000000000⟩ : Un), (⟨[109, 98, 105, 116], 1000000⟩ : Un), (⟨[107, 98, 105, 116], 1000⟩ : Un), (⟨[98, 105, 116], 1⟩ : Un)])).pv)), (5, i_ ((rdP l 1000000000000 ([(⟨[103, 98, 105, 116], 1000000000⟩ : Un), (⟨[109, 98, 105, 116], 1000000⟩ : Un), (⟨[107, 98, 105, 116], 1000⟩ : Un), (⟨[98, 105, 116], 1⟩ : Un)])).pe)), (17, b_ ((((rdP l 1000000000000 ([(⟨[103, 98, 105, 116], 1000000000⟩ : Un), (⟨[109, 98, 105, 116], 1000000⟩ : Un), (⟨[107, 98, 105, 116], 1000⟩ : Un), (⟨[98, 105, 116], 1⟩ : Un)])).pe) == 0) && (((rdP l 1000000000000 ([(⟨[103, 98, 105, 116], 1000000000⟩ : Un), (⟨[109, 98, 105, 116], 1000000⟩ : Un), (⟨[107, 98, 105, 116], 1000⟩ : Un), (⟨[98, 105, 116], 1⟩ : Un)])).pv) == 0)))] [] T0 (by kernel_rfl) trivial ?_))))
  refine A.tn (A.cond (E := (((rdP l 1000000000000 ([(⟨[103, 98, 105, 116], 1000000000⟩ : Un), (⟨[109, 98, 105, 116], 1000000⟩ : Un), (⟨[107, 98, 105, 116], 1000⟩ : Un), (⟨[98, 105, 116], 1⟩ : Un)])).pe) == 0) && (((rdP l 1000000000000 ([(⟨[103, 98, 105, 116], 1000000000⟩ : Un), (⟨[109, 98, 105, 116], 1000000⟩ : Un), (⟨[107, 98, 105, 116], 1000⟩ : Un), (⟨[98, 105, 116], 1⟩ : Un)])).pv) == 0)) rfl (fun e2 => ?_) (fun e2 => ?_))
  · skip
    have p2 := e2; try simp only [nrm, bs_inj, Bool.or_eq_true, Bool.or_eq_false_iff, Bool.and_eq_true, Bool.and_eq_false_imp, decide_eq_true_eq, decide_eq_false_iff_not] at p2
    refine A.seq (A.region (A.goA [.p, .p] [(0, s_ (bs l)), (2, u_ 0), (3, i_ 1), (4, u_ ((rdP l 1000000000000 ([(⟨[103, 98, 105, 116], 1000000000⟩ : Un), (⟨[109, 98, 105, 116], 1000000⟩ : Un), (⟨[107, 98, 105, 116], 1000⟩ : Un), (⟨[98, 105, 116], 1⟩ : Un)])).pv)), (5, i_ ((rdP l 1000000000000 ([(⟨[103, 98, 105, 116], 1000000000⟩ : Un), (⟨[109, 98, 105, 116], 1000000⟩ : Un), (⟨[107, 98, 105, 116], 1000⟩ : Un), (⟨[98, 105, 116], 1⟩ : Un)])).pe)), (17, b_ ((((rdP l 1000000000000 ([(⟨[103, 98, 105, 116], 1000000000⟩ : Un), (⟨[109, 98, 105, 116], 1000000⟩ : Un), (⟨[107, 98, 105, 116], 1000⟩ : Un), (⟨[98, 105, 116], 1⟩ : Un)])).pe) == 0) && (((rdP l 1000000000000 ([(⟨[103, 98, 105, 116], 1000000000⟩ : Un), (⟨[109, 98, 105, 116], 1000000⟩ : Un), (⟨[107, 98, 105, 116], 1000⟩ : Un), (⟨[98, 105, 116], 1⟩ : Un)])).pv) == 0)))] [] T0 (by kernel_rfl) trivial ?_))
    refine A.tn (A.ret (A.tr (A.postQ [u_ 0, i_ 1] (fun aa ww rr ss => ⟨rv_tmp rr rfl, rv_tmp rr rfl, trivial⟩) ?_)))
    show ((.tuple #[u_ 0, i_ 1]) : Value) = (.tuple #[u_ ((rateP l).pv), i_ ((rateP l).pe)])
    unfold rateP rateU; first | (rw [if_pos (by simp_all)]; done) | (rw [if_neg (by simp_all)]; done)
  · skip
    have p2 := e2; try simp only [nrm, bs_inj, Bool.or_eq_true, Bool.or_eq_false_iff, Bool.and_eq_true, Bool.and_eq_false_imp, decide_eq_true_eq, decide_eq_false_iff_not] at p2
    refine A.skip (A.tn (A.seq (A.region (A.goA [.p, .p, .p, .p] [(0, s_ (bs l)), (2, u_ ((rdP l 1000000000000 ([(⟨[103, 98, 105, 116], 1000000000⟩ : Un), (⟨[109, 98, 105, 116], 1000000⟩ : Un), (⟨[107, 98, 105, 116], 1000⟩ : Un), (⟨[98, 105, 116], 1⟩ : Un)])).pv)), (3, i_ ((rdP l 1000000000000 ([(⟨[103, 98, 105, 116], 1000000000⟩ : Un), (⟨[109, 98, 105, 116], 1000000⟩ : Un), (⟨[107, 98, 105, 116], 1000⟩ : Un), (⟨[98, 105, 116], 1⟩ : Un)])).pe)), (4, u_ ((rdP l 1000000000000 ([(⟨[103, 98, 105, 116], 1000000000⟩ : Un), (⟨[109, 98, 105, 116], 1000000⟩ : Un), (⟨[107, 98, 105, 116], 1000⟩ : Un), (⟨[98, 105, 116], 1⟩ : Un)])).pv)), (5, i_ ((rdP l 1000000000000 ([(⟨[103, 98, 105, 116], 1000000000⟩ : Un), (⟨[109, 98, 105, 116], 1000000⟩ : Un), (⟨[107, 98, 105, 116], 1000⟩ : Un), (⟨[98, 105, 116], 1⟩ : Un)])).pe)), (17, b_ ((((rdP l 1000000000000 ([(⟨[103, 98, 105, 116], 1000000000⟩ : Un), (⟨[109, 98, 105, 116], 1000000⟩ : Un), (⟨[107, 98, 105, 116], 1000⟩ : Un), (⟨[98, 105, 116], 1⟩ : Un)])).pe) == 0) && (((rdP l 1000000000000 ([(⟨[103, 98, 105, 116], 1000000000⟩ : Un), (⟨[109, 98, 105, 116], 1000000⟩ : Un), (⟨[107, 98, 105, 116], 1000⟩ : Un), (⟨[98, 105, 116], 1⟩ : Un)])).pv) == 0)))] [] T0 (by kernel_rfl) trivial ?_))))
    refine A.tn (A.ret (A.postQ [u_ ((rdP l 1000000000000 ([(⟨[103, 98, 105, 116], 1000000000⟩ : Un), (⟨[109, 98, 105, 116], 1000000⟩ : Un), (⟨[107, 98, 105, 116], 1000⟩ : Un), (⟨[98, 105, 116], 1⟩ : Un)])).pv), i_ ((rdP l 1000000000000 ([(⟨[103, 98, 105, 116], 1000000000⟩ : Un), (⟨[109, 98, 105, 116], 1000000⟩ : Un), (⟨[107, 98, 105, 116], 1000⟩ : Un), (⟨[98, 105, 116], 1⟩ : Un)])).pe)] (fun aa ww rr ss => ⟨rv_tmp rr rfl, rv_tmp rr rfl, trivial⟩) ?_))
    show ((.tuple #[u_ ((rdP l 1000000000000 ([(⟨[103, 98, 105, 116], 1000000000⟩ : Un), (⟨[109, 98, 105, 116], 1000000⟩ : Un), (⟨[107, 98, 105, 116], 1000⟩ : Un), (⟨[98, 105, 116], 1⟩ : Un)])).pv), i_ ((rdP l 1000000000000 ([(⟨[103, 98, 105, 116], 1000000000⟩ : Un), (⟨[109, 98, 105, 116], 1000000⟩ : Un), (⟨[107, 98, 105, 116], 1000⟩ : Un), (⟨[98, 105, 116], 1⟩ : Un)])).pe)]) : Value) = (.tuple #[u_ ((rateP l).pv), i_ ((rateP l).pe)])
    unfold rateP rateU; first | (rw [if_pos (by simp_all)]; done) | (rw [if_neg (by simp_all)]; done)

set_option maxHeartbeats 4000000 in
set_option maxRecDepth 100000 in
theorem rtime_spec (l : List UInt8) (hl : l.length ≤ 1000) (w : World) :
    Calls Tryd.prog 11 #[s_ (bs l)] w fun e w' => e = .returned (.tuple #[u_ ((timeP l).pv), i_ ((timeP l).pe)]) ∧ Fr [] w w' := by
  refine calls_of (args := [s_ (bs l)]) (penv [s_ (bs l)]) [] [] Tryd.func11 rfl rfl (look_penv _) (HS.nil w) ?_
  refine A.norm [(0, s_ (bs l))] [] (by exact ⟨rfl, trivial⟩) rfl ?_
  refine A.seq (A.region (A.goA [.p, .p] [(0, s_ (bs l)), (2, u_ 0), (3, i_ 0)] [] T0 (by kernel_rfl) trivial ?_))
  refine A.tn (A.seq (A.region (A.goP [.p] [(0, s_ (bs l)), (2, u_ 0), (3, i_ 0), (4, s_ (bs l))] [] T0 (by kernel_rfl) trivial ?_)))
  refine A.cons (A.callT (some 5) [] [] ((fun zz => match zz with | (au'1, cu'2) => (vS au'1 ([(⟨[109, 115], 1000⟩ : Un), (⟨[117, 115], 1⟩ : Un), (⟨[115], 1000000⟩ : Un)]) cu'2))) ((fun zz => match zz with | (au'1, cu'2) => True)) ((fun zz => match zz with | (au'1, cu'2) => [sUn au'1 ([(⟨[109, 115], 1000⟩ : Un), (⟨[117, 115], 1⟩ : Un), (⟨[115], 1000000⟩ : Un)]) cu'2])) (fun zz => match zz with | (au'1, cu'2) => [sUn au'1 ([(⟨[109, 115], 1000⟩ : Un), (⟨[117, 115], 1⟩ : Un), (⟨[115], 1000000⟩ : Un)]) cu'2]) (by kernel_rfl) rfl rfl (fun ww ss hh => times_spec ww hh) (fun _ => rfl) ?_)
  rintro ⟨au'1, cu'2⟩ -
  refine A.goA [.cq (.tuple #[u_ ((rdP l 1000000000 ([(⟨[109, 115], 1000⟩ : Un), (⟨[117, 115], 1⟩ : Un), (⟨[115], 1000000⟩ : Un)])).pv), i_ ((rdP l 1000000000 ([(⟨[109, 115], 1000⟩ : Un), (⟨[117, 115], 1⟩ : Un), (⟨[115], 1000000⟩ : Un)])).pe)]), .p, .p, .p, .p] [(0, s_ (bs l)), (2, u_ ((rdP l 1000000000 ([(⟨[109, 115], 1000⟩ : Un), (⟨[117, 115], 1⟩ : Un), (⟨[115], 1000000⟩ : Un)])).pv)), (3, i_ ((rdP l 1000000000 ([(⟨[109, 115], 1000⟩ : Un), (⟨[117, 115], 1⟩ : Un), (⟨[115], 1000000⟩ : Un)])).pe))] [] (fun κ => κ.call 28 [s_ (bs l), vS au'1 ([(⟨[109, 115], 1000⟩ : Un), (⟨[117, 115], 1⟩ : Un), (⟨[115], 1000000⟩ : Un)]) cu'2, u_ 1000000000] (.tuple #[u_ ((rdP l 1000000000 ([(⟨[109, 115], 1000⟩ : Un), (⟨[117, 115], 1⟩ : Un), (⟨[115], 1000000⟩ : Un)])).pv), i_ ((rdP l 1000000000 ([(⟨[109, 115], 1000⟩ : Un), (⟨[117, 115], 1⟩ : Un), (⟨[115], 1000000⟩ : Un)])).pe)]) ∧ True) (by kernel_rfl) ⟨(fun ww ss => rread_spec l au'1 ([(⟨[109, 115], 1000⟩ : Un), (⟨[117, 115], 1⟩ : Un), (⟨[115], 1000000⟩ : Un)]) cu'2 1000000000 (by first | assumption | omega | exact rateU_ok | exact timeU_ok | (simp; done) | (simp; omega)) (by first | assumption | omega | exact rateU_ok | exact timeU_ok | (simp; done) | (simp; omega)) (by first | assumption | omega | exact rateU_ok | exact timeU_ok | (simp; done) | (simp; omega)) (by first | assumption | omega | exact rateU_ok | exact timeU_ok | (simp; done) | (simp; omega)) ww ((rd_sl (i := 0) rfl) ww ss)), trivial⟩ ?_
  refine A.tn (A.ret (A.postQ [u_ ((rdP l 1000000000 ([(⟨[109, 115], 1000⟩ : Un), (⟨[117, 115], 1⟩ : Un), (⟨[115], 1000000⟩ : Un)])).pv), i_ ((rdP l 1000000000 ([(⟨[109, 115], 1000⟩ : Un), (⟨[117, 115], 1⟩ : Un), (⟨[115], 1000000⟩ : Un)])).pe)] (fun aa ww rr ss => ⟨rv_tmp rr rfl, rv_tmp rr rfl, trivial⟩) ?_))
  show ((.tuple #[u_ ((rdP l 1000000000 ([(⟨[109, 115], 1000⟩ : Un), (⟨[117, 115], 1⟩ : Un), (⟨[115], 1000000⟩ : Un)])).pv), i_ ((rdP l 1000000000 ([(⟨[109, 115], 1000⟩ : Un), (⟨[117, 115], 1⟩ : Un), (⟨[115], 1000000⟩ : Un)])).pe)]) : Value) = (.tuple #[u_ ((timeP l).pv), i_ ((timeP l).pe)])
  first | rfl | simp_all

set_option maxHeartbeats 4000000 in
set_option maxRecDepth 100000 in
theorem rends_spec (l p : List UInt8) (hl : l.length ≤ 1000) (hp : p.length ≤ 1000) (w : World) :
    Calls Tryd.prog 31 #[s_ (bs l), s_ (bs p)] w fun e w' => e = .returned (b_ (Lib.hasSuffix l p)) ∧ Fr [] w w' := by
  refine calls_of (args := [s_ (bs l), s_ (bs p)]) (penv [s_ (bs l), s_ (bs p)]) [] [] Tryd.func31 rfl rfl (look_penv _) (HS.nil w) ?_
  refine A.norm [(0, s_ (bs l)), (1, s_ (bs p))] [] (by exact ⟨rfl, rfl, trivial⟩) rfl ?_
  refine A.seq (A.region (A.goA [.p] [(0, s_ (bs l)), (1, s_ (bs p)), (4, b_ false)] [] T0 (by kernel_rfl) trivial ?_))
  refine A.tn (A.seq (A.region (A.goA [.p, .p, .p, .p, .p, .p, .o, .p, .p, .p, .p, .p, .w ((l.length : Int) - (p.length : Int)), .ss, .p, .eq, .cl, .p] [(0, s_ (bs l)), (1, s_ (bs p)), (4, b_ ((decide ((l.length : Int) ≥ (p.length : Int))) && ((bs ((l.take l.length).drop (((l.length : Int) - (p.length : Int)).toNat))) == (bs p))))] [] (fun κ => ((true && ((decide ((l.length : Int) ≥ (p.length : Int))) == true)) = true → (IntKind.i64.wrap ((l.length : Int) - (p.length : Int)) = ((l.length : Int) - (p.length : Int)))) ∧ ((true && ((decide ((l.length : Int) ≥ (p.length : Int))) == true)) = true → ((0 ≤ ((l.length : Int) - (p.length : Int) : Int) ∧ ((l.length : Int) - (p.length : Int) : Int) ≤ (l.length : Int)) ∧ (l.length : Int) ≤ (l.length : Int))) ∧ True) (by kernel_rfl) ⟨(fun h_ => (wrap_i64 (e := (l.length : Int) - (p.length : Int)) (by constructor <;> omega))), (fun h_ => (by (have h2_ : (p.length : Int) ≤ l.length := (by simpa using h_)); omega)), trivial⟩ ?_)))
  refine A.tn (A.ret (A.postQ [b_ ((decide ((l.length : Int) ≥ (p.length : Int))) && ((bs ((l.take l.length).drop (((l.length : Int) - (p.length : Int)).toNat))) == (bs p)))] (fun aa ww rr ss => ⟨rv_tmp rr rfl, trivial⟩) ?_))
  show ((b_ ((decide ((l.length : Int) ≥ (p.length : Int))) && ((bs ((l.take l.length).drop (((l.length : Int) - (p.length : Int)).toNat))) == (bs p)))) : Value) = (b_ (Lib.hasSuffix l p))
  refine congrArg Value.bool ?_; by_cases hle : p.length ≤ l.length; (rw [suf_of l p hle]; simp [hle]); (rw [show decide ((l.length : Int) ≥ (p.length : Int)) = false by simp; omega, Bool.false_and]; symm; rw [Bool.eq_false_iff]; intro h_; exact hle (suf_len h_))

set_option maxHeartbeats 4000000 in
set_option maxRecDepth 100000 in
theorem r43read_spec (l : List UInt8) (n t m : Int) (hl : l.length ≤ 1000) (hn : 0 ≤ n ∧ n ≤ (l.length : Int)) (ht : 1 ≤ t ∧ t < 18446744073709551616) (hm : 0 ≤ m ∧ m < 18446744073709551616) (w : World) :
    Calls Tryd.prog 32 #[s_ (bs l), i_ n, u_ t, u_ m] w fun e w' => e = .returned (.agg #[u_ ((rd1 (l.take ((l.length : Int) - n).toNat) t m).pv), i_ ((rd1 (l.take ((l.length : Int) - n).toNat) t m).pe)]) ∧ Fr [] w w' := by
  refine calls_of (args := [s_ (bs l), i_ n, u_ t, u_ m]) (penv [s_ (bs l), i_ n, u_ t, u_ m]) [] [] Tryd.func32 rfl rfl (look_penv _) (HS.nil w) ?_
  refine A.norm [(0, s_ (bs l)), (1, i_ n), (2, u_ t), (3, u_ m)] [] (by exact ⟨rfl, rfl, rfl, rfl, trivial⟩) rfl ?_
  refine A.seq (A.region (A.goA1 [.al] [0, 1, 2, 3, 8] (fun b1 => [(0, s_ (bs l)), (1, i_ n), (2, u_ t), (3, u_ m), (8, p_ b1)]) (fun b1 => [blk b1 [u_ 0, i_ 0] 28]) (fun b1 => []) (fun _ => T0) (fun _ => by kernel_rfl) (fun b1 => trivial) ?_))
  intro b1
  refine A.tn (A.seq (A.region (A.goA1 [.p, .p, .p, .p, .w ((l.length : Int) - n), .ss, .p, .cq (.agg #[u_ (numV (l.take (((l.length : Int) - n).toNat)) m), i_ (numE (l.take (((l.length : Int) - n).toNat)) m)]), .al, .st 1] [0, 1, 2, 3, 8, 9] (fun b2 => [(0, s_ (bs l)), (1, i_ n), (2, u_ t), (3, u_ m), (8, p_ b1), (9, p_ b2)]) (fun b2 => [blk b1 [u_ 0, i_ 0] 28, blk b2 [u_ (numV (l.take (((l.length : Int) - n).toNat)) m), i_ (numE (l.take (((l.length : Int) - n).toNat)) m)] 75]) (fun b2 => [b2]) (fun _ => (fun κ => (IntKind.i64.wrap ((l.length : Int) - n) = ((l.length : Int) - n)) ∧ ((0 ≤ (0 : Int) ∧ (0 : Int) ≤ ((l.length : Int) - n)) ∧ ((l.length : Int) - n) ≤ (l.length : Int)) ∧ κ.call 54 [s_ (bs (l.take (((l.length : Int) - n).toNat))), u_ m] (.agg #[u_ (numV (l.take (((l.length : Int) - n).toNat)) m), i_ (numE (l.take (((l.length : Int) - n).toNat)) m)]) ∧ True)) (fun _ => by kernel_rfl) (fun b2 => ⟨(wrap_i64 (e := (l.length : Int) - n) (by constructor <;> omega)), (by omega), (fun ww ss => rnum_spec (l.take (((l.length : Int) - n).toNat)) m (by first | assumption | omega | (simp; omega)) (by first | assumption | omega | (simp; omega)) ww), trivial⟩) ?_)))
  intro b2
  refine A.tn (A.seq (A.seq (A.region (A.goA [.p, .ld 1, .p] [(0, s_ (bs l)), (1, i_ n), (2, u_ t), (3, u_ m), (8, p_ b1), (9, p_ b2), (20, b_ ((numE (l.take (((l.length : Int) - n).toNat)) m) != 0))] [b2] T0 (by kernel_rfl) trivial ?_))))
  refine A.tn (A.cond (E := (numE (l.take (((l.length : Int) - n).toNat)) m) != 0) rfl (fun e1 => ?_) (fun e1 => ?_))
  · skip
    have p1 := e1; try simp only [nrm, bs_inj, Bool.or_eq_true, Bool.or_eq_false_iff, Bool.and_eq_true, Bool.and_eq_false_imp, decide_eq_true_eq, decide_eq_false_iff_not] at p1
    refine A.seq (A.region (A.goAS [.p, .ld 1, .p, .st 0] [(0, s_ (bs l)), (1, i_ n), (2, u_ t), (3, u_ m), (8, p_ b1), (9, p_ b2), (20, b_ ((numE (l.take (((l.length : Int) - n).toNat)) m) != 0))] [blk b1 [u_ 0, i_ (numE (l.take (((l.length : Int) - n).toNat)) m)] 28, blk b2 [u_ (numV (l.take (((l.length : Int) - n).toNat)) m), i_ (numE (l.take (((l.length : Int) - n).toNat)) m)] 75] [b2, b1] T0 (by kernel_rfl) trivial ?_))
    refine A.tn (A.ret (A.tr (A.postQ [(.agg #[u_ 0, i_ (numE (l.take (((l.length : Int) - n).toNat)) m)])] (fun aa ww rr ss => ⟨rv_cellN (vs := [u_ 0, i_ (numE (l.take (((l.length : Int) - n).toNat)) m)]) rr ss rfl (by kernel_rfl) (reads_blk (i := 0) rfl rfl), trivial⟩) ?_)))
    show ((.agg #[u_ 0, i_ (numE (l.take (((l.length : Int) - n).toNat)) m)]) : Value) = (.agg #[u_ ((rd1 (l.take ((l.length : Int) - n).toNat) t m).pv), i_ ((rd1 (l.take ((l.length : Int) - n).toNat) t m).pe)])
    unfold rd1; first | (rw [if_neg (by simp_all)]; done) | (rw [if_pos (by simp_all), if_pos (by omega)]; done) | (rw [if_pos (by simp_all), if_neg (by omega)]; done)
  · skip
    have p1 := e1; try simp only [nrm, bs_inj, Bool.or_eq_true, Bool.or_eq_false_iff, Bool.and_eq_true, Bool.and_eq_false_imp, decide_eq_true_eq, decide_eq_false_iff_not] at p1
    refine A.skip (A.tn (A.seq (A.seq (A.draw2 [] 6 (by kernel_rfl) ?_))))
    refine A.drawP 2 [.p, .ld 1, .p, .p] [0, 1, 2, 3] [(0, s_ (bs l)), (1, i_ n), (2, u_ t), (3, u_ m), (8, p_ b1), (9, p_ b2), (20, b_ ((numE (l.take (((l.length : Int) - n).toNat)) m) != 0)), (25, u_ (numV (l.take (((l.length : Int) - n).toNat)) m)), (26, u_ m), (27, u_ t)] [b2] T0 (by kernel_rfl) trivial ?_
    refine A.take2 4 (some 28) (u_ (m / t)) rfl (by kernel_rfl) (by kernel_rfl) (qt_as (congrArg (Value.int .u64) (u_tdivV (by omega) (by omega))) (qt_quo rfl rfl rfl (by first | omega | (simp; omega) | (simp; done)))) ?_
    refine A.drawP 0 [.p] [5] [(0, s_ (bs l)), (1, i_ n), (2, u_ t), (3, u_ m), (8, p_ b1), (9, p_ b2), (20, b_ ((numE (l.take (((l.length : Int) - n).toNat)) m) != 0)), (29, b_ (decide ((numV (l.take (((l.length : Int) - n).toNat)) m) > (m / t))))] [] T0 (by kernel_rfl) trivial ?_
    refine A.fin2 (by kernel_rfl) ?_
    refine A.tn (A.cond (E := decide ((numV (l.take (((l.length : Int) - n).toNat)) m) > (m / t))) rfl (fun e2 => ?_) (fun e2 => ?_))
    · skip
      have p2 := of_decide_eq_true e2
      refine A.seq (A.region (A.goAS [.p, .st 0] [(0, s_ (bs l)), (1, i_ n), (2, u_ t), (3, u_ m), (8, p_ b1), (9, p_ b2), (20, b_ ((numE (l.take (((l.length : Int) - n).toNat)) m) != 0)), (29, b_ (decide ((numV (l.take (((l.length : Int) - n).toNat)) m) > (m / t))))] [blk b1 [u_ 0, i_ 20] 28, blk b2 [u_ (numV (l.take (((l.length : Int) - n).toNat)) m), i_ (numE (l.take (((l.length : Int) - n).toNat)) m)] 75] [b1] T0 (by kernel_rfl) trivial ?_))
      refine A.tn (A.ret (A.tr (A.postQ [(.agg #[u_ 0, i_ 20])] (fun aa ww rr ss => ⟨rv_cellN (vs := [u_ 0, i_ 20]) rr ss rfl (by kernel_rfl) (reads_blk (i := 0) rfl rfl), trivial⟩) ?_)))
      show ((.agg #[u_ 0, i_ 20]) : Value) = (.agg #[u_ ((rd1 (l.take ((l.length : Int) - n).toNat) t m).pv), i_ ((rd1 (l.take ((l.length : Int) - n).toNat) t m).pe)])
      unfold rd1; first | (rw [if_neg (by simp_all)]; done) | (rw [if_pos (by simp_all), if_pos (by omega)]; done) | (rw [if_pos (by simp_all), if_neg (by omega)]; done)
    · skip
      have p2 := of_decide_eq_false e2
      refine A.skip (A.tn (A.seq ?_))
      have hmx := mul_le_div (x := numV (l.take ((l.length : Int) - n).toNat) m) hm.1 ht.1 (num_rng hm.1).1 (by omega)
      refine A.region (A.goAS [.p, .ld 1, .p, .w ((numV (l.take (((l.length : Int) - n).toNat)) m) * t), .p, .st 0] [(0, s_ (bs l)), (1, i_ n), (2, u_ t), (3, u_ m), (8, p_ b1), (9, p_ b2), (20, b_ ((numE (l.take (((l.length : Int) - n).toNat)) m) != 0)), (29, b_ (decide ((numV (l.take (((l.length : Int) - n).toNat)) m) > (m / t))))] [blk b1 [u_ ((numV (l.take (((l.length : Int) - n).toNat)) m) * t), i_ 0] 28, blk b2 [u_ (numV (l.take (((l.length : Int) - n).toNat)) m), i_ (numE (l.take (((l.length : Int) - n).toNat)) m)] 75] [b2, b1] (fun κ => (IntKind.u64.wrap ((numV (l.take (((l.length : Int) - n).toNat)) m) * t) = ((numV (l.take (((l.length : Int) - n).toNat)) m) * t)) ∧ True) (by kernel_rfl) ⟨(wrap_u64 (e := (numV (l.take (((l.length : Int) - n).toNat)) m) * t) (by constructor <;> omega)), trivial⟩ ?_)
      refine A.tn (A.ret (A.postQ [(.agg #[u_ ((numV (l.take (((l.length : Int) - n).toNat)) m) * t), i_ 0])] (fun aa ww rr ss => ⟨rv_cellN (vs := [u_ ((numV (l.take (((l.length : Int) - n).toNat)) m) * t), i_ 0]) rr ss rfl (by kernel_rfl) (reads_blk (i := 0) rfl rfl), trivial⟩) ?_))
      show ((.agg #[u_ ((numV (l.take (((l.length : Int) - n).toNat)) m) * t), i_ 0]) : Value) = (.agg #[u_ ((rd1 (l.take ((l.length : Int) - n).toNat) t m).pv), i_ ((rd1 (l.take ((l.length : Int) - n).toNat) t m).pe)])
      unfold rd1; first | (rw [if_neg (by simp_all)]; done) | (rw [if_pos (by simp_all), if_pos (by omega)]; done) | (rw [if_pos (by simp_all), if_neg (by omega)]; done)
end Go.Proofs.YtbmllohfpgngeaaDoor
