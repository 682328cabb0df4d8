/- What the functions of this layer do, proved operation by operation, for all arguments, under the conditions that each theorem states. -/
import Derived.Test.YtdamfdnakkofmaaDoorProg
import Derived.Test.YtdamfdnakkofmaaDoorTr2
namespace Go.Proofs.YtdamfdnakkofmaaDoor
open Go V
set_option linter.unusedVariables false
set_option linter.unusedSimpArgs false
theorem gdL {α : Type} {l : List α} {i : Nat} {d : α} (h : i < l.length) : l[i]? = some (l.getD i d) := by simp [List.getD, List.getElem?_eq_getElem h]
/-- words behind the beginning of one -/
def glue (m : List UInt8) : List (List UInt8) → List (List UInt8)
  | [] => [m]
  | x :: xs => (m ++ x) :: xs
theorem glue_nil (c : UInt8) (l : List UInt8) : glue [] (words c l) = words c l := by
  cases h : words c l with
  | nil => exact absurd h (words_ne c l)
  | cons x xs => rfl
theorem cut1 {l : List UInt8} {k : Nat} (h : k < l.length) : (l.take (k + 1)).drop k = [l.getD k 0] := by
  rw [List.take_add_one, gdS h]; simp [List.drop_append, Nat.min_eq_left (Nat.le_of_lt h)]
theorem words_sp {c : UInt8} {l m : List UInt8} {k : Nat} (h : k < l.length) (hb : l.getD k 0 = c) : glue m (words c (l.drop k)) = m :: words c (l.drop (k + 1)) := by
  have e : l[k] = c := by have := gdS h; rw [List.getElem?_eq_getElem h] at this; rw [← hb]; exact Option.some.inj this
  rw [List.drop_eq_getElem_cons h, words, if_pos e]; simp [glue]
theorem words_no {c : UInt8} {l m : List UInt8} {k : Nat} (h : k < l.length) (hb : ¬ l.getD k 0 = c) : glue m (words c (l.drop k)) = glue (m ++ [l.getD k 0]) (words c (l.drop (k + 1))) := by
  have e : l[k] = l.getD k 0 := by have := gdS h; rw [List.getElem?_eq_getElem h] at this; exact Option.some.inj this
  rw [List.drop_eq_getElem_cons h, words, if_neg (by rw [e]; exact hb), e]
  cases hw : words c (l.drop (k + 1)) with
  | nil => exact absurd hw (words_ne _ _)
  | cons x xs => simp [glue]
theorem words_len (c : UInt8) : ∀ (l : List UInt8) (w : List UInt8), w ∈ words c l → w.length ≤ l.length
  | [], w, h => by simp [words] at h; subst h; simp
  | b :: l, w, h => by
    have ih := words_len c l
    unfold words at h; split at h
    · rcases List.mem_cons.1 h with rfl | h
      · simp
      · have := ih w h; simp; omega
    · split at h
      · simp at h; subst h; simp
      · rename_i x xs hx
        rcases List.mem_cons.1 h with rfl | h
        · have := ih x (by rw [hx]; simp); simp; omega
        · have := ih w (by rw [hx]; simp [h]); simp; omega
theorem words_gd (c : UInt8) (l : List UInt8) (i : Nat) : ((words c l).getD i []).length ≤ l.length := by
  by_cases h : i < (words c l).length
  · exact words_len c l _ (List.mem_of_getElem? (gdL h))
  · simp [List.getD, List.getElem?_eq_none (Nat.le_of_not_lt h)]
theorem is32 {b : UInt8} (h : (b.toNat : Int) = 32) : b = 32 := UInt8.toNat_inj.1 (by show b.toNat = 32; omega)
theorem words_cnt (c : UInt8) : ∀ l : List UInt8, (words c l).length ≤ l.length + 1
  | [] => by simp [words]
  | b :: l => by
    have ih := words_cnt c l
    unfold words; split
    · simp; omega
    · split
      · simp
      · rename_i x xs hx; rw [hx] at ih; simp at ih ⊢; omega
/-- the words behind the second one drawn ahead -/
def dl (W : List (List UInt8)) : List (List UInt8) := W.take 1 ++ W.drop 2
theorem dl_get {W : List (List UInt8)} (h : 2 ≤ W.length) (j : Nat) : (dl W).getD j [] = W.getD (if j = 0 then 0 else j + 1) [] := by
  match W, h with
  | a :: b :: r, _ =>
    cases j with
    | zero => rfl
    | succ j => simp [dl, List.getD]
theorem dl_len {W : List (List UInt8)} (h : 2 ≤ W.length) : (dl W).length = W.length - 1 := by unfold dl; simp; omega
theorem cap_drop {α : Type} {xs : List α} {c m : Nat} (h : xs.length ≤ c) : (xs.drop m).length ≤ c - m := by simp; omega
def cutN (A : Option Addr) (c : Nat) : Nat → Option Addr
  | 0 => A
  | j + 1 => cutA (cutN A c j) (c - j) 1 1
theorem rd_cutN {α : Type} {enc : α → List Value} {w0 : World} {S : List Nat} {H : List V.Item} {A : Option Addr} {D : List α} {c : Nat} (he : ∀ x, (enc x).length = 1) (h : Rd w0 S H A (V.flat enc D)) (hc : ∀ w, HS w0 S H w → D.length ≤ c) : ∀ j, j ≤ D.length → Rd w0 S H (cutN A c j) (V.flat enc (D.drop j))
  | 0, _ => h
  | j + 1, hj => by
    have := rd_drop (m := 1) (c := c - j) he (rd_cutN he h hc j (by omega)) (by simp; omega) (fun w hs => cap_drop (hc w hs))
    rw [List.drop_drop] at this; exact this
/-- the first error -/
def fe : List Int → Int
  | [] => 0
  | x :: xs => if x = 0 then fe xs else x
theorem fe_0 {x : Int} {xs : List Int} (h : x = 0) : fe (x :: xs) = fe xs := by rw [fe, if_pos h]
theorem fe_1 {x : Int} {xs : List Int} (h : ¬ x = 0) : fe (x :: xs) = x := by rw [fe, if_neg h]
def jE : List Int → Nat
  | [] => 0
  | x :: xs => if x = 0 then jE xs + 1 else 1
theorem fe_snoc (x : Int) : ∀ es : List Int, fe (es ++ [x]) = if fe es = 0 then x else fe es
  | [] => by by_cases hx : x = 0 <;> simp [fe, hx]
  | y :: es => by
    have ih := fe_snoc x es
    simp only [List.cons_append, fe]
    split
    · exact ih
    · rfl
theorem jE_snoc (x : Int) : ∀ es : List Int, jE (es ++ [x]) = if fe es = 0 then jE es + 1 else jE es
  | [] => by simp [jE, fe]
  | y :: es => by
    have ih := jE_snoc x es
    simp only [List.cons_append, jE, fe]
    split
    · rw [ih]; split <;> omega
    · rfl
theorem jE_ok : ∀ {es : List Int}, fe es = 0 → jE es = es.length
  | [], _ => rfl
  | y :: es, h => by
    unfold fe at h; split at h
    · rename_i h0; rw [jE, if_pos h0, jE_ok h]; rfl
    · exact absurd h (by assumption)
def nE (D : List (List UInt8)) (j : Nat) (m : Int) : Int := numE (D.getD j []) m
def nV (D : List (List UInt8)) (j : Nat) (m : Int) : Int := numV (D.getD j []) m
def nxV (D : List (List UInt8)) (es : List Int) (m : Int) : Int := if fe es = 0 then nV D es.length m else 0
theorem nxV_rng {D : List (List UInt8)} {es : List Int} {m : Int} (hm : 0 ≤ m) : 0 ≤ nxV D es m ∧ nxV D es m ≤ m := by
  unfold nxV nV; split
  · exact num_rng hm
  · omega
theorem fe_take : ∀ {es : List Int}, fe es = 0 → ∀ k, fe (es.take k) = 0
  | [], _, k => by simp [fe]
  | x :: es, h, 0 => by simp [fe]
  | x :: es, h, k + 1 => by
    unfold fe at h; split at h
    · rename_i h0; rw [List.take_succ_cons, fe, if_pos h0]; exact fe_take h k
    · exact absurd h (by assumption)
theorem nxV_ok {D : List (List UInt8)} {es : List Int} (h : fe es = 0) (k : Nat) (m : Int) : nxV D (es.take k) m = nV D (es.take k).length m := by unfold nxV; rw [if_pos (fe_take h k)]
def errsI (D : List (List UInt8)) : List Int := [nE D 0 9223372036854775807, nE D 1 18446744073709551615, nE D 2 9223372036854775807, nE D 3 18446744073709551615, nE D 4 9223372036854775807, nE D 5 65535, nE D 6 65535, nE D 7 65535, nE D 8 65535]
def errsO (D : List (List UInt8)) : List Int := [nE D 0 9223372036854775807, nE D 1 18446744073709551615, nE D 2 18446744073709551615, nE D 3 9223372036854775807, nE D 4 18446744073709551615, nE D 5 9223372036854775807, nE D 6 65535, nE D 7 65535, nE D 8 65535, nE D 9 65535]
def valI (D : List (List UInt8)) : Ev := ⟨nV D 0 9223372036854775807, true, false, nV D 1 18446744073709551615, 0, nV D 2 9223372036854775807, nV D 3 18446744073709551615, nV D 4 9223372036854775807, nV D 5 65535, nV D 6 65535, nV D 7 65535, nV D 8 65535⟩
def valO (r : Bool) (D : List (List UInt8)) : Ev := ⟨nV D 0 9223372036854775807, false, r, nV D 1 18446744073709551615, nV D 2 18446744073709551615, nV D 3 9223372036854775807, nV D 4 18446744073709551615, nV D 5 9223372036854775807, nV D 6 65535, nV D 7 65535, nV D 8 65535, nV D 9 65535⟩
def evZ : Ev := ⟨0, false, false, 0, 0, 0, 0, 0, 0, 0, 0, 0⟩
def prW (W : List (List UInt8)) : Int :=
  if W.contains [] = true ∨ W.length < 2 then 4 else
  if W.getD 1 [] = [105, 110] then (if W.length = 10 then fe (errsI (dl W)) else 4) else
  if W.getD 1 [] = [114, 101, 97, 108] ∨ W.getD 1 [] = [115, 104, 97, 114, 101] then (if W.length = 11 then fe (errsO (dl W)) else 4) else 4
/-- the error of a line, and its event -/
def prE (l : List UInt8) : Int := if l.length > 300 then 2 else prW (words 32 l)
def prV (l : List UInt8) : Ev := if prE l = 0 then (if (words 32 l).getD 1 [] = [105, 110] then valI (dl (words 32 l)) else valO ((words 32 l).getD 1 [] == [114, 101, 97, 108]) (dl (words 32 l))) else evZ
theorem prV_bad {l : List UInt8} {x : Int} (h : prE l = x) (hx : ¬ x = 0) : prE l = x ∧ prV l = evZ := ⟨h, by unfold prV; rw [if_neg (by rw [h]; exact hx)]⟩
theorem pr_long {l : List UInt8} (h : l.length > 300) : prE l = 2 ∧ prV l = evZ := prV_bad (by unfold prE; rw [if_pos h]) (by decide)
theorem pr_W {l : List UInt8} {x : Int} (h : ¬ l.length > 300) (hw : prW (words 32 l) = x) (hx : ¬ x = 0) : prE l = x ∧ prV l = evZ := prV_bad (by unfold prE; rw [if_neg h]; exact hw) hx
theorem pr_4 {l : List UInt8} (h : ¬ l.length > 300) (hw : ((words 32 l).contains [] = true ∨ (words 32 l).length < 2) ∨ ((words 32 l).getD 1 [] = [105, 110] ∧ (words 32 l).length ≠ 10) ∨ ((words 32 l).getD 1 [] ≠ [105, 110] ∧ (words 32 l).length ≠ 11) ∨ ((words 32 l).getD 1 [] ≠ [105, 110] ∧ (words 32 l).getD 1 [] ≠ [114, 101, 97, 108] ∧ (words 32 l).getD 1 [] ≠ [115, 104, 97, 114, 101])) : prE l = 4 ∧ prV l = evZ := by
  refine pr_W h ?_ (by decide)
  unfold prW
  split
  · rfl
  · rename_i h1
    rcases hw with hw | ⟨h2, h3⟩ | ⟨h2, h3⟩ | ⟨h2, h3, h4⟩
    · exact absurd hw h1
    · rw [if_pos h2, if_neg h3]
    · rw [if_neg h2, if_neg h3]; split
      · rfl
      · rfl
    · rw [if_neg h2, if_neg (by rintro (h | h); exact h3 h; exact h4 h)]
theorem pr_in {l : List UInt8} (h : ¬ l.length > 300) (h1 : ¬ (words 32 l).contains [] = true) (h2 : (words 32 l).getD 1 [] = [105, 110]) (h3 : (words 32 l).length = 10) : prE l = fe (errsI (dl (words 32 l))) := by
  unfold prE prW; rw [if_neg h, if_neg (by rintro (h | h); exact h1 h; omega), if_pos h2, if_pos h3]
theorem pr_out {l : List UInt8} (h : ¬ l.length > 300) (h1 : ¬ (words 32 l).contains [] = true) (h2 : ¬ (words 32 l).getD 1 [] = [105, 110]) (h4 : (words 32 l).getD 1 [] = [114, 101, 97, 108] ∨ (words 32 l).getD 1 [] = [115, 104, 97, 114, 101]) (h3 : (words 32 l).length = 11) : prE l = fe (errsO (dl (words 32 l))) := by
  unfold prE prW; rw [if_neg h, if_neg (by rintro (h | h); exact h1 h; omega), if_neg h2, if_pos h4, if_pos h3]
theorem pr_okI {l : List UInt8} (h : prE l = 0) (h2 : (words 32 l).getD 1 [] = [105, 110]) : prV l = valI (dl (words 32 l)) := by unfold prV; rw [if_pos h, if_pos h2]
theorem pr_okO {l : List UInt8} (h : prE l = 0) (h2 : ¬ (words 32 l).getD 1 [] = [105, 110]) : prV l = valO ((words 32 l).getD 1 [] == [114, 101, 97, 108]) (dl (words 32 l)) := by unfold prV; rw [if_pos h, if_neg h2]

set_option maxHeartbeats 4000000 in
set_option maxRecDepth 100000 in
theorem rwords_spec (l : List UInt8) (hl : l.length ≤ 1000) (w : World) (hs : HS w (feet []) [] w) :
    Calls Tryd.prog 51 #[s_ (bs l)] w fun e w' => ∃ zz, e = .returned ((fun (zz : (Option Addr) × Nat) => match zz with | (al', cl') => (vS al' (words 32 l) cl')) zz) ∧ (fun (zz : (Option Addr) × Nat) => match zz with | (al', cl') => True) zz ∧ Turn [] ((fun (zz : (Option Addr) × Nat) => match zz with | (al', cl') => [sS al' (words 32 l) cl']) zz) w w' := by
  refine calls_of (args := [s_ (bs l)]) (penv [s_ (bs l)]) (feet []) [] Tryd.func51 rfl rfl (look_penv _) hs ?_
  refine A.norm [(0, s_ (bs l))] [] (by exact ⟨rfl, trivial⟩) rfl ?_
  refine A.seq (A.region (A.goA [.p] [(0, s_ (bs l)), (2, e_)] [] T0 (by kernel_rfl) trivial ?_))
  refine A.tn (A.seq (A.region (A.goA [.p] [(0, s_ (bs l)), (2, e_), (3, e_)] [] T0 (by kernel_rfl) trivial ?_)))
  refine A.tn (A.seq (A.region (A.goA [.p] [(0, s_ (bs l)), (2, e_), (3, e_), (4, s_ (bs []))] [] T0 (by kernel_rfl) trivial ?_)))
  refine A.tn (A.seq (A.seq (A.region (A.goA [.p, .p, .p] [(0, s_ (bs l)), (2, e_), (3, e_), (4, s_ (bs [])), (7, c_ l.length), (8, i_ 0)] [] T0 (by kernel_rfl) trivial ?_))))
  refine A.tn (A.block (A.ownNil 9 1 [sS none ([] : List (List UInt8)) 0] rfl ?_))
  refine A.loop (fun (zz : Nat × (List (List UInt8)) × (Option Addr) × Nat × (List UInt8)) => match zz with | (k, xs, ax, cx, m) => [(0, s_ (bs l)), (2, e_), (7, c_ l.length), (8, c_ k), (3, vS ax xs cx), (4, s_ (bs m))]) (fun (zz : Nat × (List (List UInt8)) × (Option Addr) × Nat × (List UInt8)) => match zz with | (k, xs, ax, cx, m) => [sS ax xs cx]) (fun (zz : Nat × (List (List UInt8)) × (Option Addr) × Nat × (List UInt8)) => match zz with | (k, xs, ax, cx, m) => (k ≤ l.length) ∧ (xs.length ≤ k) ∧ (m.length ≤ k) ∧ (words 32 l = xs ++ glue m (words 32 (l.drop k)))) (fun (zz : Nat × (List (List UInt8)) × (Option Addr) × Nat × (List UInt8)) => match zz with | (k, xs, ax, cx, m) => l.length - k) (0, ([] : List (List UInt8)), none, 0, []) ⟨(by omega), (by simp), (by simp), (by (simp [glue_nil]))⟩ ?_ ?_
  · exact A.hereK [0] (by exact ⟨rfl, rfl, rfl, rfl, rfl, rfl, trivial⟩) (by kernel_rfl)
  · rintro ⟨k, xs, ax, cx, m⟩ ⟨hk, hx, hm, hw⟩
    refine A.norm [(0, s_ (bs l)), (2, e_), (7, c_ l.length), (8, c_ k), (3, vS ax xs cx), (4, s_ (bs m))] [sS ax xs cx] (by exact ⟨rfl, rfl, rfl, rfl, rfl, rfl, trivial⟩) rfl ?_
    refine A.seq (A.region (A.goA [.p] [(0, s_ (bs l)), (2, e_), (7, c_ l.length), (8, c_ k), (3, vS ax xs cx), (4, s_ (bs m)), (9, b_ (decide ((k : Int) < (l.length : Int))))] [] T0 (by kernel_rfl) trivial ?_))
    refine A.tn (A.seq (A.cond (E := decide ((k : Int) < (l.length : Int))) rfl (fun e1 => ?_) (fun e1 => ?_)))
    · skip
      have p1 := of_decide_eq_true e1
      refine A.skip (A.tn (A.seq (A.block (A.seq (A.region (A.goA [.p, .p] [(0, s_ (bs l)), (2, e_), (7, c_ l.length), (8, c_ k), (3, vS ax xs cx), (4, s_ (bs m)), (9, b_ (decide ((k : Int) < (l.length : Int)))), (5, c_ k)] [] T0 (by kernel_rfl) trivial ?_))))))
      refine A.tn (A.seq (A.region (A.goA [.p, .p, .si (l.getD k 0), .p] [(0, s_ (bs l)), (2, e_), (7, c_ l.length), (8, c_ k), (3, vS ax xs cx), (4, s_ (bs m)), (9, b_ (decide ((k : Int) < (l.length : Int)))), (5, c_ k), (14, b_ (((l.getD k 0).toNat : Int) == 32))] [] (fun κ => (0 ≤ ((k : Int) : Int) ∧ l[k]? = some (l.getD k 0)) ∧ True) (by kernel_rfl) ⟨⟨by omega, gdS (by first | assumption | omega | (simp [bs_beq, bs_inj] at h_; exact List.length_pos_iff.2 h_))⟩, trivial⟩ ?_)))
      refine A.tn (A.cond (E := ((l.getD k 0).toNat : Int) == 32) rfl (fun e2 => ?_) (fun e2 => ?_))
      · skip
        have p2 := e2; try simp only [nrm, bs_inj, Bool.or_eq_true, Bool.or_eq_false_iff, Bool.and_eq_true, Bool.and_eq_false_imp, decide_eq_true_eq, decide_eq_false_iff_not] at p2
        refine A.seq (A.region (A.goP [.p, .p] [(0, s_ (bs l)), (2, e_), (7, c_ l.length), (8, c_ k), (3, vS ax xs cx), (4, s_ (bs m)), (9, b_ (decide ((k : Int) < (l.length : Int)))), (5, c_ k), (14, b_ (((l.getD k 0).toNat : Int) == 32)), (15, vS ax xs cx), (16, s_ (bs m))] [] T0 (by kernel_rfl) trivial ?_))
        refine A.cons (A.buildSlice 17 (e := 9) [s_ (bs m)] (by kernel_rfl) rfl (fun _ => by kernel_rfl) (fun b2 => [sS ax xs cx, blk b2 [s_ (bs m)] 9]) (fun _ => rfl) ?_)
        intro b2
        refine A.cons (A.appendC (enc := encS) (xs := xs) ([m]) 0 18 (e := 9) (z := (s_ (bs []))) (sz := 1) (by_ := 16) (by kernel_rfl) rfl rfl rfl (by kernel_rfl) (by kernel_rfl) (by rfl) (by decide) encS_len encS_one rfl (rd_blk (i := 1) rfl) (by (simp; omega)) (fun A3 c3 => [sS A3 (xs ++ ([m])) c3, blk b2 [s_ (bs m)] 9]) (fun _ _ => rfl) ?_)
        intro A3 c3
        refine A.goA [.p] [(0, s_ (bs l)), (2, e_), (7, c_ l.length), (8, c_ k), (3, vS A3 (xs ++ ([m])) c3), (4, s_ (bs m)), (9, b_ (decide ((k : Int) < (l.length : Int)))), (5, c_ k), (14, b_ (((l.getD k 0).toNat : Int) == 32))] [] T0 (by kernel_rfl) trivial ?_
        refine A.tn (A.region (A.goA [.p] [(0, s_ (bs l)), (2, e_), (7, c_ l.length), (8, c_ k), (3, vS A3 (xs ++ ([m])) c3), (4, s_ (bs [])), (9, b_ (decide ((k : Int) < (l.length : Int)))), (5, c_ k), (14, b_ (((l.getD k 0).toNat : Int) == 32))] [] T0 (by kernel_rfl) trivial ?_))
        refine A.bn (A.tn (A.region (A.goA [.w ((k : Int) + 1), .p] [(0, s_ (bs l)), (2, e_), (7, c_ l.length), (8, i_ ((k : Int) + 1)), (3, vS A3 (xs ++ ([m])) c3), (4, s_ (bs [])), (9, b_ (decide ((k : Int) < (l.length : Int)))), (5, c_ k), (14, b_ (((l.getD k 0).toNat : Int) == 32))] [] (fun κ => (IntKind.i64.wrap ((k : Int) + 1) = ((k : Int) + 1)) ∧ True) (by kernel_rfl) ⟨(wrap_i64 (e := (k : Int) + 1) (by constructor <;> omega)), trivial⟩ ?_)))
        refine A.tn (A.next (k + 1, xs ++ ([m]), A3, c3, []) ⟨(by omega), (by (first | omega | (simp; omega))), (by (first | omega | (simp; done) | (rw [cut1 (by omega)]; simp; omega))), (by (first | (rw [hw, words_sp (by omega) (is32 (by first | assumption | fail)), glue_nil, List.append_assoc]; rfl) | (rw [hw, words_no (by omega) (fun h_ => by first | (simp_all; done) | fail), cut1 (by omega)])))⟩ (by (show l.length - (k + 1) < l.length - k; omega)) ?_)
        exact A.hereK [0] (by exact ⟨rfl, rfl, rfl, rfl, rfl, rfl, trivial⟩) (by kernel_rfl)
      · skip
        have p2 := e2; try simp only [nrm, bs_inj, Bool.or_eq_true, Bool.or_eq_false_iff, Bool.and_eq_true, Bool.and_eq_false_imp, decide_eq_true_eq, decide_eq_false_iff_not] at p2
        refine A.region (A.goA [.p, .p, .p, .p, .w ((k : Int) + 1), .ss, .ct, .p] [(0, s_ (bs l)), (2, e_), (7, c_ l.length), (8, c_ k), (3, vS ax xs cx), (4, s_ (bs (m ++ ((l.take (k + 1)).drop k)))), (9, b_ (decide ((k : Int) < (l.length : Int)))), (5, c_ k), (14, b_ (((l.getD k 0).toNat : Int) == 32))] [] (fun κ => (IntKind.i64.wrap ((k : Int) + 1) = ((k : Int) + 1)) ∧ ((0 ≤ ((k : Int) : Int) ∧ ((k : Int) : Int) ≤ ((k : Int) + 1)) ∧ ((k : Int) + 1) ≤ (l.length : Int)) ∧ m.length + ((l.take (k + 1)).drop k).length ≤ 9223372036854775807 ∧ True) (by kernel_rfl) ⟨(wrap_i64 (e := (k : Int) + 1) (by constructor <;> omega)), (by omega), (by (rw [cut1 (by omega)]; simp; omega)), trivial⟩ ?_)
        refine A.bn (A.tn (A.region (A.goA [.w ((k : Int) + 1), .p] [(0, s_ (bs l)), (2, e_), (7, c_ l.length), (8, i_ ((k : Int) + 1)), (3, vS ax xs cx), (4, s_ (bs (m ++ ((l.take (k + 1)).drop k)))), (9, b_ (decide ((k : Int) < (l.length : Int)))), (5, c_ k), (14, b_ (((l.getD k 0).toNat : Int) == 32))] [] (fun κ => (IntKind.i64.wrap ((k : Int) + 1) = ((k : Int) + 1)) ∧ True) (by kernel_rfl) ⟨(wrap_i64 (e := (k : Int) + 1) (by constructor <;> omega)), trivial⟩ ?_)))
        refine A.tn (A.next (k + 1, xs, ax, cx, m ++ ((l.take (k + 1)).drop k)) ⟨(by omega), (by (first | omega | (simp; omega))), (by (first | omega | (simp; done) | (rw [cut1 (by omega)]; simp; omega))), (by (first | (rw [hw, words_sp (by omega) (is32 (by first | assumption | fail)), glue_nil, List.append_assoc]; rfl) | (rw [hw, words_no (by omega) (fun h_ => by first | (simp_all; done) | fail), cut1 (by omega)])))⟩ (by (show l.length - (k + 1) < l.length - k; omega)) ?_)
        exact A.hereK [0] (by exact ⟨rfl, rfl, rfl, rfl, rfl, rfl, trivial⟩) (by kernel_rfl)
    · skip
      have p1 := of_decide_eq_false e1
      refine A.exit (A.te (A.te (A.bh (A.tn (A.seq (A.region (A.goP [.p, .p] [(0, s_ (bs l)), (2, e_), (7, c_ l.length), (8, c_ k), (3, vS ax xs cx), (4, s_ (bs m)), (9, b_ (decide ((k : Int) < (l.length : Int)))), (27, vS ax xs cx), (28, s_ (bs m))] [] T0 (by kernel_rfl) trivial ?_)))))))
      refine A.cons (A.buildSlice 29 (e := 9) [s_ (bs m)] (by kernel_rfl) rfl (fun _ => by kernel_rfl) (fun b4 => [sS ax xs cx, blk b4 [s_ (bs m)] 9]) (fun _ => rfl) ?_)
      intro b4
      refine A.cons (A.appendC (enc := encS) (xs := xs) ([m]) 0 30 (e := 9) (z := (s_ (bs []))) (sz := 1) (by_ := 16) (by kernel_rfl) rfl rfl rfl (by kernel_rfl) (by kernel_rfl) (by rfl) (by decide) encS_len encS_one rfl (rd_blk (i := 1) rfl) (by (simp; omega)) (fun A5 c5 => [sS A5 (xs ++ ([m])) c5, blk b4 [s_ (bs m)] 9]) (fun _ _ => rfl) ?_)
      intro A5 c5
      refine A.goA [.p] [(0, s_ (bs l)), (2, vS A5 (xs ++ ([m])) c5), (7, c_ l.length), (8, c_ k), (3, vS ax xs cx), (4, s_ (bs m)), (9, b_ (decide ((k : Int) < (l.length : Int))))] [] T0 (by kernel_rfl) trivial ?_
      refine A.tn (A.ret (A.setH [sS A5 (words 32 l) c5, blk b4 [s_ (bs m)] 9] (cc (slC (by (rw [hw, List.drop_eq_nil_of_le (by omega)]; simp [words, glue]) : xs ++ ([m]) = (words 32 l))) rfl) ?_))
      refine A.postK [0] [vS A5 (xs ++ ([m])) c5] (fun aa ww rr ss => ⟨rv_tmp rr rfl, trivial⟩) (A5, c5) ?_ ?_ (by kernel_rfl)
      · show ((vS A5 (xs ++ ([m])) c5) : Value) = (vS A5 (words 32 l) c5)
        rw [hw, List.drop_eq_nil_of_le (by omega)]; simp [words, glue]
      · trivial

set_option maxHeartbeats 4000000 in
set_option maxRecDepth 100000 in
theorem nx_spec (r : Nat) (al : Option Addr) (D : List (List UInt8)) (es : List Int) (cl : Nat) (m : Int) (h0 : es.length < D.length) (hcw : (D.drop (jE es)).length ≤ cl - jE es) (hm : 65535 ≤ m ∧ m < 18446744073709551616) (w : World) (hs : HS w (feet [blk r [vS (cutN al cl (jE es)) (D.drop (jE es)) (cl - (jE es)), i_ (fe es)] 96, sS al D cl]) [blk r [vS (cutN al cl (jE es)) (D.drop (jE es)) (cl - (jE es)), i_ (fe es)] 96, sS al D cl] w) :
    Calls Tryd.prog 50 #[p_ r, u_ m] w fun e w' => ∃ zz, e = .returned ((fun (zz : Unit) => (u_ (nxV D es m))) zz) ∧ (fun (zz : Unit) => True) zz ∧ Turn [blk r [vS (cutN al cl (jE es)) (D.drop (jE es)) (cl - (jE es)), i_ (fe es)] 96, sS al D cl] ((fun (zz : Unit) => [blk r [vS (cutN al cl (jE (es ++ [nE D es.length m]))) (D.drop (jE (es ++ [nE D es.length m]))) (cl - (jE (es ++ [nE D es.length m]))), i_ (fe (es ++ [nE D es.length m]))] 96, sS al D cl]) zz) w w' := by
  refine calls_of (args := [p_ r, u_ m]) (penv [p_ r, u_ m]) (feet [blk r [vS (cutN al cl (jE es)) (D.drop (jE es)) (cl - (jE es)), i_ (fe es)] 96, sS al D cl]) [blk r [vS (cutN al cl (jE es)) (D.drop (jE es)) (cl - (jE es)), i_ (fe es)] 96, sS al D cl] Tryd.func50 rfl rfl (look_penv _) hs ?_
  refine A.norm [(0, p_ r), (1, u_ m)] [blk r [vS (cutN al cl (jE es)) (D.drop (jE es)) (cl - (jE es)), i_ (fe es)] 96, sS al D cl] (by exact ⟨rfl, rfl, trivial⟩) rfl ?_
  refine A.seq (A.region (A.goA [.p] [(0, p_ r), (1, u_ m), (4, u_ 0)] [] T0 (by kernel_rfl) trivial ?_))
  refine A.tn (A.seq (A.seq (A.region (A.goA [.p, .p, .p, .ld 0, .p] [(0, p_ r), (1, u_ m), (4, u_ 0), (10, b_ ((fe es) != 0))] [r] T0 (by kernel_rfl) trivial ?_))))
  refine A.tn (A.cond (E := (fe es) != 0) rfl (fun e1 => ?_) (fun e1 => ?_))
  · skip
    have p1 := e1; try simp only [nrm, bs_inj, Bool.or_eq_true, Bool.or_eq_false_iff, Bool.and_eq_true, Bool.and_eq_false_imp, decide_eq_true_eq, decide_eq_false_iff_not] at p1
    have hz : ¬ fe es = 0 := by simpa using e1
    refine A.seq (A.region (A.goA [.p] [(0, p_ r), (1, u_ m), (4, u_ 0), (10, b_ ((fe es) != 0))] [] T0 (by kernel_rfl) trivial ?_))
    refine A.tn (A.ret (A.tr (A.norm [(0, p_ r), (1, u_ m), (4, u_ 0), (10, b_ ((fe es) != 0))] [blk r [vS (cutN al cl (jE (es ++ [nE D es.length m]))) (D.drop (jE (es ++ [nE D es.length m]))) (cl - (jE (es ++ [nE D es.length m]))), i_ (fe (es ++ [nE D es.length m]))] 96, sS al D cl] (by exact ⟨rfl, rfl, rfl, rfl, trivial⟩) (by rw [jE_snoc, fe_snoc, if_neg hz, if_neg hz]) ?_)))
    refine A.postK [0, 0] [u_ 0] (fun aa ww rr ss => ⟨rv_tmp rr rfl, trivial⟩) () ?_ ?_ (by kernel_rfl)
    · show ((u_ 0) : Value) = (u_ (nxV D es m))
      unfold nxV; first | (rw [if_pos hz]; rfl) | (rw [if_neg hz])
    · trivial
  · skip
    have p1 := e1; try simp only [nrm, bs_inj, Bool.or_eq_true, Bool.or_eq_false_iff, Bool.and_eq_true, Bool.and_eq_false_imp, decide_eq_true_eq, decide_eq_false_iff_not] at p1
    have hz : fe es = 0 := by simpa using e1
    have hj := jE_ok hz
    refine A.skip (A.tn (A.seq (A.region (A.goA [.p] [(0, p_ r), (1, u_ m), (4, u_ 0), (10, b_ ((fe es) != 0)), (5, u_ 0)] [] T0 (by kernel_rfl) trivial ?_))))
    refine A.tn (A.seq (A.region (A.goAS [.p, .p, .p, .p, .ld 0, .ix, .rd [s_ (bs (D.getD es.length []))], .p, .cq (.tuple #[u_ (numV (D.getD es.length []) m), i_ (numE (D.getD es.length []) m)]), .p, .p, .p, .p, .p, .p, .st 0] [(0, p_ r), (1, u_ m), (4, u_ 0), (10, b_ ((fe es) != 0)), (5, u_ (numV (D.getD es.length []) m))] [blk r [vS (cutN al cl (jE es)) (D.drop (jE es)) (cl - (jE es)), i_ (numE (D.getD es.length []) m)] 96, sS al D cl] [r, r] (fun κ => κ.ix (cutN al cl (jE es)) ((D.drop (jE es)).length) (0 : Int) ∧ κ.rd ((at0 (cutN al cl (jE es))).add (0 * 1)) [s_ (bs (D.getD es.length []))] ∧ κ.call 61 [s_ (bs (D.getD es.length [])), u_ m] (.tuple #[u_ (numV (D.getD es.length []) m), i_ (numE (D.getD es.length []) m)]) ∧ True) (by kernel_rfl) ⟨(ixOf encS_len (by decide) (rd_cutN encS_len (rd_sl (i := 1) rfl) (fun _ hs_ => sl_cap (hs_.mem (i := 1) rfl)) (jE es) (by first | omega | (rw [hj]; omega))) (by first | omega | (rw [hj]; simp; omega))), reads_at0 (vs := [s_ (bs (D.getD es.length []))]) encS_len (rd_cutN encS_len (rd_sl (i := 1) rfl) (fun _ hs_ => sl_cap (hs_.mem (i := 1) rfl)) (jE es) (by first | omega | (rw [hj]; omega))) (by rw [List.getElem?_drop, Nat.add_zero, hj]; exact gdL h0) (Nat.le_of_ble_eq_true rfl) rfl, (fun ww ss => tnum_spec (D.getD es.length []) m (by first | assumption | omega | (simp; omega)) ww), trivial⟩ ?_)))
    refine A.tn (A.seq (A.region (A.goP [.p, .p, .p, .p, .ld 0] [(0, p_ r), (1, u_ m), (4, u_ 0), (10, b_ ((fe es) != 0)), (5, u_ (numV (D.getD es.length []) m)), (25, p_ r), (29, vS (cutN al cl (jE es)) (D.drop (jE es)) (cl - (jE es)))] [r] T0 (by kernel_rfl) trivial ?_)))
    refine A.cons (A.q (some 30) (vS (cutA (cutN al cl (jE es)) (cl - (jE es)) 1 1) ((D.drop (jE es)).drop 1) ((cl - (jE es)) - 1)) (by kernel_rfl) (qt_dropS (e := 9) (xs := (D.drop (jE es))) (sz := 1) 1 rfl rfl rfl (by kernel_rfl) (by kernel_rfl) (by (rw [hj]; simp; omega)) (fun _ _ => hcw)) ?_)
    refine A.goAS [.p, .p, .st 0] [(0, p_ r), (1, u_ m), (4, u_ 0), (10, b_ ((fe es) != 0)), (5, u_ (numV (D.getD es.length []) m))] [blk r [vS (cutA (cutN al cl (jE es)) (cl - (jE es)) 1 1) ((D.drop (jE es)).drop 1) ((cl - (jE es)) - 1), i_ (numE (D.getD es.length []) m)] 96, sS al D cl] [r] T0 (by kernel_rfl) trivial ?_
    refine A.tn (A.seq (A.region (A.goA [.p, .p] [(0, p_ r), (1, u_ m), (4, u_ (numV (D.getD es.length []) m)), (10, b_ ((fe es) != 0)), (5, u_ (numV (D.getD es.length []) m))] [] T0 (by kernel_rfl) trivial ?_)))
    refine A.tn (A.ret ?_)
    have hdd : (D.drop (jE es)).drop 1 = D.drop (jE es + 1) := by rw [List.drop_drop]
    refine A.norm [(0, p_ r), (1, u_ m), (4, u_ (numV (D.getD es.length []) m)), (10, b_ ((fe es) != 0)), (5, u_ (numV (D.getD es.length []) m))] [blk r [vS (cutN al cl (jE (es ++ [nE D es.length m]))) (D.drop (jE (es ++ [nE D es.length m]))) (cl - (jE (es ++ [nE D es.length m]))), i_ (fe (es ++ [nE D es.length m]))] 96, sS al D cl] (by exact ⟨rfl, rfl, rfl, rfl, rfl, trivial⟩) (by rw [jE_snoc, fe_snoc, if_pos hz, if_pos hz, ← hdd]; rfl) ?_
    refine A.postK [0, 0] [u_ (numV (D.getD es.length []) m)] (fun aa ww rr ss => ⟨rv_tmp rr rfl, trivial⟩) () ?_ ?_ (by kernel_rfl)
    · show ((u_ (numV (D.getD es.length []) m)) : Value) = (u_ (nxV D es m))
      unfold nxV; first | (rw [if_pos hz]; rfl) | (rw [if_neg hz])
    · trivial
end Go.Proofs.YtdamfdnakkofmaaDoor
