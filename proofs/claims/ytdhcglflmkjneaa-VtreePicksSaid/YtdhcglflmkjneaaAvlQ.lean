/- Balanced trees: plain laws. -/
import Derived.Test.YtdhcglflmkjneaaAvlP
namespace Go.Proofs.Ytdhcglflmkjneaa
open Go V
set_option linter.unusedVariables false
set_option linter.unusedSimpArgs false

def kl (a b : It) : Prop := lessK a.ka a.ki b.ka b.ki
instance (a b : It) : Decidable (kl a b) := by unfold kl; infer_instance
theorem kl_trans {a b c : It} (h : kl a b) (k : kl b c) : kl a c := by unfold kl lessK at *; omega
theorem kl_irr {a : It} : ¬ kl a a := by unfold kl lessK; omega
theorem kl_asym {a b : It} (h : kl a b) : ¬ kl b a := by unfold kl lessK at *; omega
theorem kl_tri {a b : It} (h : ¬ kl a b) (k : ¬ kl b a) : a.ka = b.ka ∧ a.ki = b.ki := by unfold kl lessK at *; omega
def Srt (l : List It) : Prop := l.Pairwise kl
def insL (x : It) : List It → List It
  | [] => [x]
  | y :: l => if kl x y then x :: y :: l else y :: insL x l
theorem insL_len (x : It) : ∀ l, (insL x l).length = l.length + 1
  | [] => rfl
  | y :: l => by unfold insL; split <;> simp [insL_len x l]
theorem insL_left {x y : It} (h : kl x y) (R : List It) : ∀ L, insL x (L ++ y :: R) = insL x L ++ y :: R
  | [] => by simp [insL, h]
  | z :: L => by simp only [List.cons_append, insL]; split <;> simp [insL_left h R L]
theorem insL_right {x y : It} (h : kl y x) (R : List It) : ∀ L, Srt (L ++ y :: R) → insL x (L ++ y :: R) = L ++ y :: insL x R
  | [], _ => by simp [insL, kl_asym h]
  | z :: L, hs => by
    have hs' := List.pairwise_cons.1 hs
    have hz : kl z y := hs'.1 y (by simp)
    have hn : ¬ kl x z := kl_asym (kl_trans hz h)
    simp only [List.cons_append, insL, if_neg hn]
    rw [insL_right h R L hs'.2]
theorem mem_insL {x z : It} : ∀ {l : List It}, z ∈ insL x l ↔ z = x ∨ z ∈ l
  | [] => by simp [insL]
  | y :: l => by
    unfold insL; split
    · simp
    · simp only [List.mem_cons, mem_insL (l := l)]; grind
theorem insL_srt {x : It} : ∀ {l : List It}, Srt l → (∀ y ∈ l, ¬ (y.ka = x.ka ∧ y.ki = x.ki)) → Srt (insL x l)
  | [], _, _ => by simp [insL, Srt]
  | y :: l, hs, hn => by
    have hs' := List.pairwise_cons.1 hs
    unfold insL; split
    · rename_i h
      refine List.pairwise_cons.2 ⟨fun z hz => ?_, hs⟩
      rcases List.mem_cons.1 hz with rfl | hz
      · exact h
      · exact kl_trans h (hs'.1 z hz)
    · rename_i h
      refine List.pairwise_cons.2 ⟨fun z hz => ?_, insL_srt hs'.2 fun z hz => hn z (by simp [hz])⟩
      rcases mem_insL.1 hz with rfl | hz
      · by_cases hk : kl y z
        · exact hk
        · exact absurd (kl_tri hk h) (hn y (by simp))
      · exact hs'.1 z hz
/-- a list without a key -/
def delL (a i : Int) (l : List It) : List It := l.filter fun y => !decide (y.ka = a ∧ y.ki = i)
theorem delL_srt {a i : Int} {l : List It} (h : Srt l) : Srt (delL a i l) := List.Pairwise.filter _ h
theorem delL_none {a i : Int} {l : List It} (h : ∀ y ∈ l, ¬ (y.ka = a ∧ y.ki = i)) : delL a i l = l := by
  unfold delL; rw [List.filter_eq_self]; intro y hy; simp only [Bool.not_eq_true', decide_eq_false_iff_not]; exact h y hy
theorem srt_mid {L R : List It} {x : It} (h : Srt (L ++ x :: R)) : Srt L ∧ Srt R ∧ (∀ y ∈ L, kl y x) ∧ (∀ y ∈ R, kl x y) ∧ (∀ y ∈ L, ∀ z ∈ R, kl y z) := by
  obtain ⟨h1, h2, h3⟩ := List.pairwise_append.1 h
  obtain ⟨h4, h5⟩ := List.pairwise_cons.1 h2
  exact ⟨h1, h5, fun y hy => h3 y hy x (by simp), h4, fun y hy z hz => h3 y hy z (by simp [hz])⟩
theorem delL_at {L R : List It} {x : It} (h : Srt (L ++ x :: R)) : delL x.ka x.ki (L ++ x :: R) = L ++ R := by
  obtain ⟨_, _, h3, h4, _⟩ := srt_mid h
  have hL : ∀ y ∈ L, ¬ (y.ka = x.ka ∧ y.ki = x.ki) := fun y hy e => by have := h3 y hy; unfold kl lessK at this; omega
  have hR : ∀ y ∈ R, ¬ (y.ka = x.ka ∧ y.ki = x.ki) := fun y hy e => by have := h4 y hy; unfold kl lessK at this; omega
  have e1 := delL_none hL; have e2 := delL_none hR
  unfold delL at *
  rw [List.filter_append, List.filter_cons, e1, e2]; simp
theorem delL_left {L R : List It} {x : It} {a i : Int} (h : Srt (L ++ x :: R)) (hk : lessK a i x.ka x.ki) : delL a i (L ++ x :: R) = delL a i L ++ x :: R := by
  obtain ⟨_, _, h3, h4, _⟩ := srt_mid h
  have hR : ∀ y ∈ x :: R, ¬ (y.ka = a ∧ y.ki = i) := fun y hy e => by
    rcases List.mem_cons.1 hy with rfl | hy
    · unfold lessK at hk; omega
    · have := h4 y hy; unfold kl lessK at *; omega
  have e1 := delL_none hR
  unfold delL at *
  rw [List.filter_append, e1]
theorem delL_right {L R : List It} {x : It} {a i : Int} (h : Srt (L ++ x :: R)) (hk : lessK x.ka x.ki a i) : delL a i (L ++ x :: R) = L ++ x :: delL a i R := by
  obtain ⟨_, _, h3, h4, _⟩ := srt_mid h
  have hL : ∀ y ∈ L, ¬ (y.ka = a ∧ y.ki = i) := fun y hy e => by have := h3 y hy; unfold kl lessK at *; omega
  have hx : ¬ (x.ka = a ∧ x.ki = i) := fun e => by unfold lessK at hk; omega
  have e1 := delL_none hL
  unfold delL at *
  rw [List.filter_append, e1, List.filter_cons, if_pos (by simp only [Bool.not_eq_true', decide_eq_false_iff_not]; exact hx)]

def T.Bal : T → Prop
  | .nil => True
  | .node _ _ _ _ _ l r => l.hgt ≤ r.hgt + 1 ∧ r.hgt ≤ l.hgt + 1 ∧ l.Bal ∧ r.Bal
theorem hgt_mk {b : Nat} {x : It} {l r : T} : (mk b x l r).hgt = 1 + max l.hgt r.hgt := rfl
theorem toL_mk {b : Nat} {x : It} {l r : T} : (mk b x l r).toL = l.toL ++ x :: r.toL := rfl
theorem bal_mk {b : Nat} {x : It} {l r : T} (h1 : l.hgt ≤ r.hgt + 1) (h2 : r.hgt ≤ l.hgt + 1) (h3 : l.Bal) (h4 : r.Bal) : (mk b x l r).Bal := ⟨h1, h2, h3, h4⟩
theorem balT_ok {b : Nat} {x : It} {l r : T} (hl : l.Right) (hr : r.Right) (bl : l.Bal) (br : r.Bal) (h1 : l.hgt ≤ r.hgt + 2) (h2 : r.hgt ≤ l.hgt + 2) :
    (balT b x l r).Right ∧ (balT b x l r).Bal ∧ (balT b x l r).toL = l.toL ++ x :: r.toL ∧ max l.hgt r.hgt ≤ (balT b x l r).hgt ∧ (balT b x l r).hgt ≤ 1 + max l.hgt r.hgt ∧ (l.hgt ≤ r.hgt + 1 → r.hgt ≤ l.hgt + 1 → (balT b x l r).hgt = 1 + max l.hgt r.hgt) := by
  by_cases c1 : l.hgt ≤ r.hgt + 1
  · by_cases c2 : r.hgt ≤ l.hgt + 1
    · rw [bal_0 c1 c2]
      exact ⟨right_mk hl hr, bal_mk c1 c2 bl br, rfl, by rw [hgt_mk]; omega, by rw [hgt_mk]; omega, fun _ _ => rfl⟩
    · cases r with
      | nil => have := hl.pos; simp only [hgt_nil] at *; omega
      | node br' y my hy ny p q =>
        obtain ⟨em, eh, en, hp, hq⟩ := hr
        obtain ⟨b1, b2, bp, bq⟩ := br
        by_cases c3 : p.hgt > q.hgt
        · cases p with
          | nil => have := hq.pos; simp only [hgt_nil] at *; omega
          | node bz z mz hz nz a c =>
            rw [bal_L2 c1 c2 c3]
            obtain ⟨em2, eh2, en2, ha, hc⟩ := hp
            obtain ⟨b3, b4, ba, bc⟩ := bp
            simp only [hgt_node, mkH] at *
            refine ⟨right_mk (right_mk hl ha) (right_mk hc hq), bal_mk ?_ ?_ (bal_mk ?_ ?_ bl ba) (bal_mk ?_ ?_ bc bq), ?_, ?_, ?_, ?_⟩
            all_goals (try simp only [hgt_mk, toL_mk, T.toL, List.append_assoc, List.cons_append]) <;> (try omega)
        · rw [bal_L1 c1 c2 c3]
          simp only [hgt_node, mkH] at *
          refine ⟨right_mk (right_mk hl hp) hq, bal_mk ?_ ?_ (bal_mk ?_ ?_ bl bp) bq, ?_, ?_, ?_, ?_⟩
          all_goals (try simp only [hgt_mk, toL_mk, T.toL, List.append_assoc, List.cons_append]) <;> (try omega)
  · cases l with
    | nil => have := hr.pos; simp only [hgt_nil] at *; omega
    | node bl' y my hy ny p q =>
      obtain ⟨em, eh, en, hp, hq⟩ := hl
      obtain ⟨b1, b2, bp, bq⟩ := bl
      by_cases c3 : q.hgt > p.hgt
      · cases q with
        | nil => have := hp.pos; simp only [hgt_nil] at *; omega
        | node bz z mz hz nz a c =>
          rw [bal_R2 c1 c3]
          obtain ⟨em2, eh2, en2, ha, hc⟩ := hq
          obtain ⟨b3, b4, ba, bc⟩ := bq
          simp only [hgt_node, mkH] at *
          refine ⟨right_mk (right_mk hp ha) (right_mk hc hr), bal_mk ?_ ?_ (bal_mk ?_ ?_ bp ba) (bal_mk ?_ ?_ bc br), ?_, ?_, ?_, ?_⟩
          all_goals (try simp only [hgt_mk, toL_mk, T.toL, List.append_assoc, List.cons_append]) <;> (try omega)
      · rw [bal_R1 c1 c3]
        simp only [hgt_node, mkH] at *
        refine ⟨right_mk hp (right_mk hq hr), bal_mk ?_ ?_ bp (bal_mk ?_ ?_ bq br), ?_, ?_, ?_, ?_⟩
        all_goals (try simp only [hgt_mk, toL_mk, T.toL, List.append_assoc, List.cons_append]) <;> (try omega)
/-- what a change is to come to: the list, and a height between lo and hi more -/
structure Chg (t z : T) (l : List It) (lo hi : Int) : Prop where
  right : z.Right
  bal : z.Bal
  list : z.toL = l
  lo : t.hgt + lo ≤ z.hgt
  hi : z.hgt ≤ t.hgt + hi
theorem ins_L {b : Nat} {x m it : It} {h n : Int} {l r z : T} (ht : (T.node b x m h n l r).Right) (hb : (T.node b x m h n l r).Bal) (c : Chg l z (insL it l.toL) 0 1) (hk : kl it x) : Chg (.node b x m h n l r) (balT b x z r) (insL it (T.node b x m h n l r).toL) 0 1 := by
  obtain ⟨em, eh, en, hl, hr⟩ := ht
  obtain ⟨b1, b2, bl, br⟩ := hb
  have c4 := c.lo; have c5 := c.hi
  obtain ⟨k1, k2, k3, k4, k5, k6⟩ := balT_ok (b := b) (x := x) c.right hr c.bal br (by omega) (by omega)
  refine ⟨k1, k2, by rw [k3, c.list, T.toL, insL_left hk], ?_, ?_⟩ <;> rw [hgt_node, eh, mkH]
  · by_cases d1 : z.hgt ≤ r.hgt + 1
    · have := k6 d1 (by omega); omega
    · omega
  · by_cases d1 : z.hgt ≤ r.hgt + 1
    · have := k6 d1 (by omega); omega
    · omega
theorem ins_R {b : Nat} {x m it : It} {h n : Int} {l r z : T} (ht : (T.node b x m h n l r).Right) (hb : (T.node b x m h n l r).Bal) (hs : Srt (T.node b x m h n l r).toL) (c : Chg r z (insL it r.toL) 0 1) (hk : kl x it) : Chg (.node b x m h n l r) (balT b x l z) (insL it (T.node b x m h n l r).toL) 0 1 := by
  obtain ⟨em, eh, en, hl, hr⟩ := ht
  obtain ⟨b1, b2, bl, br⟩ := hb
  have c4 := c.lo; have c5 := c.hi
  obtain ⟨k1, k2, k3, k4, k5, k6⟩ := balT_ok (b := b) (x := x) hl c.right bl c.bal (by omega) (by omega)
  refine ⟨k1, k2, by rw [k3, c.list, T.toL, insL_right hk _ _ hs], ?_, ?_⟩ <;> rw [hgt_node, eh, mkH]
  · by_cases d1 : z.hgt ≤ l.hgt + 1
    · have := k6 (by omega) d1; omega
    · omega
  · by_cases d1 : z.hgt ≤ l.hgt + 1
    · have := k6 (by omega) d1; omega
    · omega
/-- a side made lower by one at the most -/
theorem del_any {b b' : Nat} {x y m : It} {h n : Int} {l r z : T} {lst : List It} (ht : (T.node b x m h n l r).Right) (hb : (T.node b x m h n l r).Bal) (c : Chg r z lst (-1) 0) : Chg (.node b x m h n l r) (balT b' y l z) (l.toL ++ y :: lst) (-1) 0 := by
  obtain ⟨em, eh, en, hl, hr⟩ := ht
  obtain ⟨b1, b2, bl, br⟩ := hb
  have c4 := c.lo; have c5 := c.hi
  obtain ⟨k1, k2, k3, k4, k5, k6⟩ := balT_ok (b := b') (x := y) hl c.right bl c.bal (by omega) (by omega)
  refine ⟨k1, k2, by rw [k3, c.list], ?_, ?_⟩ <;> rw [hgt_node, eh, mkH]
  · by_cases d1 : l.hgt ≤ z.hgt + 1
    · have := k6 d1 (by omega); omega
    · omega
  · by_cases d1 : l.hgt ≤ z.hgt + 1
    · have := k6 d1 (by omega); omega
    · omega
theorem del_anyL {b b' : Nat} {x y m : It} {h n : Int} {l r z : T} {lst : List It} (ht : (T.node b x m h n l r).Right) (hb : (T.node b x m h n l r).Bal) (c : Chg l z lst (-1) 0) : Chg (.node b x m h n l r) (balT b' y z r) (lst ++ y :: r.toL) (-1) 0 := by
  obtain ⟨em, eh, en, hl, hr⟩ := ht
  obtain ⟨b1, b2, bl, br⟩ := hb
  have c4 := c.lo; have c5 := c.hi
  obtain ⟨k1, k2, k3, k4, k5, k6⟩ := balT_ok (b := b') (x := y) c.right hr c.bal br (by omega) (by omega)
  refine ⟨k1, k2, by rw [k3, c.list], ?_, ?_⟩ <;> rw [hgt_node, eh, mkH]
  · by_cases d1 : r.hgt ≤ z.hgt + 1
    · have := k6 (by omega) d1; omega
    · omega
  · by_cases d1 : r.hgt ≤ z.hgt + 1
    · have := k6 (by omega) d1; omega
    · omega
theorem chg_leaf {b : Nat} {it : It} : Chg .nil (mk b it .nil .nil) (insL it T.nil.toL) 0 1 := ⟨right_mk right_nil right_nil, bal_mk (by decide) (by decide) trivial trivial, rfl, by simp [hgt_mk, hgt_nil], by simp [hgt_mk, hgt_nil]⟩
/-! what is asked -/
def T.findT (a i : Int) : T → T
  | .nil => .nil
  | .node b x m h n l r => if x.ka = a ∧ x.ki = i then .node b x m h n l r else if lessK x.ka x.ki a i then T.findT a i r else T.findT a i l
theorem findT_holds {TN : TypeId} {a i : Int} {w : World} : ∀ {t : T}, (treeI TN t).holds w → (treeI TN (t.findT a i)).holds w
  | .nil, _ => trivial
  | .node b x m h n l r, h1 => by
    unfold T.findT
    split
    · exact h1
    · split
      · exact findT_holds (t := r) h1.2.2
      · exact findT_holds (t := l) h1.2.1
theorem findT_nil {a i : Int} : ∀ {t : T}, Srt t.toL → t.findT a i = .nil → ∀ y ∈ t.toL, ¬ (y.ka = a ∧ y.ki = i)
  | .nil, _, _ => by simp [T.toL]
  | .node b x m h n l r, hs, hf => by
    obtain ⟨h1, h2, h3, h4, h5⟩ := srt_mid (L := l.toL) (R := r.toL) hs
    unfold T.findT at hf
    split at hf
    · cases hf
    · rename_i hx
      split at hf
      · rename_i hl
        have ih := findT_nil h2 hf
        intro y hy
        simp only [T.toL, List.mem_append, List.mem_cons] at hy
        rcases hy with hy | rfl | hy
        · intro e; have := h3 y hy; unfold kl lessK at *; omega
        · exact hx
        · exact ih y hy
      · rename_i hl
        have ih := findT_nil h1 hf
        intro y hy
        simp only [T.toL, List.mem_append, List.mem_cons] at hy
        rcases hy with hy | rfl | hy
        · exact ih y hy
        · exact hx
        · intro e; have := h4 y hy; unfold kl lessK at *; omega
theorem findT_some {a i : Int} : ∀ {t : T} {b : Nat} {x m : It} {h n : Int} {l r : T}, t.findT a i = .node b x m h n l r → (x.ka = a ∧ x.ki = i) ∧ x ∈ t.toL
  | .nil, _, _, _, _, _, _, _, hf => by cases hf
  | .node b' x' m' h' n' l' r', b, x, m, h, n, l, r, hf => by
    unfold T.findT at hf
    split at hf
    · rename_i hx; cases hf; exact ⟨hx, by simp [T.toL]⟩
    · split at hf
      · have := findT_some hf; exact ⟨this.1, by simp [T.toL, this.2]⟩
      · have := findT_some hf; exact ⟨this.1, by simp [T.toL, this.2]⟩
def T.hasB (at_ : Int) : T → Bool
  | .nil => false
  | .node _ _ m .. => decide (m.va ≤ at_)
theorem delL_head {y : It} {L : List It} (h : Srt (y :: L)) : delL y.ka y.ki (y :: L) = L := by simpa using delL_at (L := []) h
theorem delL_len {a i : Int} (L : List It) : (delL a i L).length ≤ L.length := List.length_filter_le _ _
theorem head_mem {y : It} {L : List It} (h : L.head? = some y) : y ∈ L := List.mem_of_mem_head? h
theorem del_nil {b : Nat} {x m : It} {h n : Int} {l : T} (hR : (T.node b x m h n l .nil).Right) (hB : (T.node b x m h n l .nil).Bal) : Chg (.node b x m h n l .nil) l (l.toL ++ T.nil.toL) (-1) 0 := by
  obtain ⟨em, eh, en, hl, hr⟩ := hR
  have := hl.pos
  refine ⟨hl, hB.2.2.1, by simp [T.toL], ?_, ?_⟩ <;> rw [hgt_node, eh, mkH, hgt_nil] <;> omega
/-- the root away, the next one in its place -/
theorem del_mid {b : Nat} {x m y : It} {h n : Int} {l r z : T} (hR : (T.node b x m h n l r).Right) (hB : (T.node b x m h n l r).Bal) (hS : Srt r.toL) (hy : r.toL.head? = some y) (c : Chg r z (delL y.ka y.ki r.toL) (-1) 0) :
    Chg (.node b x m h n l r) (balT b y l z) (l.toL ++ r.toL) (-1) 0 := by
  have h1 := del_any (b' := b) (y := y) hR hB c
  obtain ⟨L, hL⟩ : ∃ L, r.toL = y :: L := by cases hr : r.toL with | nil => rw [hr] at hy; cases hy | cons z L => rw [hr] at hy; simp at hy; subst hy; exact ⟨L, rfl⟩
  rw [hL, delL_head (hL ▸ hS)] at h1
  rw [hL]; exact h1
section
variable {b : Nat} {x m : It} {h n : Int} {l r z : T} {a i : Int}
theorem delL_key (hS : Srt (T.node b x m h n l r).toL) (hk : x.ka = a ∧ x.ki = i) : delL a i (T.node b x m h n l r).toL = l.toL ++ r.toL := by
  obtain ⟨rfl, rfl⟩ := hk; exact delL_at hS
theorem mem_R (hS : Srt (T.node b x m h n l r).toL) (hM : ∃ y ∈ (T.node b x m h n l r).toL, y.ka = a ∧ y.ki = i) (hc : lessK x.ka x.ki a i) : ∃ y ∈ r.toL, y.ka = a ∧ y.ki = i := by
  obtain ⟨y, hy, e1, e2⟩ := hM
  obtain ⟨_, _, h3, _, _⟩ := srt_mid (L := l.toL) (R := r.toL) hS
  simp only [T.toL, List.mem_append, List.mem_cons] at hy
  rcases hy with hy | rfl | hy
  · have := h3 y hy; unfold kl lessK at *; omega
  · unfold lessK at hc; omega
  · exact ⟨y, hy, e1, e2⟩
theorem less_of (hc : ¬ lessK x.ka x.ki a i) (hn : ¬ (x.ka = a ∧ x.ki = i)) : lessK a i x.ka x.ki := by unfold lessK at *; omega
theorem mem_L (hS : Srt (T.node b x m h n l r).toL) (hM : ∃ y ∈ (T.node b x m h n l r).toL, y.ka = a ∧ y.ki = i) (hc : ¬ lessK x.ka x.ki a i) (hn : ¬ (x.ka = a ∧ x.ki = i)) : ∃ y ∈ l.toL, y.ka = a ∧ y.ki = i := by
  obtain ⟨y, hy, e1, e2⟩ := hM
  obtain ⟨_, _, _, h4, _⟩ := srt_mid (L := l.toL) (R := r.toL) hS
  have hk := less_of hc hn
  simp only [T.toL, List.mem_append, List.mem_cons] at hy
  rcases hy with hy | rfl | hy
  · exact ⟨y, hy, e1, e2⟩
  · unfold lessK at hk; omega
  · have := h4 y hy; unfold kl lessK at *; omega
theorem del_R (hR : (T.node b x m h n l r).Right) (hB : (T.node b x m h n l r).Bal) (hS : Srt (T.node b x m h n l r).toL) (c : Chg r z (delL a i r.toL) (-1) 0) (hc : lessK x.ka x.ki a i) : Chg (.node b x m h n l r) (balT b x l z) (delL a i (T.node b x m h n l r).toL) (-1) 0 := by
  have := del_any (b' := b) (y := x) hR hB c
  rw [T.toL, delL_right hS hc]; exact this
theorem del_L (hR : (T.node b x m h n l r).Right) (hB : (T.node b x m h n l r).Bal) (hS : Srt (T.node b x m h n l r).toL) (c : Chg l z (delL a i l.toL) (-1) 0) (hn : ¬ (x.ka = a ∧ x.ki = i)) (hc : ¬ lessK x.ka x.ki a i) : Chg (.node b x m h n l r) (balT b x z r) (delL a i (T.node b x m h n l r).toL) (-1) 0 := by
  have := del_anyL (b' := b) (y := x) hR hB c
  rw [T.toL, delL_left hS (less_of hc hn)]; exact this
end
theorem srt_uniq {L : List It} (hS : Srt L) {x y : It} (hx : x ∈ L) (hy : y ∈ L) (h : x.ka = y.ka ∧ x.ki = y.ki) : x = y := by
  induction L with
  | nil => simp at hx
  | cons z L ih =>
    obtain ⟨h1, h2⟩ := List.pairwise_cons.1 hS
    rcases List.mem_cons.1 hx with e | hx' <;> rcases List.mem_cons.1 hy with e' | hy'
    · rw [e, e']
    · have := h1 y hy'; rw [e] at h; unfold kl lessK at this; omega
    · have := h1 x hx'; rw [e'] at h; unfold kl lessK at this; omega
    · exact ih h2 hx' hy'
theorem findT_mem {t : T} (hS : Srt t.toL) {y : It} (hy : y ∈ t.toL) {b : Nat} {x m : It} {h n : Int} {l r : T} (hf : t.findT y.ka y.ki = .node b x m h n l r) : x = y :=
  srt_uniq hS (findT_some hf).2 hy (findT_some hf).1
/-! the least ones -/
def bt (a b : It) : Prop := lessK b.va b.vi a.va a.vi ∨ (b.va = a.va ∧ b.vi = a.vi) ∧ lessK b.ka b.ki a.ka a.ki
theorem bet_t {a b : It} (h : bt a b) : bet a b = b := if_pos h
theorem bet_f {a b : It} (h : ¬ bt a b) : bet a b = a := if_neg h
theorem bet_or (a b : It) : (bt a b ∧ bet a b = b) ∨ (¬ bt a b ∧ bet a b = a) := by
  by_cases h : bt a b
  · exact .inl ⟨h, bet_t h⟩
  · exact .inr ⟨h, bet_f h⟩
theorem bet_comm (a b : It) : bet a b = bet b a := by
  rcases bet_or a b with ⟨h1, e1⟩ | ⟨h1, e1⟩ <;> rcases bet_or b a with ⟨h2, e2⟩ | ⟨h2, e2⟩ <;> rw [e1, e2]
  · unfold bt lessK at *; omega
  · cases a; cases b; simp only [bt, lessK, It.mk.injEq] at *; omega
theorem bet_assoc (a b c : It) : bet (bet a b) c = bet a (bet b c) := by
  rcases bet_or a b with ⟨h1, e1⟩ | ⟨h1, e1⟩ <;> rcases bet_or b c with ⟨h2, e2⟩ | ⟨h2, e2⟩ <;> rw [e1, e2]
  · exact (bet_t (by unfold bt lessK at *; omega)).symm
  · exact e1.symm
  · rw [e1]; exact bet_f (by unfold bt lessK at *; omega)
theorem bet_self (a : It) : bet a a = a := by rcases bet_or a a with ⟨_, e⟩ | ⟨_, e⟩ <;> exact e
def accB (o : Option It) (y : It) : Option It := match o with | none => some y | some v => some (bet v y)
def foldB (o : Option It) (L : List It) : Option It := L.foldl accB o
theorem foldB_some (a m : It) : ∀ L : List It, foldB none L = some m → foldB (some a) L = some (bet a m) := by
  have key : ∀ (L : List It) (v : It), ∃ k, foldB (some v) L = some k ∧ ∀ a, foldB (some (bet a v)) L = some (bet a k) := by
    intro L
    induction L with
    | nil => intro v; exact ⟨v, rfl, fun a => rfl⟩
    | cons y L ih =>
      intro v
      obtain ⟨k, h1, h2⟩ := ih (bet v y)
      exact ⟨k, h1, fun a => by show foldB (some (bet (bet a v) y)) L = _; rw [bet_assoc]; exact h2 a⟩
  intro L h
  cases L with
  | nil => simp [foldB] at h
  | cons y L =>
    obtain ⟨k, h1, h2⟩ := key L y
    have h3 : foldB (some y) L = some m := h
    rw [h1] at h3; simp at h3; subst h3
    exact h2 a
theorem foldB_append (o : Option It) (L M : List It) : foldB o (L ++ M) = foldB (foldB o L) M := by simp [foldB]
theorem low_fold : ∀ {t : T}, t.Right → ∀ (b : Nat) (x m : It) (h n : Int) (l r : T), t = .node b x m h n l r → foldB none t.toL = some m
  | .nil, _, _, _, _, _, _, _, _, e => by cases e
  | .node b' x' m' h' n' l' r', ⟨em, _, _, hl, hr⟩, b, x, m, h, n, l, r, e => by
    cases e
    have h1 : foldB none (l'.toL ++ [x']) = some (l'.low x') := by
      rw [foldB_append]
      cases l' with
      | nil => rfl
      | node lb lx lm lh ln ll lr => rw [low_fold hl lb lx lm lh ln ll lr rfl]; show some (bet lm x') = some (bet x' lm); rw [bet_comm]
    have h2 : foldB none (l'.toL ++ x' :: r'.toL) = foldB (some (l'.low x')) r'.toL := by
      rw [← h1, ← foldB_append]; simp
    rw [T.toL, h2, em, mkM]
    cases r' with
    | nil => rfl
    | node rb rx rm rh rn rl rr => exact foldB_some _ _ _ (low_fold hr rb rx rm rh rn rl rr rfl)
theorem foldB_min : ∀ {L : List It} {m : It}, foldB none L = some m → m ∈ L ∧ ∀ y ∈ L, m.va ≤ y.va := by
  have key : ∀ (L : List It) (v m : It), foldB (some v) L = some m → m ∈ v :: L ∧ ∀ y ∈ v :: L, m.va ≤ y.va := by
    intro L
    induction L with
    | nil => intro v m h; simp [foldB] at h; subst h; simp
    | cons y L ih =>
      intro v m h
      obtain ⟨h1, h2⟩ := ih (bet v y) m h
      have hb : bet v y = v ∨ bet v y = y := by rcases bet_or v y with ⟨_, e⟩ | ⟨_, e⟩ <;> simp [e]
      have hle : (bet v y).va ≤ v.va ∧ (bet v y).va ≤ y.va := by rcases bet_or v y with ⟨h, e⟩ | ⟨h, e⟩ <;> rw [e] <;> unfold bt lessK at h <;> omega
      have h3 := h2 _ (List.mem_cons_self ..)
      refine ⟨?_, fun z hz => ?_⟩
      · rcases List.mem_cons.1 h1 with rfl | h1
        · rcases hb with e | e <;> rw [e] <;> simp
        · simp [h1]
      · rcases List.mem_cons.1 hz with rfl | hz
        · omega
        · rcases List.mem_cons.1 hz with rfl | hz
          · omega
          · exact h2 z (by simp [hz])
  intro L m h
  cases L with
  | nil => simp [foldB] at h
  | cons y L => exact key L y m h
def firstL (n : Int) (L : List It) : Option It := L.find? fun y => decide (y.va ≤ n)
theorem hasB_iff {t : T} (hR : t.Right) (n : Int) : t.hasB n = true ↔ ∃ y ∈ t.toL, y.va ≤ n := by
  cases t with
  | nil => simp [T.hasB, T.toL]
  | node b x m h k l r =>
    have h1 := foldB_min (low_fold hR b x m h k l r rfl)
    simp only [T.hasB, decide_eq_true_eq]
    exact ⟨fun h => ⟨m, h1.1, h⟩, fun ⟨y, hy, hn⟩ => Int.le_trans (h1.2 y hy) hn⟩
theorem first_none {n : Int} {t : T} (hR : t.Right) (h : t.hasB n = false) : firstL n t.toL = none := by
  unfold firstL; rw [List.find?_eq_none]
  intro y hy he
  have := (hasB_iff hR n).2 ⟨y, hy, by simpa using he⟩
  rw [h] at this; cases this
theorem first_L {n : Int} {b : Nat} {x m : It} {h k : Int} {l r : T} (hl : l.Right) (hh : l.hasB n = true) : firstL n (T.node b x m h k l r).toL = firstL n l.toL := by
  unfold firstL; rw [T.toL, List.find?_append]
  obtain ⟨y, hy, hn⟩ := (hasB_iff hl n).1 hh
  have : (l.toL.find? fun y => decide (y.va ≤ n)).isSome := by rw [List.find?_isSome]; exact ⟨y, hy, by simpa using hn⟩
  obtain ⟨z, hz⟩ := Option.isSome_iff_exists.1 this
  rw [hz]; rfl
theorem first_at {n : Int} {b : Nat} {x m : It} {h k : Int} {l r : T} (hl : l.Right) (hh : l.hasB n = false) (hx : x.va ≤ n) : firstL n (T.node b x m h k l r).toL = some x := by
  have := first_none hl hh
  unfold firstL at *; rw [T.toL, List.find?_append, this]; simp [hx]
theorem first_R {n : Int} {b : Nat} {x m : It} {h k : Int} {l r : T} (hl : l.Right) (hh : l.hasB n = false) (hx : ¬ x.va ≤ n) : firstL n (T.node b x m h k l r).toL = firstL n r.toL := by
  have := first_none hl hh
  unfold firstL at *; rw [T.toL, List.find?_append, this, List.find?_cons_of_neg (by simpa using hx)]; rfl
theorem has_R {n : Int} {b : Nat} {x m : It} {h k : Int} {l r : T} (hR : (T.node b x m h k l r).Right) (ht : (T.node b x m h k l r).hasB n = true) (hh : l.hasB n = false) (hx : ¬ x.va ≤ n) : r.hasB n = true := by
  obtain ⟨_, _, _, hl, hr⟩ := id hR
  obtain ⟨y, hy, hn⟩ := (hasB_iff hR n).1 ht
  refine (hasB_iff hr n).2 ⟨y, ?_, hn⟩
  simp only [T.toL, List.mem_append, List.mem_cons] at hy
  rcases hy with hy | rfl | hy
  · have := (hasB_iff hl n).2 ⟨y, hy, hn⟩; rw [hh] at this; cases this
  · exact absurd hn hx
  · exact hy
def bl (n : Int) (L : List It) : List It := L.filter fun y => decide (y.ka ≤ n)
def belowL (n : Int) (L : List It) : Option It := foldB none (bl n L)
def ob (mt : Bool) (ov : It) : Option It := bif mt then some ov else none
theorem bl_left {n : Int} {l r : List It} {x : It} (hS : Srt (l ++ x :: r)) (hx : x.ka > n) : bl n (l ++ x :: r) = bl n l := by
  obtain ⟨_, _, _, h4, _⟩ := srt_mid hS
  unfold bl; rw [List.filter_append, List.filter_cons_of_neg (by simpa using hx)]
  have : r.filter (fun y => decide (y.ka ≤ n)) = [] := by
    rw [List.filter_eq_nil_iff]; intro y hy; have := h4 y hy; unfold kl lessK at this; simp; omega
  rw [this, List.append_nil]
theorem bl_right {n : Int} {l r : List It} {x : It} (hS : Srt (l ++ x :: r)) (hx : ¬ x.ka > n) : bl n (l ++ x :: r) = l ++ x :: bl n r := by
  obtain ⟨_, _, h3, _, _⟩ := srt_mid hS
  unfold bl; rw [List.filter_append, List.filter_cons_of_pos (by simp; omega)]
  have : l.filter (fun y => decide (y.ka ≤ n)) = l := by
    rw [List.filter_eq_self]; intro y hy; have := h3 y hy; unfold kl lessK at this; simp; omega
  rw [this]
theorem bw_L {n : Int} {b : Nat} {x m : It} {h k : Int} {l r : T} (o : Option It) (hS : Srt (T.node b x m h k l r).toL) (hx : x.ka > n) : foldB o (bl n (T.node b x m h k l r).toL) = foldB o (bl n l.toL) := by
  rw [T.toL, bl_left hS hx]
theorem bw_R0 {n : Int} {b : Nat} {x m : It} {h k : Int} {r : T} (mt : Bool) (ov : It) (hS : Srt (T.node b x m h k .nil r).toL) (hx : ¬ x.ka > n) : foldB (ob mt ov) (bl n (T.node b x m h k .nil r).toL) = foldB (some (bif mt then bet ov x else bet x x)) (bl n r.toL) := by
  rw [T.toL, bl_right hS hx]
  cases mt
  · show foldB (accB none x) _ = _; simp only [accB, cond_false, bet_self]
  · rfl
theorem bw_R1 {n : Int} {b : Nat} {x m : It} {h k : Int} {l r : T} {lb : Nat} {lx lm : It} {lh ln : Int} {ll lr : T} (mt : Bool) (ov : It) (hl : l.Right) (el : l = .node lb lx lm lh ln ll lr) (hS : Srt (T.node b x m h k l r).toL) (hx : ¬ x.ka > n) :
    foldB (ob mt ov) (bl n (T.node b x m h k l r).toL) = foldB (some (bet (bif mt then bet ov x else bet x x) lm)) (bl n r.toL) := by
  rw [T.toL, bl_right hS hx, foldB_append]
  have h1 := low_fold hl lb lx lm lh ln ll lr el
  cases mt
  · show foldB (accB (foldB none l.toL) x) _ = _
    rw [h1]; simp only [accB, cond_false, bet_self, bet_comm]
  · show foldB (accB (foldB (some ov) l.toL) x) _ = _
    rw [foldB_some ov lm _ h1]; simp only [accB, cond_true]
    rw [bet_assoc, bet_comm lm x, ← bet_assoc]
/-! the document's list -/
def refFind (a i : Int) (l : List It) : Int := match l.findIdx? (fun y => decide (y.ka = a ∧ y.ki = i)) with | some k => (k : Int) | none => -1
theorem refFind_none {a i : Int} {l : List It} (h : ∀ y ∈ l, ¬ (y.ka = a ∧ y.ki = i)) : refFind a i l = -1 := by
  unfold refFind; rw [List.findIdx?_eq_none_iff.2 (by intro y hy; simpa using h y hy)]
theorem refFind_at {a i : Int} {l : List It} {k : Nat} {x : It} (hx : l[k]? = some x) (hk : x.ka = a ∧ x.ki = i) (h : ∀ y ∈ l.take k, ¬ (y.ka = a ∧ y.ki = i)) : refFind a i l = (k : Int) := by
  unfold refFind
  obtain ⟨hlt, hget⟩ := List.getElem?_eq_some_iff.1 hx
  have : l.findIdx? (fun y => decide (y.ka = a ∧ y.ki = i)) = some k := by
    rw [List.findIdx?_eq_some_iff_getElem]
    refine ⟨hlt, by rw [hget]; simpa using hk, fun j hj => ?_⟩
    have hm : l[j] ∈ l.take k := List.mem_iff_getElem.2 ⟨j, by simp; omega, by simp⟩
    simpa using h _ hm
  rw [this]
theorem refFind_pos {a i : Int} {l : List It} : 0 ≤ refFind a i l ↔ ∃ y ∈ l, y.ka = a ∧ y.ki = i := by
  by_cases h : ∃ y ∈ l, y.ka = a ∧ y.ki = i
  · refine ⟨fun _ => h, fun _ => ?_⟩
    unfold refFind
    cases hf : l.findIdx? (fun y => decide (y.ka = a ∧ y.ki = i)) with
    | some k => simp
    | none =>
      obtain ⟨y, hy, he⟩ := h
      have := List.findIdx?_eq_none_iff.1 hf y hy
      simp at this; exact absurd he.2 (this he.1)
  · rw [refFind_none (fun y hy he => h ⟨y, hy, he⟩)]
    exact ⟨fun h' => by omega, fun h' => absurd h' h⟩
theorem take_snoc {α : Type} {l : List α} {k : Nat} {x : α} (hx : l[k]? = some x) : l.take (k + 1) = l.take k ++ [x] := by rw [List.take_add_one, hx]; rfl
theorem delL_snoc {a i : Int} {l : List It} {x : It} : delL a i (l ++ [x]) = delL a i l ++ (if x.ka = a ∧ x.ki = i then [] else [x]) := by
  unfold delL; rw [List.filter_append]; by_cases h : x.ka = a ∧ x.ki = i
  · rw [List.filter_cons_of_neg (by simpa using h), if_pos h]; rfl
  · rw [List.filter_cons_of_pos (by simp only [Bool.not_eq_true', decide_eq_false_iff_not]; exact h), if_neg h]; rfl
theorem drop_cons {α : Type} {l : List α} {k : Nat} {x : α} (hx : l[k]? = some x) : l.drop k = x :: l.drop (k + 1) := by
  obtain ⟨hlt, hget⟩ := List.getElem?_eq_some_iff.1 hx
  rw [List.drop_eq_getElem_cons hlt, hget]
theorem belowL_snoc {n : Int} {l : List It} {x : It} : belowL n (l ++ [x]) = if x.ka ≤ n then accB (belowL n l) x else belowL n l := by
  unfold belowL bl; rw [List.filter_append]
  by_cases h : x.ka ≤ n
  · rw [List.filter_cons_of_pos (by simpa using h), foldB_append, if_pos h]; rfl
  · rw [List.filter_cons_of_neg (by simpa using h), if_neg h]; simp
theorem belowL_mem {n : Int} {l : List It} {m : It} (h : belowL n l = some m) : m ∈ l := (List.mem_filter.1 (foldB_min h).1).1
/-- the document's way: strictly less by value -/
theorem below_ref {n : Int} {l : List It} {x v : It} {mt : Bool} (hS : Srt (l ++ [x])) (hf : ob mt v = belowL n l) : belowL n (l ++ [x]) = if x.ka ≤ n ∧ (mt = false ∨ lessK x.va x.vi v.va v.vi) then some x else ob mt v := by
  rw [belowL_snoc, ← hf]
  cases mt with
  | false => simp [ob, accB]
  | true =>
    have hm : v ∈ l := belowL_mem (n := n) (by rw [← hf]; rfl)
    obtain ⟨_, _, h3, _, _⟩ := srt_mid (L := l) (R := []) hS
    have hk := h3 v hm
    have : bet v x = if lessK x.va x.vi v.va v.vi then x else v := by
      by_cases h : lessK x.va x.vi v.va v.vi
      · rw [if_pos h]; exact bet_t (.inl h)
      · rw [if_neg h]; refine bet_f fun hb => ?_
        rcases hb with hb | ⟨_, hb⟩
        · exact h hb
        · exact kl_asym hk hb
    by_cases h1 : x.ka ≤ n <;> by_cases h2 : lessK x.va x.vi v.va v.vi <;> simp [h1, h2, ob, accB, this]
def nd : Nat → Nat
  | 0 => 0
  | 1 => 1
  | k + 2 => nd k + nd (k + 1) + 1
theorem nd_mono : ∀ k, nd k ≤ nd (k + 1)
  | 0 => by decide
  | 1 => by decide
  | k + 2 => by have := nd_mono k; have := nd_mono (k + 1); simp only [nd] at *; omega
theorem nd_le {a b : Nat} (h : a ≤ b) : nd a ≤ nd b := by
  induction b with
  | zero => simp at h; subst h; exact Nat.le_refl _
  | succ b ih => rcases Nat.lt_or_ge a (b + 1) with h' | h'
                 · exact Nat.le_trans (ih (by omega)) (nd_mono b)
                 · rw [show a = b + 1 by omega]; exact Nat.le_refl _
theorem nd_lt : ∀ k, nd k + 1 ≤ 2 ^ k
  | 0 => by decide
  | 1 => by decide
  | k + 2 => by have h1 := nd_lt k; have h2 := nd_lt (k + 1); simp only [nd, Nat.pow_succ] at *; omega
theorem nd_tree : ∀ {t : T}, t.Right → t.Bal → nd t.hgt.toNat ≤ t.toL.length
  | .nil, _, _ => by simp [T.hgt, nd]
  | .node b x m h n l r, ⟨_, eh, _, hl, hr⟩, ⟨b1, b2, bl_, br_⟩ => by
    have h1 := nd_tree hl bl_; have h2 := nd_tree hr br_
    have p1 := hl.pos; have p2 := hr.pos
    simp only [T.hgt, T.toL, List.length_append, List.length_cons]
    rw [eh, mkH]
    by_cases hc : l.hgt ≤ r.hgt
    · by_cases hz : r.hgt.toNat = 0
      · rw [show (1 + max l.hgt r.hgt).toNat = 1 by omega]; simp only [nd]; omega
      · obtain ⟨k, hk⟩ : ∃ k, r.hgt.toNat = k + 1 := ⟨r.hgt.toNat - 1, by omega⟩
        rw [show (1 + max l.hgt r.hgt).toNat = k + 2 by omega]
        have := nd_le (a := k) (b := l.hgt.toNat) (by omega)
        rw [hk] at h2; simp only [nd]; omega
    · obtain ⟨k, hk⟩ : ∃ k, l.hgt.toNat = k + 1 := ⟨l.hgt.toNat - 1, by omega⟩
      rw [show (1 + max l.hgt r.hgt).toNat = k + 2 by omega]
      have := nd_le (a := k) (b := r.hgt.toNat) (by omega)
      rw [hk] at h1; simp only [nd]; omega
theorem cnt_up : ∀ {t : T}, t.Right → t.toL.length + 1 ≤ 2 ^ t.hgt.toNat
  | .nil, _ => by simp [T.hgt, T.toL]
  | .node b x m h n l r, ⟨_, eh, _, hl, hr⟩ => by
    have h1 := cnt_up hl; have h2 := cnt_up hr
    have p1 := hl.pos; have p2 := hr.pos
    simp only [T.hgt, T.toL, List.length_append, List.length_cons]
    rw [eh, mkH, show (1 + max l.hgt r.hgt).toNat = max l.hgt.toNat r.hgt.toNat + 1 by omega, Nat.pow_succ]
    have := Nat.pow_le_pow_right (n := 2) (by decide) (show l.hgt.toNat ≤ max l.hgt.toNat r.hgt.toNat by omega)
    have := Nat.pow_le_pow_right (n := 2) (by decide) (show r.hgt.toNat ≤ max l.hgt.toNat r.hgt.toNat by omega)
    omega
structure WF (t : T) : Prop where
  right : t.Right
  bal : t.Bal
  srt : Srt t.toL
theorem wf_nil : WF .nil := ⟨trivial, trivial, by simp [T.toL, Srt]⟩
theorem WF.cnt {t : T} (h : WF t) : t.cnt = t.toL.length := h.right.pos.2.2
theorem wf_ins {t z : T} {it : It} (h : WF t) (hN : ∀ y ∈ t.toL, ¬ (y.ka = it.ka ∧ y.ki = it.ki)) (c : Chg t z (insL it t.toL) 0 1) : WF z ∧ z.toL = insL it t.toL := ⟨⟨c.right, c.bal, by rw [c.list]; exact insL_srt h.srt hN⟩, c.list⟩
theorem wf_del {t z : T} {a i : Int} (h : WF t) (c : Chg t z (delL a i t.toL) (-1) 0) : WF z ∧ z.toL = delL a i t.toL := ⟨⟨c.right, c.bal, by rw [c.list]; exact delL_srt h.srt⟩, c.list⟩
theorem findT_ne {t : T} (h : WF t) {a i : Int} (hM : ∃ y ∈ t.toL, y.ka = a ∧ y.ki = i) : t.findT a i ≠ .nil := fun e => by obtain ⟨y, hy, he⟩ := hM; exact findT_nil h.srt e y hy he
theorem findT_eq {t : T} {a i : Int} (hM : ¬ ∃ y ∈ t.toL, y.ka = a ∧ y.ki = i) : t.findT a i = .nil := by
  cases hf : t.findT a i with
  | nil => rfl
  | node b x m h n l r => exact absurd ⟨x, (findT_some hf).2, (findT_some hf).1⟩ hM
theorem hgt_small {t : T} (h : WF t) (hl : t.toL.length ≤ 1000) : 0 ≤ t.hgt ∧ t.hgt < 16 ∧ (nd t.hgt.toNat : Int) ≤ t.toL.length ∧ (t.toL.length = 0 ↔ t.hgt = 0) := by
  have h1 := nd_tree h.right h.bal; have h2 := h.right.pos; have h3 := cnt_up h.right
  refine ⟨h2.1, ?_, by omega, ⟨fun e => by omega, fun e => ?_⟩⟩
  · rcases Int.lt_or_le t.hgt 16 with h4 | h4
    · exact h4
    · have := nd_le (a := 16) (b := t.hgt.toNat) (by omega)
      have h5 : nd 16 = 2583 := by decide
      omega
  · rw [e] at h3; simp at h3; rw [h3]; rfl
theorem hgt_three {t : T} (h : WF t) (hl : t.toL.length = 3) : t.hgt = 2 := by
  have h1 := nd_tree h.right h.bal; have h2 := h.right.pos; have h3 := cnt_up h.right
  have h4 : t.hgt < 3 := by
    rcases Int.lt_or_le t.hgt 3 with h4 | h4
    · exact h4
    · have := nd_le (a := 3) (b := t.hgt.toNat) (by omega)
      have h5 : nd 3 = 4 := by decide
      omega
  have h6 : ¬ t.hgt ≤ 1 := fun h7 => by
    have := Nat.pow_le_pow_right (n := 2) (by decide) (show t.hgt.toNat ≤ 1 by omega)
    omega
  omega
end Go.Proofs.Ytdhcglflmkjneaa
