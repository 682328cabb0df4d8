/- Balanced trees of items, as pure data with the places of their nodes, and as things of memory. -/
import Derived.Test.YtdhcglflmkjneaaProg
import Derived.Test.YtdhcglflmkjneaaVt
namespace Go.Proofs.Ytdhcglflmkjneaa
open Go V
set_option linter.unusedVariables false
set_option linter.unusedSimpArgs false

structure It where
  ka : Int
  ki : Int
  va : Int
  vi : Int
  deriving DecidableEq, Inhabited
inductive T where
  | nil
  | node (b : Nat) (x m : It) (h n : Int) (l r : T)
def T.ptr : T → Option Addr
  | .nil => none
  | .node b .. => some ⟨b, 0, none⟩
def T.blocks : T → List Nat
  | .nil => []
  | .node b _ _ _ _ l r => b :: (l.blocks ++ r.blocks)
def T.hgt : T → Int
  | .nil => 0
  | .node _ _ _ h .. => h
def T.cnt : T → Int
  | .nil => 0
  | .node _ _ _ _ n .. => n
theorem hgt_node {b : Nat} {x m : It} {h n : Int} {l r : T} : (T.node b x m h n l r).hgt = h := rfl
theorem cnt_node {b : Nat} {x m : It} {h n : Int} {l r : T} : (T.node b x m h n l r).cnt = n := rfl
theorem hgt_nil : T.nil.hgt = 0 := rfl
theorem cnt_nil : T.nil.cnt = 0 := rfl
def T.Bd (t : T) : Prop := 0 ≤ t.hgt ∧ t.hgt ≤ 100000 ∧ 0 ≤ t.cnt ∧ t.cnt ≤ 100000
def T.Sm (t : T) : Prop := 0 ≤ t.hgt ∧ t.hgt ≤ 1000 ∧ 0 ≤ t.cnt ∧ t.cnt ≤ 1000
def T.toL : T → List It
  | .nil => []
  | .node _ x _ _ _ l r => l.toL ++ x :: r.toL
def ndCells (x m : It) (h n : Int) (l r : T) : List Value := [u_ x.ka, i_ x.ki, u_ x.va, i_ x.vi, .pointer l.ptr, .pointer r.ptr, u_ m.ka, i_ m.ki, u_ m.va, i_ m.vi, i_ h, i_ n]
def T.H (TN : TypeId) : T → World → Prop
  | .nil, _ => True
  | .node b x m h n l r, w => w.heap[b]? = some (.cells (ndCells x m h n l r).toArray TN (0, 0)) ∧ T.H TN l w ∧ T.H TN r w
theorem T.H_loc {TN : TypeId} : ∀ (t : T) (w w' : World), (∀ b ∈ t.blocks, w'.heap[b]? = w.heap[b]?) → T.H TN t w → T.H TN t w'
  | .nil, _, _, _, _ => trivial
  | .node b x m h n l r, w, w', hb, ⟨h1, h2, h3⟩ => ⟨by rw [hb b (by simp [T.blocks])]; exact h1, T.H_loc l w w' (fun c hc => hb c (by simp [T.blocks, hc])) h2, T.H_loc r w w' (fun c hc => hb c (by simp [T.blocks, hc])) h3⟩
theorem T.H_here {TN : TypeId} : ∀ (t : T) (w : World), T.H TN t w → ∀ b ∈ t.blocks, b < w.heap.size
  | .nil, _, _, b, hb => by simp [T.blocks] at hb
  | .node c x m h n l r, w, ⟨h1, h2, h3⟩, b, hb => by
    simp only [T.blocks, List.mem_cons, List.mem_append] at hb
    rcases hb with rfl | hb | hb
    · exact (Array.getElem?_eq_some_iff.1 h1).1
    · exact T.H_here l w h2 b hb
    · exact T.H_here r w h3 b hb
def treeI (TN : TypeId) (t : T) : V.Item where
  foot := t.blocks
  holds := T.H TN t
  loc w w' h hw := T.H_loc t w w' h hw
  here w hw b hb := T.H_here t w hw b hb
theorem tree_open {TN : TypeId} {b : Nat} {x m : It} {h n : Int} {l r : T} {w : World} (hs : HS w (feet [treeI TN (.node b x m h n l r)]) [treeI TN (.node b x m h n l r)] w) :
    ∃ _ : Unit, True ∧ (∀ it ∈ [blk b (ndCells x m h n l r) TN, treeI TN l, treeI TN r], it.holds w) ∧ (feet [blk b (ndCells x m h n l r) TN, treeI TN l, treeI TN r]).Nodup ∧ ∀ c ∈ feet [blk b (ndCells x m h n l r) TN, treeI TN l, treeI TN r], c ∈ feet [treeI TN (.node b x m h n l r)] := by
  have h1 := hs.mem (i := 0) rfl
  have h2 := hs.nodup
  obtain ⟨a1, a2, a3⟩ := h1
  refine ⟨(), trivial, ?_, ?_, ?_⟩
  · intro it hi; simp only [List.mem_cons, List.not_mem_nil, or_false] at hi; rcases hi with rfl | rfl | rfl; exact a1; exact a2; exact a3
  · simpa [feet, blk, treeI, T.blocks] using h2
  · intro c hc; simpa [feet, blk, treeI, T.blocks] using hc
theorem tree_fold {TN : TypeId} {b : Nat} {x m : It} {h n : Int} {l r : T} {w : World} (hs : HS w (feet [blk b (ndCells x m h n l r) TN, treeI TN l, treeI TN r]) [blk b (ndCells x m h n l r) TN, treeI TN l, treeI TN r] w) :
    ∃ _ : Unit, True ∧ (∀ it ∈ [treeI TN (.node b x m h n l r)], it.holds w) ∧ (feet [treeI TN (.node b x m h n l r)]).Nodup ∧ ∀ c ∈ feet [treeI TN (.node b x m h n l r)], c ∈ feet [blk b (ndCells x m h n l r) TN, treeI TN l, treeI TN r] := by
  have a1 := hs.mem (i := 0) rfl
  have a2 := hs.mem (i := 1) rfl
  have a3 := hs.mem (i := 2) rfl
  have h2 := hs.nodup
  refine ⟨(), trivial, ?_, ?_, ?_⟩
  · intro it hi; simp only [List.mem_cons, List.not_mem_nil, or_false] at hi; subst hi; exact ⟨a1, a2, a3⟩
  · simpa [feet, blk, treeI, T.blocks] using h2
  · intro c hc; simpa [feet, blk, treeI, T.blocks] using hc
theorem A.nilT {n : Nat} {env : Env} {w0 : World} {S : List Nat} {H : List V.Item} {G : Act → World → Prop} {TN : TypeId} (H' : List V.Item) (hH : H ++ [treeI TN .nil] = H') (h : V.A n env w0 S H' G) : V.A n env w0 S H G := fun a w r s =>
  h a w r (by rw [← hH]; exact s.add (Fr.refl _ _) trivial (by simp [treeI, T.blocks]) (by simp [treeI, T.blocks]))

/-! keys and items -/
def cmp (x i y j : Int) : Int := if x = y ∧ i = j then 0 else if x < y ∨ x = y ∧ i < j then -1 else 1
def lessK (x i y j : Int) : Prop := x < y ∨ x = y ∧ i < j
instance (x i y j : Int) : Decidable (lessK x i y j) := by unfold lessK; infer_instance
theorem cmp_neg (x i y j : Int) : cmp x i y j < 0 ↔ lessK x i y j := by unfold cmp lessK; grind
theorem cmp_pos (x i y j : Int) : 0 < cmp x i y j ↔ lessK y j x i := by unfold cmp lessK; grind
theorem cmp_zero (x i y j : Int) : cmp x i y j = 0 ↔ (x = y ∧ i = j) := by unfold cmp; grind
/-- 'better(a, b)' -/
def bet (a b : It) : It := if lessK b.va b.vi a.va a.vi ∨ (b.va = a.va ∧ b.vi = a.vi) ∧ lessK b.ka b.ki a.ka a.ki then b else a
def T.low : T → It → It
  | .nil, a => a
  | .node _ _ m .., a => bet a m
/-- what a node knows of the trees below it -/
def mkM (x : It) (l r : T) : It := r.low (l.low x)
def mkH (l r : T) : Int := 1 + max l.hgt r.hgt
def mkN (l r : T) : Int := 1 + l.cnt + r.cnt
/-- a node whose knowledge is right -/
def mk (b : Nat) (x : It) (l r : T) : T := .node b x (mkM x l r) (mkH l r) (mkN l r) l r
def T.Right : T → Prop
  | .nil => True
  | .node _ x m h n l r => m = mkM x l r ∧ h = mkH l r ∧ n = mkN l r ∧ l.Right ∧ r.Right
theorem right_nil : T.nil.Right := trivial
theorem right_mk {b : Nat} {x : It} {l r : T} (hl : l.Right) (hr : r.Right) : (mk b x l r).Right := ⟨rfl, rfl, rfl, hl, hr⟩
theorem T.Right.pos : ∀ {t : T}, t.Right → 0 ≤ t.hgt ∧ t.hgt ≤ t.cnt ∧ t.cnt = t.toL.length
  | .nil, _ => by simp [T.hgt, T.cnt, T.toL]
  | .node b x m h n l r, ⟨_, hh, hn, hl, hr⟩ => by
    have h1 := T.Right.pos hl; have h2 := T.Right.pos hr
    simp only [T.hgt, T.cnt, T.toL, List.length_append, List.length_cons]
    rw [hh, hn]; unfold mkH mkN; omega
theorem bdR {t : T} (h : t.Right) (hc : t.cnt ≤ 100000) : t.Bd := by have := h.pos; unfold T.Bd; omega
theorem bd_mk {b : Nat} {x : It} {l r : T} (hl : l.Bd) (hr : r.Bd) (h : l.cnt + r.cnt + 1 ≤ 100000) (h2 : l.hgt + 1 ≤ 100000) (h3 : r.hgt + 1 ≤ 100000) : (mk b x l r).Bd := by
  have e1 : (mk b x l r).hgt = 1 + max l.hgt r.hgt := rfl
  have e2 : (mk b x l r).cnt = 1 + l.cnt + r.cnt := rfl
  unfold T.Bd at *; omega
/-- 'balance' -/
def rotR (b : Nat) (x : It) : T → T → T
  | .node bl y _ _ _ p q, r => if q.hgt > p.hgt then (match q with | .node bz z _ _ _ a c => mk bz z (mk bl y p a) (mk b x c r) | .nil => .nil) else mk bl y p (mk b x q r)
  | .nil, _ => .nil
def rotL (b : Nat) (x : It) (l : T) : T → T
  | .node br y _ _ _ p q => if p.hgt > q.hgt then (match p with | .node bz z _ _ _ a c => mk bz z (mk b x l a) (mk br y c q) | .nil => .nil) else mk br y (mk b x l p) q
  | .nil => .nil
def balT (b : Nat) (x : It) (l r : T) : T :=
  if l.hgt ≤ r.hgt + 1 then (if r.hgt ≤ l.hgt + 1 then mk b x l r else rotL b x l r) else rotR b x l r
theorem bal_0 {b : Nat} {x : It} {l r : T} (h1 : l.hgt ≤ r.hgt + 1) (h2 : r.hgt ≤ l.hgt + 1) : balT b x l r = mk b x l r := by
  unfold balT; rw [if_pos h1, if_pos h2]
theorem bal_R1 {b bl : Nat} {x y my : It} {hy ny : Int} {p q r : T} (h1 : ¬ (T.node bl y my hy ny p q).hgt ≤ r.hgt + 1) (h2 : ¬ q.hgt > p.hgt) : balT b x (.node bl y my hy ny p q) r = mk bl y p (mk b x q r) := by
  unfold balT; rw [if_neg h1]; simp only [rotR]; rw [if_neg h2]
theorem bal_R2 {b bl bz : Nat} {x y my z mz : It} {hy ny hz nz : Int} {p a c r : T} (h1 : ¬ (T.node bl y my hy ny p (.node bz z mz hz nz a c)).hgt ≤ r.hgt + 1) (h2 : (T.node bz z mz hz nz a c).hgt > p.hgt) :
    balT b x (.node bl y my hy ny p (.node bz z mz hz nz a c)) r = mk bz z (mk bl y p a) (mk b x c r) := by
  unfold balT; rw [if_neg h1]; simp only [rotR]; rw [if_pos h2]
theorem bal_L1 {b bl : Nat} {x y my : It} {hy ny : Int} {p q l : T} (h0 : l.hgt ≤ (T.node bl y my hy ny p q).hgt + 1) (h1 : ¬ (T.node bl y my hy ny p q).hgt ≤ l.hgt + 1) (h2 : ¬ p.hgt > q.hgt) : balT b x l (.node bl y my hy ny p q) = mk bl y (mk b x l p) q := by
  unfold balT; rw [if_pos h0, if_neg h1]; simp only [rotL]; rw [if_neg h2]
theorem bal_L2 {b bl bz : Nat} {x y my z mz : It} {hy ny hz nz : Int} {q a c l : T} (h0 : l.hgt ≤ (T.node bl y my hy ny (.node bz z mz hz nz a c) q).hgt + 1) (h1 : ¬ (T.node bl y my hy ny (.node bz z mz hz nz a c) q).hgt ≤ l.hgt + 1) (h2 : (T.node bz z mz hz nz a c).hgt > q.hgt) :
    balT b x l (.node bl y my hy ny (.node bz z mz hz nz a c) q) = mk bz z (mk b x l a) (mk bl y c q) := by
  unfold balT; rw [if_pos h0, if_neg h1]; simp only [rotL]; rw [if_pos h2]
end Go.Proofs.Ytdhcglflmkjneaa
