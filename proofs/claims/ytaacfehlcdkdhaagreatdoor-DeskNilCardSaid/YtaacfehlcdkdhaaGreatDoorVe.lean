/- My own verifier: slices. What a slice reads as; a slice that the call owns: read, cut, appended to, stored into. Generic: nothing of the dump. -/
import Derived.Test.YtaacfehlcdkdhaaGreatDoorVd
namespace Go.Proofs.YtaacfehlcdkdhaaGreatDoor.V
set_option linter.unusedVariables false
set_option linter.unusedSimpArgs false
open Go

theorem add_add' (a : Addr) (i j : Nat) : (a.add i).add j = a.add (i + j) := by
  unfold Addr.add
  by_cases hi : i = 0 <;> by_cases hj : j = 0 <;> simp [hi, hj, Nat.add_assoc]
/-- where a slice's first element lies -/
def at0 (A : Option Addr) : Addr := A.getD ⟨0, 0, none⟩
/-- the cells from A on are cs -/
def arrAt (w : World) (A : Option Addr) (cs : List Value) : Prop := ∀ j u, cs[j]? = some u → A.isSome = true ∧ w.cell? ((at0 A).add j) = some u
/-- .. in every world at hand -/
def Rd (w0 : World) (S : List Nat) (H : List Item) (A : Option Addr) (cs : List Value) : Prop := ∀ w, HS w0 S H w → arrAt w A cs

/-- a slice of the call's own: n elements of sz cells, room c -/
def slHolds (A : Option Addr) (n c : Nat) (t : TypeId) (sz : Nat) (cs : List Value) (w : World) : Prop :=
  cs.length = n * sz ∧ n ≤ c ∧ c ≤ maxLen ∧ ((A = none ∧ c = 0) ∨ ∃ g off cur, A = some ⟨g, off, none⟩ ∧ w.heap[g]? = some (.cells cur t (0, 0)) ∧ off + c * sz ≤ cur.size ∧ (cur.toList.drop off).take (n * sz) = cs)
def slFoot (A : Option Addr) : List Nat := match A with | some a => [a.block] | none => []
def sl (A : Option Addr) (n c : Nat) (t : TypeId) (sz : Nat) (cs : List Value) : Item where
  foot := slFoot A
  holds := slHolds A n c t sz cs
  loc w w' h hw := by
    obtain ⟨h1, h2, h3, h4⟩ := hw
    refine ⟨h1, h2, h3, h4.imp id ?_⟩
    rintro ⟨g, off, cur, rfl, hg, r⟩
    exact ⟨g, off, cur, rfl, by rw [h g (by simp [slFoot])]; exact hg, r⟩
  here w hw b hb := by
    obtain ⟨_, _, _, h4⟩ := hw
    rcases h4 with ⟨rfl, _⟩ | ⟨g, off, cur, rfl, hg, _⟩
    · simp [slFoot] at hb
    · simp [slFoot] at hb; subst hb; exact (Array.getElem?_eq_some_iff.1 hg).1
theorem slFoot_nodup (A : Option Addr) : (slFoot A).Nodup := by cases A <;> simp [slFoot]
theorem sl_nil (t : TypeId) (sz : Nat) (w : World) : (sl none 0 0 t sz []).holds w := ⟨by simp, Nat.le_refl _, by simp [maxLen], .inl ⟨rfl, rfl⟩⟩

section
variable {w0 : World} {S : List Nat} {H : List Item}
theorem arr_sl {A : Option Addr} {n c : Nat} {t : TypeId} {sz : Nat} {cs : List Value} {w : World} (h : (sl A n c t sz cs).holds w) : arrAt w A cs := by
  intro j u hu
  obtain ⟨h1, _, _, h4⟩ := h
  have hlt : j < cs.length := (List.getElem?_eq_some_iff.1 hu).1
  rcases h4 with ⟨rfl, rfl⟩ | ⟨g, off, cur, rfl, hg, hsz, htake⟩
  · have : n = 0 := by omega
    subst this; simp at h1; subst h1; simp at hlt
  · refine ⟨rfl, ?_⟩
    simp only [at0, Option.getD_some]
    rw [add_lit', cell_of_row w g (off + j) cur t (0, 0) hg]
    rw [← htake, List.getElem?_take] at hu
    split at hu
    · rw [List.getElem?_drop] at hu; simpa using hu
    · cases hu
theorem rd_sl {i : Nat} {A : Option Addr} {n c : Nat} {t : TypeId} {sz : Nat} {cs : List Value} (hi : H[i]? = some (sl A n c t sz cs)) : Rd w0 S H A cs := fun _ s => arr_sl (s.mem hi)
theorem rd_blk {i b off : Nat} {cs : List Value} {t : TypeId} (hi : H[i]? = some (blk b cs t)) : Rd w0 S H (some ⟨b, off, none⟩) (cs.drop off) := by
  intro w s j u hu
  have hh : w.heap[b]? = some (.cells cs.toArray t (0, 0)) := s.mem hi
  refine ⟨rfl, ?_⟩
  simp only [at0, Option.getD_some]
  rw [add_lit', cell_of_row w b (off + j) cs.toArray t (0, 0) hh]
  rw [List.getElem?_drop] at hu; simpa using hu
theorem rd_old {A : Option Addr} {cs : List Value} (h : arrAt w0 A cs) (hS : ∀ a, A = some a → a.block ∉ S) : Rd w0 S H A cs := by
  intro w s j u hu
  obtain ⟨h1, hc⟩ := h j u hu
  obtain ⟨a, rfl⟩ := Option.isSome_iff_exists.1 h1
  refine ⟨rfl, ?_⟩
  simp only [at0, Option.getD_some] at hc ⊢
  have hb : (a.add j).block = a.block := by unfold Addr.add; split <;> rfl
  rw [← hc]
  exact World.cell?_of_block (s.fr.block _ (World.block_lt_of_cell? w0 _ hc) (by rw [hb]; exact hS a rfl))
theorem arr_cut {w : World} {A : Option Addr} {cs : List Value} (h : arrAt w A cs) (k : Nat) : arrAt w (A.map (·.add k)) (cs.drop k) := by
  intro j u hu
  rw [List.getElem?_drop] at hu
  obtain ⟨h1, h2⟩ := h _ _ hu
  obtain ⟨a, rfl⟩ := Option.isSome_iff_exists.1 h1
  refine ⟨rfl, ?_⟩
  simp only [at0, Option.map_some, Option.getD_some, add_add'] at h2 ⊢
  exact h2
theorem arr_take {w : World} {A : Option Addr} {cs : List Value} (h : arrAt w A cs) (k : Nat) : arrAt w A (cs.take k) := by
  intro j u hu
  rw [List.getElem?_take] at hu
  split at hu
  · exact h j u hu
  · cases hu
theorem rd_reads {A : Option Addr} {cs vs : List Value} {m : Nat} (h : Rd w0 S H A cs) (hv : (cs.drop m).take vs.length = vs) : Reads w0 S H ((at0 A).add m) vs := by
  intro w s j u hu
  rw [add_add']
  refine (h w s (m + j) u ?_).2
  rw [← hv, List.getElem?_take] at hu
  split at hu
  · rw [List.getElem?_drop] at hu; exact hu
  · cases hu
end

/-! lists of things, each of sz cells -/
def flat {α : Type} (enc : α → List Value) (xs : List α) : List Value := xs.flatMap enc
theorem flat_len {α : Type} {enc : α → List Value} {sz : Nat} (he : ∀ x, (enc x).length = sz) : ∀ xs : List α, (flat enc xs).length = xs.length * sz
  | [] => by simp [flat]
  | x :: xs => by
    have := flat_len he xs
    simp only [flat, List.flatMap_cons, List.length_append, List.length_cons] at this ⊢
    rw [this, he, Nat.add_mul]; omega
theorem flat_append {α : Type} (enc : α → List Value) (xs ys : List α) : flat enc (xs ++ ys) = flat enc xs ++ flat enc ys := by simp [flat]
theorem flat_drop {α : Type} {enc : α → List Value} {sz : Nat} (he : ∀ x, (enc x).length = sz) : ∀ (xs : List α) (k : Nat), (flat enc xs).drop (k * sz) = flat enc (xs.drop k)
  | xs, 0 => by simp
  | [], k + 1 => by simp [flat]
  | x :: xs, k + 1 => by
    have := flat_drop he xs k
    simp only [flat, List.flatMap_cons, List.drop_succ_cons] at this ⊢
    rw [← this, List.drop_append, he, List.drop_eq_nil_of_le (by rw [he, Nat.add_mul]; omega), List.nil_append, Nat.add_mul]
    congr 1; omega
theorem flat_at {α : Type} {enc : α → List Value} {sz : Nat} (he : ∀ x, (enc x).length = sz) {xs : List α} {k : Nat} {x : α} (hx : xs[k]? = some x) (o m : Nat) (hm : o + m ≤ sz) :
    ((flat enc xs).drop (k * sz + o)).take m = ((enc x).drop o).take m := by
  rw [← List.drop_drop, flat_drop he]
  have hlt := (List.getElem?_eq_some_iff.1 hx).1
  have : xs.drop k = x :: xs.drop (k + 1) := by
    rw [List.drop_eq_getElem_cons hlt]; congr 1
    simpa [List.getElem?_eq_getElem hlt] using hx
  rw [this]
  simp only [flat, List.flatMap_cons]
  rw [List.drop_append_of_le_length (by rw [he]; omega), List.take_append_of_le_length (by rw [List.length_drop, he]; omega)]
theorem flat_set {α : Type} {enc : α → List Value} {sz : Nat} (he : ∀ x, (enc x).length = sz) : ∀ (xs : List α) (k : Nat) (x : α), k < xs.length →
    (flat enc xs).take (k * sz) ++ enc x ++ (flat enc xs).drop (k * sz + sz) = flat enc (xs.set k x)
  | [], k, x, h => by simp at h
  | y :: xs, 0, x, _ => by
    simp only [flat, List.flatMap_cons, List.set_cons_zero, Nat.zero_mul, List.take_zero, List.nil_append, Nat.zero_add]
    rw [List.drop_append_of_le_length (by rw [he]; omega), List.drop_eq_nil_of_le (by rw [he]; omega), List.nil_append]
  | y :: xs, k + 1, x, h => by
    have ih := flat_set he xs k x (by simpa using h)
    simp only [flat, List.flatMap_cons, List.set_cons_succ] at ih ⊢
    rw [← ih, Nat.add_mul, Nat.one_mul]
    rw [show k * sz + sz = (enc y).length + k * sz from by rw [he]; omega]
    rw [List.take_append, List.take_of_length_le (by omega), Nat.add_sub_cancel_left]
    rw [Nat.add_assoc, List.drop_append, List.drop_eq_nil_of_le (by omega), List.nil_append, Nat.add_sub_cancel_left, List.append_assoc, List.append_assoc, List.append_assoc, he y, Nat.add_comm sz (k * sz)]

section
variable {P : Program} {n : Nat} {env : Env} {w0 : World} {S : List Nat} {H : List Item} {ops : Array Oper} {o : Oper} {K : Act → World → Prop}
theorem qt_index {x y : Operand} {t el : TypeId} {A : Option Addr} {len cap sz : Nat} {k : IntKind} {e : Int} {cs : List Value} (ho : o.op = .indexAddr t x y) (hx : ev env x = some (.slice A len cap)) (hy : ev env y = some (.int k e))
    (ht : P.underlying t = some (.slice el)) (hs : (P.info? el).map (·.size) = some sz) (hr : Rd w0 S H A cs) (hl : cs.length = len * sz) (hz : 0 < sz) (hi : 0 ≤ e ∧ e < (len : Int)) :
    Qt P n env w0 S H o (.pointer (some ((at0 A).add (e.toNat * sz)))) :=
  qt_same fun a w r s => by
    have hlt : 0 < cs.length := by rw [hl]; exact Nat.mul_pos (by omega) hz
    obtain ⟨h1, _⟩ := hr w s 0 (cs[0]) (List.getElem?_eq_getElem hlt)
    obtain ⟨b, rfl⟩ := Option.isSome_iff_exists.1 h1
    simp only [Option.map_eq_some_iff] at hs
    obtain ⟨i, hinf, rfl⟩ := hs
    simp [execOp, ho, r.ev hx, r.ev hy, Instr.indexAt, asIntOf, run_underlying ht, sizeOf, typeInfo, hinf, hi, at0]
theorem old_blk {w0 w : World} {H : List Item} {b : Nat} {x : Obj} (s : HS w0 [] H w) (h : w0.heap[b]? = some x) : w.heap[b]? = some x := by
  rw [s.fr.block b (Array.getElem?_eq_some_iff.1 h).1 (by simp)]; exact h
theorem HS.new {w0 w : World} {H : List Item} (s : HS w0 [] H w) {b : Nat} (hb : b ∈ feet H) : w0.heap.size ≤ b := (s.own b hb).resolve_left (by simp)
theorem reads_oldblk {w0 : World} {H : List Item} {b off : Nat} {cs vs : List Value} {t : TypeId} (h : w0.heap[b]? = some (.cells cs.toArray t (0, 0))) (hv : (cs.drop off).take vs.length = vs) : Reads w0 [] H ⟨b, off, none⟩ vs := by
  refine reads_old (fun j u hu => ?_) (by simp)
  rw [add_lit', cell_of_row w0 b (off + j) cs.toArray t (0, 0) h]
  rw [← hv, List.getElem?_take] at hu
  split at hu
  · rw [List.getElem?_drop] at hu; simpa using hu
  · cases hu
theorem qt_index0 {x y : Operand} {t el : TypeId} {b len cap sz : Nat} {k : IntKind} {m : Nat} (ho : o.op = .indexAddr t x y) (hx : ev env x = some (.slice (some ⟨b, 0, none⟩) len cap)) (hy : ev env y = some (.int k (m : Int)))
    (ht : P.underlying t = some (.slice el)) (hs : (P.info? el).map (·.size) = some sz) (hi : m < len) : Qt P n env w0 S H o (.pointer (some ⟨b, m * sz, none⟩)) := by
  have h := qt_indexAddr (P := P) (n := n) (w0 := w0) (S := S) (H := H) ho hx hy ht hs ⟨by omega, by omega⟩
  simpa using h
theorem qt_fieldOf {x : Operand} {t : TypeId} {f : Nat} {fs : Array Field} {fd : Field} {p : Addr} {m k : Nat} (ho : o.op = .fieldAddr t x f) (hx : ev env x = some (.pointer (some (p.add m)))) (ht : P.underlying t = some (.struct fs)) (hf : fs[f]? = some fd)
    (hs : (P.info? fd.type).map (·.size) = some (k + 1)) : Qt P n env w0 S H o (.pointer (some (p.add (m + fd.offset)))) :=
  qt_same fun a w r s => by
    simp only [Option.map_eq_some_iff] at hs
    obtain ⟨i, hinf, hk⟩ := hs
    simp [execOp, ho, r.ev hx, Instr.fieldAt, run_underlying ht, hf, Instr.sureAddr, fieldPlace, sizeOf, typeInfo, hinf, hk, add_add']
theorem qt_lenSl {x : Operand} {t : TypeId} {ts : Array TypeId} {A : Option Addr} {len cap : Nat} (ho : o.op = .call { callee := .builtin .len, args := #[x], argTypes := ts }) (hx : ev env x = some (.slice A len cap)) (hok : okOps env o = true)
    (hv : ∀ w, (execOp (evD env) o).run P w = .ok (.value (.int .i64 (len : Int))) w) : Qt P n env w0 S H o (.int .i64 (len : Int)) := qt_pure hok hv
/-- a slice's cut from k on: what it reads -/
theorem qt_from {x y : Operand} {t el : TypeId} {A : Option Addr} {len cap sz : Nat} {kd : IntKind} {k : Nat} (ho : o.op = .slice t x (some y) none none) (hx : ev env x = some (.slice A len cap)) (hy : ev env y = some (.int kd (k : Int)))
    (ht : P.underlying t = some (.slice el)) (hs : (P.info? el).map (·.size) = some sz) (hk : k ≤ len) :
    Qt P n env w0 S H o (.slice (if cap = k then A else A.map (·.add (k * sz))) (len - k) (cap - k)) :=
  qt_same fun a w r s => by
    simp only [Option.map_eq_some_iff] at hs
    obtain ⟨i, hinf, rfl⟩ := hs
    simp [execOp, ho, r.ev hx, r.ev hy, Instr.sliceAt, Instr.slice, run_underlying ht, Instr.sliceBounds, Instr.sliceBound, asIntOf, hk, sizeOf, typeInfo, hinf]
theorem qt_upto {x y : Operand} {t el : TypeId} {A : Option Addr} {len cap sz : Nat} {kd : IntKind} {k : Nat} (ho : o.op = .slice t x none (some y) none) (hx : ev env x = some (.slice A len cap)) (hy : ev env y = some (.int kd (k : Int)))
    (ht : P.underlying t = some (.slice el)) (hs : (P.info? el).map (·.size) = some sz) (hk : k ≤ cap) :
    Qt P n env w0 S H o (.slice (if cap = 0 then A else A.map (·.add 0)) k cap) :=
  qt_same fun a w r s => by
    simp only [Option.map_eq_some_iff] at hs
    obtain ⟨i, hinf, rfl⟩ := hs
    simp [execOp, ho, r.ev hx, r.ev hy, Instr.sliceAt, Instr.slice, run_underlying ht, Instr.sliceBounds, Instr.sliceBound, asIntOf, hk, sizeOf, typeInfo, hinf]
theorem slHolds_cut {A : Option Addr} {len c k : Nat} {t : TypeId} {sz : Nat} {cs : List Value} {w : World} (h : (sl A len c t sz cs).holds w) (hk : k ≤ len) (hsz : 0 < sz) :
    (sl (if c = k then A else A.map (·.add (k * sz))) (len - k) (c - k) t sz (cs.drop (k * sz))).holds w := by
  obtain ⟨h1, h2, h3, h4⟩ := h
  refine ⟨by rw [List.length_drop, h1, Nat.sub_mul], by omega, by omega, ?_⟩
  rcases h4 with ⟨rfl, rfl⟩ | ⟨g, off, cur, rfl, hg, hs, htake⟩
  · left; exact ⟨by split <;> rfl, by omega⟩
  · right
    by_cases hc : c = k
    · rw [if_pos hc]
      refine ⟨g, off, cur, rfl, hg, by rw [hc, Nat.sub_self]; omega, ?_⟩
      have : len = k := by omega
      subst this
      rw [Nat.sub_self, Nat.zero_mul, List.take_zero, List.drop_eq_nil_of_le (by omega)]
    · rw [if_neg hc]
      refine ⟨g, off + k * sz, cur, by simp [add_lit'], hg, ?_, ?_⟩
      · have : (c - k) * sz + k * sz = c * sz := by rw [← Nat.add_mul]; congr 1; omega
        omega
      · rw [← htake, List.drop_take, List.drop_drop, Nat.sub_mul]
theorem slFoot_cut (A : Option Addr) (c k m : Nat) : slFoot (if c = k then A else A.map (·.add m)) = slFoot A := by
  split
  · rfl
  · cases A with
    | none => rfl
    | some a =>
      simp only [Option.map_some, slFoot]
      have : (a.add m).block = a.block := by unfold Addr.add; split <;> rfl
      rw [this]
/-- an owned slice turned into its cut from k on -/
theorem A.cutFrom {G : Act → World → Prop} (i k : Nat) {A : Option Addr} {len c : Nat} {t : TypeId} {sz : Nat} {cs : List Value} (H' : List Item) (hi : H[i]? = some (sl A len c t sz cs)) (hk : k ≤ len) (hsz : 0 < sz)
    (hH : H.set i (sl (if c = k then A else A.map (·.add (k * sz))) (len - k) (c - k) t sz (cs.drop (k * sz))) = H') (h : V.A n env w0 S H' G) : V.A n env w0 S H G := by
  intro a w r s
  refine h a w r ?_
  rw [← hH]
  refine s.turn hi (Fr.refl _ _) (slHolds_cut (s.mem hi) hk hsz) (slFoot_nodup _) (fun b hb => .inl ?_)
  rw [show (sl (if c = k then A else A.map (·.add (k * sz))) (len - k) (c - k) t sz (cs.drop (k * sz))).foot = slFoot (if c = k then A else A.map (·.add (k * sz))) from rfl, slFoot_cut] at hb
  exact hb
/-- a nil slice, owned -/
theorem A.ownNil {G : Act → World → Prop} (t : TypeId) (sz : Nat) (H' : List Item) (hH : H ++ [sl none 0 0 t sz []] = H') (h : V.A n env w0 S H' G) : V.A n env w0 S H G := fun a w r s =>
  h a w r (by rw [← hH]; exact s.add (Fr.refl _ _) (sl_nil t sz w) (by simp [sl, slFoot]) (by simp [sl, slFoot]))
/-- a whole block as an owned slice -/
theorem A.ownBlk {G : Act → World → Prop} (i : Nat) {b : Nat} {t : TypeId} {cs : List Value} (len sz : Nat) (H' : List Item) (hi : H[i]? = some (blk b cs t)) (hl : cs.length = len * sz) (hm : len ≤ maxLen) (hH : H.set i (sl (some ⟨b, 0, none⟩) len len t sz cs) = H')
    (h : V.A n env w0 S H' G) : V.A n env w0 S H G := by
  intro a w r s
  refine h a w r ?_
  rw [← hH]
  have hh : w.heap[b]? = some (.cells cs.toArray t (0, 0)) := s.mem hi
  refine s.turn hi (Fr.refl _ _) ⟨hl, Nat.le_refl _, hm, .inr ⟨b, 0, _, rfl, hh, by simp [hl], by simp [← hl]⟩⟩ (slFoot_nodup (some ⟨b, 0, none⟩)) (fun x hx => .inl ?_)
  simpa [sl, slFoot, blk] using hx

/-! append -/
theorem cells_drop_take {cur : List Value} {off a : Nat} {cs : List Value} (h : (cur.drop off).take a = cs) (hl : off + a ≤ cur.length) : cs.length = a := by rw [← h]; simp; omega
theorem run_append_sl {t ty e : TypeId} {i : TypeInfo} {z : Value} {sz by_ : Nat} (w : World) (ht : P.underlying t = some (.slice e)) (hi : P.info? e = some i) (hz : i.zero = some z) (hsize : i.size = sz) (hby : i.bytes = by_) (hzs : z.cells.size = sz) (hsz : 0 < sz)
    {A : Option Addr} {len c : Nat} {cs : List Value} (h : (sl A len c e sz cs).holds w) {X : Option Addr} {m cx : Nat} {news : List Value} (hx : arrAt w X news) (hxl : news.length = m * sz) (h1 : news.all Value.oneCell' = true)
    (h63 : len + m ≤ maxLen) (hbytes : (len + m) * by_ ≤ 140737488355328) :
    ∃ A' c' w', (Builtin.append_ #[t, t] ty #[.slice A len c, .slice X m cx]).run P w = .ok (.slice A' (len + m) c') w' ∧ (sl A' (len + m) c' e sz (cs ++ news)).holds w' ∧ Fr (slFoot A) w w' ∧ (∀ b ∈ slFoot A', b ∈ slFoot A ∨ w.heap.size ≤ b) := by
  subst hsize; subst hby
  obtain ⟨hl, hnc, hcm, h4⟩ := h
  have h1' : ∀ u ∈ news, u.oneCell' = true := fun u hu => List.all_eq_true.1 h1 u hu
  have hfx : (Builtin.firstCells i.size m (.slice X m cx)).run P w = .ok news.toArray w := by
    cases X with
    | none =>
      have : news = [] := by
        cases news with
        | nil => rfl
        | cons u us => have := (hx 0 u rfl).1; simp at this
      subst this
      simp [Builtin.firstCells]
    | some x => exact run_firstCells_some (P := P) w i.size m x m cx news hxl (fun j u hu => by simpa [at0] using (hx j u hu).2)
  have hfx' : (Builtin.firstCells i.size m (.slice X m cx)).run P w.drew = .ok news.toArray w.drew := by
    cases X with
    | none =>
      have : news = [] := by
        cases news with
        | nil => rfl
        | cons u us => have := (hx 0 u rfl).1; simp at this
      subst this
      simp [Builtin.firstCells]
    | some x => exact run_firstCells_some (P := P) w.drew i.size m x m cx news hxl (fun j u hu => by simpa [at0] using (hx j u hu).2)
  by_cases hroom : len + m ≤ c
  · rcases h4 with ⟨rfl, rfl⟩ | ⟨g, off, cur, rfl, hg, hs, htake⟩
    · have hm : m = 0 := by omega
      have hlen : len = 0 := by omega
      subst hm; subst hlen
      have hn : news = [] := List.eq_nil_of_length_eq_zero (by simpa using hxl)
      subst hn
      simp at hl; subst hl
      refine ⟨none, 0, w, ?_, ⟨by simp, Nat.le_refl _, hcm, .inl ⟨rfl, rfl⟩⟩, Fr.refl _ _, by simp [slFoot]⟩
      simp [Builtin.append_, run_underlying ht, sizeOf, typeInfo, hi, Builtin.lenOf, hfx]
    · have hcap : (len + m) * i.size ≤ c * i.size := Nat.mul_le_mul_right _ hroom
      have hadd : (len + m) * i.size = len * i.size + m * i.size := Nat.add_mul _ _ _
      have hst := run_storeCells_at P g (off + len * i.size) e news 0 cur w hg (by rw [hxl]; simp only [Nat.add_zero]; omega) h1'
      simp only [Nat.add_zero] at hst
      refine ⟨some ⟨g, off, none⟩, c, w.setRow g (cur.toList.take (off + len * i.size) ++ news ++ cur.toList.drop (off + len * i.size + news.length)).toArray, ?_, ⟨by rw [List.length_append, hl, hxl, hadd], hroom, hcm, .inr ⟨g, off, _, rfl, setRow_at w g _ cur e hg, ?_, ?_⟩⟩, fr_setRow w g _, fun _ hb => .inl hb⟩
      · simp only [Builtin.append_]
        simp [run_underlying ht, sizeOf, typeInfo, hi, Builtin.lenOf, hroom, hfx, add_lit', hst]
      · simp only [List.size_toArray, List.length_append, List.length_take, List.length_drop, Array.length_toList, hxl]; omega
      · simp only [List.toList_toArray] 
        rw [List.append_assoc, List.drop_append, List.length_take, Array.length_toList]
        rw [show off - min (off + len * i.size) cur.size = 0 from by omega, List.drop_zero]
        rw [List.drop_take, show off + len * i.size - off = len * i.size from by omega, htake]
        rw [← List.append_assoc, List.take_append_of_le_length (by rw [List.length_append, hl, hxl, hadd]; omega)]
        rw [List.take_of_length_le (by rw [List.length_append, hl, hxl, hadd]; omega)]
  · have hge := grownCap_ge w (len + m) c e
    have hcm' : grownCap w (len + m) c e ≤ maxLen := grownCap_le_maxLen w (len + m) c e h63
    have hfs : (Builtin.firstCells i.size len (.slice A len c)).run P w.drew = .ok cs.toArray w.drew := by
      rcases h4 with ⟨rfl, rfl⟩ | ⟨g, off, cur, rfl, hg, hs, htake⟩
      · have hlen : len = 0 := by omega
        subst hlen; simp at hl; subst hl; simp [Builtin.firstCells]
      · exact run_firstCells_some (P := P) w.drew i.size len ⟨g, off, none⟩ len c cs hl (fun j u hu => by
          show w.cell? _ = _
          rw [add_lit', cell_of_row w g (off + j) cur e (0, 0) hg]
          rw [← htake, List.getElem?_take] at hu
          split at hu
          · rw [List.getElem?_drop] at hu; simpa using hu
          · cases hu)
    obtain ⟨w', hw'⟩ : ∃ w', w' = (World.drew w).alloc (.cells (cs.toArray ++ news.toArray ++ Builtin.zeroCells z.cells (grownCap w (len + m) c e - (len + m))) e) := ⟨_, rfl⟩
    refine ⟨some ⟨w.heap.size, 0, none⟩, grownCap w (len + m) c e, w', ?_, ⟨by rw [List.length_append, hl, hxl, Nat.add_mul], hge, hcm', .inr ⟨w.heap.size, 0, _, rfl, by rw [hw']; exact heap_alloc_new w.drew _, ?_, ?_⟩⟩, ?_, fun b hb => .inr (by simp [slFoot] at hb; omega)⟩
    · subst hw'
      have h48 : ¬ (Builtin.nextslicecap (len + m) c * i.bytes > 2 ^ 48) := by
        have h2 := growslice_fits (need := len + m) (old := c) (by omega) hbytes
        omega
      have hmax : IntKind.i64.max = 9223372036854775807 := by decide
      have hm63 : len + m ≤ 9223372036854775807 := by simp only [maxLen] at h63; omega
      simp only [Builtin.append_]
      simp [run_underlying ht, sizeOf, typeInfo, zeroValue, hi, hz, Builtin.lenOf, hroom, h48, Question.forced, hfs, hfx, newRow, grownCap]
      rw [if_neg (by omega)]
      simp only [Result.andThen_ok, hfx']
      refine congrArg _ (congrArg _ (congrArg (fun c => Obj.cells c e (0, 0)) ?_))
      apply Array.ext'
      simp
    · simp only [Array.size_append, List.size_toArray, size_zeroCells, hzs, hl, hxl]
      rw [← Nat.add_mul, ← Nat.add_mul, Nat.zero_add]
      apply Nat.le_of_eq; congr 1; omega
    · simp only [Array.toList_append, List.drop_zero]
      rw [List.take_append_of_le_length (by simp [hl, hxl, Nat.add_mul]), List.take_of_length_le (by simp [hl, hxl, Nat.add_mul])]
    · subst hw'
      exact ⟨rfl, rfl, rfl, by simp, fun k hk _ => heap_alloc_old w.drew _ hk⟩
end

section
variable {P : Program} {n : Nat} {env : Env} {w0 : World} {S : List Nat} {H : List Item} {ops : Array Oper} {o : Oper} {K : Act → World → Prop}
/-- append onto an owned slice -/
theorem A.append (i : Nat) (d : Nat) {x y : Operand} {t e : TypeId} {z : Value} {sz by_ : Nat} {A : Option Addr} {len c : Nat} {cs : List Value} {X : Option Addr} {m cx : Nat} (news : List Value)
    (hok : headOk ops n env o (some d) = true) (ho : o.op = .call { callee := .builtin .append, args := #[x, y], argTypes := #[t, t] }) (hx : ev env x = some (.slice A len c)) (hy : ev env y = some (.slice X m cx))
    (ht : P.underlying t = some (.slice e)) (hinf : (P.info? e).map (fun i => (i.zero, i.size, i.bytes)) = some (some z, sz, by_)) (hzs : z.cells.size = sz) (hsz : 0 < sz)
    (hi : H[i]? = some (sl A len c e sz cs)) (hr : Rd w0 S H X news) (hnl : news.length = m * sz) (h1 : news.all Value.oneCell' = true) (h63 : len + m ≤ maxLen) (hbytes : (len + m) * by_ ≤ 140737488355328)
    (H' : Option Addr → Nat → List Item) (hH : ∀ A' c', H.set i (sl A' (len + m) c' e sz (cs ++ news)) = H' A' c')
    (h : ∀ A' c', V.A n ((d, .slice A' (len + m) c') :: env) w0 S (H' A' c') K) : V.A n env w0 S H (Step P ops o K) := by
  intro a w r s
  obtain ⟨h1', h2, h3, h4⟩ := headOk_spec hok
  unfold Step
  rw [if_pos (wanted_of r h1')]
  simp only [Option.map_eq_some_iff, Prod.mk.injEq] at hinf
  obtain ⟨inf, hinf, hz, hs1, hs2⟩ := hinf
  obtain ⟨A', c', w', hrun, hsl, hfr, hft⟩ := run_append_sl (P := P) (ty := o.type) w ht hinf hz hs1 hs2 hzs hsz (s.mem hi) (m := m) (cx := cx) (hr w s) hnl h1 h63 hbytes
  unfold Oper.wp execOp
  simp only [ho, resolve, invoke, builtin, Sem.run_bind, Sem.run_pure, Result.andThen_ok, List.map_toArray, List.map_cons, List.map_nil, r.ev hx, r.ev hy, hrun, Oper.upon, h2]
  refine h A' c' _ _ (r.put (h3 d rfl)) ?_
  rw [← hH]
  exact s.turn hi hfr hsl (slFoot_nodup _) hft
/-- a slice literal: a new block -/
theorem A.buildSlice (d : Nat) {t e : TypeId} {len : Nat} {parts : Array (Nat × Operand)} (cs : List Value) (hok : headOk ops n env o (some d) = true) (ho : o.op = .buildSlice t len parts)
    (hrun : ∀ w : World, (execOp (evD env) o).run P w = .ok (.value (.slice (some ⟨w.heap.size, 0, none⟩) len len)) { w with heap := w.heap.push (.cells cs.toArray e (0, 0)) })
    (H' : Nat → List Item) (hH : ∀ b, H ++ [blk b cs e] = H' b) (h : ∀ b, V.A n ((d, .slice (some ⟨b, 0, none⟩) len len) :: env) w0 S (H' b) K) : V.A n env w0 S H (Step P ops o K) := by
  intro a w r s
  obtain ⟨h1', h2, h3, h4⟩ := headOk_spec hok
  unfold Step
  rw [if_pos (wanted_of r h1')]
  unfold Oper.wp
  rw [execOp_env r h4, hrun w]
  simp only [Oper.upon, h2]
  refine h w.heap.size _ _ (r.put (h3 d rfl)) ?_
  rw [← hH]
  exact s.add (Fr.alloc _ _ _) (heap_alloc_new w _) (by simp [blk]) (by simp [blk])
theorem made_list (z : List Value) : ∀ len : Nat, (List.range (len * z.length)).map (fun j => z.getD (j % z.length) undef) = flat (fun _ => z) (List.replicate len ())
  | 0 => by simp [flat]
  | len + 1 => by
    have ih := made_list z len
    rw [Nat.add_mul, Nat.one_mul, List.range_add, List.map_append, ih, List.replicate_succ', flat_append]
    congr 1
    simp only [flat, List.flatMap_cons, List.flatMap_nil, List.append_nil, List.map_map]
    apply List.ext_getElem
    · simp
    · intro j h1 h2
      have hj : j < z.length := h2
      simp [Nat.mod_eq_of_lt hj, hj]
theorem made_cells (z : Array Value) (len : Nat) : madeCells z (len * z.size) = (flat (fun _ => z.toList) (List.replicate len ())).toArray := by
  have h := made_list z.toList len
  rw [Array.length_toList] at h
  rw [← h]
  apply Array.ext'
  simp only [madeCells, Array.toList_map, Array.toList_range, List.toList_toArray]
  apply List.map_congr_left
  intro j hj
  have hz : 0 < z.size := by
    rcases Nat.eq_zero_or_pos z.size with h0 | h0
    · rw [h0] at hj; simp at hj
    · exact h0
  have hlt := Nat.mod_lt j hz
  simp [hlt]
/-- make([]T, len): a new block -/
theorem A.make {α : Type} (enc : α → List Value) (d0 : α) (d : Nat) {t e : TypeId} {x y : Operand} {k k' : IntKind} {z : Value} {sz by_ : Nat} (len : Nat) (hok : headOk ops n env o (some d) = true) (ho : o.op = .makeSlice t x y) (hx : ev env x = some (.int k (len : Int))) (hy : ev env y = some (.int k' (len : Int)))
    (ht : P.underlying t = some (.slice e)) (hinf : (P.info? e).map (fun i => (i.zero, i.size, i.bytes)) = some (some z, sz, by_)) (hzs : z.cells.size = sz) (hd0 : enc d0 = z.cells.toList) (hb : by_ * len ≤ 281474976710656) (h63 : len ≤ 9223372036854775807)
    (H' : Nat → List Item) (hH : ∀ b, H ++ [blk b (flat enc (List.replicate len d0)) e] = H' b) (h : ∀ b, V.A n ((d, .slice (some ⟨b, 0, none⟩) len len) :: env) w0 S (H' b) K) : V.A n env w0 S H (Step P ops o K) := by
  intro a w r s
  obtain ⟨h1', h2, h3, h4⟩ := headOk_spec hok
  unfold Step
  rw [if_pos (wanted_of r h1')]
  simp only [Option.map_eq_some_iff, Prod.mk.injEq] at hinf
  obtain ⟨inf, hinf, hz, rfl, rfl⟩ := hinf
  have hb' : (inf.bytes : Int) * (len : Int) ≤ 281474976710656 := by rw [← Int.natCast_mul]; omega
  have hr := run_make (P := P) w t e inf z ht hinf hz k k' len len (by omega) (by omega) hb' (by omega)
  simp only [Int.toNat_natCast] at hr
  have hcells : madeCells z.cells (len * inf.size) = (flat enc (List.replicate len d0)).toArray := by
    rw [← hzs, made_cells]; congr 1; simp only [flat]; clear hx hy hb hb' hr hH h h63; induction len <;> simp_all [List.replicate_succ]
  unfold Oper.wp execOp
  simp only [ho, r.ev hx, r.ev hy, Sem.run_bind, hr, Result.andThen_ok, Sem.run_pure, Oper.upon, h2]
  refine h w.heap.size _ _ (r.put (h3 d rfl)) ?_
  rw [← hH, hcells]
  exact s.add (Fr.alloc _ _ _) (heap_alloc_new w _) (by simp [blk]) (by simp [blk])
/-- a store at a thing's field within a block of things -/
theorem A.storeAt {α : Type} (i k : Nat) {t ty : TypeId} {x y : Operand} {b sz : Nat} {u : Value} {enc : α → List Value} {xs : List α} (v : α) (H' : List Item) (hok : headOk ops n env o none = true) (ho : o.op = .store t x y)
    (hx : ev env x = some (.pointer (some ⟨b, k * sz, none⟩))) (hy : ev env y = some u) (hu : u.cells = (enc v).toArray) (hsz : (P.info? t).map (·.size) = some sz) (h1 : (enc v).all Value.oneCell' = true) (he : ∀ x, (enc x).length = sz)
    (hi : H[i]? = some (blk b (flat enc xs) ty)) (hk : k < xs.length) (hH : H.set i (blk b (flat enc (xs.set k v)) ty) = H') (h : V.A n env w0 S H' K) : V.A n env w0 S H (Step P ops o K) := by
  refine A.store i (vs := enc v) H' hok ho hx hy hu (by rw [hsz, he]) h1 hi ?_ ?_ h
  · rw [flat_len he, he]; exact Nat.ble_eq_true_of_le (by have := Nat.mul_le_mul_right sz (show k + 1 ≤ xs.length from hk); rw [Nat.add_mul] at this; omega)
  · rw [← hH, he, flat_set he xs k v hk]
theorem qt_indexN {α : Type} {enc : α → List Value} {xs : List α} {x y : Operand} {t el : TypeId} {A : Option Addr} {cap sz : Nat} {k : IntKind} {m : Nat} (ho : o.op = .indexAddr t x y) (hx : ev env x = some (.slice A xs.length cap)) (hy : ev env y = some (.int k (m : Int)))
    (ht : P.underlying t = some (.slice el)) (hs : (P.info? el).map (·.size) = some sz) (he : ∀ x, (enc x).length = sz) (hr : Rd w0 S H A (flat enc xs)) (hz : 0 < sz) (hi : m < xs.length) : Qt P n env w0 S H o (.pointer (some ((at0 A).add (m * sz)))) :=
  qt_index ho hx hy ht hs hr (flat_len he xs) hz ⟨by omega, by omega⟩
theorem reads_at {α : Type} {enc : α → List Value} {xs : List α} {A : Option Addr} {m sz f : Nat} {x : α} {vs : List Value} (he : ∀ x, (enc x).length = sz) (hr : Rd w0 S H A (flat enc xs)) (hx : xs[m]? = some x) (hf : f + vs.length ≤ sz) (hv : ((enc x).drop f).take vs.length = vs) :
    Reads w0 S H ((at0 A).add (m * sz + f)) vs := rd_reads hr (by rw [flat_at he hx f _ hf, hv])
theorem reads_at0 {α : Type} {enc : α → List Value} {xs : List α} {A : Option Addr} {m sz : Nat} {x : α} {vs : List Value} (he : ∀ x, (enc x).length = sz) (hr : Rd w0 S H A (flat enc xs)) (hx : xs[m]? = some x) (hf : vs.length ≤ sz) (hv : (enc x).take vs.length = vs) :
    Reads w0 S H ((at0 A).add (m * sz)) vs := reads_at (f := 0) he hr hx (by omega) (by simpa using hv)
/-- append, by lists -/
theorem A.appendC {α : Type} {enc : α → List Value} {xs : List α} (ys : List α) (i : Nat) (d : Nat) {x y : Operand} {t e : TypeId} {z : Value} {sz by_ : Nat} {A : Option Addr} {c : Nat} {X : Option Addr} {cx : Nat}
    (hok : headOk ops n env o (some d) = true) (ho : o.op = .call { callee := .builtin .append, args := #[x, y], argTypes := #[t, t] }) (hx : ev env x = some (.slice A xs.length c)) (hy : ev env y = some (.slice X ys.length cx))
    (ht : P.underlying t = some (.slice e)) (hinf : (P.info? e).map (fun i => (i.zero, i.size, i.bytes)) = some (some z, sz, by_)) (hzs : z.cells.size = sz) (hsz : 0 < sz)
    (he : ∀ x, (enc x).length = sz) (h1 : ∀ x, (enc x).all Value.oneCell' = true)
    (hi : H[i]? = some (sl A xs.length c e sz (flat enc xs))) (hr : Rd w0 S H X (flat enc ys)) (hbytes : xs.length + ys.length ≤ 1048576 ∧ by_ ≤ 134217728)
    (H' : Option Addr → Nat → List Item) (hH : ∀ A' c', H.set i (sl A' (xs ++ ys).length c' e sz (flat enc (xs ++ ys))) = H' A' c')
    (h : ∀ A' c', V.A n ((d, .slice A' (xs ++ ys).length c') :: env) w0 S (H' A' c') K) : V.A n env w0 S H (Step P ops o K) := by
  refine V.A.append i d (flat enc ys) hok ho hx hy ht hinf hzs hsz hi hr (flat_len he ys) ?_ (by simp only [maxLen]; omega) ?_ H' (fun A' c' => ?_) (fun A' c' => ?_)
  · apply List.all_eq_true.2
    intro u hu
    obtain ⟨y, _, hy⟩ := List.mem_flatMap.1 hu
    exact List.all_eq_true.1 (h1 y) u hy
  · exact Nat.le_trans (Nat.mul_le_mul hbytes.1 hbytes.2) (by omega)
  · rw [← hH, List.length_append, flat_append]
  · have := h A' c'; rw [List.length_append] at this; exact this
end
end Go.Proofs.YtaacfehlcdkdhaaGreatDoor.V
