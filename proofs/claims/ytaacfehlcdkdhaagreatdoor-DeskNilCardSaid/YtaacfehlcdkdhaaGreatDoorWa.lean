/- My own verifier: strings as lists of bytes; bytes made a string; 'range' over a string. Generic: nothing of the dump. -/
import Derived.Test.YtaacfehlcdkdhaaGreatDoorVt
import Derived.Laws.BytesArg
namespace Go.Proofs.YtaacfehlcdkdhaaGreatDoor.V
set_option linter.unusedVariables false
set_option linter.unusedSimpArgs false
open Go
/-- the string of these bytes -/
def bs (l : List UInt8) : ByteArray := ⟨l.toArray⟩
theorem bs_data (l : List UInt8) : (bs l).data.toList = l := rfl
theorem bs_size (l : List UInt8) : (bs l).size = l.length := rfl
theorem bs_of (s : ByteArray) : bs s.data.toList = s := by obtain ⟨⟨l⟩⟩ := s; rfl
theorem bs_inj {l m : List UInt8} : bs l = bs m ↔ l = m := ⟨fun h => by have := congrArg (fun s => s.data.toList) h; exact this, fun h => h ▸ rfl⟩
theorem bs_toList (l : List UInt8) : (bs l).toList = l := by rw [Go.Lib.toList_data]; rfl
theorem bs_beq (l m : List UInt8) : (bs l == bs m) = (l == m) := by
  rw [Bool.eq_iff_iff, beq_iff_eq, beq_iff_eq]; exact bs_inj
theorem bs_bne (l m : List UInt8) : (bs l != bs m) = (l != m) := by unfold bne; rw [bs_beq]
theorem gdS {l : List UInt8} {i : Nat} (h : i < l.length) : l[i]? = some (l.getD i 0) := by simp [List.getD, List.getElem?_eq_getElem h]
theorem gdS_of {l : List UInt8} {i : Nat} {u : UInt8} (h : l[i]? = some u) : l.getD i 0 = u := by simp [List.getD, h]
theorem wrap_u64m (e : Int) : IntKind.u64.wrap e = e % 18446744073709551616 := by simp [IntKind.wrap, IntKind.bits, IntKind.signed]
theorem wrap_i64m {e : Int} (h : 0 ≤ e ∧ e < 18446744073709551616) : IntKind.i64.wrap e = if e < 9223372036854775808 then e else e - 18446744073709551616 := by
  simp [IntKind.wrap, IntKind.bits, IntKind.signed]; split <;> split <;> omega
theorem u_tdiv {x b : Int} (h : 0 ≤ x ∧ x < 18446744073709551616) (hb : 0 < b) : IntKind.u64.wrap (x.tdiv b) = x / b := by
  rw [Int.tdiv_eq_ediv_of_nonneg h.1]
  have h1 : 0 ≤ x / b := Int.ediv_nonneg h.1 (by omega)
  have h2 : x / b ≤ x := Int.ediv_le_self _ h.1
  exact wrap_u64 (by omega)
theorem i_tdiv {x b : Int} (h : 0 ≤ x ∧ x < 9223372036854775808) (hb : 0 < b) : IntKind.i64.wrap (x.tdiv b) = x / b := by
  rw [Int.tdiv_eq_ediv_of_nonneg h.1]
  have h1 : 0 ≤ x / b := Int.ediv_nonneg h.1 (by omega)
  have h2 : x / b ≤ x := Int.ediv_le_self _ h.1
  exact wrap_i64 (by omega)
theorem u_tmod {x b : Int} (h : 0 ≤ x) : x.tmod b = x % b := Int.tmod_eq_emod_of_nonneg h
theorem u_tdivV {x y : Int} (hx : 0 ≤ x ∧ x < 18446744073709551616) (hy : 0 < y) : IntKind.u64.wrap (x.tdiv y) = x / y := by
  rw [Int.tdiv_eq_ediv_of_nonneg hx.1]
  have h1 : 0 ≤ x / y := Int.ediv_nonneg hx.1 (by omega)
  have h2 : x / y ≤ x := Int.ediv_le_self _ hx.1
  exact wrap_u64 (by omega)
theorem bs_get {l : List UInt8} {i : Nat} (h : i < l.length) : (bs l).get! i = l[i] := by
  have h' : i < (bs l).data.size := h
  show (bs l).data[i]! = _
  rw [getElem!_pos _ i h']; rfl
/-- a walk over a string's runes: where it stands -/
def strI (r : Nat) (l : List UInt8) (pos : Nat) : Item where
  foot := [r]
  holds w := w.heap[r]? = some (.stringIter (bs l) pos)
  loc w w' h hw := by rw [h r (by simp)]; exact hw
  here w hw c hc := by simp at hc; subst hc; exact (Array.getElem?_eq_some_iff.1 hw).1
theorem dec_low {l : List UInt8} {i : Nat} {b : UInt8} (h : l[i]? = some b) (hb : b.toNat < 128) : Utf8.decode (bs l) i = (b.toNat, 1) := by
  obtain ⟨hlt, hg⟩ := List.getElem?_eq_some_iff.1 h
  unfold Utf8.decode
  simp only [Nat.add_zero, bs_get hlt, hg]
  rw [if_pos hb]
theorem dec_high {l : List UInt8} {i : Nat} {b : UInt8} (h : l[i]? = some b) (hb : ¬ b.toNat < 128) : 128 ≤ (Utf8.decode (bs l) i).1 ∧ 1 ≤ (Utf8.decode (bs l) i).2 ∧ (Utf8.decode (bs l) i).1 < 2097152 := by
  obtain ⟨hlt, hg⟩ := List.getElem?_eq_some_iff.1 h
  unfold Utf8.decode
  simp only [Nat.add_zero, bs_get hlt, hg]
  rw [if_neg hb]
  have hu : b.toNat < 256 := UInt8.toNat_lt b
  simp only [Utf8.runeError]
  repeat' split
  all_goals first | (simp only []; omega) | (rename_i hh; simp at hh; refine ⟨?_, ?_, ?_⟩ <;> simp only [] <;> omega)
section
variable {P : Program} {n : Nat} {env : Env} {w0 : World} {S : List Nat} {H : List Item} {ops : Array Oper} {o : Oper} {K : Act → World → Prop}
theorem A.rangeS (d : Nat) {x : Operand} {t : TypeId} {l : List UInt8} (hok : headOk ops n env o (some d) = true) (ho : o.op = .range t x) (hx : ev env x = some (.string (bs l)))
    (ht : P.underlying t = some .string) (H' : Nat → List Item) (hH : ∀ r, H ++ [strI r l 0] = H' r)
    (h : ∀ r, V.A n ((d, .pointer (some ⟨r, 0, none⟩)) :: env) w0 S (H' r) K) : V.A n env w0 S H (Step P ops o K) := by
  intro a w r s
  obtain ⟨h1', h2, h3, h4⟩ := headOk_spec hok
  unfold Step
  rw [if_pos (wanted_of r h1')]
  have hrun : (execOp a.eval o).run P w = .ok (.value (.pointer (some ⟨w.heap.size, 0, none⟩))) (w.alloc (.stringIter (bs l) 0)) := by
    simp [execOp, ho, r.ev hx, Instr.range, run_underlying ht, newObj, Sem.run, World.alloc_eq]
  unfold Oper.wp
  rw [hrun]
  simp only [Oper.upon, h2]
  refine h w.heap.size _ _ (r.put (h3 d rfl)) ?_
  rw [← hH]
  exact s.add (it := strI w.heap.size l 0) (Fr.alloc _ _ _) (by have := heap_alloc_new w (.stringIter (bs l) 0); simpa [strI] using this) (by simp [strI]) (by simp [strI])
def setO (w : World) (r : Nat) (o : Obj) : World := { w with heap := w.heap.setIfInBounds r o }
theorem run_getObj_str {w : World} {r pos : Nat} {s : ByteArray} (hr : w.heap[r]? = some (.stringIter s pos)) : (getObj r).run P w = .ok (.stringIter s pos) w := by
  simp [getObj, Sem.run, hr]
theorem A.nextS (i d : Nat) {x : Operand} {r pos : Nat} {l : List UInt8} (hok : headOk ops n env o (some d) = true) (ho : o.op = .next x true)
    (hx : ev env x = some (.pointer (some ⟨r, 0, none⟩))) (hi : H[i]? = some (strI r l pos)) (H' : Nat → List Item) (hH : ∀ p, H.set i (strI r l p) = H' p)
    (h1 : l.length ≤ pos → V.A n ((d, .tuple #[.bool false]) :: env) w0 S H K)
    (h2 : ∀ b, l[pos]? = some b → b.toNat < 128 → V.A n ((d, .tuple #[.bool true, .int .i64 (pos : Int), .int .i32 (b.toNat : Int)]) :: env) w0 S (H' (pos + 1)) K)
    (h3 : ∀ b, l[pos]? = some b → ¬ b.toNat < 128 → ∀ c k : Nat, 128 ≤ c → c < 2097152 → V.A n ((d, .tuple #[.bool true, .int .i64 (pos : Int), .int .i32 (c : Int)]) :: env) w0 S (H' (pos + k)) K) : V.A n env w0 S H (Step P ops o K) := by
  intro a w ra s
  obtain ⟨h1', h2', h3', h4⟩ := headOk_spec hok
  unfold Step
  rw [if_pos (wanted_of ra h1')]
  have hr : w.heap[r]? = some (.stringIter (bs l) pos) := s.mem hi
  by_cases hp : pos < l.length
  · have hget : l[pos]? = some l[pos] := List.getElem?_eq_getElem hp
    have hrun : (execOp a.eval o).run P w = .ok (.value (.tuple #[.bool true, .int .i64 (pos : Int), .int .i32 ((Utf8.decode (bs l) pos).1 : Int)])) (setO w r (.stringIter (bs l) (pos + (Utf8.decode (bs l) pos).2))) := by
      have hp' : pos < (bs l).size := hp
      simp [execOp, ho, ra.ev hx, Instr.next, run_getObj_str hr, hp', Go.setObj, Sem.run, hr, goInt, setO]
    unfold Oper.wp
    rw [hrun]
    simp only [Oper.upon, h2']
    have hs' : HS w0 S (H' (pos + (Utf8.decode (bs l) pos).2)) (setO w r (.stringIter (bs l) (pos + (Utf8.decode (bs l) pos).2))) := by
      rw [← hH]
      refine s.turn (jt := strI r l _) hi ⟨rfl, rfl, rfl, ?_, ?_⟩ ?_ (by simp [strI]) (by simp [strI])
      · simp [setO]
      · intro q hq hq'
        have : r ≠ q := fun e => hq' (by rw [← e]; simp [strI])
        simp [setO, Array.getElem?_setIfInBounds_ne this]
      · have : r < w.heap.size := (Array.getElem?_eq_some_iff.1 hr).1
        simp [strI, setO, this]
    by_cases hb : l[pos].toNat < 128
    · have hd := dec_low hget hb
      rw [hd] at hs' ⊢
      exact h2 _ hget hb _ _ (ra.put (h3' d rfl)) hs'
    · obtain ⟨e1, e2, e3⟩ := dec_high hget hb
      exact h3 _ hget hb _ _ e1 e3 _ _ (ra.put (h3' d rfl)) hs'
  · have hrun : (execOp a.eval o).run P w = .ok (.value (.tuple #[.bool false])) w := by
      have hp' : ¬ pos < (bs l).size := hp
      simp [execOp, ho, ra.ev hx, Instr.next, run_getObj_str hr, hp']
    unfold Oper.wp
    rw [hrun]
    simp only [Oper.upon, h2']
    exact h1 (by omega) _ _ (ra.put (h3' d rfl)) s
/-- 'string(b)' of bytes that are known -/
theorem qt_b2s {x : Operand} {t ty e : TypeId} {b off c : Nat} {ns : List Int} (ho : o.op = .convert t ty x) (hx : ev env x = some (.slice (some ⟨b, off, none⟩) ns.length c)) (ht : P.underlying t = some (.slice e)) (hte : P.underlying e = some (.int .u8)) (hty : P.underlying ty = some .string)
    (hr : Reads w0 S H ⟨b, off, none⟩ (ns.map (Value.int .u8))) : Qt P n env w0 S H o (.string (bs (ns.map fun m => UInt8.ofNat m.toNat))) :=
  qt_same fun a w r s => by
    have hc := run_convert_bytes_arg (P := P) w t e ht hte b off ns.length c ns rfl (fun i hi => by
      have := hr w s i (.int .u8 (ns.getD i 0)) (by rw [List.getElem?_map, List.getElem?_eq_getElem hi]; simp [List.getD, List.getElem?_eq_getElem hi])
      rw [add_lit'] at this; exact this) ty hty
    have he : strOfNums ns = bs (ns.map fun m => UInt8.ofNat m.toNat) := rfl
    simp [execOp, ho, r.ev hx, hc, he]
end
end Go.Proofs.YtaacfehlcdkdhaaGreatDoor.V
