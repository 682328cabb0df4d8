/- My own verifier: why a run by hints (Vx) tells what the operations do. Generic: nothing of the dump. -/
import Derived.Test.YtaacfehlcdkdhaaGreatDoorVx
import Derived.Lib.Strings
namespace Go.Proofs.YtaacfehlcdkdhaaGreatDoor.V
open Go

theorem look_append (l1 l2 : Env) (i : Nat) : look (l1 ++ l2) i = match look l1 i with | some v => some v | none => look l2 i := by
  induction l1 with
  | nil => rfl
  | cons p l ih =>
    simp only [List.cons_append, look]
    cases Nat.beq p.1 i <;> simp [ih]
theorem look_map_undef (l : Env) (i : Nat) : look (l.map fun p => (p.1, undef)) i = (look l i).map fun _ => undef := by
  induction l with
  | nil => rfl
  | cons p l ih =>
    simp only [List.map_cons, look]
    cases Nat.beq p.1 i <;> simp [ih]
theorem freshE_append (l1 l2 : Env) (d : Nat) : freshE (l1 ++ l2) d = (freshE l1 d && freshE l2 d) := by
  induction l1 with
  | nil => simp [freshE]
  | cons p l ih => simp [freshE, ih, Bool.and_assoc]
theorem freshE_map (l : Env) (d : Nat) : freshE (l.map fun p => (p.1, undef)) d = freshE l d := by
  induction l with
  | nil => rfl
  | cons p l ih => simp [freshE, ih]
theorem freshE_look {l : Env} {d i : Nat} {v : Value} (h : freshE l d = true) (hl : look l i = some v) : i ≠ d := by
  induction l with
  | nil => simp [look] at hl
  | cons p l ih =>
    simp only [freshE, Bool.and_eq_true, Bool.not_eq_true'] at h
    rcases look_put (d := p.1) (v := p.2) hl with ⟨rfl, _⟩ | ⟨_, hl'⟩
    · exact Nat.ne_of_beq_eq_false h.1
    · exact ih h.2 hl'
theorem Rep.put_fresh {n : Nat} {env : Env} {a : Act} {d : Nat} {u : Value} (h : Rep n env a) (hf : freshE env d = true) : Rep n env (a.put (some d) u) := by
  refine ⟨by simp [Act.put, h.size], by simpa [Act.put] using h.nod, fun i v hv => ?_⟩
  have hne := freshE_look hf hv
  have := h.get i v hv
  simp only [Act.put, Array.getD_eq_getD_getElem?] at this ⊢
  rw [Array.getElem?_setIfInBounds_ne (Ne.symm hne)]; exact this
theorem Rep.append {n : Nat} {e1 e2 : Env} {a : Act} (h1 : Rep n e1 a) (h2 : Rep n e2 a) : Rep n (e1 ++ e2) a :=
  ⟨h1.size, h1.nod, fun i v hv => by
    rw [look_append] at hv
    cases hl : look e1 i with
    | some u => rw [hl] at hv; simp at hv; subst hv; exact h1.get i u hl
    | none => rw [hl] at hv; exact h2.get i v hv⟩

structure RepC (n : Nat) (seg : Env) (c : Bool) (a : Act) : Prop where
  yes : c = true → Rep n seg a
  no : c = false → Rep n (seg.map fun p => (p.1, undef)) a
def Ri (n : Nat) (base : Env) : List Fm → Act → Prop
  | [], a => Rep n base a
  | f :: fs, a => Ri n base fs a ∧ look (top base fs) f.dg = some (.bool f.E) ∧ RepC n f.seg (cur (f :: fs)) a
theorem Ri.full {n : Nat} {base : Env} {a : Act} : ∀ {fs : List Fm}, Ri n base fs a → cur fs = true → Rep n (full base fs) a
  | [], h, _ => h
  | f :: fs, h, hc => by
    have hc' := hc
    simp only [cur, Bool.and_eq_true] at hc'
    exact (h.2.2.yes hc).append (Ri.full h.1 hc'.1)
/-- the top segment: its values, or nothing at all -/
theorem Ri.top {n : Nat} {base : Env} {a : Act} {fs : List Fm} {d : Nat} {v : Value} (h : Ri n base fs a) (hl : look (top base fs) d = some v) : Rep n [(d, bif cur fs then v else undef)] a := by
  cases fs with
  | nil =>
    have h1 : Rep n base a := h
    exact ⟨h1.size, h1.nod, fun i u hu => by rcases look_put hu with ⟨rfl, rfl⟩ | ⟨_, hl'⟩; exact h1.get _ _ hl; simp [look] at hl'⟩
  | cons f fs =>
    have hr := h.2.2
    cases hc : cur (f :: fs) with
    | true => 
      have h1 := hr.yes hc
      exact ⟨h1.size, h1.nod, fun i u hu => by rcases look_put hu with ⟨rfl, rfl⟩ | ⟨_, hl'⟩; exact h1.get _ _ hl; simp [look] at hl'⟩
    | false =>
      have h1 := hr.no hc
      exact ⟨h1.size, h1.nod, fun i u hu => by rcases look_put hu with ⟨rfl, rfl⟩ | ⟨_, hl'⟩; exact h1.get _ _ (by rw [look_map_undef]; show (look f.seg _).map _ = _; rw [show look f.seg d = some v from hl]; rfl); simp [look] at hl'⟩
theorem Ri.wanted {n : Nat} {ops : Array Oper} {base : Env} {fs : List Fm} {a : Act} {o : Oper} (h : Ri n base fs a) (hg : guardOk ops base fs o = true) : Region.wanted o (yielded ops a.tmps) = cur fs := by
  cases fs with
  | nil =>
    simp only [guardOk] at hg
    cases hw : wantedE ops base o with
    | none => rw [hw] at hg; simp at hg
    | some b => rw [hw] at hg; simp only at hg; rw [wanted_of h hw, hg]; rfl
  | cons f fs =>
    simp only [guardOk] at hg
    cases hgd : o.guard with
    | none => rw [hgd] at hg; simp at hg
    | some jp =>
      obtain ⟨j, pol⟩ := jp
      rw [hgd] at hg
      simp only at hg
      cases hd : (ops[j]?).bind (·.dst) with
      | none => rw [hd] at hg; simp at hg
      | some d =>
        rw [hd] at hg
        simp only [Bool.and_eq_true] at hg
        obtain ⟨h1, h2⟩ := hg
        obtain rfl := Nat.eq_of_beq_eq_true h1
        have hp : pol = f.pol := by simpa using h2
        have ht := Ri.top h.1 h.2.1
        refine wanted_of ht ?_
        simp only [wantedE, hgd, hd, Option.bind_some, look, Nat.beq_refl]
        cases hc : cur fs <;> simp [cur, hc, hp, undef]
theorem Ri.put_fresh {n : Nat} {base : Env} {a : Act} {d : Nat} {u : Value} : ∀ {fs : List Fm}, Ri n base fs a → freshE (V.full base fs) d = true → Ri n base fs (a.put (some d) u)
  | [], h, hf => Rep.put_fresh h hf
  | f :: fs, h, hf => by
    simp only [V.full, freshE_append, Bool.and_eq_true] at hf
    exact ⟨Ri.put_fresh h.1 hf.2, h.2.1, ⟨fun hc => (h.2.2.yes hc).put_fresh hf.1, fun hc => (h.2.2.no hc).put_fresh (by rw [freshE_map]; exact hf.1)⟩⟩
theorem Ri.put {n : Nat} {base : Env} {a : Act} {fs : List Fm} {d : Option Nat} {v : Value} (h : Ri n base fs a) (hs : slotOk n base fs d = true) : Ri n (putB base fs d v) (putF fs d v) (a.put d (bif cur fs then v else undef)) := by
  cases d with
  | none => cases fs <;> exact h
  | some d =>
    simp only [slotOk, Bool.and_eq_true] at hs
    have hd : d < n := Nat.le_of_ble_eq_true hs.1
    cases fs with
    | nil => exact Rep.put h hd
    | cons f fs =>
      have hf : freshE (V.full base fs) d = true := hs.2
      refine ⟨Ri.put_fresh h.1 hf, h.2.1, ⟨fun hc => ?_, fun hc => ?_⟩⟩
      · have hc' : cur (f :: fs) = true := hc
        rw [hc']; exact (h.2.2.yes hc').put hd
      · have hc' : cur (f :: fs) = false := hc
        rw [hc']; exact (h.2.2.no hc').put hd
theorem Ri.open_ {n : Nat} {base : Env} {a : Act} {fs : List Fm} {d : Nat} {pol E : Bool} (h : Ri n base fs a) (hl : look (V.top base fs) d = some (.bool E)) : Ri n base (⟨d, pol, E, []⟩ :: fs) a := by
  refine ⟨h, hl, ?_⟩
  have : Rep n [] a := by
    have := Ri.top h hl
    exact this.nil
  exact ⟨fun _ => this, fun _ => this⟩
theorem keepE_rep {n : Nat} {env : Env} {a : Act} (h : Rep n env a) : ∀ {ids : List Nat} {e : Env}, keepE env ids = some e → Rep n e a
  | [], e, hk => by simp [keepE] at hk; subst hk; exact h.nil
  | i :: l, e, hk => by
    simp only [keepE] at hk
    cases hl : look env i with
    | none => rw [hl] at hk; simp at hk
    | some v =>
      rw [hl] at hk
      simp only at hk
      cases hr : keepE env l with
      | none => rw [hr] at hk; simp at hk
      | some r => rw [hr] at hk; simp at hk; subst hk; exact h.cons hl (keepE_rep h hr)

section
variable {P : Program} {Q : Exit → Act → World → Prop} {n : Nat} {env : Env} {w0 : World} {S : List Nat} {H : List Item} {ops : Array Oper} {o : Oper}
theorem rowOf_heap {i b : Nat} {cs : List Value} {t : TypeId} (h : rowOf H i = some (b, cs, t)) : ∃ it, H[i]? = some it ∧ it.foot = [b] ∧ ∀ w, it.holds w → w.heap[b]? = some (.cells cs.toArray t (0, 0)) := by
  unfold rowOf at h
  cases hi : H[i]? with
  | none => rw [hi] at h; simp at h
  | some it => rw [hi] at h; exact ⟨it, rfl, it.rowOk b cs t h⟩
theorem reads_row {i b off : Nat} {cs vs : List Value} {t : TypeId} (hi : rowOf H i = some (b, cs, t)) (hv : (cs.drop off).take vs.length = vs) : Reads w0 S H ⟨b, off, none⟩ vs := by
  obtain ⟨it, h1, _, h2⟩ := rowOf_heap hi
  intro w s j u hu
  rw [add_lit', cell_of_row w b (off + j) cs.toArray t (0, 0) (h2 w (s.mem h1))]
  rw [← hv, List.getElem?_take] at hu
  split at hu
  · rw [List.getElem?_drop] at hu; simpa using hu
  · cases hu
theorem quietEq_eql {t ty : TypeId} {x y : Operand} {v : Value} (ho : o.op = .binOp .eql t x y ty) (h : quietEq P env false t x y = some v) : Qt P n env w0 S H o v := by
  unfold quietEq at h
  split at h
  · rename_i xs ys hx hy
    split at h
    · rename_i b hg he; simp at h; subst h; exact qt_eqlA ho hx hy hg he
    · cases h
  · rename_i b c hx hy
    split at h
    · rename_i ht; simp at h; subst h; exact qt_eqlB ho hx hy ht
    · cases h
  · rename_i b c hx hy
    simp at h; subst h; exact qt_eqlS ho hx hy
  · cases h
theorem quietEq_neq {t ty : TypeId} {x y : Operand} {v : Value} (ho : o.op = .binOp .neq t x y ty) (h : quietEq P env true t x y = some v) : Qt P n env w0 S H o v := by
  unfold quietEq at h
  split at h
  · rename_i xs ys hx hy
    split at h
    · rename_i b hg he; simp at h; subst h; exact qt_neqA ho hx hy hg he
    · cases h
  · rename_i b c hx hy
    split at h
    · rename_i ht; simp at h; subst h; exact qt_neqB ho hx hy ht
    · cases h
  · rename_i b c hx hy
    simp at h; subst h; exact qt_neqS ho hx hy
  · cases h
theorem argsV_map : ∀ {l : List Operand} {vs : List Value}, argsV env l = some vs → l.map (ev env) = vs.map some
  | [], vs, h => by simp [argsV] at h; subst h; rfl
  | x :: l, vs, h => by
    simp only [argsV] at h
    cases hx : ev env x with
    | none => rw [hx] at h; simp at h
    | some v =>
      cases hl : argsV env l with
      | none => rw [hx, hl] at h; simp at h
      | some us => rw [hx, hl] at h; simp at h; subst h; simp [hx, argsV_map hl]
theorem qt_ixS {x y : Operand} {t el : TypeId} {A : Option Addr} {len cap : Nat} {i : TypeInfo} {k : IntKind} {e : Int} (ho : o.op = .indexAddr t x y) (hx : ev env x = some (.slice A len cap)) (hy : ev env y = some (.int k e))
    (ht : P.underlying t = some (.slice el)) (hinf : P.info? el = some i) (hi : 0 ≤ e ∧ e < (len : Int)) (hA : ∀ w, HS w0 S H w → A.isSome = true) :
    Qt P n env w0 S H o (.pointer (some ((at0 A).add (e.toNat * i.size)))) :=
  qt_same fun a w r s => by
    obtain ⟨b, rfl⟩ := Option.isSome_iff_exists.1 (hA w s)
    simp [execOp, ho, r.ev hx, r.ev hy, Instr.indexAt, asIntOf, run_underlying ht, sizeOf, typeInfo, hinf, hi, at0]
theorem callOk_spec {f : FuncId} (hf : callOk P f = true) : ∃ fn, P.funcs[f]? = some fn ∧ fn.name ≠ "runtime.NumGoroutine" ∧ fn.body ≠ none := by
  unfold callOk at hf
  cases hp : P.funcs[f]? with
  | none => rw [hp] at hf; simp at hf
  | some fn =>
    rw [hp] at hf
    simp only [Bool.and_eq_true, bne_iff_ne, ne_eq] at hf
    exact ⟨fn, rfl, hf.1, by cases hb : fn.body <;> simp_all⟩
theorem run_callX {f : FuncId} {args : List Value} {a : Act} {w : World} (r : Rep n env a) (h : callArgs env o = some (f, args)) (hf : callOk P f = true) : (execOp a.eval o).run P w = .ok (.enter f args.toArray) w := by
  unfold callArgs at h
  split at h
  case h_2 => cases h
  rename_i c ho
  split at h
  case h_2 => cases h
  rename_i y hy
  split at h
  case h_2 => cases h
  rename_i g fs cs hv
  split at h
  case h_2 => cases h
  rename_i vs hvs
  simp at h; obtain ⟨rfl, rfl⟩ := h
  obtain ⟨fn, h1, h2, h3⟩ := callOk_spec hf
  have ha : c.args.map a.eval = vs.toArray := args_env r (argsV_map hvs)
  simp [execOp, ho, resolve, hy, r.ev hv, Deferred.ofValue, invoke, callFunc, h1, h2, h3, ha]
theorem qt_callX {f : FuncId} {args : List Value} {v : Value} (h : callArgs env o = some (f, args)) (hf : callOk P f = true) (hc : ∀ w, HS w0 S H w → Calls P f args.toArray w fun e w' => e = .returned v ∧ Fr [] w w') : Qt P n env w0 S H o v := by
  intro a w r s
  rw [run_callX r h hf]
  exact hc w s
theorem str_cat (b c : ByteArray) : b ++ c = ⟨(b.data.toList ++ c.data.toList).toArray⟩ := by
  obtain ⟨⟨l⟩⟩ := b; obtain ⟨⟨m⟩⟩ := c
  apply ByteArray.ext; simp [ByteArray.data_append]
theorem str_size (s : ByteArray) : s.size = s.data.toList.length := rfl
theorem qt_catS {x y : Operand} {t ty : TypeId} {b c : ByteArray} (ho : o.op = .binOp .add t x y ty) (hx : ev env x = some (.string b)) (hy : ev env y = some (.string c)) (h : b.data.toList.length + c.data.toList.length ≤ 9223372036854775807) :
    Qt P n env w0 S H o (.string ⟨(b.data.toList ++ c.data.toList).toArray⟩) :=
  qt_same fun a w r _ => by
    have h1 : b.size + c.size ≤ 9223372036854775807 := h
    have h2 : ¬ ((b.size + c.size : Nat) : Int) > IntKind.i64.max := by simp only [IntKind.max, IntKind.signed, IntKind.bits]; simp; omega
    have h3 : (Op.stringOp .add b c).run P w = .ok (.string ⟨(b.data.toList ++ c.data.toList).toArray⟩) w := by
      unfold Op.stringOp; simp only []; rw [if_neg h2, ← str_cat]; rfl
    simp [execOp, ho, r.ev hx, r.ev hy, eqGuard, binOp, h3]
theorem qt_idxS {x y : Operand} {t : TypeId} {s : ByteArray} {k : IntKind} {e : Int} {u : UInt8} (ho : o.op = .index t x y) (hx : ev env x = some (.string s)) (hy : ev env y = some (.int k e)) (ht : P.underlying t = some .string)
    (h0 : 0 ≤ e) (hu : s.data.toList[e.toNat]? = some u) : Qt P n env w0 S H o (.int .u8 (u.toNat : Int)) :=
  qt_same fun a w r _ => by
    have hs : s[e.toNat]? = some u := by
      obtain ⟨hlt, hg⟩ := List.getElem?_eq_some_iff.1 hu
      have hlt' : e.toNat < s.size := by rw [str_size]; exact hlt
      rw [getElem?_pos s e.toNat hlt']; congr 1
    simp [execOp, ho, r.ev hx, r.ev hy, Instr.index, asIntOf, run_underlying ht, h0, hs]
theorem qt_sliceS {x : Operand} {lo hi : Option Operand} {t : TypeId} {s : ByteArray} {l h : Int} (ho : o.op = .slice t x lo hi none) (hx : ev env x = some (.string s)) (ht : P.underlying t = some .string)
    (hl : bndE env 0 lo = some l) (hh : bndE env (s.data.toList.length : Int) hi = some h) (h1 : 0 ≤ l ∧ l ≤ h) (h2 : h ≤ (s.data.toList.length : Int)) : Qt P n env w0 S H o (.string ⟨((s.data.toList.take h.toNat).drop l.toNat).toArray⟩) :=
  qt_same fun a w r _ => by
    have hex : s.extract l.toNat h.toNat = ⟨((s.data.toList.take h.toNat).drop l.toNat).toArray⟩ := by
      apply ByteArray.ext; apply Array.ext'
      rw [Go.Lib.extract_data, List.drop_take]
    obtain ⟨hn, rfl⟩ : ∃ hn : Nat, h = (hn : Int) := ⟨h.toNat, by omega⟩
    obtain ⟨ln, rfl⟩ : ∃ ln : Nat, l = (ln : Int) := ⟨l.toNat, by omega⟩
    have g2 : hn ≤ s.size := by have := str_size s; omega
    have g1 : ln ≤ hn := by omega
    simp only [Int.toNat_natCast] at hex ⊢
    rw [← hex]
    have hb : (Instr.sliceBounds false s.size s.size (lo.map a.eval) (hi.map a.eval) none).run P w = .ok (ln, hn, s.size) w := by
      cases lo with
      | none =>
        simp only [bndE, Option.some.injEq] at hl
        obtain rfl : ln = 0 := by omega
        cases hi with
        | none =>
          simp only [bndE, Option.some.injEq] at hh
          obtain rfl : hn = s.size := by have := str_size s; omega
          simp [Instr.sliceBounds]
        | some v =>
          simp only [bndE] at hh; split at hh
          · rename_i k e hv; simp only [Option.some.injEq] at hh; subst hh
            simp [Instr.sliceBounds, Instr.sliceBound, r.ev hv, asIntOf, g2]
          · cases hh
      | some u =>
        simp only [bndE] at hl; split at hl
        case h_2 => cases hl
        rename_i k' e' hu
        simp only [Option.some.injEq] at hl; subst hl
        cases hi with
        | none =>
          simp only [bndE, Option.some.injEq] at hh
          obtain rfl : hn = s.size := by have := str_size s; omega
          simp [Instr.sliceBounds, Instr.sliceBound, r.ev hu, asIntOf, g1]
        | some v =>
          simp only [bndE] at hh; split at hh
          · rename_i k e hv; simp only [Option.some.injEq] at hh; subst hh
            simp [Instr.sliceBounds, Instr.sliceBound, r.ev hu, r.ev hv, asIntOf, g1, g2]
          · cases hh
    simp [execOp, ho, r.ev hx, Instr.sliceAt, Instr.slice, run_underlying ht, hb]
theorem quietV_sound {clean : Bool} {h : Hn} {q : Qv} {Hc : List Item} (hq : quietV P H clean env o h = some q) (heq : ∀ p, q.eq = some p → p.1 = p.2) (hc : ∀ c, q.c = some c → c ⟨P, w0, S, Hc⟩) (hH : clean = true → Hc = H) :
    Qt P n env w0 S H o q.v := by
  cases h with
  | p =>
    simp only [quietV] at hq
    split at hq
    · rename_i hok
      split at hq
      · rename_i v hv
        simp at hq; subst hq
        refine qt_pure hok fun w => ?_
        unfold pureV at hv
        split at hv
        · rename_i u hu; simp at hv; subst hv; exact pureRun_run _ _ hu w
        · cases hv
      · cases hq
    · cases hq
  | w e' =>
    simp only [quietV] at hq
    split at hq
    · rename_i hok
      split at hq
      · rename_i k e hv
        simp at hq; subst hq
        have he : e = e' := hc _ rfl
        subst he
        refine qt_pure hok fun w => ?_
        unfold pureV at hv
        split at hv
        · rename_i u hu; simp at hv; subst hv; exact pureRun_run _ _ hu w
        · cases hv
      · cases hq
    · cases hq
  | eq =>
    simp only [quietV] at hq
    split at hq
    · rename_i t x y ty ho
      split at hq
      · rename_i v hv; simp at hq; subst hq; exact quietEq_eql ho hv
      · cases hq
    · rename_i t x y ty ho
      split at hq
      · rename_i v hv; simp at hq; subst hq; exact quietEq_neq ho hv
      · cases hq
    · cases hq
  | ld i =>
    simp only [quietV] at hq
    split at hq
    · rename_i t x ho
      split at hq
      · rename_i b' off hx
        split at hq
        · rename_i b cs ty hr
          split at hq
          · rename_i k hk
            split at hq
            · rename_i hle
              simp at hq; subst hq
              have hb : b' = b := heq _ rfl
              subst hb
              have hlen : ((cs.drop off).take k).length = k := by simp; have := Nat.le_of_ble_eq_true hle; omega
              exact qt_loadN (vs := (cs.drop off).take k) ho hx (by rw [hlen]; exact hk) (reads_row hr (by rw [hlen]))
            · cases hq
          · split at hq
            · rename_i hs
              split at hq
              · rename_i v hv
                simp at hq; subst hq
                have hb : b' = b := heq _ rfl
                subst hb
                refine qt_load1 ho hx hs (reads_row hr ?_)
                obtain ⟨hlt, hget⟩ := List.getElem?_eq_some_iff.1 hv
                rw [List.drop_eq_getElem_cons hlt, hget]; simp
              · cases hq
            · cases hq
        · cases hq
      · cases hq
    · cases hq
  | rd vs =>
    simp only [quietV] at hq
    split at hq
    · rename_i hcl
      have hH' := hH rfl
      subst hH'
      split at hq
      · rename_i t x ho
        split at hq
        · rename_i p hx
          split at hq
          · rename_i k hk
            split at hq
            · rename_i hb
              simp at hq; subst hq
              have := Nat.eq_of_beq_eq_true hb
              subst this
              exact qt_loadN ho hx hk (hc _ rfl)
            · cases hq
          · split at hq
            · rename_i hs
              simp at hq; subst hq
              exact qt_load1 ho hx hs (hc _ rfl)
            · cases hq
        · cases hq
      · cases hq
    · cases hq
  | ix =>
    simp only [quietV] at hq
    split at hq
    · rename_i hcl
      have hH' := hH rfl
      subst hH'
      split at hq
      · rename_i t x y ho
        split at hq
        · rename_i A len cap hx
          split at hq
          · rename_i k e hy
            split at hq
            · rename_i el ht
              split at hq
              · rename_i i hi
                simp at hq; subst hq
                have h := hc _ rfl
                exact qt_ixS ho hx hy ht hi h.1 h.2
              · cases hq
            · cases hq
          · cases hq
        · cases hq
      · cases hq
    · cases hq
  | cq v =>
    simp only [quietV] at hq
    split at hq
    · rename_i hcl
      have hH' := hH rfl
      subst hH'
      split at hq
      · rename_i f args ha
        split at hq
        · rename_i hf
          simp at hq; subst hq
          exact qt_callX ha hf (hc _ rfl)
        · cases hq
      · cases hq
    · cases hq
  | ct =>
    simp only [quietV] at hq
    split at hq
    · rename_i t x y ty ho
      split at hq
      · rename_i b c hx hy
        simp only [Option.some.injEq] at hq; subst hq
        exact qt_catS ho hx hy (hc _ rfl)
      · cases hq
    · cases hq
  | si u =>
    simp only [quietV] at hq
    split at hq
    · rename_i t x y ho
      split at hq
      · rename_i s k e hx hy ht
        simp only [Option.some.injEq] at hq; subst hq
        have h := hc _ rfl
        exact qt_idxS ho hx hy ht h.1 h.2
      · cases hq
    · cases hq
  | ss =>
    simp only [quietV] at hq
    split at hq
    · rename_i t x lo hi ho
      split at hq
      · rename_i s l hx ht hl
        split at hq
        · rename_i h hh
          simp only [Option.some.injEq] at hq; subst hq
          have g := hc _ rfl
          exact qt_sliceS ho hx ht hl hh g.1 g.2
        · cases hq
      · cases hq
    · cases hq
  | es | sk | o | cl | st | al => simp [quietV] at hq

theorem step_cons {rest : List Oper} {a : Act} {w : World} (h1 : Step P ops o (wpList P ops Q rest) a w) : wpList P ops Q (o :: rest) a w := by
  unfold Step at h1
  show if Region.wanted o (yielded ops a.tmps) then _ else _
  split
  · rename_i hw
    rw [if_pos hw] at h1
    exact .inl (Oper.wp_imp h1 fun _ _ h => h)
  · rename_i hw
    rw [if_neg hw] at h1
    exact h1
theorem closeV_sound {base : Env} {f : Fm} {fs : List Fm} {a : Act} {v : Value} (hr : Ri n base (f :: fs) a) (hc : cur fs = true) (h : closeV base f fs o = some v) (w : World) : (execOp a.eval o).run P w = .ok (.value v) w := by
  unfold closeV at h
  split at h
  case h_2 => cases h
  rename_i c x y ho
  split at h
  case h_2 => cases h
  rename_i hb
  have hcf := Nat.eq_of_beq_eq_true hb
  subst hcf
  have hE : a.eval (.tmp f.dg) = .bool f.E := by
    have := Ri.top hr.1 hr.2.1
    rw [hc] at this
    exact this.ev (x := .tmp f.dg) (by simp [ev, look])
  have hout : ∀ z u, ev (V.full base fs) z = some u → a.eval z = u := fun z u hz => (Ri.full hr.1 hc).ev hz
  have hin : (f.E == f.pol) = true → ∀ z u, ev (f.seg ++ V.full base fs) z = some u → a.eval z = u := fun he z u hz => by
    have h1 : cur (f :: fs) = true := by simp only [cur, hc, he]; rfl
    exact (Ri.full hr h1).ev hz
  have hrun : ∀ {xa ya : Bool}, (f.E = true → a.eval x = .bool xa) → (f.E = false → a.eval y = .bool ya) → (execOp a.eval o).run P w = .ok (.value (.bool (bif f.E then xa else ya))) w := by
    intro xa ya h1 h2
    cases hfe : f.E with
    | true => rw [hfe] at hE; simp [execOp, ho, hE, asBool, h1 hfe]
    | false => rw [hfe] at hE; simp [execOp, ho, hE, asBool, h2 hfe]
  cases hp : f.pol with
  | true =>
    rw [hp] at h
    simp only [pickV] at h
    split at h
    · rename_i xa ya hx hy
      simp at h; subst h
      exact hrun (fun he => hin (by rw [he, hp]; rfl) _ _ hx) (fun _ => hout _ _ hy)
    · cases h
  | false =>
    rw [hp] at h
    simp only [pickV] at h
    split at h
    · rename_i xa ya hx hy
      simp at h; subst h
      exact hrun (fun _ => hout _ _ hx) (fun he => hin (by rw [he, hp]; rfl) _ _ hy)
    · cases h
theorem step_quiet {base : Env} {fs : List Fm} {a : Act} {w : World} {v : Value} {K : Act → World → Prop} (hr : Ri n base fs a) (hs : HS w0 S H w) (hg : guardOk ops base fs o = true)
    (hq : cur fs = true → Qt P n (V.full base fs) w0 S H o v) (hk : ∀ w', HS w0 S H w' → K (a.put o.dst (bif cur fs then v else undef)) w') : Step P ops o K a w := by
  unfold Step
  rw [hr.wanted hg]
  cases hc : cur fs with
  | true =>
    rw [if_pos rfl]
    refine wp_of_quiet (hq hc a w (hr.full hc) hs) fun w' hf => ?_
    have := hk w' (hs.kept hf); rw [hc] at this; exact this
  | false =>
    rw [if_neg (by decide)]
    have := hk w hs; rw [hc] at this; exact this
end
end Go.Proofs.YtaacfehlcdkdhaaGreatDoor.V
