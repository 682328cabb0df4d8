/- My own verifier: maps, as lists of keys and values. Generic: nothing of the dump. -/
import Derived.Test.YtaacfehlcdkdhaaGreatDoorVt
import Derived.MapKept
namespace Go.Proofs.YtaacfehlcdkdhaaGreatDoor.V
set_option linter.unusedVariables false
set_option linter.unusedSimpArgs false
open Go
open Go.MapKept (run_checkKey run_findKey IsKey heap_set)

/-- what a type of keys must be good for -/
structure KeyOk (P : Program) (kt : TypeId) {κ : Type} (enck : κ → Value) : Prop where
  check : ∀ (k : κ) (em : Bool) (w : World), (Instr.checkKey em 10000 kt (enck k)).run P w = .ok () w
  find : ∀ (k : κ) (l : List (MapEntry × κ)) (w : World), (∀ p ∈ l, p.1.key = enck p.2) →
    (∃ i p, l[i]? = some p ∧ p.2 = k ∧ (Instr.findKey kt (enck k) (l.map (·.1))).run P w = .ok (some (i, p.1.val)) w) ∨ ((∀ p ∈ l, p.2 ≠ k) ∧ (Instr.findKey kt (enck k) (l.map (·.1))).run P w = .ok none w)
  stays : ∀ (k : κ) (w : World), (Instr.keyThatStays (enck k) (enck k)).run P w = .ok (enck k) w

theorem findNow_int {d : TypeDesc} {kk : IntKind} (hd : d = .int kk) (k : Int) : ∀ (l : List (MapEntry × Int)) (i0 : Nat), (∀ p ∈ l, p.1.key = .int kk p.2) →
    (∃ i p, l[i]? = some p ∧ p.2 = k ∧ (∀ j q, l[j]? = some q → j < i → q.2 ≠ k) ∧ Instr.findNow d (.int kk k) (l.map (·.1)) i0 = some (some (i0 + i, p.1.val))) ∨ ((∀ p ∈ l, p.2 ≠ k) ∧ Instr.findNow d (.int kk k) (l.map (·.1)) i0 = some none)
  | [], i0, _ => .inr ⟨by simp, rfl⟩
  | p :: l, i0, h => by
    have hp := h p (by simp)
    subst hd
    have hs : Instr.sameNow (.int kk) (.int kk k) p.1.key = some (k == p.2) := by rw [hp]; simp [Instr.sameNow]
    by_cases hk : p.2 = k
    · refine .inl ⟨0, p, rfl, hk, fun j q _ hj => absurd hj (Nat.not_lt_zero _), ?_⟩
      simp [Instr.findNow, hs, hk]
    · have hb : (k == p.2) = false := by simpa using fun e => hk e.symm
      rcases findNow_int rfl k l (i0 + 1) (fun q hq => h q (by simp [hq])) with ⟨i, q, hq, hqk, hmin, hf⟩ | ⟨hn, hf⟩
      · refine .inl ⟨i + 1, q, by simpa using hq, hqk, fun j r hj hlt => ?_, ?_⟩
        · cases j with
          | zero => simp at hj; subst hj; exact hk
          | succ j => exact hmin j r (by simpa using hj) (by omega)
        · simp only [List.map_cons, Instr.findNow, hs, hb, hf]; congr 3; omega
      · refine .inr ⟨fun q hq => ?_, by simp only [List.map_cons, Instr.findNow, hs, hb, hf]⟩
        rcases List.mem_cons.1 hq with rfl | hq
        · exact hk
        · exact hn q hq
theorem keyOk_int {P : Program} {kt : TypeId} {kk : IntKind} (ht : P.underlying kt = some (.int kk)) : KeyOk P kt (fun k : Int => Value.int kk k) where
  check k em w := run_checkKey ht (by simp [IsKey]) em 9999
  find k l w h := by
    rcases findNow_int rfl k l 0 h with ⟨i, p, h1, h2, h3, h4⟩ | ⟨h1, h2⟩
    · exact .inl ⟨i, p, h1, h2, by rw [run_findKey ht h4]; simp⟩
    · exact .inr ⟨h1, run_findKey ht h2⟩
  stays k w := by simp [Instr.keyThatStays, Instr.sameBits]

/-! a map as a list of keys and values -/
section
variable {κ β : Type}
def mget [DecidableEq κ] : List (κ × β) → κ → Option β
  | [], _ => none
  | p :: l, k => if p.1 = k then some p.2 else mget l k
def mput [DecidableEq κ] : List (κ × β) → κ → β → List (κ × β)
  | [], k, v => [(k, v)]
  | p :: l, k, v => if p.1 = k then (p.1, v) :: l else p :: mput l k v
def mdel [DecidableEq κ] : List (κ × β) → κ → List (κ × β)
  | [], _ => []
  | p :: l, k => if p.1 = k then l else p :: mdel l k
/-- the entries read as the list -/
def Ents (enck : κ → Value) (encv : β → Value) : List MapEntry → List (κ × β) → Prop
  | [], [] => True
  | e :: es, p :: kv => (e.key = enck p.1 ∧ e.val = encv p.2) ∧ Ents enck encv es kv
  | _, _ => False
structure MapH (enck : κ → Value) (encv : β → Value) (b : Nat) (kv : List (κ × β)) (w : World) : Prop where
  ex : ∃ es clock, w.heap[b]? = some (.map es clock) ∧ Ents enck encv es.toList kv ∧ (∀ e ∈ es.toList, e.born < clock) ∧ (es.toList.map (·.born)).Nodup
  keys : (kv.map (·.1)).Nodup
def mapI (enck : κ → Value) (encv : β → Value) (b : Nat) (kv : List (κ × β)) : Item where
  foot := [b]
  holds := MapH enck encv b kv
  loc w w' h hw := by
    obtain ⟨⟨es, c, h1, h2⟩, h3⟩ := hw
    exact ⟨⟨es, c, by rw [h b (by simp)]; exact h1, h2⟩, h3⟩
  here w hw c hc := by
    obtain ⟨⟨es, cl, h1, h2⟩, h3⟩ := hw
    simp at hc; subst hc
    exact (Array.getElem?_eq_some_iff.1 h1).1
theorem Ents.len {enck : κ → Value} {encv : β → Value} : ∀ {es : List MapEntry} {kv : List (κ × β)}, Ents enck encv es kv → es.length = kv.length
  | [], [], _ => rfl
  | _ :: _, _ :: _, h => by simp [Ents.len h.2]
  | [], _ :: _, h => h.elim
  | _ :: _, [], h => h.elim
theorem Ents.zip {enck : κ → Value} {encv : β → Value} : ∀ {es : List MapEntry} {kv : List (κ × β)}, Ents enck encv es kv → (es.zip (kv.map (·.1))).map (·.1) = es ∧ ∀ p ∈ es.zip (kv.map (·.1)), p.1.key = enck p.2
  | [], [], _ => ⟨rfl, by simp⟩
  | e :: es, p :: kv, h => by
    obtain ⟨h1, h2⟩ := Ents.zip h.2
    refine ⟨by simp [h1], fun q hq => ?_⟩
    simp only [List.map_cons, List.zip_cons_cons, List.mem_cons] at hq
    rcases hq with rfl | hq
    · exact h.1.1
    · exact h2 q hq
  | [], _ :: _, h => h.elim
  | _ :: _, [], h => h.elim
theorem Ents.at {enck : κ → Value} {encv : β → Value} : ∀ {es : List MapEntry} {kv : List (κ × β)} {i : Nat} {e : MapEntry} {k : κ}, Ents enck encv es kv → (es.zip (kv.map (·.1)))[i]? = some (e, k) → es[i]? = some e ∧ ∃ v, kv[i]? = some (k, v) ∧ e.val = encv v
  | e' :: es, p :: kv, 0, e, k, h, hi => by
    simp at hi; obtain ⟨rfl, rfl⟩ := hi
    exact ⟨rfl, p.2, rfl, h.1.2⟩
  | e' :: es, p :: kv, i + 1, e, k, h, hi => by
    simp at hi
    obtain ⟨h1, v, h2, h3⟩ := Ents.at (i := i) h.2 (by simpa using hi)
    exact ⟨by simpa using h1, v, by simpa using h2, h3⟩
  | [], [], _, _, _, _, hi => by simp at hi
variable [DecidableEq κ]
theorem mget_at : ∀ {kv : List (κ × β)} {i : Nat} {k : κ} {v : β}, kv[i]? = some (k, v) → (kv.map (·.1)).Nodup → mget kv k = some v
  | p :: kv, 0, k, v, h, _ => by simp at h; subst h; simp [mget]
  | p :: kv, i + 1, k, v, h, hn => by
    simp at h
    rw [List.map_cons] at hn
    have hn' := List.nodup_cons.1 hn
    have hne : p.1 ≠ k := fun e => hn'.1 (by rw [e]; exact List.mem_map.2 ⟨(k, v), List.mem_of_getElem? h, rfl⟩)
    simp only [mget, if_neg hne]
    exact mget_at h hn'.2
theorem mget_none : ∀ {kv : List (κ × β)} {k : κ}, (∀ p ∈ kv, p.1 ≠ k) → mget kv k = none
  | [], _, _ => rfl
  | p :: kv, k, h => by simp only [mget, if_neg (h p (by simp))]; exact mget_none fun q hq => h q (by simp [hq])
end

section
variable {P : Program} {n : Nat} {env : Env} {w0 : World} {S : List Nat} {H : List Item} {ops : Array Oper} {o : Oper} {K : Act → World → Prop} {κ β : Type} [DecidableEq κ]
/-- what is found, in memory -/
theorem run_find {enck : κ → Value} {encv : β → Value} {kt : TypeId} {es : Array MapEntry} {kv : List (κ × β)} (hk : KeyOk P kt enck) (h : Ents enck encv es.toList kv) (hn : (kv.map (·.1)).Nodup) (k : κ) (w : World) :
    (∃ i v, kv[i]? = some (k, v) ∧ (∃ e, es[i]? = some e ∧ e.key = enck k) ∧ mget kv k = some v ∧ (Instr.findKey kt (enck k) es.toList).run P w = .ok (some (i, encv v)) w) ∨ (mget kv k = none ∧ (∀ p ∈ kv, p.1 ≠ k) ∧ (Instr.findKey kt (enck k) es.toList).run P w = .ok none w) := by
  obtain ⟨h1, h2⟩ := h.zip
  rcases hk.find k (es.toList.zip (kv.map (·.1))) w h2 with ⟨i, ⟨e, k'⟩, hi, rfl, hf⟩ | ⟨hn', hf⟩
  · obtain ⟨he, v, hv, hev⟩ := h.at hi
    refine .inl ⟨i, v, hv, ⟨e, by simpa using he, h2 _ (List.mem_of_getElem? hi)⟩, mget_at hv hn, ?_⟩
    rw [h1] at hf; rw [hf, hev]
  · have hall : ∀ p ∈ kv, p.1 ≠ k := by
      intro p hp hpk
      obtain ⟨i, hlt, hget⟩ := List.mem_iff_getElem.1 hp
      have hl : es.toList.length = kv.length := h.len
      have hl2 : i < es.toList.length := by omega
      have hz : (es.toList.zip (kv.map (·.1)))[i]? = some (es.toList[i]'hl2, p.1) := by
        rw [List.getElem?_eq_getElem (by simp only [List.length_zip, List.length_map]; omega)]; simp [hget]
      exact hn' _ (List.mem_of_getElem? hz) hpk
    exact .inr ⟨mget_none hall, hall, by rw [h1] at hf; exact hf⟩
/-- a lookup in a map at hand -/
theorem qt_lookup {enck : κ → Value} {encv : β → Value} {x y : Operand} {t kt et : TypeId} {b : Nat} {kv : List (κ × β)} {k : κ} {d0 : β} {z : Value} (hit : ∀ w, HS w0 S H w → (mapI enck encv b kv).holds w) (ho : o.op = .lookup t x y false) (hx : ev env x = some (.map (some b))) (hy : ev env y = some (enck k))
    (ht : P.underlying t = some (.map kt et)) (hk : KeyOk P kt enck) (hz : (P.info? et).bind (·.zero) = some z) (hd : encv d0 = z) : Qt P n env w0 S H o (encv ((mget kv k).getD d0)) :=
  qt_same fun a w r s => by
    obtain ⟨⟨es, clock, hb, hE, _⟩, hn⟩ := hit w s
    simp only [Option.bind_eq_some_iff] at hz
    obtain ⟨inf, hinf, hz⟩ := hz
    rcases run_find hk hE hn k w with ⟨i, v, _, _, hg, hf⟩ | ⟨hg, _, hf⟩
    · simp [execOp, ho, r.ev hx, r.ev hy, Instr.lookup, run_underlying ht, Go.MapKept.run_getObj_map hb, hk.check, hf, hg]
    · simp [execOp, ho, r.ev hx, r.ev hy, Instr.lookup, run_underlying ht, Go.MapKept.run_getObj_map hb, hk.check, hf, hg, zeroValue, typeInfo, hinf, hz, hd]
theorem qt_lookupOk {enck : κ → Value} {encv : β → Value} {x y : Operand} {t kt et : TypeId} {b : Nat} {kv : List (κ × β)} {k : κ} {d0 : β} {z : Value} (hit : ∀ w, HS w0 S H w → (mapI enck encv b kv).holds w) (ho : o.op = .lookup t x y true) (hx : ev env x = some (.map (some b))) (hy : ev env y = some (enck k))
    (ht : P.underlying t = some (.map kt et)) (hk : KeyOk P kt enck) (hz : (P.info? et).bind (·.zero) = some z) (hd : encv d0 = z) : Qt P n env w0 S H o (.tuple #[encv ((mget kv k).getD d0), .bool (mget kv k).isSome]) :=
  qt_same fun a w r s => by
    obtain ⟨⟨es, clock, hb, hE, _⟩, hn⟩ := hit w s
    simp only [Option.bind_eq_some_iff] at hz
    obtain ⟨inf, hinf, hz⟩ := hz
    rcases run_find hk hE hn k w with ⟨i, v, _, _, hg, hf⟩ | ⟨hg, _, hf⟩
    · simp [execOp, ho, r.ev hx, r.ev hy, Instr.lookup, run_underlying ht, Go.MapKept.run_getObj_map hb, hk.check, hf, hg]
    · simp [execOp, ho, r.ev hx, r.ev hy, Instr.lookup, run_underlying ht, Go.MapKept.run_getObj_map hb, hk.check, hf, hg, zeroValue, typeInfo, hinf, hz, hd]
theorem mput_keys : ∀ (kv : List (κ × β)) (k : κ) (v : β), (mput kv k v).map (·.1) = if k ∈ kv.map (·.1) then kv.map (·.1) else kv.map (·.1) ++ [k]
  | [], k, v => by simp [mput]
  | p :: kv, k, v => by
    unfold mput
    by_cases h : p.1 = k
    · simp [h]
    · have ih := mput_keys kv k v
      rw [if_neg h, List.map_cons, ih, List.map_cons]
      by_cases h2 : k ∈ kv.map (·.1)
      · rw [if_pos h2, if_pos (by simp [h2])]
      · rw [if_neg h2, if_neg (by simp only [List.mem_cons, not_or]; exact ⟨fun e => h e.symm, h2⟩), List.cons_append]
theorem mput_nodup {kv : List (κ × β)} (h : (kv.map (·.1)).Nodup) (k : κ) (v : β) : ((mput kv k v).map (·.1)).Nodup := by
  rw [mput_keys]; split
  · exact h
  · rename_i hk; exact List.nodup_append.2 ⟨h, by simp, fun a ha b hb e => by simp at hb; subst hb; subst e; exact hk ha⟩
theorem mput_at : ∀ {kv : List (κ × β)} {i : Nat} {k : κ} {v : β} (u : β), kv[i]? = some (k, v) → (kv.map (·.1)).Nodup → mput kv k u = kv.set i (k, u)
  | p :: kv, 0, k, v, u, h, _ => by simp at h; subst h; simp [mput]
  | p :: kv, i + 1, k, v, u, h, hn => by
    simp at h
    rw [List.map_cons] at hn
    have hn' := List.nodup_cons.1 hn
    have hne : p.1 ≠ k := fun e => hn'.1 (by rw [e]; exact List.mem_map.2 ⟨(k, v), List.mem_of_getElem? h, rfl⟩)
    simp only [mput, if_neg hne, List.set_cons_succ]
    rw [mput_at u h hn'.2]
theorem mput_new : ∀ {kv : List (κ × β)} {k : κ} (u : β), (∀ p ∈ kv, p.1 ≠ k) → mput kv k u = kv ++ [(k, u)]
  | [], _, _, _ => rfl
  | p :: kv, k, u, h => by simp only [mput, if_neg (h p (by simp)), List.cons_append]; rw [mput_new u fun q hq => h q (by simp [hq])]
omit [DecidableEq κ] in
theorem Ents.set {enck : κ → Value} {encv : β → Value} : ∀ {es : List MapEntry} {kv : List (κ × β)} {i : Nat} {k : κ} {v : β} {e : MapEntry}, Ents enck encv es kv → kv[i]? = some (k, v) → es[i]? = some e → ∀ u, Ents enck encv (es.set i { e with key := enck k, val := encv u }) (kv.set i (k, u))
  | e' :: es, p :: kv, 0, k, v, e, h, _, _, u => ⟨⟨rfl, rfl⟩, h.2⟩
  | e' :: es, p :: kv, i + 1, k, v, e, h, hk, he, u => ⟨h.1, Ents.set (i := i) h.2 (by simpa using hk) (by simpa using he) u⟩
  | [], [], _, _, _, _, _, hk, _, _ => by simp at hk
omit [DecidableEq κ] in
theorem Ents.snoc {enck : κ → Value} {encv : β → Value} {e : MapEntry} {k : κ} {v : β} (he : e.key = enck k ∧ e.val = encv v) : ∀ {es : List MapEntry} {kv : List (κ × β)}, Ents enck encv es kv → Ents enck encv (es ++ [e]) (kv ++ [(k, v)])
  | [], [], _ => ⟨he, trivial⟩
  | _ :: _, _ :: _, h => ⟨h.1, Ents.snoc he h.2⟩
  | [], _ :: _, h => h.elim
  | _ :: _, [], h => h.elim
/-- 'm[k] = v' -/
theorem A.mapPut {enck : κ → Value} {encv : β → Value} (i : Nat) {x y z : Operand} {t kt et : TypeId} {b : Nat} {kv : List (κ × β)} {k : κ} (v : β) (H' : List Item) (hok : headOk ops n env o none = true) (ho : o.op = .mapUpdate t x y z) (hx : ev env x = some (.map (some b))) (hy : ev env y = some (enck k)) (hz : ev env z = some (encv v))
    (ht : P.underlying t = some (.map kt et)) (hk : KeyOk P kt enck) (hi : H[i]? = some (mapI enck encv b kv)) (hH : H.set i (mapI enck encv b (mput kv k v)) = H') (h : V.A n env w0 S H' K) : V.A n env w0 S H (Step P ops o K) := by
  intro a w r s
  obtain ⟨h1', h2, h3, h4⟩ := headOk_spec hok
  unfold Step
  rw [if_pos (wanted_of r h1')]
  obtain ⟨⟨es, clock, hb, hE, hborn, hnd⟩, hn⟩ := s.mem hi
  have key : ∃ es' clock', (execOp a.eval o).run P w = .ok .skip { w with heap := w.heap.setIfInBounds b (.map es' clock') } ∧ Ents enck encv es'.toList (mput kv k v) ∧ (∀ e ∈ es'.toList, e.born < clock') ∧ (es'.toList.map (·.born)).Nodup := by
    rcases run_find hk hE hn k w with ⟨j, u, hj, ⟨e, he, hek⟩, _, hf⟩ | ⟨_, hall, hf⟩
    · have hlt : j < es.size := (Array.getElem?_eq_some_iff.1 he).1
      have hge : es[j] = e := (Array.getElem?_eq_some_iff.1 he).2
      have hm : (es.modify j fun e => { e with key := enck k, val := encv v }).toList = es.toList.set j { e with key := enck k, val := encv v } := by
        apply List.ext_getElem?
        intro q
        simp only [Array.getElem?_toList, Array.getElem?_modify, List.getElem?_set]
        by_cases hq : j = q
        · subst hq; simp [he, hlt, hge]
        · simp [hq]
      have hmem : e ∈ es.toList := by rw [← hge]; simp
      refine ⟨es.modify j fun e => { e with key := enck k, val := encv v }, clock, ?_, ?_, ?_, ?_⟩
      · simp [execOp, ho, r.ev hx, r.ev hy, r.ev hz, Instr.mapUpdate, run_underlying ht, Go.MapKept.run_getObj_map hb, hk.check, hf, he, hek, hk.stays, Go.MapKept.run_setObj_map _ hb]
      · rw [mput_at v hj hn, hm]; exact hE.set hj (by simpa using he) v
      · intro e' he'
        rw [hm] at he'
        rcases List.mem_or_eq_of_mem_set he' with h5 | rfl
        · exact hborn _ h5
        · exact hborn e hmem
      · rw [hm, List.map_set, show (e.born) = (es.toList.map (·.born))[j]'(by simpa using hlt) by simp [hge], List.set_getElem_self]; exact hnd
    · refine ⟨es.push { key := enck k, val := encv v, born := clock }, clock + 1, ?_, ?_, ?_, ?_⟩
      · simp [execOp, ho, r.ev hx, r.ev hy, r.ev hz, Instr.mapUpdate, run_underlying ht, Go.MapKept.run_getObj_map hb, hk.check, hf, Go.MapKept.run_setObj_map _ hb]
      · rw [mput_new v hall, Array.toList_push]; exact Ents.snoc (enck := enck) (encv := encv) (k := k) (v := v) (e := { key := enck k, val := encv v, born := clock }) ⟨rfl, rfl⟩ hE
      · intro e he
        simp only [Array.toList_push, List.mem_append, List.mem_singleton] at he
        rcases he with he | rfl
        · have := hborn e he; omega
        · simp
      · rw [Array.toList_push, List.map_append]
        refine List.nodup_append.2 ⟨hnd, by simp, fun x hx y hy e => ?_⟩
        simp at hy; subst hy; subst e
        obtain ⟨e', he', heq⟩ := List.mem_map.1 hx
        have := hborn e' he'; omega
  obtain ⟨es', clock', hrun, hE', hb', hn'⟩ := key
  unfold Oper.wp
  rw [hrun]
  simp only [Oper.upon, h2]
  refine h _ _ r ?_
  rw [← hH]
  obtain ⟨hs1, hs2⟩ := heap_set (o' := .map es' clock') hb
  exact s.turn (jt := mapI enck encv b (mput kv k v)) hi ⟨rfl, rfl, rfl, by simp, fun q _ hq => hs2 q (by simpa [mapI] using hq)⟩ ⟨⟨es', clock', hs1, hE', hb', hn'⟩, mput_nodup hn k v⟩ (by simp [mapI]) (by simp [mapI])
omit [DecidableEq κ] in
/-- 'make(map[K]V)', 'map[K]V{}' -/
theorem A.makeMap (enck : κ → Value) (encv : β → Value) (d : Nat) {t : TypeId} (hok : headOk ops n env o (some d) = true) (ho : o.op = .makeMap t none) (H' : Nat → List Item) (hH : ∀ b, H ++ [mapI enck encv b []] = H' b)
    (h : ∀ b, V.A n ((d, .map (some b)) :: env) w0 S (H' b) K) : V.A n env w0 S H (Step P ops o K) := by
  intro a w r s
  obtain ⟨h1', h2, h3, h4⟩ := headOk_spec hok
  unfold Step
  rw [if_pos (wanted_of r h1')]
  have hrun : (execOp a.eval o).run P w = .ok (.value (.map (some w.heap.size))) (w.alloc (.map #[] 0)) := by
    simp [execOp, ho, Instr.makeMap, newObj, Sem.run, World.alloc_eq]
  unfold Oper.wp
  rw [hrun]
  simp only [Oper.upon, h2]
  refine h w.heap.size _ _ (r.put (h3 d rfl)) ?_
  rw [← hH]
  exact s.add (it := mapI enck encv w.heap.size []) (Fr.alloc _ _ _) ⟨⟨#[], 0, by have := heap_alloc_new w (.map #[] 0); simpa using this, trivial, by simp, by simp⟩, by simp⟩ (by simp [mapI]) (by simp [mapI])
omit [DecidableEq κ] in
/-- 'len(m)' -/
theorem qt_lenMap {enck : κ → Value} {encv : β → Value} {x : Operand} {t kt et : TypeId} {b : Nat} {kv : List (κ × β)} (hit : ∀ w, HS w0 S H w → (mapI enck encv b kv).holds w) (ho : o.op = .call { callee := .builtin .len, args := #[x], argTypes := #[t] }) (hx : ev env x = some (.map (some b))) (ht : P.underlying t = some (.map kt et)) : Qt P n env w0 S H o (.int .i64 (kv.length : Int)) :=
  qt_same fun a w r s => by
    obtain ⟨⟨es, clock, hb, hE, _⟩, hn⟩ := hit w s
    have := congrArg (fun n : Nat => (n : Int)) hE.len
    simp [execOp, ho, resolve, invoke, builtin, r.ev hx, Builtin.len_, run_underlying ht, Go.MapKept.run_getObj_map hb, goInt]
    simpa using this
end

/-! keys that are arrays or structs -/
theorem run_equal {P : Program} {kt : TypeId} {x y : Value} {b : Bool} (h : eqV P 10000 kt x y = some b) (w : World) : (Op.equal kt x y).run P w = .ok b w := run_eqV (P := P) w _ _ _ _ _ h
theorem findAsking_run {P : Program} {kt : TypeId} {κ : Type} [DecidableEq κ] {enck : κ → Value} (heq : ∀ a b, eqV P 10000 kt (enck a) (enck b) = some (decide (a = b))) (k : κ) (w : World) : ∀ (l : List (MapEntry × κ)) (i0 : Nat), (∀ p ∈ l, p.1.key = enck p.2) →
    (∃ i p, l[i]? = some p ∧ p.2 = k ∧ (Instr.findAsking kt (enck k) (l.map (·.1)) i0).run P w = .ok (some (i0 + i, p.1.val)) w) ∨ ((∀ p ∈ l, p.2 ≠ k) ∧ (Instr.findAsking kt (enck k) (l.map (·.1)) i0).run P w = .ok none w)
  | [], i0, _ => .inr ⟨by simp, by simp [Instr.findAsking]⟩
  | p :: l, i0, h => by
    have hp := h p (by simp)
    have hr := run_equal (heq k p.2) w
    rw [← hp] at hr
    by_cases hk : p.2 = k
    · refine .inl ⟨0, p, rfl, hk, ?_⟩
      simp [Instr.findAsking, hr, hk]
    · have hb : decide (k = p.2) = false := by simpa using fun e => hk e.symm
      rcases findAsking_run heq k w l (i0 + 1) (fun q hq => h q (by simp [hq])) with ⟨i, q, hq, hqk, hf⟩ | ⟨hn, hf⟩
      · refine .inl ⟨i + 1, q, by simpa using hq, hqk, ?_⟩
        simp only [List.map_cons, Instr.findAsking, Sem.run_bind, hr, hb, Result.andThen_ok, Bool.false_eq_true, if_false]
        rw [hf]; congr 3; omega
      · refine .inr ⟨fun q hq => ?_, ?_⟩
        · rcases List.mem_cons.1 hq with rfl | hq
          · exact hk
          · exact hn q hq
        · simp only [List.map_cons, Instr.findAsking, Sem.run_bind, hr, hb, Result.andThen_ok, Bool.false_eq_true, if_false]
          exact hf
theorem findNow_wide {P : Program} {kt : TypeId} (hw : (match P.underlying kt with | some (.array _ _) | some (.struct _) => true | _ => false) = true) (x : Value) (es : List MapEntry) (w : World) : (Instr.findKey kt x es).run P w = (Instr.findAsking kt x es).run P w := by
  cases hu : P.underlying kt with
  | none => simp [hu] at hw
  | some kd =>
    cases es with
    | nil => simp [Instr.findKey, run_underlying hu, Instr.findNow, Instr.findAsking]
    | cons e es => cases kd <;> simp [hu] at hw <;> simp [Instr.findKey, run_underlying hu, Instr.findNow, Instr.sameNow]
theorem keyOk_wide {P : Program} {kt : TypeId} {κ : Type} [DecidableEq κ] {enck : κ → Value} (hw : (match P.underlying kt with | some (.array _ _) | some (.struct _) => true | _ => false) = true)
    (heq : ∀ a b, eqV P 10000 kt (enck a) (enck b) = some (decide (a = b))) (hc : ∀ a em, pureRun P (Instr.checkKey em 10000 kt (enck a)) = some ()) (hs : ∀ a, Instr.sameBits 10000 (enck a) (enck a) = true) : KeyOk P kt enck where
  check k em w := pureRun_run _ _ (hc k em) w
  find k l w h := by
    rw [findNow_wide hw]
    rcases findAsking_run heq k w l 0 h with ⟨i, p, h1, h2, h3⟩ | h1
    · exact .inl ⟨i, p, h1, h2, by simpa using h3⟩
    · exact .inr h1
  stays k w := by simp [Instr.keyThatStays, hs]
end Go.Proofs.YtaacfehlcdkdhaaGreatDoor.V
