/- My own verifier: 'for k, v := range m' over a map that nobody writes. Generic: nothing of the dump. -/
import Derived.Test.YtpodcfadcdnllaaVn
import Derived.Maps.RangeRun
namespace Go.Proofs.Ytpodcfadcdnllaa.V
set_option linter.unusedVariables false
set_option linter.unusedSimpArgs false
open Go
def bornAt (es : Array MapEntry) (i : Nat) : Nat := ((es[i]?).map (·.born)).getD 0
/-- the walk over a map's entries: which have come -/
def iterI (r b : Nat) (es : Array MapEntry) (clock : Nat) (seen : List Nat) : Item where
  foot := [r]
  holds w := w.heap[r]? = some (.mapIter (some b) clock (seen.map (bornAt es)).toArray clock)
  loc w w' h hw := by rw [h r (by simp)]; exact hw
  here w hw c hc := by simp at hc; subst hc; exact (Array.getElem?_eq_some_iff.1 hw).1
section
variable {P : Program} {n : Nat} {env : Env} {w0 : World} {S : List Nat} {H : List Item} {ops : Array Oper} {o : Oper} {K : Act → World → Prop} {κ β : Type}
theorem A.rangeM (d : Nat) {x : Operand} {t kt et : TypeId} {b : Nat} {es : Array MapEntry} {clock : Nat} (hok : headOk ops n env o (some d) = true) (ho : o.op = .range t x) (hx : ev env x = some (.map (some b)))
    (ht : P.underlying t = some (.map kt et)) (hb : ∀ w, HS w0 S H w → w.heap[b]? = some (.map es clock)) (H' : Nat → List Item) (hH : ∀ r, H ++ [iterI r b es clock []] = H' r)
    (h : ∀ r, V.A n ((d, .pointer (some ⟨r, 0, none⟩)) :: env) w0 S (H' r) K) : V.A n env w0 S H (Step P ops o K) := by
  intro a w r s
  obtain ⟨h1', h2, h3, h4⟩ := headOk_spec hok
  unfold Step
  rw [if_pos (wanted_of r h1')]
  have hbw := hb w s
  have hrun : (execOp a.eval o).run P w = .ok (.value (.pointer (some ⟨w.heap.size, 0, none⟩))) (w.alloc (.mapIter (some b) clock #[] clock)) := by
    simp [execOp, ho, r.ev hx, Instr.range, run_underlying ht, Go.MapKept.run_getObj_map hbw, newObj, Sem.run, World.alloc_eq]
  unfold Oper.wp
  rw [hrun]
  simp only [Oper.upon, h2]
  refine h w.heap.size _ _ (r.put (h3 d rfl)) ?_
  rw [← hH]
  exact s.add (it := iterI w.heap.size b es clock []) (Fr.alloc _ _ _) (by have := heap_alloc_new w (.mapIter (some b) clock #[] clock); simpa [iterI] using this) (by simp [iterI]) (by simp [iterI])
theorem ents_at {enck : κ → Value} {encv : β → Value} : ∀ {es : List MapEntry} {kv : List (κ × β)} {j : Nat} {e : MapEntry}, Ents enck encv es kv → es[j]? = some e → ∃ p, kv[j]? = some p ∧ e.key = enck p.1 ∧ e.val = encv p.2
  | [], _, j, e, _, h => by simp at h
  | e' :: es, p :: kv, 0, e, hE, h => by simp at h; subst h; exact ⟨p, rfl, hE.1⟩
  | e' :: es, p :: kv, j + 1, e, hE, h => by simp at h; obtain ⟨q, hq, hh⟩ := ents_at hE.2 h; exact ⟨q, by simpa using hq, hh⟩
  | _ :: _, [], _, _, hE, _ => hE.elim
theorem born_inj {es : Array MapEntry} (hnd : (es.toList.map (·.born)).Nodup) {i j : Nat} (hi : i < es.size) (hj : j < es.size) (h : bornAt es i = bornAt es j) : i = j := by
  unfold bornAt at h
  rw [Array.getElem?_eq_getElem hi, Array.getElem?_eq_getElem hj] at h
  simp only [Option.map_some, Option.getD_some] at h
  have hl : i < (es.toList.map (·.born)).length := by simpa using hi
  have hl2 : j < (es.toList.map (·.born)).length := by simpa using hj
  rcases Nat.lt_trichotomy i j with g | g | g
  · exact absurd (by simpa using h) (List.pairwise_iff_getElem.1 hnd i j hl hl2 g)
  · exact g
  · exact absurd (by simpa using h.symm) (List.pairwise_iff_getElem.1 hnd j i hl2 hl g)
theorem A.nextM (i d : Nat) {x : Operand} {r b : Nat} {es : Array MapEntry} {clock : Nat} {seen : List Nat} {enck : κ → Value} {encv : β → Value} {kv : List (κ × β)} (hok : headOk ops n env o (some d) = true) (ho : o.op = .next x false)
    (hx : ev env x = some (.pointer (some ⟨r, 0, none⟩))) (hi : H[i]? = some (iterI r b es clock seen)) (hb : ∀ w, HS w0 S H w → w.heap[b]? = some (.map es clock)) (hE : Ents enck encv es.toList kv) (hborn : ∀ e ∈ es.toList, e.born < clock) (hnd : (es.toList.map (·.born)).Nodup)
    (hs : ∀ j ∈ seen, j < kv.length) (H' : Nat → List Item) (hH : ∀ j, H.set i (iterI r b es clock (seen ++ [j])) = H' j)
    (h1 : (∀ j, j < kv.length → j ∈ seen) → V.A n ((d, .tuple #[.bool false]) :: env) w0 S H K)
    (h2 : ∀ j k v, kv[j]? = some (k, v) → j ∉ seen → V.A n ((d, .tuple #[.bool true, enck k, encv v]) :: env) w0 S (H' j) K) : V.A n env w0 S H (Step P ops o K) := by
  intro a w ra s
  obtain ⟨h1', h2', h3, h4⟩ := headOk_spec hok
  unfold Step
  rw [if_pos (wanted_of ra h1')]
  have hbw := hb w s
  have hr : w.heap[r]? = some (.mapIter (some b) clock (seen.map (bornAt es)).toArray clock) := s.mem hi
  have hlen : es.toList.length = kv.length := hE.len
  have hex : (execOp a.eval o) = (Instr.next (.pointer (some ⟨r, 0, none⟩)) false o.type).bind fun v => pure (Next.value v) := by
    simp [execOp, ho, ra.ev hx]; rfl
  unfold Oper.wp
  rcases run_next_at (P := P) w o.type r b clock clock (seen.map (bornAt es)).toArray es clock hr hbw hborn (Nat.le_refl _) with ⟨h0, hrun⟩ | ⟨e, he, w1, hw1, hrun⟩
  · have hrun' : (execOp a.eval o).run P w = .ok (.value (.tuple #[.bool false])) w := by
      rw [hex]; show ((Instr.next _ false o.type) >>= fun v => pure (Next.value v)).run P w = _
      rw [Sem.run_bind, hrun]; rfl
    rw [hrun']
    simp only [Oper.upon, h2']
    refine h1 (fun j hj => ?_) _ w (ra.put (h3 d rfl)) s
    have hje : j < es.size := by simp at hlen; omega
    have hz : leftOf es (seen.map (bornAt es)).toArray = #[] := Array.eq_empty_of_size_eq_zero h0
    unfold leftOf at hz
    rw [Array.filter_eq_empty_iff] at hz
    have := hz es[j] (by simp)
    simp at this
    obtain ⟨q, hq, e2⟩ := this
    have hqe : q < es.size := by have := hs q hq; simp at hlen; omega
    have : q = j := born_inj hnd hqe hje (by rw [e2]; unfold bornAt; rw [Array.getElem?_eq_getElem hje]; rfl)
    rw [← this]; exact hq
  · have hrun' : (execOp a.eval o).run P w = .ok (.value (.tuple #[.bool true, e.key, e.val])) (Go.ChangeMaps.setBlock w1 r (.mapIter (some b) clock ((seen.map (bornAt es)).toArray.push e.born) clock)) := by
      rw [hex]; show ((Instr.next _ false o.type) >>= fun v => pure (Next.value v)).run P w = _
      rw [Sem.run_bind, hrun]; rfl
    rw [hrun']
    simp only [Oper.upon, h2']
    unfold leftOf at he
    simp at he
    obtain ⟨he1, he2⟩ := he
    obtain ⟨j, hj, hje⟩ := Array.mem_iff_getElem.1 he1
    have hjl : es.toList[j]? = some e := by simp [hj, hje]
    obtain ⟨p, hp, hk, hv⟩ := ents_at hE hjl
    have hbj : bornAt es j = e.born := by unfold bornAt; rw [Array.getElem?_eq_getElem hj, hje]; rfl
    have hns : j ∉ seen := fun hin => he2 j hin hbj
    rw [hk, hv]
    refine h2 j p.1 p.2 hp hns _ _ (ra.put (h3 d rfl)) ?_
    rw [← hH]
    have hlt : r < w.heap.size := (Array.getElem?_eq_some_iff.1 hr).1
    have hh : w1.heap = w.heap ∧ w1.os = w.os ∧ w1.tape = w.tape ∧ w1.output = w.output := by rcases hw1 with rfl | rfl <;> exact ⟨rfl, rfl, rfl, rfl⟩
    refine s.turn (jt := iterI r b es clock (seen ++ [j])) hi ⟨?_, ?_, ?_, ?_, ?_⟩ ?_ (by simp [iterI]) (by simp [iterI])
    · exact hh.2.1
    · exact hh.2.2.1
    · exact hh.2.2.2
    · simp [Go.ChangeMaps.setBlock, hh.1]
    · intro q _ hq
      have : r ≠ q := fun e => hq (by rw [← e]; simp [iterI])
      simp [Go.ChangeMaps.setBlock, hh.1, Array.getElem?_setIfInBounds, this]
    · show (Go.ChangeMaps.setBlock w1 r _).heap[r]? = some _
      simp only [Go.ChangeMaps.setBlock, hh.1]
      rw [Array.getElem?_setIfInBounds, if_pos rfl, if_pos hlt]
      congr 2
      rw [← hbj]; simp
/-- the round's key and value, read behind the step -/
theorem qt_entry {x : Operand} {r b : Nat} {es : Array MapEntry} {clock : Nat} {seen : List Nat} {enck : κ → Value} {encv : β → Value} {kv : List (κ × β)} {k : κ} {v : β} (i j : Nat) (ho : o.op = .entry x) (hx : ev env x = some (.pointer (some ⟨r, 0, none⟩)))
    (hi : H[i]? = some (iterI r b es clock (seen ++ [j]))) (hb : ∀ w, HS w0 S H w → w.heap[b]? = some (.map es clock)) (hE : Ents enck encv es.toList kv) (hnd : (es.toList.map (·.born)).Nodup) (hj : kv[j]? = some (k, v)) : Qt P n env w0 S H o (.tuple #[enck k, encv v]) :=
  qt_same fun a w ra s => by
    have hbw := hb w s
    have hr : w.heap[r]? = some (.mapIter (some b) clock ((seen ++ [j]).map (bornAt es)).toArray clock) := s.mem hi
    have hlen : es.toList.length = kv.length := hE.len
    have hjl : j < es.size := by have := (List.getElem?_eq_some_iff.1 hj).1; simp at hlen; omega
    obtain ⟨p, hp, hk, hv⟩ := ents_at (j := j) (e := es[j]) hE (by simp [hjl])
    rw [hj] at hp; cases hp
    have e1 : ((seen ++ [j]).map (bornAt es)).toArray = (seen.map (bornAt es)).toArray.push (es[j]).born := by
      simp; unfold bornAt; rw [Array.getElem?_eq_getElem hjl]; rfl
    rw [e1] at hr
    have := run_entry_at (P := P) w r b clock (seen.map (bornAt es)).toArray es clock es[j] hr hbw (by simp) hnd
    simp [execOp, ho, ra.ev hx, this, hk, hv]
theorem old_heap {b : Nat} {x : Obj} {w : World} (s : HS w0 S H w) (h : w0.heap[b]? = some x) (hn : b ∉ S) : w.heap[b]? = some x := by
  rw [s.fr.block b (Array.getElem?_eq_some_iff.1 h).1 hn]; exact h
end
end Go.Proofs.Ytpodcfadcdnllaa.V
