/- My own verifier: 'delete(m, k)'. Generic: nothing of the dump. -/
import Derived.Test.YtaacfehlcdkdhaaGreatDoorVm
namespace Go.Proofs.YtaacfehlcdkdhaaGreatDoor.V
set_option linter.unusedVariables false
set_option linter.unusedSimpArgs false
open Go
open Go.MapKept (run_checkKey run_findKey IsKey heap_set)
section
variable {κ β : Type}
theorem Ents.erase {enck : κ → Value} {encv : β → Value} : ∀ {es : List MapEntry} {kv : List (κ × β)} (i : Nat), Ents enck encv es kv → Ents enck encv (es.eraseIdx i) (kv.eraseIdx i)
  | [], [], _, _ => by simp [Ents]
  | _ :: _, _ :: _, 0, h => h.2
  | _ :: _, _ :: _, i + 1, h => ⟨h.1, Ents.erase i h.2⟩
  | [], _ :: _, _, h => h.elim
  | _ :: _, [], _, h => h.elim
variable [DecidableEq κ]
theorem mdel_at : ∀ {kv : List (κ × β)} {i : Nat} {k : κ} {v : β}, kv[i]? = some (k, v) → (kv.map (·.1)).Nodup → mdel kv k = kv.eraseIdx i
  | [], i, k, v, h, _ => by simp at h
  | p :: kv, 0, k, v, h, _ => by simp at h; subst h; simp [mdel]
  | p :: kv, i + 1, k, v, h, hn => by
    simp at h hn
    have hne : ¬ p.1 = k := fun e => hn.1 v (e ▸ List.mem_of_getElem? h)
    simp only [mdel]; rw [if_neg hne, mdel_at h hn.2, List.eraseIdx_cons_succ]
theorem mdel_none : ∀ {kv : List (κ × β)} {k : κ}, (∀ p ∈ kv, p.1 ≠ k) → mdel kv k = kv
  | [], _, _ => rfl
  | p :: kv, k, h => by simp only [mdel]; rw [if_neg (h p (by simp)), mdel_none fun q hq => h q (by simp [hq])]
theorem mdel_nodup {kv : List (κ × β)} (h : (kv.map (·.1)).Nodup) (k : κ) : ((mdel kv k).map (·.1)).Nodup := by
  have : ∀ (kv : List (κ × β)), List.Sublist (mdel kv k) kv := by
    intro kv
    induction kv with
    | nil => simp [mdel]
    | cons p kv ih => simp only [mdel]; split; exact List.sublist_cons_self _ _; exact ih.cons_cons _
  exact h.sublist ((this kv).map _)
theorem mget_mdel {kv : List (κ × β)} (hn : (kv.map (·.1)).Nodup) (k h : κ) : mget (mdel kv k) h = if k = h then none else mget kv h := by
  induction kv with
  | nil => simp [mdel, mget]
  | cons p kv ih =>
    simp only [List.map_cons, List.nodup_cons] at hn
    simp only [mdel]
    by_cases e : p.1 = k
    · rw [if_pos e]; by_cases e2 : k = h
      · rw [if_pos e2]; refine mget_none fun q hq hqe => hn.1 ?_
        rw [e, e2, ← hqe]; exact List.mem_map_of_mem hq
      · rw [if_neg e2]; simp only [mget]; rw [if_neg (fun e3 => e2 (e.symm.trans e3))]
    · rw [if_neg e]; simp only [mget]; rw [ih hn.2]
      by_cases e2 : p.1 = h
      · rw [if_pos e2, if_neg (fun e3 => e (e2.trans e3.symm)), if_pos e2]
      · rw [if_neg e2, if_neg e2]
theorem mget_put {kv : List (κ × β)} (k h : κ) (v : β) : mget (mput kv k v) h = if k = h then some v else mget kv h := by
  induction kv with
  | nil => simp only [mput, mget]
  | cons p kv ih =>
    simp only [mput]
    by_cases e : p.1 = k
    · rw [if_pos e]; simp only [mget]; subst e; by_cases e2 : p.1 = h <;> simp [e2]
    · rw [if_neg e]; simp only [mget]; rw [ih]
      by_cases e2 : p.1 = h
      · rw [if_pos e2, if_neg (by intro h3; exact e (e2.trans h3.symm)), if_pos e2]
      · rw [if_neg e2, if_neg e2]
theorem mget_mem {kv : List (κ × β)} {k : κ} {v : β} (h : mget kv k = some v) : (k, v) ∈ kv := by
  induction kv with
  | nil => simp [mget] at h
  | cons p kv ih =>
    simp only [mget] at h
    by_cases e : p.1 = k
    · rw [if_pos e] at h; cases h; subst e; simp
    · rw [if_neg e] at h; exact List.mem_cons_of_mem _ (ih h)
theorem mget_of_mem {kv : List (κ × β)} (hn : (kv.map (·.1)).Nodup) {k : κ} {v : β} (h : (k, v) ∈ kv) : mget kv k = some v := by
  obtain ⟨i, hi⟩ := List.mem_iff_getElem?.1 h
  exact mget_at hi hn
theorem mput_len_new {kv : List (κ × β)} {k : κ} (v : β) (h : mget kv k = none) : (mput kv k v).length = kv.length + 1 := by
  induction kv with
  | nil => rfl
  | cons p kv ih =>
    simp only [mget] at h; simp only [mput]
    by_cases e : p.1 = k
    · rw [if_pos e] at h; cases h
    · rw [if_neg e] at h; rw [if_neg e]; simp [ih h]
theorem mput_len_old {kv : List (κ × β)} {k : κ} (v : β) (h : mget kv k ≠ none) : (mput kv k v).length = kv.length := by
  induction kv with
  | nil => simp [mget] at h
  | cons p kv ih =>
    simp only [mget] at h; simp only [mput]
    by_cases e : p.1 = k
    · rw [if_pos e]; rfl
    · rw [if_neg e] at h; rw [if_neg e]; simp [ih h]
theorem mdel_len {kv : List (κ × β)} {k : κ} (h : mget kv k ≠ none) : (mdel kv k).length + 1 = kv.length := by
  induction kv with
  | nil => simp [mget] at h
  | cons p kv ih =>
    simp only [mget] at h; simp only [mdel]
    by_cases e : p.1 = k
    · rw [if_pos e]; rfl
    · rw [if_neg e] at h; rw [if_neg e]; simp [ih h]
variable {P : Program} {ops : Array Oper} {n : Nat} {env : Env} {w0 : World} {S : List Nat} {H : List Item} {o : Oper}
/-- 'delete(m, k)' -/
theorem A.mapDel {K : Act → World → Prop} {enck : κ → Value} {encv : β → Value} (i : Nat) {x y : Operand} {t t2 kt et : TypeId} {b : Nat} {kv : List (κ × β)} {k : κ} (H' : List Item) (hok : headOk ops n env o none = true)
    (ho : o.op = .call { callee := .builtin .delete, args := #[x, y], argTypes := #[t, t2] }) (hx : ev env x = some (.map (some b))) (hy : ev env y = some (enck k))
    (ht : P.underlying t = some (.map kt et)) (hk : KeyOk P kt enck) (hi : H[i]? = some (mapI enck encv b kv)) (hH : H.set i (mapI enck encv b (mdel kv k)) = H') (h : V.A n env w0 S H' K) : V.A n env w0 S H (Step P ops o K) := by
  intro a w r s
  obtain ⟨h1', h2, h3, h4⟩ := headOk_spec hok
  unfold Step
  rw [if_pos (wanted_of r h1')]
  obtain ⟨⟨es, clock, hb, hE, hborn, hnd⟩, hn⟩ := s.mem hi
  have key : ∃ es' : Array MapEntry, (execOp a.eval o).run P w = .ok (.value (.tuple #[])) { w with heap := w.heap.setIfInBounds b (.map es' clock) } ∧ Ents enck encv es'.toList (mdel kv k) ∧ (∀ e ∈ es'.toList, e.born < clock) ∧ (es'.toList.map (·.born)).Nodup := by
    rcases run_find hk hE hn k w with ⟨j, u, hj, ⟨e, he, hek⟩, _, hf⟩ | ⟨_, hall, hf⟩
    · have hlt : j < es.size := (Array.getElem?_eq_some_iff.1 he).1
      have hsub : (es.eraseIdxIfInBounds j).toList = es.toList.eraseIdx j := by
        unfold Array.eraseIdxIfInBounds
        simp [hlt]
      have hs : List.Sublist (es.toList.eraseIdx j) es.toList := List.eraseIdx_sublist _ _
      refine ⟨es.eraseIdxIfInBounds j, ?_, ?_, ?_, ?_⟩
      · simp [execOp, ho, resolve, invoke, builtin, r.ev hx, r.ev hy, Builtin.delete_, run_underlying ht, Go.MapKept.run_getObj_map hb, hk.check, hf, Go.MapKept.run_setObj_map _ hb]
      · rw [mdel_at hj hn, hsub]; exact hE.erase j
      · rw [hsub]; exact fun e' he' => hborn e' (hs.subset he')
      · rw [hsub]; exact hnd.sublist (hs.map _)
    · refine ⟨es, ?_, ?_, hborn, hnd⟩
      · simp [execOp, ho, resolve, invoke, builtin, r.ev hx, r.ev hy, Builtin.delete_, run_underlying ht, Go.MapKept.run_getObj_map hb, hk.check, hf, Go.MapKept.run_setObj_map _ hb]
      · rw [mdel_none hall]; exact hE
  obtain ⟨es', hrun, hE', hb', hn'⟩ := key
  unfold Oper.wp
  rw [hrun]
  simp only [Oper.upon, h2]
  refine h _ _ r ?_
  rw [← hH]
  obtain ⟨hs1, hs2⟩ := heap_set (o' := .map es' clock) hb
  exact s.turn (jt := mapI enck encv b (mdel kv k)) hi ⟨rfl, rfl, rfl, by simp, fun q _ hq => hs2 q (by simpa [mapI] using hq)⟩ ⟨⟨es', clock, hs1, hE', hb', hn'⟩, mdel_nodup hn k⟩ (by simp [mapI]) (by simp [mapI])
end
end Go.Proofs.YtaacfehlcdkdhaaGreatDoor.V
