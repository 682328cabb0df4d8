/- A run reckoned by the kernel: why joining and copying are told right. Generic: nothing of the dump. A run reckoned by the kernel: why joining, copying, cutting are told right. Generic: nothing of the dump. A run reckoned by the kernel: one operation is told right. Generic: nothing of the dump. A run reckoned by the kernel: regions in their order. Generic: nothing of the dump. A run reckoned by the kernel: regions that draw their order. Generic: nothing of the dump. A run reckoned by the kernel: regions that draw their order come to the same in any. Generic: nothing of the dump. A run reckoned by the kernel: regions that draw their order, step by step. Generic: nothing of the dump. A run reckoned by the kernel: code, results. Generic: nothing of the dump. A run reckoned by the kernel: what is deferred, panics that are taken back, calls. Generic: nothing of the dump. A run reckoned by the kernel: functions that are told by a law; the tables as trees; a run from nothing. Generic: nothing of the dump. -/
import Derived.Test.YtaacfehlcdkdhaaGreatDoorR1
import Derived.Test.YtaacfehlcdkdhaaGreatDoorWc
import Derived.Laws.Externs
import GoSem.Extern.MapsClone
namespace Go.Proofs.YtaacfehlcdkdhaaGreatDoor.R
open Go
set_option linter.unusedVariables false
set_option linter.unusedSimpArgs false
open V (pureRun pureRun_run isScalar aggOf str_size add_lit' setO made_cells flat setRow_at)

theorem growIn_ok {s s' : HS} {i at_ : Nat} {news : List AV} {v0 v : AV} (h : growIn s i at_ news v0 = some (v, s')) : v = v0 ∧ Ab s s' ∧ i < s.c ∧ mem i s'.R ∧ s'.c = s.c ∧ ∀ {M : Nat → Prop} {ρ : Ren} {w : World} {xs : List Value}, Rel M ρ s.h w → M i → VRL ρ news xs →
    ∃ (q : Bl) (cur : Array Value) (ty : TypeId), ρ i = some q ∧ w.heap[q.b]? = some (.cells cur ty (0, 0)) ∧ q.o + at_ + xs.length ≤ cur.size ∧ Tr M ρ ρ s s' w (w.setRow q.b (cur.toList.take (q.o + at_) ++ xs ++ cur.toList.drop (q.o + at_ + xs.length)).toArray) := by
  unfold growIn at h
  split at h
  · rename_i ob hg
    split at h
    · rename_i cs hc
      split at h
      · rename_i cs' hov
        split at h
        · rename_i s1 hs; cases h
          obtain ⟨ab, hi, hm, hcc, tr⟩ := writeB_ok hs
          refine ⟨rfl, ab, hi, hm, hcc, fun {M ρ w xs} rel hM hv => ?_⟩
          obtain ⟨q, ob', hq, hob, hor⟩ := rel.at_ i ob hM hg
          obtain ⟨a', ty, l0, l1, l2, rfl, ha, h0, hl, hset⟩ := rowC_ok hc hor
          obtain ⟨o1, o2, o3⟩ := ovr_ok hov hl hv
          have hsz' : a'.size = l0.length + (l1.length + l2.length) := by rw [← List.length_append, ← List.length_append, ← ha, Array.length_toList]
          refine ⟨q, a', ty, hq, hob, by omega, tr rel hM hq (setRow_at w q.b _ _ ty hob) ?_ (by simp [World.setRow]) (fun b hb => ?_) rfl rfl rfl⟩
          · have e : a'.toList.take (q.o + at_) ++ xs ++ a'.toList.drop (q.o + at_ + xs.length) = l0 ++ ((l1.take at_ ++ xs ++ l1.drop (at_ + xs.length)) ++ l2) := by
              rw [ha, ← h0, mid_take (by omega), Nat.add_assoc, mid_drop (by omega)]; simp
            rw [e]
            exact hset _ _ o1 o2
          · simp only [World.setRow, Array.getElem?_modify]; rw [if_neg fun e => hb e.symm]
        · cases h
      · cases h
    · cases h
  · cases h
theorem moveB_ok {s s' : HS} {i : Nat} {o' : AO} (h : moveB s i o' = some s') : Ab s s' ∧ i < s.c ∧ mem i s'.R ∧ new s s' s.c ∧
    (∀ {M : Nat → Prop} {ρ : Ren} {w w' : World} {p k : Bl} {x : Obj}, k.b = p.b → Rel M ρ s.h w → M i → ρ s.c = none → ρ i = some p → w'.heap[p.b]? = some x → OR ρ k o' x → w'.heap.size = w.heap.size → (∀ b, b ≠ p.b → w'.heap[b]? = w.heap[b]?) →
      w'.os = w.os → w'.tape = w.tape → w'.output = w.output → Tr M ρ (xr ρ s.c k) s s' w w') ∧
    (∀ {M : Nat → Prop} {ρ : Ren} {w w' : World} {k : Nat} {x : Obj}, Rel M ρ s.h w → ρ s.c = none → w'.heap = w.heap.push x → OR ρ ⟨w.heap.size, k, 0⟩ o' x → w'.os = w.os → w'.tape = w.tape → w'.output = w.output → Tr M ρ (xr ρ s.c ⟨w.heap.size, k, 0⟩) s s' w w') := by
  unfold moveB at h
  cases hb : Nat.blt i s.c with
  | false => rw [hb] at h; cases h
  | true =>
    rw [hb] at h
    simp only [cond_true] at h
    split at h
    · rename_i o hg
      split at h
      · rename_i t ht
        split at h
        · rename_i u hu; cases h
          have hi : i < s.c := Nat.le_of_ble_eq_true hb
          exact ⟨Ab.moved hg ht hu, hi, mem_bit.2 (.inl (mem_bit.2 (.inr rfl))), ⟨Nat.le_refl _, Nat.lt_succ_self _⟩, fun hk r hM hn hp hx ho h1 h2 h3 h4 h5 => Tr.movedHere hk r hM hi hn hg ht hu hp hx ho h1 h2 h3 h4 h5,
            fun r hn hx ho h3 h4 h5 => Tr.movedAway r hi hn hg ht hu hx ho h3 h4 h5⟩
        · cases h
      · cases h
    · cases h
/-- what lies ahead to be read -/
structure Src (P : Program) (sz m : Nat) (X : Value) (xs : List Value) (w : World) : Prop where
  len : (Builtin.lenOf X).run P w = .ok m w
  got : ∀ m' w', m' ≤ m → w'.heap = w.heap → (Builtin.firstCells sz m' X).run P w' = .ok (xs.take (m' * sz)).toArray w'
theorem cut_ok {P : Program} {s s' : HS} {sz j k m m' : Nat} {news : List AV} (h : srcX.cut s sz j k m = some (m', news, s')) : m' = m ∧ Ab s s' ∧ s'.h = s.h ∧ s'.c = s.c ∧ news.length = m * sz ∧ ∀ {M : Nat → Prop} {ρ : Ren} {w : World} {p : Bl} {c : Nat}, Rel M ρ s.h w → (∀ i, i < s.c → mem i s'.R → M i) → ρ j = some p →
    ∃ xs, VRL ρ news xs ∧ xs.length = m * sz ∧ Src P sz m (.slice (some ⟨p.b, p.o + k, none⟩) m c) xs w := by
  unfold srcX.cut at h
  split at h
  · rename_i ob s1 hr
    obtain ⟨ab, hh, hcc, hg, hi, hm, hrd⟩ := readB_ok hr
    split at h
    · rename_i cs hc
      cases hb : Nat.ble (Nat.add k (Nat.mul m sz)) cs.length with
      | false => rw [hb] at h; cases h
      | true =>
        rw [hb] at h; cases h
        have hle : k + m * sz ≤ cs.length := Nat.le_of_ble_eq_true hb
        refine ⟨rfl, ab, hh, hcc, by show ((cs.drop k).take (m * sz)).length = _; simp; omega, fun {M ρ w p c} rel cov hp => ?_⟩
        obtain ⟨q, y, hq, hy, hor⟩ := hrd rel (cov j hi hm)
        rw [hp] at hq; cases hq
        obtain ⟨a', ty, l0, l1, l2, rfl, ha, h0, hl, _⟩ := rowC_ok hc hor
        have hll := hl.len
        refine ⟨(l1.drop k).take (m * sz), (hl.drop k).take _, by simp; omega, rfl, fun m' w' hm' hw' => ?_⟩
        have hmm : m' * sz ≤ m * sz := Nat.mul_le_mul_right _ hm'
        rw [List.take_take, Nat.min_eq_left hmm]
        refine run_firstCells_some (P := P) w' sz m' ⟨p.b, p.o + k, none⟩ m c _ (by simp; omega) fun j u hu => ?_
        rw [add_lit', Nat.add_assoc, ← h0]
        refine mid_cell ha (by rw [hw']; exact hy) ?_
        rw [List.getElem?_take] at hu
        split at hu
        · rwa [List.getElem?_drop] at hu
        · cases hu
    · cases h
  · cases h
theorem srcX_ok {P : Program} {s s' : HS} {sz m : Nat} {v : AV} {news : List AV} (h : srcX s sz v = some (m, news, s')) : Ab s s' ∧ s'.h = s.h ∧ s'.c = s.c ∧ ∀ {M : Nat → Prop} {ρ : Ren} {w : World} {X : Value}, Rel M ρ s.h w → (∀ i, i < s.c → mem i s'.R → M i) → VR ρ v X →
    ∃ xs, VRL ρ news xs ∧ xs.length = m * sz ∧ Src P sz m X xs w := by
  unfold srcX at h
  split at h
  · rename_i c; cases h
    refine ⟨Ab.refl _, rfl, rfl, fun {M ρ w X} rel cov hX => ?_⟩
    cases hX
    exact ⟨[], rfl, by simp, rfl, fun m' w' hm' _ => by simp [Builtin.firstCells]⟩
  · rename_i j k m1 c
    obtain ⟨rfl, ab, hh, hcc, _, k1⟩ := cut_ok (P := P) h
    refine ⟨ab, hh, hcc, fun {M ρ w X} rel cov hX => ?_⟩
    obtain ⟨p, hp, rfl⟩ := hX
    exact k1 rel cov hp
  · rename_i j k m1 c
    obtain ⟨rfl, ab, hh, hcc, _, k1⟩ := cut_ok (P := P) h
    refine ⟨ab, hh, hcc, fun {M ρ w X} rel cov hX => ?_⟩
    obtain ⟨p, hp, _, rfl⟩ := hX
    exact k1 rel cov hp
  · rename_i l
    cases hb : Nat.beq sz 1 with
    | false => rw [hb] at h; cases h
    | true =>
      rw [hb] at h; cases h
      obtain rfl := Nat.eq_of_beq_eq_true hb
      refine ⟨Ab.refl _, rfl, rfl, fun {M ρ w X} rel cov hX => ?_⟩
      cases hX
      refine ⟨l.map fun b => .int .u8 (b.toNat : Int), ?_, by simp, by rfl, fun m' w' hm' hw' => ?_⟩
      · clear hb; induction l with
        | nil => rfl
        | cons b l ih => exact ⟨_, _, rfl, rfl, ih⟩
      · have he : (⟨l.toArray⟩ : ByteArray).extract 0 m' = ⟨(l.take m').toArray⟩ := by
          apply ByteArray.ext; apply Array.ext'
          rw [Go.Lib.extract_data]; simp
        simp [Builtin.firstCells, he]
  · cases h
/-- what is appended: the cells of a slice or a text, or cells that are zero -/
def AppSrc (P : Program) (t2 e : TypeId) (i : TypeInfo) (z : Value) (Y : Value) (m : Nat) (xs : List Value) (w : World) : Prop :=
  (∃ d2, P.underlying t2 = some d2 ∧ srcT d2 = true ∧ xs.length = m * i.size ∧ Src P i.size m Y xs w) ∨
  (∃ k2 k3, P.underlying t2 = some (.int k2) ∧ Y = .int k3 (m : Int) ∧ i.bytes ≤ 1000000 ∧ xs.toArray = if m * i.size = 0 then #[] else Builtin.zeroCells z.cells m)
set_option maxHeartbeats 1000000 in
theorem app_in {P : Program} {t t2 e ty ty' : TypeId} {i : TypeInfo} {z Y : Value} {m len c g off : Nat} {xs : List Value} {w : World} {cur : Array Value} (ht : P.underlying t = some (.slice e)) (hi : P.info? e = some i) (hz : i.zero = some z) (hm : m ≤ 1000000) (hs : AppSrc P t2 e i z Y m xs w)
    (hroom : len + m ≤ c) (hg : w.heap[g]? = some (.cells cur ty' (0, 0))) (hle : off + len * i.size + xs.length ≤ cur.size) (h1 : ∀ u ∈ xs, u.oneCell' = true) :
    (Builtin.append_ #[t, t2] ty #[.slice (some ⟨g, off, none⟩) len c, Y]).run P w = .ok (.slice (some ⟨g, off, none⟩) (len + m) c) (w.setRow g (cur.toList.take (off + len * i.size) ++ xs ++ cur.toList.drop (off + len * i.size + xs.length)).toArray) := by
  have hst := run_storeCells_at P g (off + len * i.size) ty' xs 0 cur w hg (by omega) h1
  simp only [Nat.add_zero] at hst
  rcases hs with ⟨d2, h2, hne, hxl, hl, hgot⟩ | ⟨k2, k3, h2, rfl, hby, hx⟩
  · have hf := hgot m w (Nat.le_refl _) rfl
    rw [← hxl, List.take_length] at hf
    simp only [Builtin.append_]
    cases d2 <;> first | (cases hne; done) | (simp [run_underlying ht, run_underlying h2, sizeOf, typeInfo, hi, hl, hroom, hf, add_lit', hst]; done)
  · have hw : IntKind.i64.wrap (m : Int) = m := by rw [IntKind.wrap_i64]; omega
    have hb : ¬ (281474976710656 < (m : Int) * (i.bytes : Int)) := by
      have := Nat.mul_le_mul hm hby
      rw [← Int.natCast_mul]; omega
    have hn : ¬ (m : Int) < 0 := by omega
    simp only [Builtin.append_]
    by_cases h0 : m * i.size = 0
    · rw [if_pos h0] at hx
      have hx' : xs = [] := by simpa using congrArg Array.toList hx
      subst hx'
      simp [run_underlying ht, run_underlying h2, sizeOf, typeInfo, hi, asInt, asIntOf, hw, hb, hn, hroom, h0, add_lit']
      have h9 := hst
      simp at h9
      rw [h9]; rfl
    · rw [if_neg h0] at hx
      have hx' : (Builtin.zeroCells z.cells m).toList = xs := by rw [← hx]
      simp [run_underlying ht, run_underlying h2, sizeOf, typeInfo, zeroValue, hi, hz, asInt, asIntOf, hw, hb, hn, hroom, h0, add_lit', hx', hst]
set_option maxHeartbeats 1000000 in
theorem app_out {P : Program} {t t2 e ty : TypeId} {i : TypeInfo} {z Y : Value} {m len c : Nat} {A : Option Addr} {xs olds : List Value} {w : World} (ht : P.underlying t = some (.slice e)) (hi : P.info? e = some i) (hz : i.zero = some z) (hm : m ≤ 1000000) (hlen : len ≤ 1000000) (hby : i.bytes ≤ 1000000)
    (hs : AppSrc P t2 e i z Y m xs w) (hroom : ¬ len + m ≤ c) (hf0 : ∀ w', w'.heap = w.heap → (Builtin.firstCells i.size len (.slice A len c)).run P w' = .ok olds.toArray w') :
    (Builtin.append_ #[t, t2] ty #[.slice A len c, Y]).run P w = .ok (.slice (some ⟨w.heap.size, 0, none⟩) (len + m) (grownCap w (len + m) c e)) ((World.drew w).alloc (.cells (olds.toArray ++ xs.toArray ++ Builtin.zeroCells z.cells (grownCap w (len + m) c e - (len + m))) e)) := by
  have hbb : (len + m) * i.bytes ≤ 140737488355328 := by have := Nat.mul_le_mul (show len + m ≤ 2000000 by omega) hby; omega
  have h48 : ¬ (Builtin.nextslicecap (len + m) c * i.bytes > 2 ^ 48) := by
    have h2 := growslice_fits (need := len + m) (old := c) (by omega) hbb
    omega
  have hmax : IntKind.i64.max = 9223372036854775807 := by decide
  have hf0' : (Builtin.firstCells i.size len (.slice A len c)).run P w.drew = .ok olds.toArray w.drew := hf0 w.drew rfl
  rcases hs with ⟨d2, h2, hne, hxl, hl, hgot⟩ | ⟨k2, k3, h2, rfl, hby', hx⟩
  · have hf := hgot m w.drew (Nat.le_refl _) rfl
    rw [← hxl, List.take_length] at hf
    have hfin : ∀ (v : Value) (c1 c2 : Array Value), c1 = c2 → (Result.ok v (w.drew.alloc (.cells c1 e)) : Result Value) = .ok v (w.drew.alloc (.cells c2 e)) := fun v c1 c2 h => by rw [h]
    simp only [Builtin.append_]
    cases d2 <;> first | (cases hne; done) | (
      simp [run_underlying ht, run_underlying h2, sizeOf, typeInfo, zeroValue, hi, hz, hl, hroom, h48, Question.forced, hf0', newRow, grownCap]
      try rw [if_neg (by omega)]
      try simp only [Result.andThen_ok, hf]
      try (refine hfin _ _ _ ?_; apply Array.ext'; simp))
  · have hw : IntKind.i64.wrap (m : Int) = m := by rw [IntKind.wrap_i64]; omega
    have hb : ¬ (281474976710656 < (m : Int) * (i.bytes : Int)) := by
      have := Nat.mul_le_mul hm hby
      rw [← Int.natCast_mul]; omega
    have hn : ¬ (m : Int) < 0 := by omega
    simp only [Builtin.append_]
    by_cases h0 : m * i.size = 0
    · rw [if_pos h0] at hx
      simp [run_underlying ht, run_underlying h2, sizeOf, typeInfo, zeroValue, hi, hz, asInt, asIntOf, hw, hb, hn, hroom, h48, h0, Question.forced, hf0', newRow, grownCap, hx]
      intro hbad; omega
    · rw [if_neg h0] at hx
      simp [run_underlying ht, run_underlying h2, sizeOf, typeInfo, zeroValue, hi, hz, asInt, asIntOf, hw, hb, hn, hroom, h48, h0, Question.forced, hf0', newRow, grownCap, hx]
      intro hbad; omega
theorem splitSpan {cur : Array Value} {l0 l1 l2 : List Value} (ha : cur.toList = l0 ++ (l1 ++ l2)) : cur.size = l0.length + (l1.length + l2.length) := by
  rw [← List.length_append, ← List.length_append, ← ha, Array.length_toList]
section
variable {P : Program} {n : Nat} {env : Tri AV} {o : Oper}
set_option maxHeartbeats 2000000 in
/-- growing a slice -/
theorem grow_ok {s s' : HS} {t t2 e ty : TypeId} {i : TypeInfo} {z : Value} {m : Nat} {news : List AV} {u v : AV} (ht : P.underlying t = some (.slice e)) (hi : P.info? e = some i) (hz : i.zero = some z) (hm : m ≤ 1000000) (hby : i.bytes ≤ 1000000) (hsz : 0 < i.size)
    (hsmall : joinX.smallU u = true) (hnl : news.length = m * i.size) (hok : news.all cellOk = true) (hzs : z.cells.size = i.size) (h : grow s e i.size m news u = some (v, s')) : Ab s s' ∧ ∀ {M : Nat → Prop} {ρ : Ren} {w : World} {X Y : Value} {xs : List Value}, Rel M ρ s.h w → (∀ i, i < s.c → mem i s'.R → M i) → (∀ i, new s s' i → ρ i = none) →
      VR ρ u X → VRL ρ news xs → AppSrc P t2 e i z Y m xs w → ∃ ρ' w' x, Tr M ρ ρ' s s' w w' ∧ (Builtin.append_ #[t, t2] ty #[X, Y]).run P w = .ok x w' ∧ VR ρ' v x := by
  have hmade : ∀ {olds : List Value} {cs : List AV} {k : Nat} {ρ : Ren} {len : Nat} {w : World} {xs : List Value} {c : Nat}, VRL ρ cs olds → VRL ρ news xs → olds.length = len * i.size → ¬ len + m ≤ c → OR ρ ⟨w.heap.size, grownCap w (len + m) c e, 0⟩ (.orow (cs ++ news) e i.size) (.cells (olds.toArray ++ xs.toArray ++ Builtin.zeroCells z.cells (grownCap w (len + m) c e - (len + m))) e) := by
    intro olds cs k ρ len w xs c h1 h2 h3 h4
    have hge := grownCap_ge w (len + m) c e
    have hx := h2.len
    have h1l := h1.len
    refine ⟨_, [], olds ++ xs, (Builtin.zeroCells z.cells (grownCap w (len + m) c e - (len + m))).toList, rfl, by simp, rfl, h1.app h2, ?_, by
      have := Nat.mul_le_mul_right i.size hge
      rw [Nat.add_mul] at this
      simp only [List.length_append]; omega⟩
    simp only [Array.size_append, List.size_toArray, size_zeroCells, hzs, h3, hx, hnl]
    rw [← Nat.add_mul, ← Nat.add_mul, Nat.zero_add]
    apply Nat.le_of_eq; congr 1; omega
  unfold grow at h
  split at h
  · cases hb : Nat.beq m 0 with
    | true =>
      rw [hb] at h; cases h
      obtain rfl := Nat.eq_of_beq_eq_true hb
      refine ⟨Ab.refl _, fun {M ρ w X Y xs} rel cov fre hX hxs hsrc => ?_⟩
      cases hX
      refine ⟨ρ, w, .slice none 0 0, Tr.refl rel, ?_, rfl⟩
      rcases hsrc with ⟨d2, h2, hne, hxl, hl, hgot⟩ | ⟨k2, k3, h2, rfl, hby', hx⟩
      · have hf := hgot 0 w (Nat.le_refl _) rfl
        simp only [Builtin.append_]
        cases d2 <;> first | (cases hne; done) | (simp [run_underlying ht, run_underlying h2, sizeOf, typeInfo, hi, hl, hf]; done)
      · have hw : IntKind.i64.wrap (0 : Int) = 0 := by rw [IntKind.wrap_i64]; omega
        simp only [Builtin.append_]
        simp [run_underlying ht, run_underlying h2, sizeOf, typeInfo, hi, asInt, asIntOf, hw]
    | false =>
      rw [hb] at h
      simp only [cond_false] at h
      split at h
      · rename_i s1 hs; cases h
        have hm0 : m ≠ 0 := Nat.ne_of_beq_eq_false hb
        obtain ⟨ab, tr⟩ := newB_ok hs
        refine ⟨ab, fun {M ρ w X Y xs} rel cov fre hX hxs hsrc => ?_⟩
        cases hX
        have hr := app_out (A := none) (len := 0) (c := 0) (olds := []) (ty := ty) ht hi hz hm (by omega) hby hsrc (by omega) (fun w' _ => by simp [Builtin.firstCells])
        obtain ⟨t1, hn⟩ := tr (w' := w.drew.alloc (.cells (([] : List Value).toArray ++ xs.toArray ++ Builtin.zeroCells z.cells (grownCap w (0 + m) 0 e - (0 + m))) e)) (grownCap w (0 + m) 0 e) ⟨rel, cov, fre⟩ (by simpa using hmade (k := 0) (ρ := ρ) (len := 0) (olds := []) (cs := []) (w := w) (c := 0) rfl hxs (by simp) (by omega)) rfl rfl rfl rfl
        exact ⟨_, _, _, t1, hr, _, xr_self, by have h9 := grownCap_ge w (0 + m) 0 e; show m ≤ grownCap w (0 + m) 0 e - 0; omega, by simp⟩
      · cases h
  · rename_i j k len c
    cases hb : Nat.ble (Nat.add len m) c with
    | true =>
      rw [hb] at h
      simp only [cond_true] at h
      have hroom : len + m ≤ c := Nat.le_of_ble_eq_true hb
      obtain ⟨rfl, ab, hi', hm', hcc, tr⟩ := growIn_ok h
      refine ⟨ab, fun {M ρ w X Y xs} rel cov fre hX hxs hsrc => ?_⟩
      obtain ⟨p, hp, rfl⟩ := hX
      obtain ⟨q, cur, ty', hq, hcur, hle, t1⟩ := tr rel (cov j hi' hm') hxs
      rw [hp] at hq; cases hq
      have e1 : p.o + k.add (len.mul i.size) = p.o + k + len * i.size := (Nat.add_assoc _ _ _).symm
      rw [e1] at hle t1
      exact ⟨ρ, _, _, t1, app_in ht hi hz hm hsrc hroom hcur hle (cellsOk_ok hok hxs), p, hp, rfl⟩
    | false =>
      rw [hb] at h
      simp only [cond_false] at h
      have hroom : ¬ len + m ≤ c := fun hle => by have := Nat.ble_eq_true_of_le hle; rw [show Nat.ble (len + m) c = Nat.ble (Nat.add len m) c from rfl, hb] at this; cases this
      split at h
      · rename_i ob s1 hr
        obtain ⟨ab1, hh, hcc, hg, hi', hm', hrd⟩ := readB_ok hr
        split at h
        · rename_i cs hc
          cases hb2 : Nat.ble (Nat.add k (Nat.mul len i.size)) cs.length with
          | false => rw [hb2] at h; cases h
          | true =>
            rw [hb2] at h
            simp only [cond_true] at h
            have hle : k + len * i.size ≤ cs.length := Nat.le_of_ble_eq_true hb2
            split at h
            · rename_i s2 hs; cases h
              obtain ⟨ab2, tr⟩ := newB_ok hs
              refine ⟨ab1.trans ab2, fun {M ρ w X Y xs} rel cov fre hX hxs hsrc => ?_⟩
              obtain ⟨p, hp, rfl⟩ := hX
              obtain ⟨q, y, hq, hy, hor⟩ := hrd rel (cov j hi' (ab2.R j hm'))
              rw [hp] at hq; cases hq
              obtain ⟨a', ty', l0, l1, l2, rfl, ha, h0, hl, _⟩ := rowC_ok hc hor
              have hll := hl.len
              have hsm : len ≤ 1000000 := Nat.le_of_ble_eq_true hsmall
              have hol : ((l1.drop k).take (len * i.size)).length = len * i.size := by simp; omega
              have hrun := app_out (A := some ⟨p.b, p.o + k, none⟩) (len := len) (c := c) (olds := (l1.drop k).take (len * i.size)) (ty := ty) ht hi hz hm hsm hby hsrc hroom (fun w' hw' => run_firstCells_some (P := P) w' i.size len ⟨p.b, p.o + k, none⟩ len c _ hol fun j' u hu => by
                rw [add_lit', Nat.add_assoc, ← h0]
                refine mid_cell ha (by rw [hw']; exact hy) ?_
                rw [List.getElem?_take] at hu
                split at hu
                · rwa [List.getElem?_drop] at hu
                · cases hu)
              have p2 : Pre M ρ s1 s' w := ⟨by rw [hh]; exact rel, fun i hi => cov i (by omega), fun i hi => fre i ⟨by have := hi.1; omega, hi.2⟩⟩
              obtain ⟨t1, hn⟩ := tr (w' := w.drew.alloc (.cells (((l1.drop k).take (len * i.size)).toArray ++ xs.toArray ++ Builtin.zeroCells z.cells (grownCap w (len + m) c e - (len + m))) e)) (grownCap w (len + m) c e) p2 (hmade (k := 0) (ρ := ρ) ((hl.drop k).take _) hxs hol hroom) rfl rfl rfl rfl
              have t0 : Tr M ρ ρ s s1 w w := Tr.look rel hh hcc rfl rfl rfl rfl
              have hMM : (fun i => M i ∨ new s s1 i) = M := funext fun i => propext ⟨fun hi => hi.resolve_right fun hn => by have := hn.1; have := hn.2; omega, .inl⟩
              exact ⟨_, _, _, t0.trans ab1 ab2 (by rw [hMM]; exact t1), hrun, _, xr_self, by have := grownCap_ge w (len + m) c e; simp; omega, by simp⟩
            · cases h
        · cases h
      · cases h
  · rename_i j k len q0
    split at h
    · rename_i cs e' sz' hg
      cases hb : Nat.beq k (Nat.mul q0 i.size) && Nat.beq sz' i.size with
      | false => rw [hb] at h; cases h
      | true =>
        rw [hb] at h
        simp only [cond_true] at h
        simp only [Bool.and_eq_true] at hb
        have hk : k = q0 * i.size := Nat.eq_of_beq_eq_true hb.1
        have hse := Nat.eq_of_beq_eq_true hb.2
        subst hse
        have hsm : len ≤ 1000000 := Nat.le_of_ble_eq_true hsmall
        cases hb2 : Nat.ble (Nat.add k (Nat.mul (Nat.add len m) i.size)) cs.length with
        | true =>
          rw [hb2] at h
          simp only [cond_true] at h
          have hle2 : k + (len + m) * i.size ≤ cs.length := Nat.le_of_ble_eq_true hb2
          obtain ⟨rfl, ab, hi', hm', hcc, tr⟩ := growIn_ok h
          refine ⟨ab, fun {M ρ w X Y xs} rel cov fre hX hxs hsrc => ?_⟩
          obtain ⟨p, hp, hlen, rfl⟩ := hX
          have hM := cov j hi' hm'
          obtain ⟨q, cur, ty', hq, hcur, hle, t1⟩ := tr rel hM hxs
          rw [hp] at hq; cases hq
          obtain ⟨q', ob', hq', hob', a2, l0, l1, l2, hx2, ha2, h02, hl2, hs2, hs3⟩ := rel.at_ j _ hM hg
          rw [hp] at hq'; cases hq'
          have e1 : p.o + k.add (len.mul i.size) = p.o + k + len * i.size := (Nat.add_assoc _ _ _).symm
          rw [e1] at hle t1
          have hroom : len + m ≤ p.k - q0 := by
            have h9 : (q0 + (len + m)) * i.size ≤ p.k * i.size := by
              rw [Nat.add_mul, ← hk]; omega
            have := Nat.le_of_mul_le_mul_right h9 hsz
            omega
          exact ⟨ρ, _, _, t1, app_in ht hi hz hm hsrc hroom hcur hle (cellsOk_ok hok hxs), p, hp, hroom, rfl⟩
        | false =>
          rw [hb2] at h
          simp only [cond_false] at h
          cases hb3 : Nat.beq cs.length (Nat.add k (Nat.mul len i.size)) && Nat.beq e' e with
          | false => rw [hb3] at h; cases h
          | true =>
            rw [hb3] at h
            simp only [cond_true] at h
            simp only [Bool.and_eq_true] at hb3
            have hcl : cs.length = k + len * i.size := Nat.eq_of_beq_eq_true hb3.1
            have hee := Nat.eq_of_beq_eq_true hb3.2
            have hm1 : m ≠ 0 := fun h0 => by
              subst h0
              rw [hcl] at hb2
              have h8 := Nat.ble_eq_true_of_le (Nat.le_refl (k + len * i.size))
              rw [show Nat.ble (Nat.add k (Nat.mul (Nat.add len 0) i.size)) (k + len * i.size) = Nat.ble (k + len * i.size) (k + len * i.size) from rfl, h8] at hb2
              cases hb2
            split at h
            · rename_i s1 hs; cases h
              obtain ⟨ab, hi', hm', hnew, here, away⟩ := moveB_ok hs
              refine ⟨ab, fun {M ρ w X Y xs} rel cov fre hX hxs hsrc => ?_⟩
              obtain ⟨p, hp, hlen, rfl⟩ := hX
              have hM := cov j hi' hm'
              have hn := fre _ hnew
              obtain ⟨q', ob', hq', hob', a2, l0, l1, l2, rfl, ha2, h02, hl2, hs2, hs3⟩ := rel.at_ j _ hM hg
              rw [hp] at hq'; cases hq'
              rw [hee] at hob'
              have hll := hl2.len
              have hxl := hxs.len
              have hspan := splitSpan ha2
              by_cases hroom : len + m ≤ p.k - q0
              · have h9 : (q0 + (len + m)) * i.size ≤ p.k * i.size := Nat.mul_le_mul_right _ (by omega)
                rw [Nat.add_mul, ← hk, Nat.add_mul] at h9
                have hrun := app_in (ty := ty) ht hi hz hm hsrc hroom hob' (off := p.o + k) (by omega) (cellsOk_ok hok hxs)
                refine ⟨_, _, _, here (p := p) (k := ⟨p.b, p.k - q0, p.o + k⟩) rfl rel hM hn hp (setRow_at w p.b _ _ e hob') ?_ (by simp [World.setRow]) (fun b hb => ?_) rfl rfl rfl, hrun, _, xr_self, by simpa using hroom, by simp⟩
                · refine ⟨_, l0 ++ l1.take k, l1.drop k ++ xs, (a2.toList.drop (p.o + k + len * i.size + xs.length)), rfl, ?_, by simp; omega, (hl2.drop k).app hxs, ?_, ?_⟩
                  · have e1 : a2.toList.take (p.o + k + len * i.size) = l0 ++ l1 := by
                      rw [ha2, ← h02, Nat.add_assoc, ← hcl, ← hll, mid_take (Nat.le_refl _), List.take_length]
                    simp only [List.toList_toArray]
                    rw [e1]
                    simp only [List.append_assoc]
                    rw [← List.append_assoc (l1.take k), List.take_append_drop]
                  · simp only [List.size_toArray, List.length_append, List.length_take, List.length_drop, Array.length_toList]
                    have e2 : (p.k - q0) * i.size = p.k * i.size - k := by rw [Nat.sub_mul, ← hk]
                    omega
                  · have := Nat.mul_le_mul_right i.size hroom
                    rw [Nat.add_mul] at this
                    simp only [List.length_append, List.length_drop]; show _ ≤ (p.k - q0) * i.size; omega
                · simp only [World.setRow, Array.getElem?_modify]; rw [if_neg fun e => hb e.symm]
              · have hol : (l1.drop k).length = len * i.size := by simp; omega
                have hrun := app_out (A := some ⟨p.b, p.o + k, none⟩) (len := len) (c := p.k - q0) (olds := l1.drop k) (ty := ty) ht hi hz hm hsm hby hsrc hroom (fun w' hw' => run_firstCells_some (P := P) w' i.size len ⟨p.b, p.o + k, none⟩ len (p.k - q0) _ hol fun j' u hu => by
                  rw [add_lit', Nat.add_assoc, ← h02]
                  refine mid_cell ha2 (by rw [hw']; exact hob') ?_
                  rwa [List.getElem?_drop] at hu)
                have t1 := away (M := M) (ρ := ρ) (w := w) (w' := w.drew.alloc (.cells ((l1.drop k).toArray ++ xs.toArray ++ Builtin.zeroCells z.cells (grownCap w (len + m) (p.k - q0) e - (len + m))) e)) (k := grownCap w (len + m) (p.k - q0) e) rel hn rfl (hmade (k := 0) (ρ := ρ) (hl2.drop k) hxs hol hroom) rfl rfl rfl
                exact ⟨_, _, _, t1, hrun, _, xr_self, by have := grownCap_ge w (len + m) (p.k - q0) e; simp; omega, by simp⟩
            · cases h
    · cases h
  · cases h
end
end Go.Proofs.YtaacfehlcdkdhaaGreatDoor.R
namespace Go.Proofs.YtaacfehlcdkdhaaGreatDoor.R
open Go
set_option linter.unusedVariables false
set_option linter.unusedSimpArgs false
open V (pureRun pureRun_run isScalar aggOf str_size add_lit' setO made_cells flat setRow_at)
theorem all_take {vs : List AV} {k : Nat} (h : vs.all cellOk = true) : (vs.take k).all cellOk = true := by
  rw [List.all_eq_true] at h ⊢
  exact fun x hx => h x (List.mem_of_mem_take hx)
section
variable {P : Program} {n : Nat} {env : Tri AV} {o : Oper}
theorem zero_of {e : TypeId} {i : TypeInfo} {zs : List AV} (hi : P.info? e = some i) (h : zeroA (natTab P) e = some zs) : ∃ z, i.zero = some z ∧ ∀ ρ, VRL ρ zs z.cells.toList := by
  unfold zeroA at h
  simp only [nat_i] at h
  rw [hi] at h
  simp only at h
  split at h
  · rename_i z hz; cases h; exact ⟨z, hz, fun ρ => cellsA_ok (VR_ofC ρ z)⟩
  · cases h
theorem sizeA_info {e : TypeId} {sz : Nat} (h : sizeA (natTab P) e = some sz) : ∃ i, P.info? e = some i ∧ i.size = sz := by
  unfold sizeA at h
  simp only [nat_i] at h
  split at h
  · rename_i i hi; cases h; exact ⟨i, hi, rfl⟩
  · cases h
theorem zeros_ok {z : Array Value} {m sz : Nat} (hs : z.size = sz) : (Builtin.zeroCells z m).toList = flat (fun _ => z.toList) (List.replicate m ()) := by
  have h := made_cells z m
  have : Builtin.zeroCells z m = madeCells z (m * z.size) := rfl
  rw [this, h]
theorem wipe_ok {s s' : HS} {e i k m : Nat} {v : AV} (h : joinX.wipe (natTab P) s e i k m = some (v, s')) : v = .tup [] ∧ Ab s s' ∧ ∀ {M : Nat → Prop} {ρ : Ren} {w : World} {p : Bl} {t ty c : Nat} {ats : Array TypeId}, Pre M ρ s s' w → ρ i = some p → ats[0]? = some t → P.underlying t = some (.slice e) →
    ∃ w', Tr M ρ ρ s s' w w' ∧ (Builtin.clear_ ats ty #[.slice (some ⟨p.b, p.o + k, none⟩) m c]).run P w = .ok (.tuple #[]) w' := by
  unfold joinX.wipe at h
  split at h
  · cases h
    refine ⟨rfl, Ab.refl _, fun {M ρ w p t ty c ats} pre hp hat ht => ⟨w, Tr.refl pre.rel, ?_⟩⟩
    simp [Builtin.clear_, hat, run_underlying ht]
  · rename_i m zs hz
    cases hb : (List.replicate (Nat.succ m) zs).flatten.all cellOk && isSize (natTab P) e zs.length with
    | false => rw [hb] at h; cases h
    | true =>
      rw [hb] at h
      simp only [cond_true] at h
      simp only [Bool.and_eq_true] at hb
      obtain ⟨rfl, ab, hi, hm, hcc, tr⟩ := growIn_ok h
      refine ⟨rfl, ab, fun {M ρ w p t ty c ats} pre hp hat ht => ?_⟩
      obtain ⟨z, hz1, hz2⟩ := zeroA_ok hz
      obtain ⟨q, cur, ty', hq, hcur, hle, t1⟩ := tr pre.rel (pre.cov i hi hm) (made_ok (hz2 ρ) (Nat.succ m))
      rw [hp] at hq; cases hq
      have hzc : (Builtin.zeroCells z.cells (m + 1)).toList = flat (fun _ => z.cells.toList) (List.replicate (Nat.succ m) ()) := zeros_ok (sz := z.cells.size) rfl
      have hst := run_storeCells_at P p.b (p.o + k) ty' _ 0 cur w hcur hle (cellsOk_ok hb.1 (made_ok (hz2 ρ) (Nat.succ m)))
      simp only [Nat.add_zero] at hst
      refine ⟨_, t1, ?_⟩
      simp [Builtin.clear_, hat, run_underlying ht, hz1, hzc, hst]
  · cases h
theorem copy_ok {s s' : HS} {e i k n' : Nat} {u v : AV} (h : joinX.copy (natTab P) env s e i k n' u = some (v, s')) : Ab s s' ∧ ∀ {M : Nat → Prop} {ρ : Ren} {w : World} {p : Bl} {t ty c : Nat} {ats : Array TypeId} {Y : Value}, Pre M ρ s s' w → ρ i = some p → ats[0]? = some t → P.underlying t = some (.slice e) → VR ρ u Y →
    ∃ w' x, Tr M ρ ρ s s' w w' ∧ (Builtin.copy_ ats ty #[.slice (some ⟨p.b, p.o + k, none⟩) n' c, Y]).run P w = .ok x w' ∧ VR ρ v x := by
  unfold joinX.copy at h
  split at h
  · rename_i sz hsz
    split at h
    · rename_i m news s1 hsrc
      cases hb : news.all cellOk with
      | false => rw [hb] at h; cases h
      | true =>
        rw [hb] at h
        simp only [cond_true] at h
        obtain ⟨ab1, hh, hcc, src⟩ := srcX_ok (P := P) hsrc
        obtain ⟨rfl, ab, hi, hm, hc2, tr⟩ := growIn_ok h
        refine ⟨ab1.trans ab, fun {M ρ w p t ty c ats Y} pre hp hat ht hY => ?_⟩
        obtain ⟨xs, hxs, hxl, hlen, hgot⟩ := src pre.rel (fun j hj hmj => pre.cov j hj (ab.R j hmj)) hY
        have t0 : Tr M ρ ρ s s1 w w := Tr.look pre.rel hh hcc rfl rfl rfl rfl
        have hMM : (fun i => M i ∨ new s s1 i) = M := funext fun i => propext ⟨fun hi => hi.resolve_right fun hn => by have := hn.1; have := hn.2; omega, .inl⟩
        obtain ⟨q, cur, ty', hq, hcur, hle, t1⟩ := tr (M := M) (ρ := ρ) (w := w) (by rw [hh]; exact pre.rel) (pre.cov i (by omega) hm) (hxs.take (Nat.mul (Nat.min m n') sz))
        rw [hp] at hq; cases hq
        have hf := hgot (Nat.min m n') w (Nat.min_le_left _ _) rfl
        have hst := run_storeCells_at P p.b (p.o + k) ty' (xs.take (Nat.min m n' * sz)) 0 cur w hcur hle (cellsOk_ok (all_take hb) (hxs.take _))
        simp only [Nat.add_zero] at hst
        refine ⟨_, _, t0.trans ab1 ab (by rw [hMM]; exact t1), ?_, rfl⟩
        simp only [Builtin.copy_]
        simp [hat, run_underlying ht, hlen, sizeA_run hsz, hf, hst, goInt]
    · cases h
  · cases h
theorem joinX_ok {s s' : HS} {v : AV} (h : joinX (natTab P) env s o.op = some (v, s')) : Ab s s' ∧ ∀ {M : Nat → Prop} {ρ : Ren} {a : Act} {w : World}, ER n ρ env a → Pre M ρ s s' w → Val P a o M ρ s s' w v := by
  unfold joinX at h
  simp only [nat_u, nat_i] at h
  split at h
  · rename_i args ats ho
    split at h
    · rename_i x y t t2 hargs hats
      have ha : args = #[x, y] := by apply Array.ext'; simpa using hargs
      have hat : ats = #[t, t2] := by apply Array.ext'; simpa using hats
      subst ha; subst hat
      split at h
      · rename_i u v' e k2 hx hy ht h2
        split at h
        · rename_i i zs m hi hz hm
          cases hb : Nat.beq zs.length i.size && Nat.blt 0 i.size && Nat.ble i.bytes 1000000 && Nat.ble m 1000000 && (List.replicate m zs).flatten.all cellOk && joinX.smallU u with
          | false => rw [hb] at h; cases h
          | true =>
            rw [hb] at h
            simp only [cond_true] at h
            simp only [Bool.and_eq_true] at hb
            obtain ⟨⟨⟨⟨⟨b1, b2⟩, b3⟩, b4⟩, b5⟩, b6⟩ := hb
            have b1 := Nat.eq_of_beq_eq_true b1
            have b2 : 0 < i.size := Nat.le_of_ble_eq_true b2
            have b3 := Nat.le_of_ble_eq_true b3
            have b4 := Nat.le_of_ble_eq_true b4
            obtain ⟨z, hz1, hz2⟩ := zero_of hi hz
            have hzs : z.cells.size = i.size := by rw [← b1, ← (hz2 (fun _ => none)).len, Array.length_toList]
            have hnl : (List.replicate m zs).flatten.length = m * i.size := by simp [List.length_flatten, b1]
            obtain ⟨ab, k⟩ := grow_ok (P := P) (t := t) (t2 := t2) (ty := o.type) ht hi hz1 b4 b3 b2 b6 hnl b5 hzs h
            refine ⟨ab, fun {M ρ a w} r p => ?_⟩
            obtain ⟨k3, hyv⟩ := natI_ok hm (r.ev hy)
            obtain ⟨ρ', w', X, t1, hr, hv⟩ := k p.rel p.cov p.fre (r.ev hx) (made_ok (hz2 ρ) m) (Y := a.eval y) (.inr ⟨k2, k3, h2, hyv, b3, by
              by_cases h0 : m * i.size = 0
              · rw [if_pos h0]
                have : m = 0 := by rcases Nat.mul_eq_zero.1 h0 with h | h <;> omega
                subst this; rfl
              · rw [if_neg h0]; apply Array.ext'; rw [zeros_ok (sz := z.cells.size) rfl]⟩)
            refine ⟨ρ', w', X, t1, .inl ?_, hv⟩
            simp [execOp, ho, resolve, invoke, builtin, hr]
        · cases h
      · rename_i u v' e d2 hne hx hy ht h2
        split at h
        · rename_i i zs hi hz
          cases hb : srcT d2 && Nat.beq zs.length i.size && Nat.blt 0 i.size && Nat.ble i.bytes 1000000 with
          | false => rw [hb] at h; cases h
          | true =>
            rw [hb] at h
            simp only [cond_true] at h
            simp only [Bool.and_eq_true] at hb
            obtain ⟨⟨⟨b0, b1⟩, b2⟩, b3⟩ := hb
            have b1 := Nat.eq_of_beq_eq_true b1
            have b2 : 0 < i.size := Nat.le_of_ble_eq_true b2
            have b3 := Nat.le_of_ble_eq_true b3
            obtain ⟨z, hz1, hz2⟩ := zero_of hi hz
            have hzs : z.cells.size = i.size := by rw [← b1, ← (hz2 (fun _ => none)).len, Array.length_toList]
            split at h
            · rename_i m news s1 hsrc
              cases hb2 : Nat.ble m 1000000 && Nat.beq news.length (Nat.mul m i.size) && news.all cellOk && joinX.smallU u with
              | false => rw [hb2] at h; cases h
              | true =>
                rw [hb2] at h
                simp only [cond_true] at h
                simp only [Bool.and_eq_true] at hb2
                obtain ⟨⟨⟨c1, c2⟩, c3⟩, c4⟩ := hb2
                have c1 := Nat.le_of_ble_eq_true c1
                have c2 := Nat.eq_of_beq_eq_true c2
                obtain ⟨ab1, hh, hcc, src⟩ := srcX_ok (P := P) hsrc
                obtain ⟨ab, k⟩ := grow_ok (P := P) (t := t) (t2 := t2) (ty := o.type) ht hi hz1 c1 b3 b2 c4 c2 c3 hzs h
                refine ⟨ab1.trans ab, fun {M ρ a w} r p => ?_⟩
                obtain ⟨xs, hxs, hxl, hS⟩ := src p.rel (fun j hj hmj => p.cov j hj (ab.R j hmj)) (r.ev hy)
                obtain ⟨ρ', w', X, t1, hr, hv⟩ := k (M := M) (ρ := ρ) (w := w) (by rw [hh]; exact p.rel) (fun j hj => p.cov j (by omega)) (fun j hj => p.fre j ⟨by have := hj.1; omega, hj.2⟩) (r.ev hx) hxs (.inl ⟨d2, h2, b0, hxl, hS⟩)
                have t0 : Tr M ρ ρ s s1 w w := Tr.look p.rel hh hcc rfl rfl rfl rfl
                have hMM : (fun i => M i ∨ new s s1 i) = M := funext fun i => propext ⟨fun hi => hi.resolve_right fun hn => by have := hn.1; have := hn.2; omega, .inl⟩
                refine ⟨ρ', w', X, t0.trans ab1 ab (by rw [hMM]; exact t1), .inl ?_, hv⟩
                simp [execOp, ho, resolve, invoke, builtin, hr]
            · cases h
        · cases h
      · cases h
    · cases h
  · rename_i args ats ho
    split at h
    · rename_i x y t hargs hats
      have ha : args = #[x, y] := by apply Array.ext'; simpa using hargs
      subst ha
      split at h
      · rename_i i k n' c v' e hx hy ht
        obtain ⟨ab, kk⟩ := copy_ok (P := P) h
        refine ⟨ab, fun {M ρ a w} r p => ?_⟩
        obtain ⟨q, hq, he⟩ := r.ev hx
        obtain ⟨w', X, t1, hr, hv⟩ := kk (ty := o.type) (c := c) p hq hats ht (r.ev hy)
        refine ⟨ρ, w', X, t1, .inl ?_, hv⟩
        simp [execOp, ho, resolve, invoke, builtin, he, hr]
      · rename_i i k n' c v' e hx hy ht
        obtain ⟨ab, kk⟩ := copy_ok (P := P) h
        refine ⟨ab, fun {M ρ a w} r p => ?_⟩
        obtain ⟨q, hq, _, he⟩ := r.ev hx
        obtain ⟨w', X, t1, hr, hv⟩ := kk (ty := o.type) (c := q.k - c) p hq hats ht (r.ev hy)
        refine ⟨ρ, w', X, t1, .inl ?_, hv⟩
        simp [execOp, ho, resolve, invoke, builtin, he, hr]
      · cases h
    · cases h
  · rename_i args ats ho
    split at h
    · rename_i x t hargs hats
      have ha : args = #[x] := by apply Array.ext'; simpa using hargs
      subst ha
      split at h
      · rename_i i k n' c e hx ht
        obtain ⟨rfl, ab, kk⟩ := wipe_ok (P := P) h
        refine ⟨ab, fun {M ρ a w} r p => ?_⟩
        obtain ⟨q, hq, he⟩ := r.ev hx
        obtain ⟨w', t1, hr⟩ := kk (ty := o.type) (c := c) p hq hats ht
        refine ⟨ρ, w', _, t1, .inl ?_, ⟨#[], rfl, rfl⟩⟩
        simp [execOp, ho, resolve, invoke, builtin, he, hr]
      · rename_i i k n' c e hx ht
        obtain ⟨rfl, ab, kk⟩ := wipe_ok (P := P) h
        refine ⟨ab, fun {M ρ a w} r p => ?_⟩
        obtain ⟨q, hq, _, he⟩ := r.ev hx
        obtain ⟨w', t1, hr⟩ := kk (ty := o.type) (c := q.k - c) p hq hats ht
        refine ⟨ρ, w', _, t1, .inl ?_, ⟨#[], rfl, rfl⟩⟩
        simp [execOp, ho, resolve, invoke, builtin, he, hr]
      · rename_i m c d hx ht
        cases h
        refine ⟨Ab.refl _, fun {M ρ a w} r p => ⟨ρ, w, .tuple #[], Tr.refl p.rel, .inl ?_, ⟨#[], rfl, rfl⟩⟩⟩
        have he : a.eval x = .slice none m c := r.ev hx
        simp [execOp, ho, resolve, invoke, builtin, he, Builtin.clear_, hats, run_underlying ht]
      · cases h
    · cases h
  · cases h
theorem cutX_ok {s s' : HS} {v : AV} (h : cutX (natTab P) env s o.op = some (v, s')) : Ab s s' ∧ ∀ {M : Nat → Prop} {ρ : Ren} {a : Act} {w : World}, ER n ρ env a → Pre M ρ s s' w → Val P a o M ρ s s' w v := by
  unfold cutX at h
  simp only [nat_u] at h
  split at h
  · rename_i ty x y ho
    split at h
    · rename_i i k m q l el hx hy ht
      cases hb : Nat.beq l m with
      | false => rw [hb] at h; cases h
      | true =>
        rw [hb] at h
        simp only [cond_true] at h
        obtain rfl := Nat.eq_of_beq_eq_true hb
        split at h
        · rename_i cs t sz hg
          cases hb2 : isSize (natTab P) el sz && Nat.beq k (Nat.mul q sz) && Nat.ble (Nat.add k (Nat.mul l sz)) cs.length with
          | false => rw [hb2] at h; cases h
          | true =>
            rw [hb2] at h
            simp only [cond_true] at h
            simp only [Bool.and_eq_true] at hb2
            obtain ⟨⟨c1, c2⟩, c3⟩ := hb2
            have c2 : k = q * sz := Nat.eq_of_beq_eq_true c2
            have c3 : k + l * sz ≤ cs.length := Nat.le_of_ble_eq_true c3
            have hs : sizeA (natTab P) el = some sz := by
              unfold isSize at c1
              split at c1
              · rename_i z hz; rw [hz, Nat.eq_of_beq_eq_true c1]
              · cases c1
            split at h
            · rename_i s1 hmv; cases h
              obtain ⟨ab, hi, hm, hn, tr, _⟩ := moveB_ok hmv
              refine ⟨ab, fun {M ρ a w} r p => ?_⟩
              obtain ⟨pb, hp, hle, he⟩ := r.ev hx
              obtain ⟨kk, hey⟩ := natE_ok r hy
              obtain ⟨p', X, hp', hX, hor⟩ := p.rel.at_ i _ (p.cov i hi hm) hg
              rw [hp] at hp'; cases hp'
              obtain ⟨arr, l0, l1, l2, hXe, harr, h0, hl, hsz, hsz2⟩ := hor
              have hnc : ρ s.c = none := p.fre s.c hn
              have hlen := hl.len
              have hadd : pb.o + (k + l * sz) ≤ arr.toList.length := by rw [harr]; simp only [List.length_append]; omega
              have hkz : (q + l) * sz = k + l * sz := by rw [c2, Nat.add_mul]
              have hbd : (Instr.sliceBounds true l (pb.k - q) (some (a.eval y)) none none).run P w = .ok (l, l, pb.k - q) w := by
                simp [Instr.sliceBounds, Instr.sliceBound, hey, asIntOf, hle]
              by_cases hc : pb.k - q = l
              · rw [hc] at hbd
                have hkb : pb.k * sz = k + l * sz := by
                  by_cases hz : pb.k < q
                  · have : l = 0 := by omega
                    subst this
                    have h1 : pb.k * sz ≤ q * sz := Nat.mul_le_mul_right _ (by omega)
                    have h2 : cs.length ≤ pb.k * sz := hsz2
                    omega
                  · rw [← hkz]; congr 1; omega
                have t1 := tr (p := pb) (k := ⟨pb.b, 0, pb.o + k⟩) (w' := w) rfl p.rel (p.cov i hi hm) hnc hp hX ⟨arr, arr.toList.take (pb.o + k), [], arr.toList.drop (pb.o + k), by rw [hXe], by simp, by simp; have := hadd; simp at this; omega, rfl, by simp; have := hadd; simp at this; omega, by simp⟩ rfl (fun _ _ => rfl) rfl rfl rfl
                refine ⟨_, w, .slice (some ⟨pb.b, pb.o + k, none⟩) 0 0, t1, .inl ?_, _, xr_self, by simp, by simp⟩
                simp [execOp, ho, Instr.sliceAt, Instr.slice, run_underlying ht, he, hbd, sizeA_run hs, hc]
              · have hkl : q + l < pb.k := by omega
                have t1 := tr (p := pb) (k := ⟨pb.b, pb.k - q - l, pb.o + k + l * sz⟩) (w' := w) rfl p.rel (p.cov i hi hm) hnc hp hX ⟨arr, arr.toList.take (pb.o + k + l * sz), [], arr.toList.drop (pb.o + k + l * sz), by rw [hXe], by simp, by simp; have := hadd; simp at this; omega, rfl, by
                  have : k + l * sz + (pb.k - q - l) * sz = pb.k * sz := by rw [← hkz, ← Nat.add_mul]; congr 1; omega
                  show pb.o + k + l * sz + (pb.k - q - l) * sz ≤ arr.size
                  omega, by simp⟩ rfl (fun _ _ => rfl) rfl rfl rfl
                refine ⟨_, w, .slice (some ⟨pb.b, pb.o + k + l * sz, none⟩) 0 (pb.k - q - l), t1, .inl ?_, _, xr_self, by simp, by simp⟩
                simp [execOp, ho, Instr.sliceAt, Instr.slice, run_underlying ht, he, hbd, sizeA_run hs, hc, add_lit', Nat.add_assoc]
            · cases h
        · cases h
    · cases h
  · cases h
theorem bytesA_ok {ρ : Ren} : ∀ {l : List AV} {ns : List Int} {xs : List Value}, bytesA l = some ns → VRL ρ l xs → xs = ns.map (Value.int .u8)
  | [], ns, xs, h, k => by cases h; exact k
  | .sc (.int .u8 n) :: l, ns, xs, h, ⟨x, ys, e, k1, k2⟩ => by
    simp only [bytesA] at h
    split at h
    · rename_i r hr; cases h
      subst e; rw [bytesA_ok hr k2, show x = .int .u8 n from k1]; rfl
    · cases h
theorem textGo_ok {s s' : HS} {t ty e i k m : Nat} {v : AV} (ht : P.underlying t = some (.slice e)) (hty : P.underlying ty = some .string) (h : textX.go (natTab P) s e i k m = some (v, s')) : Ab s s' ∧
    ∀ {M : Nat → Prop} {ρ : Ren} {w : World} {p : Bl} {c : Nat}, Pre M ρ s s' w → ρ i = some p → ∃ X, (convert t ty (.slice (some ⟨p.b, p.o + k, none⟩) m c)).run P w = .ok X w ∧ Tr M ρ ρ s s' w w ∧ VR ρ v X := by
  unfold textX.go at h
  simp only [nat_u] at h
  split at h
  · rename_i ob s1 hte hr
    split at h
    · rename_i cs hc
      split at h
      · rename_i ns hns
        cases hb : Nat.beq ns.length m with
        | false => rw [hb] at h; cases h
        | true =>
          rw [hb] at h; cases h
          obtain rfl := Nat.eq_of_beq_eq_true hb
          obtain ⟨ab, hh, hcc, hg, hi, hm, hrd⟩ := readB_ok hr
          refine ⟨ab, fun {M ρ w p c} pre hp => ?_⟩
          obtain ⟨q, y, hq, hy, hor⟩ := hrd pre.rel (pre.cov i hi hm)
          rw [hp] at hq; cases hq
          obtain ⟨a', tt, l0, l1, l2, rfl, ha, h0, hl, _⟩ := rowC_ok hc hor
          have hx := bytesA_ok hns ((hl.drop k).take ns.length)
          have hcv := run_convert_bytes_arg (P := P) w t e ht hte p.b (p.o + k) ns.length c ns rfl (fun j hj => by
            have : l1[k + j]? = some (.int .u8 (ns.getD j 0)) := by
              have h1 := congrArg (fun l => l[j]?) hx
              simp only [List.getElem?_map, List.getElem?_take, hj, if_true, List.getElem?_drop] at h1
              rw [h1]; simp [List.getD, List.getElem?_eq_getElem hj]
            have h2 := mid_cell ha hy this
            rw [h0] at h2
            rw [Nat.add_assoc]; exact h2) ty hty
          exact ⟨_, hcv, Tr.look pre.rel hh hcc rfl rfl rfl rfl, rfl⟩
      · cases h
    · cases h
  · cases h
theorem textX_ok {s s' : HS} {v : AV} (h : textX (natTab P) env s o.op = some (v, s')) : Ab s s' ∧ ∀ {M : Nat → Prop} {ρ : Ren} {a : Act} {w : World}, ER n ρ env a → Pre M ρ s s' w → Val P a o M ρ s s' w v := by
  unfold textX at h
  simp only [nat_u] at h
  split at h
  · rename_i t ty x ho
    split at h
    · rename_i e i k m c ht hty hx
      obtain ⟨ab, kk⟩ := textGo_ok ht hty h
      refine ⟨ab, fun {M ρ a w} r p => ?_⟩
      obtain ⟨q, hq, he⟩ := r.ev hx
      obtain ⟨X, h1, t1, hv⟩ := kk (c := c) p hq
      exact ⟨ρ, w, X, t1, .inl (by simp [execOp, ho, he, h1]), hv⟩
    · rename_i e i k m c ht hty hx
      obtain ⟨ab, kk⟩ := textGo_ok ht hty h
      refine ⟨ab, fun {M ρ a w} r p => ?_⟩
      obtain ⟨q, hq, _, he⟩ := r.ev hx
      obtain ⟨X, h1, t1, hv⟩ := kk (c := q.k - c) p hq
      exact ⟨ρ, w, X, t1, .inl (by simp [execOp, ho, he, h1]), hv⟩
    · cases h
  · cases h
end
end Go.Proofs.YtaacfehlcdkdhaaGreatDoor.R
namespace Go.Proofs.YtaacfehlcdkdhaaGreatDoor.R
open Go
set_option linter.unusedVariables false
set_option linter.unusedSimpArgs false
open V (pureRun pureRun_run callOk callOk_spec)

section
variable {P : Program} {n : Nat} {env : Tri AV} {o : Oper}
theorem wrap63 {k : IntKind} {m : Nat} (hk : wide63 k = true) (hm : m < 9223372036854775808) : k.wrap (m : Int) = (m : Int) := by
  cases k <;> simp [wide63] at hk <;> simp [IntKind.wrap, IntKind.bits, IntKind.signed] <;> omega
theorem num63_ok {k : IntKind} {m : Nat} {v : AV} (h : num63 k m = some v) : v = .sc (.int k (m : Int)) ∧ k.wrap (m : Int) = (m : Int) := by
  unfold num63 at h
  cases hb : wide63 k && Nat.blt m 9223372036854775808 with
  | false => rw [hb] at h; cases h
  | true =>
    rw [hb] at h; cases h
    simp only [Bool.and_eq_true] at hb
    exact ⟨rfl, wrap63 hb.1 (Nat.le_of_ble_eq_true hb.2)⟩
theorem beqD (a b : Nat) : Nat.beq a b = decide ((a : Int) = (b : Int)) := by
  rw [Bool.eq_iff_iff, decide_eq_true_iff]
  exact ⟨fun h => by have := Nat.eq_of_beq_eq_true h; omega, fun h => by have : a = b := by omega
                                                                         subst this; exact Nat.beq_refl _⟩
theorem bltD (a b : Nat) : Nat.blt a b = decide ((a : Int) < (b : Int)) := by
  rw [Bool.eq_iff_iff, decide_eq_true_iff, Nat.blt_eq]; omega
theorem bleD (a b : Nat) : Nat.ble a b = decide ((a : Int) ≤ (b : Int)) := by
  rw [Bool.eq_iff_iff, decide_eq_true_iff, Nat.ble_eq]; omega
theorem intX_ok {ρ : Ren} {a : Act} {v : AV} (r : ER n ρ env a) (h : intX env o.op = some v) : Gives P ρ a o v := by
  unfold intX at h
  split at h
  · rename_i op t x y ty ho
    split at h
    · rename_i k p k' q hx hy
      cases hk : kindB k k' with
      | false => rw [hk] at h; cases h
      | true =>
        rw [hk] at h
        obtain rfl := kindB_eq hk
        have ex : a.eval x = .int k (Int.ofNat p) := r.ev hx
        have ey : a.eval y = .int k (Int.ofNat q) := r.ev hy
        have key : ∀ z, (∀ w, (binOp op t (.int k (p : Int)) (.int k (q : Int))).run P w = .ok z w) → ∀ w, (execOp a.eval o).run P w = .ok (.value z) w := fun z hz w => by
          simp only [execOp, ho, ex, ey, Sem.run_bind, eqGuard_run _ _ _ _ _ _ (rfl : calm (.int k (Int.ofNat p)) (.int k (Int.ofNat q)) = true), Result.andThen_ok]
          rw [show (Int.ofNat p) = (p : Int) from rfl, show (Int.ofNat q) = (q : Int) from rfl, hz w]; rfl
        simp only [cond_true] at h
        split at h
        · obtain ⟨rfl, hw⟩ := num63_ok h
          refine ⟨_, key (.int k ((Nat.add p q : Nat) : Int)) (fun w => ?_), rfl⟩
          rw [← hw]; simp [binOp, Op.intArith]
        · cases hb : Nat.ble q p with
          | false => rw [hb] at h; cases h
          | true =>
            rw [hb] at h
            obtain ⟨rfl, hw⟩ := num63_ok h
            have hle := Nat.le_of_ble_eq_true hb
            refine ⟨_, key (.int k ((Nat.sub p q : Nat) : Int)) (fun w => ?_), rfl⟩
            rw [← hw, show ((Nat.sub p q : Nat) : Int) = (p : Int) - (q : Int) by show ((p - q : Nat) : Int) = _; omega]; simp [binOp, Op.intArith]
        · obtain ⟨rfl, hw⟩ := num63_ok h
          refine ⟨_, key (.int k ((Nat.mul p q : Nat) : Int)) (fun w => ?_), rfl⟩
          rw [← hw]; simp [binOp, Op.intArith]
        · cases h; refine ⟨_, key _ (fun w => ?_), rfl⟩; rw [beqD]; simp [binOp, Op.intCmp]; rw [Bool.eq_iff_iff]; simp
        · cases h; refine ⟨_, key _ (fun w => ?_), rfl⟩; rw [beqD]; simp [binOp, Op.intCmp, bne]; rw [Bool.eq_iff_iff]; simp
        · cases h; refine ⟨_, key _ (fun w => ?_), rfl⟩; rw [bltD]; simp [binOp, Op.intCmp]
        · cases h; refine ⟨_, key _ (fun w => ?_), rfl⟩; rw [bleD]; simp [binOp, Op.intCmp]
        · cases h; refine ⟨_, key _ (fun w => ?_), rfl⟩; rw [bltD]; simp [binOp, Op.intCmp]
        · cases h; refine ⟨_, key _ (fun w => ?_), rfl⟩; rw [bleD]; simp [binOp, Op.intCmp]
        · cases h
    · cases h
  · cases h
/-- an operation that gives a value, and what becomes of memory -/
abbrev OkV (P : Program) (n : Nat) (env : Tri AV) (o : Oper) (s s' : HS) (v : AV) : Prop :=
  Ab s s' ∧ ∀ {M : Nat → Prop} {ρ : Ren} {a : Act} {w : World}, ER n ρ env a → Pre M ρ s s' w → Val P a o M ρ s s' w v
theorem keep_ok {s s' : HS} {v : AV} {x : Option AV} (hx : ∀ v, x = some v → ∀ {ρ : Ren} {a : Act}, ER n ρ env a → Gives P ρ a o v) (h : keepS s x = some (v, s')) : OkV P n env o s s' v := by
  unfold keepS at h
  split at h
  · rename_i u; cases h
    exact ⟨Ab.refl _, fun r p => (hx _ rfl r).val p.rel⟩
  · cases h
theorem orE_ok {v : AV} {x y : Option AV} {Q : AV → Prop} (hx : ∀ v, x = some v → Q v) (hy : ∀ v, y = some v → Q v) (h : orE x y = some v) : Q v := by
  unfold orE at h
  split at h
  · cases h; exact hx _ rfl
  · exact hy _ h
theorem valX_ok {s s' : HS} {v : AV} (h : valX (natTab P) env s o = some (v, s')) : OkV P n env o s s' v := by
  unfold valX at h
  split at h
  · exact keep_ok (fun v e _ _ r => moveX_ok r e) h
  · exact memX_ok h
  · exact mapX_ok h
  · exact rangeX_ok h
  · exact keep_ok (fun v e _ _ r => buildX_ok r e) h
  · split at h
    · rename_i r hr; cases h
      exact keep_ok (fun v e _ _ r => orE_ok (Q := fun v => Gives P _ _ o v) (fun v e => placeX_ok r e) (fun v e => pureX_ok r e) e) hr
    · exact cutX_ok h
  · exact keep_ok (fun v e _ _ r => orE_ok (Q := fun v => Gives P _ _ o v) (fun v e => eqX_ok r e) (fun v e => pureX_ok r e) e) h
  · exact joinX_ok h
  · exact keep_ok (fun v e _ _ r => orE_ok (Q := fun v => Gives P _ _ o v) (fun v e => intX_ok r e) (fun v e => orE_ok (Q := fun v => Gives P _ _ o v) (fun v e => eqX_ok r e) (fun v e => pureX_ok r e) e) e) h
  · split at h
    · rename_i u hu; cases h
      exact ⟨Ab.refl _, fun r p => (placeX_ok r hu).val p.rel⟩
    · split at h
      · rename_i r hr; cases h; exact mapX_ok hr
      · exact keep_ok (fun v e _ _ r => pureX_ok r e) h
  · split at h
    · rename_i r hr; cases h
      exact keep_ok (fun v e _ _ r => pureX_ok r e) hr
    · exact textX_ok h
  · cases h

/-! calls, panics, what is deferred -/
def DfR (ρ : Ren) (d : Df) (x : Deferred) : Prop := ∃ cap, x.target = .fn (.func d.f) cap ∧ VRL ρ d.args (x.args ++ cap).toList
def DR (ρ : Ren) : List Df → List Deferred → Prop
  | [], l => l = []
  | d :: ds, l => ∃ x xs, l = x :: xs ∧ DfR ρ d x ∧ DR ρ ds xs
theorem DfR.mono {ρ ρ' : Ren} (h : ρ.le ρ') {d : Df} {x : Deferred} : DfR ρ d x → DfR ρ' d x := fun ⟨c, e, k⟩ => ⟨c, e, VRL.mono h _ _ k⟩
theorem DR.mono {ρ ρ' : Ren} (h : ρ.le ρ') : ∀ {ds : List Df} {l : List Deferred}, DR ρ ds l → DR ρ' ds l
  | [], _, e => e
  | _ :: _, _, ⟨x, xs, e, k, l⟩ => ⟨x, xs, e, k.mono h, DR.mono h l⟩
/-- what an operation asks for -/
def Asks (P : Program) (a : Act) (o : Oper) (ρ : Ren) (w : World) : XR → Prop
  | .val _ => False
  | .call f args => callOk P f = true ∧ ∃ xs, (execOp a.eval o).run P w = .ok (.enter f xs) w ∧ VRL ρ args xs.toList
  | .pan v => ∃ x, (execOp a.eval o).run P w = .halt (.panic x) w ∧ VR ρ v x
  | .dfr f args => callOk P f = true ∧ ∃ d, (execOp a.eval o).run P w = .ok (.defer d) w ∧ DfR ρ ⟨f, args⟩ d
  | .rcv => (execOp a.eval o).run P w = .ok .recover w
def ExtOk (P : Program) (ext : ExtF) : Prop := ∀ f vs s v s', ext f vs s = some (v, s') → Ab s s' ∧ ∀ {M : Nat → Prop} {ρ : Ren} {w : World} {xs : Array Value}, VRL ρ vs xs.toList → Pre M ρ s s' w →
  ∃ ρ' w' x, Tr M ρ ρ' s s' w w' ∧ (callFunc f xs).run P w = .ok (.value x) w' ∧ VR ρ' v x
theorem evs_arr {ρ : Ren} {a : Act} {l : Array Operand} {vs : List AV} (r : ER n ρ env a) (h : moveX.evs env l.toList = some vs) : VRL ρ vs (l.map a.eval).toList := by
  rw [Array.toList_map]; exact evs_ok r h
theorem callFunc_run {f : FuncId} (hf : callOk P f = true) (xs : Array Value) (w : World) : (callFunc f xs).run P w = .ok (.enter f xs) w := by
  obtain ⟨fn, h1, h2, h3⟩ := callOk_spec hf
  simp [callFunc, h1, h2, h3]
theorem callMethod_run {t : TypeId} {name : String} {f : FuncId} (h : methX (natTab P) t name = some f) (hf : callOk P f = true) (x : Value) (xs : Array Value) (w : World) : (callMethod (.iface t x) name xs).run P w = .ok (.enter f (#[x] ++ xs)) w := by
  unfold methX at h
  simp only [nat_i, nat_u] at h
  split at h
  · rename_i i hi
    split at h
    · rename_i m hm
      cases hp : m.path.isEmpty with
      | false => rw [hp] at h; cases h
      | true =>
        rw [hp] at h
        simp only [cond_true] at h
        have hp' : m.path = #[] := by simpa using hp
        have hmeth : (method (P.types.size + Made.depth) t x name).run P w = .ok (f, x) w := by
          have hd : ∃ k, P.types.size + Made.depth = k + 1 := ⟨P.types.size + Made.depth - 1, (by have h : 0 < Made.depth := (by decide); omega)⟩
          obtain ⟨k, hk⟩ := hd
          rw [hk]
          split at h
          · rename_i g e hfn ht; cases h
            simp [method, typeInfo, hi, hm, hp', follow, hfn, receiverAt, run_underlying ht, Place.get]
          · cases h
          · rename_i g d hne hfn ht; cases h
            cases d <;> first | exact absurd rfl (hne _) | simp [method, typeInfo, hi, hm, hp', follow, hfn, receiverAt, run_underlying ht, Place.get]
          · cases h
        simp only [callMethod, Sem.run_bind]
        simp [hmeth, callFunc_run hf]
    · cases h
  · cases h
theorem callX_ok {q : XR} {ρ : Ren} {a : Act} {w : World} (r : ER n ρ env a) (h : callX (natTab P) env o.op = some q) : Asks P a o ρ w q := by
  unfold callX at h
  try simp only [nat_call] at h
  split at h
  · rename_i y args ats ho
    split at h
    · rename_i f l m vs hy hvs
      cases hc : callOk P f with
      | false => rw [hc] at h; cases h
      | true =>
        rw [hc] at h; cases h
        obtain ⟨l', m', he, h1, h2⟩ := r.ev hy
        refine ⟨hc, l' ++ args.map a.eval ++ m', ?_, by simpa using (h1.app (evs_arr r hvs)).app h2⟩
        simp [execOp, ho, resolve, he, Deferred.ofValue, invoke, callFunc_run hc]
    · cases h
  · rename_i y name args ats ho
    split at h
    · rename_i t v vs hy hvs
      split at h
      · rename_i f hm
        cases hc : callOk P f with
        | false => rw [hc] at h; cases h
        | true =>
          rw [hc] at h; cases h
          obtain ⟨x, he, hx⟩ := r.ev hy
          refine ⟨hc, #[x] ++ args.map a.eval, ?_, by rw [show (#[x] ++ args.map a.eval).toList = x :: (args.map a.eval).toList by simp]; exact ⟨x, _, rfl, hx, evs_arr r hvs⟩⟩
          have e1 : (#[Value.iface t x] ++ args.map a.eval)[0]? = some (.iface t x) := by simp [Array.getElem?_append]
          have e2 : (#[Value.iface t x] ++ args.map a.eval).extract 1 (#[Value.iface t x] ++ args.map a.eval).size = args.map a.eval := by
            apply Array.ext'; simp; exact List.take_of_length_le (by simp)
          simp only [execOp, ho, resolve, he, Sem.run_bind, Sem.run_pure, Result.andThen_ok, invoke, e1, e2]
          exact callMethod_run hm hc _ _ _
      · cases h
    · cases h
  · rename_i args ats ho
    split at h
    · rename_i x hargs
      have ha : args = #[x] := by apply Array.ext'; simpa using hargs
      subst ha
      split at h
      · rename_i t v hx; cases h
        obtain ⟨y, he, hy⟩ := r.ev hx
        exact ⟨.iface t y, by simp [execOp, ho, resolve, invoke, builtin, he, Instr.panic, goPanic], y, rfl, hy⟩
      · cases h
    · cases h
  · rename_i args ats ho
    cases h
    simp [Asks, execOp, ho, resolve, invoke, builtin]
  · rename_i x ho
    split at h
    · rename_i t v hx; cases h
      obtain ⟨y, he, hy⟩ := r.ev hx
      exact ⟨.iface t y, by simp [execOp, ho, he, Instr.panic, goPanic], y, rfl, hy⟩
    · cases h
  · rename_i y args ats ho
    split at h
    · rename_i f l m vs hy hvs
      cases hc : callOk P f with
      | false => rw [hc] at h; cases h
      | true =>
        rw [hc] at h; cases h
        obtain ⟨l', m', he, h1, h2⟩ := r.ev hy
        refine ⟨hc, { target := .fn (.func f) m', args := l' ++ args.map a.eval }, ?_, m', rfl, by simpa using (h1.app (evs_arr r hvs)).app h2⟩
        simp [execOp, ho, resolve, he, Deferred.ofValue]
    · cases h
  · cases h
theorem extX_ok {ext : ExtF} (hext : ExtOk P ext) {s s' : HS} {v : AV} (h : extX ext env s o.op = some (v, s')) : OkV P n env o s s' v := by
  unfold extX at h
  split at h
  · rename_i y args ats ho
    split at h
    · rename_i f vs hy hvs
      obtain ⟨ab, k⟩ := hext _ _ _ _ _ h
      refine ⟨ab, fun {M ρ a w} r p => ?_⟩
      obtain ⟨l', m', he, h1, h2⟩ := r.ev hy
      obtain ⟨ρ', w', x, tr, hr, hv⟩ := k (evs_arr r hvs) p
      have e1 : l' = #[] := by apply Array.ext'; exact h1
      have e2 : m' = #[] := by apply Array.ext'; exact h2
      subst e1; subst e2
      refine ⟨ρ', w', x, tr, .inl ?_, hv⟩
      simp [execOp, ho, resolve, he, Deferred.ofValue, invoke, hr]
    · cases h
  · cases h
theorem xop_ok {ext : ExtF} (hext : ExtOk P ext) {s s' : HS} {q : XR} (h : xop (natTab P) ext env s o = some (q, s')) :
    (∃ v, q = .val v ∧ OkV P n env o s s' v) ∨ ((∀ v, q ≠ .val v) ∧ s' = s ∧ ∀ {ρ : Ren} {a : Act} (w : World), ER n ρ env a → Asks P a o ρ w q) := by
  unfold xop at h
  split at h
  · split at h
    · rename_i r hr; cases h
      refine .inr ⟨fun v e => ?_, rfl, fun w r => callX_ok r hr⟩
      subst e
      unfold callX at hr
      revert hr
      repeat' split
      all_goals (first | (intro h; cases h; done) | (intro h; (repeat' split at h) <;> first | (cases h; done) | (revert h; cases callT (natTab P) _ <;> intro h <;> cases h)))
    · split at h
      · rename_i v s1 hx; cases h
        exact .inl ⟨v, rfl, extX_ok hext hx⟩
      · cases h
  · split at h
    · rename_i v s1 hx; cases h
      exact .inl ⟨v, rfl, valX_ok hx⟩
    · cases h
end
end Go.Proofs.YtaacfehlcdkdhaaGreatDoor.R
namespace Go.Proofs.YtaacfehlcdkdhaaGreatDoor.R
open Go
set_option linter.unusedVariables false
set_option linter.unusedSimpArgs false
open V (callOk)

/-- what is given ahead of a piece of a run -/
structure Pr (M : Nat → Prop) (ρ : Ren) (s s' : HS) (w : World) : Prop where
  pre : Pre M ρ s s' w
  lt : ∀ i, M i → i < s.c
theorem Pr.first {M : Nat → Prop} {ρ : Ren} {a b c : HS} {w : World} (bc : Ab b c) (p : Pr M ρ a c w) : Pr M ρ a b w :=
  ⟨⟨p.pre.rel, fun i hi h => p.pre.cov i hi (bc.R i h), fun i h => p.pre.fre i ⟨h.1, Nat.lt_of_lt_of_le h.2 bc.c⟩⟩, p.lt⟩
theorem Pr.next {M : Nat → Prop} {ρ ρ1 : Ren} {a b c : HS} {w w1 : World} (ab : Ab a b) (p : Pr M ρ a c w) (t : Tr M ρ ρ1 a b w w1) : Pr (fun i => M i ∨ new a b i) ρ1 b c w1 := by
  refine ⟨⟨t.rel, fun i hi h => ?_, fun i h => ?_⟩, fun i h => ?_⟩
  · by_cases ha : i < a.c
    · exact .inl (p.pre.cov i ha h)
    · exact .inr ⟨by omega, hi⟩
  · cases hp : ρ1 i with
    | none => rfl
    | some q =>
      rcases t.id i q hp with h1 | h1
      · rw [p.pre.fre i ⟨Nat.le_trans ab.c h.1, h.2⟩] at h1; cases h1
      · have := h1.2; have := h.1; omega
  · rcases h with h | h
    · exact Nat.lt_of_lt_of_le (p.lt i h) ab.c
    · exact h.2
/-- how a call ends -/
def EndR (M : Nat → Prop) (ρ : Ren) (s s' : HS) (w : World) : Sum AV AV → Ending → World → Prop
  | .inl v, .returned x, w' => ∃ ρ', Tr M ρ ρ' s s' w w' ∧ VR ρ' v x
  | .inr v, .panicked ch, w' => ∃ ρ' x, Tr M ρ ρ' s s' w w' ∧ VR ρ' v x ∧ ch = [{ v := x, recovered := false }]
  | _, _, _ => False
def CallOk (P : Program) (call : CallF) : Prop := ∀ f args s r s', call f args s = some (r, s') → Ab s s' ∧
  ∀ {M : Nat → Prop} {ρ : Ren} {w : World} {xs : Array Value}, VRL ρ args xs.toList → Pr M ρ s s' w → Calls P f xs w (EndR M ρ s s' w r)
def ExR (ρ : Ren) : Ex → Exit → Prop
  | .normal, .normal => True
  | .exit i, .exit j => i = j
  | .ret, .ret => True
  | .pan v, .panic ch => ∃ x, VR ρ v x ∧ ch = [{ v := x, recovered := false }]
  | _, _ => False
theorem ER.put {n : Nat} {ρ : Ren} {env e : Tri AV} {a : Act} {d : Option Nat} {v : AV} {x : Value} (r : ER n ρ env a) (h : putA n env d v = some e) (hv : VR ρ v x) : ER n ρ e (a.put d x) := by
  cases d with
  | none => simp only [putA, Option.some.injEq] at h; subst h; exact r
  | some d =>
    simp only [putA] at h
    cases hb : Nat.blt d n with
    | false => rw [hb] at h; cases h
    | true =>
      rw [hb] at h
      have hd : d < n := Nat.le_of_ble_eq_true hb
      refine ⟨by simp [Act.put, r.size], fun t u e1 => ?_⟩
      rw [Tri.get_put h] at e1
      split at e1
      · rename_i ht; subst ht; cases e1
        simpa [Act.put, r.size, hd] using hv
      · rename_i ht
        have := r.get t u e1
        simp only [Act.put, Array.getD_eq_getD_getElem?] at this ⊢
        rw [Array.getElem?_setIfInBounds_ne (fun e => ht e.symm)]; exact this
theorem put_defers (a : Act) (d : Option Nat) (x : Value) : (a.put d x).defers = a.defers := by cases d <;> rfl
theorem VR_undef (ρ : Ren) : VR ρ (.tup []) undef := ⟨#[], rfl, rfl⟩
section
variable {P : Program} {n : Nat} {ext : ExtF} {call : CallF}
theorem wantA_ok {ops : Array Oper} {env : Tri AV} {o : Oper} {b : Bool} {ρ : Ren} {a : Act} (hv : ∀ j w g d v, o.guard = some (j, w) → ops.toList[j]? = some g → g.dst = some d → env.get d = some v → VR ρ v (a.tmps.getD d undef))
    (h : wantA ops.toList env o = some b) : Region.wanted o (yielded ops a.tmps) = b := by
  unfold wantA at h
  unfold Region.wanted
  split at h
  · rename_i hg; cases h; simp [hg]
  · rename_i j want hg
    simp only [hg]
    split at h
    · rename_i g hj
      split at h
      · rename_i d hd
        have hj' : ops[j]? = some g := by rw [← Array.getElem?_toList]; exact hj
        split at h
        · rename_i c hc
          have hx : a.tmps.getD d undef = .bool c := hv _ _ _ _ _ hg hj hd hc
          have hy : a.tmps[d]? = some (.bool c) := by
            rw [Array.getD_eq_getD_getElem?] at hx
            cases ht : a.tmps[d]? with
            | none => rw [ht] at hx; cases hx
            | some z => rw [ht] at hx; simpa using hx
          have : yielded ops a.tmps j = some c := by simp [yielded, hj', hd, hy]
          rw [this]; cases h; cases c <;> cases want <;> rfl
        · rename_i hc
          obtain ⟨l, hx, hl⟩ := hv _ _ _ _ _ hg hj hd hc
          have : yielded ops a.tmps j = none := by
            unfold yielded
            simp only [hj', Option.bind_some, hd]
            rw [Array.getD_eq_getD_getElem?] at hx
            cases ht : a.tmps[d]? with
            | none => rfl
            | some z => rw [ht] at hx; simp at hx; subst hx; rfl
          rw [this]; cases h; rfl
        · cases h
      · cases h
    · cases h
theorem wantA_ok' {ops : Array Oper} {env : Tri AV} {o : Oper} {b : Bool} {ρ : Ren} {a : Act} (r : ER n ρ env a) (h : wantA ops.toList env o = some b) : Region.wanted o (yielded ops a.tmps) = b :=
  wantA_ok (fun _ _ _ d v _ _ _ e => r.get d v e) h
/-- a call, in the middle of a region -/
theorem call_upon {o : Oper} {a : Act} {w w2 : World} {f : FuncId} {xs : Array Value} {K : Act → World → Prop} {Q : Exit → Act → World → Prop} {R : Ending → World → Prop} (hr : (execOp a.eval o).run P w = .ok (.enter f xs) w2) (hc : Calls P f xs w2 R)
    (hk : ∀ x w', R (.returned x) w' → K (a.put o.dst x) w') (hp : ∀ ch w', R (.panicked ch) w' → Q (.panic ch) a w') (hog : ∀ w', ¬ R .outgrown w') : o.wp P a w K Q := by
  unfold Oper.wp
  rw [hr]
  refine Calls.mono hc fun e w' he => ?_
  cases e with
  | returned x => exact hk x w' he
  | panicked ch => exact hp ch w' he
  | outgrown => exact absurd he (hog w')
/-- an operation, from a state to a state -/
theorem stepO_ok (hext : ExtOk P ext) (hc : CallOk P call) {o : Oper} {st st' : St} {x : Option AV} (h : stepO (natTab P) ext call n st o = some (x, st')) : Ab st.s st'.s ∧
    ∀ {M : Nat → Prop} {ρ : Ren} {a : Act} {w : World} {K : Act → World → Prop} {Q : Exit → Act → World → Prop}, ER n ρ st.env a → DR ρ st.d a.defers → Pr M ρ st.s st'.s w →
      (x = none → ∀ ρ' a' w', Tr M ρ ρ' st.s st'.s w w' → ER n ρ' st'.env a' → DR ρ' st'.d a'.defers → K a' w') →
      (∀ v, x = some v → ∀ ρ' a' w' y, Tr M ρ ρ' st.s st'.s w w' → ER n ρ' st'.env a' → DR ρ' st'.d a'.defers → VR ρ' v y → Q (.panic [{ v := y, recovered := false }]) a' w') → o.wp P a w K Q := by
  unfold stepO at h
  split at h
  · rename_i v s1 hx
    split at h
    · rename_i e he; cases h
      rcases xop_ok (n := n) hext hx with ⟨u, hu, ab, k⟩ | ⟨hn, _⟩
      · cases hu
        refine ⟨ab, fun {M ρ a w K Q} r d p kk _ => ?_⟩
        obtain ⟨ρ', w', x, tr, hr, hv⟩ := k r p.pre
        have := kk rfl ρ' (a.put o.dst x) w' tr ((r.mono tr.ext).put he hv) (by rw [put_defers]; exact d.mono tr.ext)
        unfold Oper.wp
        rcases hr with hr | ⟨hr, rfl⟩ <;> (rw [hr]; exact this)
      · exact absurd rfl (hn v)
    · cases h
  · rename_i f args s1 hx
    rcases xop_ok (n := n) hext hx with ⟨u, hu, _⟩ | ⟨_, rfl, k⟩
    · cases hu
    split at h
    · rename_i v s2 hcall
      split at h
      · rename_i e he; cases h
        obtain ⟨ab, kc⟩ := hc _ _ _ _ _ hcall
        refine ⟨ab, fun {M ρ a w K Q} r d p kk _ => ?_⟩
        obtain ⟨_, xs, hr, hxs⟩ := k w r
        refine call_upon hr (kc hxs p) (fun y w' hy => ?_) (fun ch w' hy => hy.elim) (fun w' hy => hy)
        obtain ⟨ρ', tr, hv⟩ := hy
        exact kk rfl ρ' _ w' tr ((r.mono tr.ext).put he hv) (by rw [put_defers]; exact d.mono tr.ext)
      · cases h
    · rename_i v s2 hcall; cases h
      obtain ⟨ab, kc⟩ := hc _ _ _ _ _ hcall
      refine ⟨ab, fun {M ρ a w K Q} r d p _ kp => ?_⟩
      obtain ⟨_, xs, hr, hxs⟩ := k w r
      refine call_upon hr (kc hxs p) (fun y w' hy => hy.elim) (fun ch w' hy => ?_) (fun w' hy => hy)
      obtain ⟨ρ', y, tr, hv, rfl⟩ := hy
      exact kp _ rfl ρ' a w' y tr (r.mono tr.ext) (d.mono tr.ext) hv
    · cases h
  · rename_i v s1 hx; cases h
    rcases xop_ok (n := n) hext hx with ⟨u, hu, _⟩ | ⟨_, rfl, k⟩
    · cases hu
    refine ⟨Ab.refl _, fun {M ρ a w K Q} r d p _ kp => ?_⟩
    obtain ⟨y, hr, hv⟩ := k w r
    unfold Oper.wp
    rw [hr]
    exact kp _ rfl ρ a w y (Tr.refl p.pre.rel) r d hv
  · rename_i f args s1 hx
    split at h
    · rename_i e he; cases h
      rcases xop_ok (n := n) hext hx with ⟨u, hu, _⟩ | ⟨_, rfl, k⟩
      · cases hu
      refine ⟨Ab.refl _, fun {M ρ a w K Q} r d p kk _ => ?_⟩
      obtain ⟨_, x, hr, hd⟩ := k w r
      unfold Oper.wp
      rw [hr]
      refine kk rfl ρ _ w (Tr.refl p.pre.rel) ?_ ?_
      · have := r.put he (VR_undef ρ)
        refine ⟨?_, fun t v e1 => ?_⟩
        · have hh := this.size; cases hd : o.dst <;> (rw [hd] at hh; exact hh)
        · have hh := this.get t v e1; cases hd : o.dst <;> (rw [hd] at hh; exact hh)
      · rw [put_defers]; exact ⟨x, a.defers, rfl, hd, d⟩
    · cases h
  · cases h
/-- what a piece of code comes to -/
def Post (n : Nat) (M : Nat → Prop) (ρ : Ren) (s : HS) (st' : St) (ex : Ex) (w : World) : Exit → Act → World → Prop := fun e a' w' => ∃ ρ', Tr M ρ ρ' s st'.s w w' ∧ ER n ρ' st'.env a' ∧ DR ρ' st'.d a'.defers ∧ ExR ρ' ex e
theorem Post.trans {M : Nat → Prop} {ρ ρ1 : Ren} {s : HS} {st1 st2 : St} {ex : Ex} {w w1 : World} (ab : Ab s st1.s) (bc : Ab st1.s st2.s) (t : Tr M ρ ρ1 s st1.s w w1) {e : Exit} {a : Act} {w2 : World} (h : Post n (fun i => M i ∨ new s st1.s i) ρ1 st1.s st2 ex w1 e a w2) : Post n M ρ s st2 ex w e a w2 :=
  let ⟨ρ', t2, r, d, x⟩ := h; ⟨ρ', t.trans ab bc t2, r, d, x⟩
theorem runOps_ok (hext : ExtOk P ext) (hc : CallOk P call) {ops : Array Oper} : ∀ (l : List Oper) (k : Nat) (st : St) (ex : Ex) (st' : St), ops.toList.drop k = l → runOps (natTab P) ext call n ops.toList l st = some (ex, st') → Ab st.s st'.s ∧
    ∀ {M : Nat → Prop} {ρ : Ren} {a : Act} {w : World}, ER n ρ st.env a → DR ρ st.d a.defers → Pr M ρ st.s st'.s w → ∀ {Q : Exit → Act → World → Prop}, (∀ e a' w', Post n M ρ st.s st' ex w e a' w' → Q e a' w') → wpOps P ops Q (List.range' k l.length) a w
  | [], k, st, ex, st', hl, h => by
    cases h
    exact ⟨Ab.refl _, fun {M ρ a w} r d p Q q => q _ _ _ ⟨ρ, Tr.refl p.pre.rel, r, d, trivial⟩⟩
  | o :: l, k, st, ex, st', hl, h => by
    have ho : ops[k]? = some o := by
      rw [← Array.getElem?_toList]
      have := congrArg (fun l => l[0]?) hl
      simpa [List.getElem?_drop] using this
    have hl' : ops.toList.drop (k + 1) = l := by
      have := congrArg (fun l => l.drop 1) hl
      simpa [List.drop_drop, Nat.add_comm] using this
    change (match wantA ops.toList st.env o with
      | some true => (match stepO (natTab P) ext call n st o with
        | some (none, st') => runOps (natTab P) ext call n ops.toList l st'
        | some (some v, st') => some (.pan v, st')
        | none => none)
      | some false => (match putA n st.env o.dst (.tup []) with | some e => runOps (natTab P) ext call n ops.toList l ⟨e, st.s, st.d⟩ | none => none)
      | none => none) = some (ex, st') at h
    split at h
    · rename_i hw
      split at h
      · rename_i st1 hs
        obtain ⟨ab, k1⟩ := stepO_ok hext hc hs
        obtain ⟨bc, k2⟩ := runOps_ok hext hc l (k + 1) st1 ex st' hl' h
        refine ⟨ab.trans bc, fun {M ρ a w} r d p Q q => ?_⟩
        rw [List.length_cons, List.range'_succ]
        simp only [wpOps, ho, wantA_ok' r hw, if_true]
        refine .inl (k1 r d (p.first bc) (fun _ ρ1 a1 w1 t1 r1 d1 => k2 r1 d1 (p.next ab t1) fun e a' w' hq => q _ _ _ (hq.trans ab bc t1)) (fun v hv => by cases hv))
      · rename_i v st1 hs; cases h
        obtain ⟨ab, k1⟩ := stepO_ok hext hc hs
        refine ⟨ab, fun {M ρ a w} r d p Q q => ?_⟩
        rw [List.length_cons, List.range'_succ]
        simp only [wpOps, ho, wantA_ok' r hw, if_true]
        exact .inl (k1 r d p (fun hv => by cases hv) fun u hu ρ1 a1 w1 y t1 r1 d1 hy => q _ _ _ ⟨ρ1, t1, r1, d1, by cases hu; exact ⟨y, hy, rfl⟩⟩)
      · cases h
    · rename_i hw
      split at h
      · rename_i e he
        obtain ⟨bc, k2⟩ := runOps_ok hext hc l (k + 1) _ ex st' hl' h
        refine ⟨bc, fun {M ρ a w} r d p Q q => ?_⟩
        rw [List.length_cons, List.range'_succ]
        simp only [wpOps, ho, wantA_ok' r hw, Bool.false_eq_true, if_false]
        exact k2 (r.put he (VR_undef ρ)) (by rw [put_defers]; exact d) p q
      · cases h
    · cases h
/-- an operation, without a panic -/
theorem stepV_ok (hext : ExtOk P ext) (hc : CallOk P call) {env : Tri AV} {o : Oper} {s s' : HS} {v : AV} (h : stepV (natTab P) ext call env s o = some (v, s')) : Ab s s' ∧
    ∀ {M : Nat → Prop} {ρ : Ren} {a : Act} {w : World} {K : Act → World → Prop} {Q : Exit → Act → World → Prop}, ER n ρ env a → Pr M ρ s s' w →
      (∀ ρ' x w', Tr M ρ ρ' s s' w w' → VR ρ' v x → K (a.put o.dst x) w') → o.wp P a w K Q := by
  unfold stepV at h
  split at h
  · rename_i u s1 hx; cases h
    rcases xop_ok (n := n) hext hx with ⟨u, hu, ab, k⟩ | ⟨hn, _⟩
    · cases hu
      refine ⟨ab, fun {M ρ a w K Q} r p kk => ?_⟩
      obtain ⟨ρ', w', x, tr, hr, hv⟩ := k r p.pre
      have := kk ρ' x w' tr hv
      unfold Oper.wp
      rcases hr with hr | ⟨hr, rfl⟩ <;> (rw [hr]; exact this)
    · exact absurd rfl (hn _)
  · rename_i f args s1 hx
    rcases xop_ok (n := n) hext hx with ⟨u, hu, _⟩ | ⟨_, rfl, k⟩
    · cases hu
    split at h
    · rename_i u s2 hcall; cases h
      obtain ⟨ab, kc⟩ := hc _ _ _ _ _ hcall
      refine ⟨ab, fun {M ρ a w K Q} r p kk => ?_⟩
      obtain ⟨_, xs, hr, hxs⟩ := k w r
      refine call_upon hr (kc hxs p) (fun y w' hy => ?_) (fun ch w' hy => hy.elim) (fun w' hy => hy)
      obtain ⟨ρ', tr, hv⟩ := hy
      exact kk ρ' y w' tr hv
    · cases h
  · cases h
end
end Go.Proofs.YtaacfehlcdkdhaaGreatDoor.R
namespace Go.Proofs.YtaacfehlcdkdhaaGreatDoor.R
open Go
set_option linter.unusedVariables false
set_option linter.unusedSimpArgs false

/-! what lies where, when some of the operations are done -/
section over
variable {α β : Type} (C : Nat → α → β) (W : Nat → α → Bool)
def ov (L : Nat → Bool) : Nat → α → β
  | 0, x => C 0 x
  | i + 1, x => if L i && W i x then C (i + 1) x else ov L i x
variable {C W}
theorem ov_all {L : Nat → Bool} {x : α} : ∀ {m : Nat}, (∀ i, i < m → L i = true) → (∀ i, i < m → W i x = false → C (i + 1) x = C i x) → ov C W L m x = C m x
  | 0, _, _ => rfl
  | m + 1, h, k => by
    simp only [ov, h m (by omega), Bool.true_and]
    cases hw : W m x with
    | true => simp
    | false => simp only [Bool.false_eq_true, if_false]; rw [ov_all (fun i hi => h i (by omega)) fun i hi => k i (by omega)]; exact (k m (by omega) hw).symm
theorem ov_none {L : Nat → Bool} {x : α} : ∀ {m : Nat}, (∀ i, i < m → L i = true → W i x = false) → ov C W L m x = C 0 x
  | 0, _ => rfl
  | m + 1, h => by
    have : (L m && W m x) = false := by
      cases hl : L m with
      | false => rfl
      | true => rw [h m (by omega) hl]; rfl
    simp only [ov, this, Bool.false_eq_true, if_false]
    exact ov_none fun i hi => h i (by omega)
theorem ov_cut {L : Nat → Bool} {x : α} {i : Nat} : ∀ {m : Nat}, i ≤ m → (∀ k, i ≤ k → k < m → L k = true → W k x = false) → ov C W L m x = ov C W L i x
  | 0, h, _ => by have : i = 0 := by omega
                  subst this; rfl
  | m + 1, h, k => by
    by_cases e : i = m + 1
    · rw [e]
    · have : (L m && W m x) = false := by
        cases hl : L m with
        | false => rfl
        | true => rw [k m (by omega) (by omega) hl]; rfl
      simp only [ov, this, Bool.false_eq_true, if_false]
      exact ov_cut (by omega) fun q h1 h2 => k q h1 (by omega)
theorem ov_pre {L : Nat → Bool} {x : α} : ∀ {i : Nat}, (∀ k, k < i → W k x = true → L k = true) → (∀ k, k < i → W k x = false → C (k + 1) x = C k x) → ov C W L i x = C i x
  | 0, _, _ => rfl
  | i + 1, h, k => by
    simp only [ov]
    cases hw : W i x with
    | true => simp [h i (by omega) hw]
    | false => simp only [Bool.and_false, Bool.false_eq_true, if_false]; rw [ov_pre (fun q hq => h q (by omega)) fun q hq => k q (by omega)]; exact (k i (by omega) hw).symm
theorem ov_at {L : Nat → Bool} {x : α} {i m : Nat} (hi : i ≤ m) (h : ∀ k, k < i → W k x = true → L k = true) (h' : ∀ k, i ≤ k → k < m → L k = true → W k x = false)
    (k : ∀ k, k < i → W k x = false → C (k + 1) x = C k x) : ov C W L m x = C i x := (ov_cut hi h').trans (ov_pre h k)
def ins (L : Nat → Bool) (i : Nat) : Nat → Bool := fun k => if k = i then true else L k
theorem ov_congr {L L' : Nat → Bool} {x : α} : ∀ {m : Nat}, (∀ i, i < m → (L i && W i x) = (L' i && W i x)) → ov C W L m x = ov C W L' m x
  | 0, _ => rfl
  | m + 1, h => by simp only [ov, h m (by omega)]; rw [ov_congr fun i hi => h i (by omega)]
theorem ov_ins_out {L : Nat → Bool} {x : α} {i m : Nat} (h : W i x = false) : ov C W (ins L i) m x = ov C W L m x := by
  refine ov_congr fun k _ => ?_
  unfold ins
  by_cases e : k = i
  · subst e; simp [h]
  · rw [if_neg e]
theorem ov_ins_in {L : Nat → Bool} {x : α} {i m : Nat} (hi : i < m) (h : W i x = true) (h' : ∀ k, i < k → k < m → L k = true → W k x = false) : ov C W (ins L i) m x = C (i + 1) x := by
  rw [ov_cut (i := i + 1) (by omega)]
  · simp [ov, ins, h]
  · intro k h1 h2 h3
    unfold ins at h3
    rw [if_neg (by omega)] at h3
    exact h' k (by omega) h2 h3
end over
def cnt (L : Nat → Bool) : Nat → Nat
  | 0 => 0
  | i + 1 => cnt L i + (if L i then 0 else 1)
theorem cnt_zero {L : Nat → Bool} : ∀ {m : Nat}, cnt L m = 0 → ∀ i, i < m → L i = true
  | 0, _, i, h => by omega
  | m + 1, h, i, hi => by
    simp only [cnt] at h
    by_cases e : i = m
    · subst e
      cases hl : L i with
      | true => rfl
      | false => rw [hl] at h; simp at h
    · exact cnt_zero (m := m) (by omega) i (by omega)
theorem cnt_ins {L : Nat → Bool} {i : Nat} (hl : L i = false) : ∀ {m : Nat}, (i < m → cnt L m = cnt (ins L i) m + 1) ∧ (m ≤ i → cnt L m = cnt (ins L i) m)
  | 0 => ⟨fun h => by omega, fun _ => rfl⟩
  | m + 1 => by
    obtain ⟨h1, h2⟩ := cnt_ins (i := i) hl (m := m)
    refine ⟨fun h => ?_, fun h => ?_⟩
    · simp only [cnt]
      by_cases e : i = m
      · subst e
        rw [h2 (Nat.le_refl _), hl]; simp [ins]
      · rw [h1 (by omega), show ins L i m = L m by unfold ins; rw [if_neg (by omega)]]; omega
    · simp only [cnt]
      rw [h2 (by omega), show ins L i m = L m by unfold ins; rw [if_neg (by omega)]]

/-! who is ahead of whom -/
theorem testBit_shl (a b : Nat) : (Nat.shiftLeft 1 a).testBit b = decide (a = b) := by
  show (1 <<< a).testBit b = _
  rw [Nat.one_shiftLeft, Nat.testBit_two_pow]
theorem foldl_bits {ε : Type} {b : ε → Bool} {g : ε → Nat} : ∀ (l : List ε) (m0 q : Nat), (l.foldl (fun m e => bif b e then Nat.lor m (g e) else m) m0).testBit q = true → m0.testBit q = true ∨ ∃ e ∈ l, b e = true ∧ (g e).testBit q = true
  | [], m0, q, h => .inl h
  | e :: l, m0, q, h => by
    simp only [List.foldl_cons] at h
    rcases foldl_bits l _ q h with h1 | ⟨e', h1, h2⟩
    · cases hb : b e with
      | false => rw [hb] at h1; exact .inl h1
      | true =>
        rw [hb] at h1
        replace h1 : (m0 ||| g e).testBit q = true := h1
        rw [Nat.testBit_or, Bool.or_eq_true] at h1
        exact h1.imp id fun h1 => ⟨e, List.mem_cons_self, hb, h1⟩
    · exact .inr ⟨e', List.mem_cons_of_mem _ h1, h2⟩
theorem preds_go : ∀ (l : List Oper) (acc : List Nat), (preds.go l acc).length = acc.length + l.length ∧ (∀ i, i < acc.length → (preds.go l acc)[i]? = acc[i]?) ∧
    ∀ i o, l[i]? = some o → ∀ q, ((preds.go l acc).getD (acc.length + i) 0).testBit q = true → ∃ e ∈ o.after.toList, Region.binds .any e = true ∧ (q = e.on ∨ (e.on < acc.length + i ∧ ((preds.go l acc).getD e.on 0).testBit q = true))
  | [], acc => ⟨by simp [preds.go], fun _ _ => rfl, fun i o h => by simp at h⟩
  | o :: l, acc => by
    simp only [preds.go]
    obtain ⟨h1, h2, h3⟩ := preds_go l (acc ++ [o.after.toList.foldl (fun m e => bif Region.binds .any e then Nat.lor m (Nat.lor (Nat.shiftLeft 1 e.on) (acc.getD e.on 0)) else m) 0])
    refine ⟨by rw [h1]; simp; omega, fun i hi => ?_, fun i o' ho q hq => ?_⟩
    · rw [h2 i (by simp; omega), List.getElem?_append_left hi]
    · cases i with
      | zero =>
        simp only [List.getElem?_cons_zero, Option.some.injEq] at ho; subst ho
        rw [Nat.add_zero, List.getD_eq_getElem?_getD, h2 acc.length (by simp), List.getElem?_append_right (Nat.le_refl _)] at hq
        simp only [Nat.sub_self, List.getElem?_cons_zero, Option.getD_some] at hq
        rcases foldl_bits _ _ _ hq with h | ⟨e, he, hb, h⟩
        · simp at h
        · refine ⟨e, he, hb, ?_⟩
          replace h : (Nat.shiftLeft 1 e.on ||| acc.getD e.on 0).testBit q = true := h
          rw [Nat.testBit_or, Bool.or_eq_true, testBit_shl, decide_eq_true_iff] at h
          rcases h with h | h
          · exact .inl h.symm
          · by_cases hl : e.on < acc.length
            · refine .inr ⟨by omega, ?_⟩
              rw [List.getD_eq_getElem?_getD, h2 _ (by simp; omega), List.getElem?_append_left hl, ← List.getD_eq_getElem?_getD]; exact h
            · rw [List.getD_eq_getElem?_getD, List.getElem?_eq_none (by omega)] at h; simp at h
      | succ i =>
        simp only [List.getElem?_cons_succ] at ho
        obtain ⟨e, he, hb, h⟩ := h3 i o' ho q (by rw [show (acc ++ [o.after.toList.foldl (fun m e => bif Region.binds .any e then Nat.lor m (Nat.lor (Nat.shiftLeft 1 e.on) (acc.getD e.on 0)) else m) 0]).length + i = acc.length + (i + 1) by simp; omega]; exact hq)
        refine ⟨e, he, hb, h.imp id fun h => ⟨?_, h.2⟩⟩
        have := h.1; simp at this; omega
theorem preds_spec {ops : List Oper} {i : Nat} {o : Oper} (ho : ops[i]? = some o) {q : Nat} (hq : ((preds ops).getD i 0).testBit q = true) :
    ∃ e ∈ o.after.toList, Region.binds .any e = true ∧ (q = e.on ∨ (e.on < i ∧ ((preds ops).getD e.on 0).testBit q = true)) := by
  obtain ⟨_, _, h3⟩ := preds_go ops []
  have := h3 i o ho q (by simpa [preds] using hq)
  simpa [preds] using this
theorem preds_len (ops : List Oper) : (preds ops).length = ops.length := by
  obtain ⟨h1, _⟩ := preds_go ops []
  simpa [preds] using h1
theorem onesOk_go : ∀ (l : List Oper) (k : Nat), onesOk.go l k = true → ∀ i o, l[i]? = some o → (∀ e ∈ o.after.toList, Region.binds .any e = true → e.on < k + i) ∧ noSel o.op = true
  | [], _, _, i, o, h => by simp at h
  | x :: l, k, hk, i, o, h => by
    simp only [onesOk.go, Bool.and_eq_true] at hk
    obtain ⟨⟨h1, h2⟩, h3⟩ := hk
    cases i with
    | zero =>
      simp only [List.getElem?_cons_zero, Option.some.injEq] at h; subst h
      refine ⟨fun e he hb => ?_, h2⟩
      have := List.all_eq_true.1 h1 e he
      rw [hb] at this
      have h9 : e.on < k := by simpa using this
      omega
    | succ i =>
      simp only [List.getElem?_cons_succ] at h
      obtain ⟨h4, h5⟩ := onesOk_go l _ h3 i o h
      exact ⟨fun e he hb => by have := h4 e he hb; omega, h5⟩
theorem mem_zero {i : Nat} : ¬ mem i 0 := by simp [mem]
/-- two operations do not meet -/
def Dj (R W R' W' : Nat) : Prop := ∀ j, (mem j W → ¬ mem j R' ∧ ¬ mem j W') ∧ (mem j R → ¬ mem j W')
theorem land_zero {a b j : Nat} (h : Nat.beq (Nat.land a b) 0 = true) (ha : mem j a) : ¬ mem j b := fun hb => by
  have h1 : a &&& b = 0 := Nat.eq_of_beq_eq_true h
  have : (a &&& b).testBit j = true := by rw [Nat.testBit_and]; simp [ha, hb]
  rw [h1] at this; simp at this
theorem mem_lor {a b j : Nat} : mem j (Nat.lor a b) ↔ mem j a ∨ mem j b := by
  show (a ||| b).testBit j = true ↔ _
  rw [Nat.testBit_or, Bool.or_eq_true]
theorem clash_ok {pm R W : Nat} : ∀ {l : Loud}, clash pm R W l = false → ∀ q ∈ l, pm.testBit q.1 = false → Dj R W q.2.1 q.2.2
  | [], _, q, hq => by cases hq
  | (j, R', W') :: l, h, q, hq => by
    simp only [clash, Bool.or_eq_false_iff] at h
    rcases List.mem_cons.1 hq with rfl | hq
    · intro hp
      replace hp : pm.testBit j = false := hp
      have h1 := h.1
      rw [hp] at h1
      simp only [Bool.not_false, Bool.true_and, Bool.not_eq_false', Bool.and_eq_true] at h1
      exact fun k => ⟨fun hk => ⟨fun h2 => land_zero h1.1 hk (mem_lor.2 (.inl h2)), fun h2 => land_zero h1.1 hk (mem_lor.2 (.inr h2))⟩, fun hk => land_zero h1.2 hk⟩
    · exact clash_ok h.2 q hq
/-! slots -/
theorem mem_maskL {j : Nat} : ∀ {l : List Nat}, mem j (maskL l) ↔ j ∈ l
  | [] => by simp [maskL]
  | i :: l => by simp only [maskL]; rw [mem_bit, mem_maskL, List.mem_cons, or_comm]
theorem mem_maskD {j : Nat} {d : Option Nat} : mem j (maskD d) ↔ d = some j := by
  cases d with
  | none => simp [maskD]
  | some d => simp only [maskD]; rw [mem_bit]; simp [eq_comm]
theorem clear1_ok {pm u d : Nat} : ∀ {l : List (Nat × Nat)} {j : Nat}, clear1 pm u d l j = true → ∀ i q, l[i]? = some q → pm.testBit (j + i) = false → Dj u d q.1 q.2
  | [], _, _, i, q, h => by simp at h
  | x :: l, j, h, i, q, hi => by
    simp only [clear1, Bool.and_eq_true, Bool.or_eq_true] at h
    cases i with
    | zero =>
      simp only [List.getElem?_cons_zero, Option.some.injEq] at hi; subst hi
      intro hp
      rcases h.1 with h1 | ⟨h1, h2⟩
      · rw [Nat.add_zero] at hp; rw [hp] at h1; cases h1
      · refine fun k => ⟨fun hk => ⟨fun h3 => land_zero h2 h3 hk, land_zero h1 (mem_lor.2 (.inr hk))⟩, fun hk => land_zero h1 (mem_lor.2 (.inl hk))⟩
    | succ i =>
      simp only [List.getElem?_cons_succ] at hi
      intro hp
      exact clear1_ok h.2 i q hi (by rw [show Nat.succ j + i = j + (i + 1) by omega]; exact hp)
theorem slotsOk_go (ops : List Oper) : ∀ (l : List Oper) (pms : List Nat) (acc : List (Nat × Nat)), slotsOk.go ops l pms acc = true → ∀ i o, l[i]? = some o → ∀ j q, ((acc ++ l.map fun o => (maskL (lookL ops o), maskD o.dst)))[j]? = some q → j < acc.length + i → (pms.getD i 0).testBit j = false →
    Dj (maskL (lookL ops o)) (maskD o.dst) q.1 q.2
  | [], _, _, _, i, o, h => by simp at h
  | x :: l, [], acc, h, _, _, _ => by simp [slotsOk.go] at h
  | x :: l, pm :: pms, acc, h, i, o, ho => by
    simp only [slotsOk.go, Bool.and_eq_true] at h
    cases i with
    | zero =>
      simp only [List.getElem?_cons_zero, Option.some.injEq] at ho; subst ho
      intro j q hq hj hp
      refine clear1_ok h.1 j q ?_ (by simpa using hp)
      rw [List.getElem?_append_left (by omega)] at hq; exact hq
    | succ i =>
      simp only [List.getElem?_cons_succ] at ho
      intro j q hq hj hp
      refine slotsOk_go ops l pms _ h.2 i o ho j q ?_ (by simp; omega) (by simpa using hp)
      rw [List.append_assoc]; simpa using hq
theorem slotsOk_spec {ops : List Oper} (h : slotsOk ops = true) {i j : Nat} {o o' : Oper} (hi : ops[i]? = some o) (hj : ops[j]? = some o') (hlt : j < i) (hp : ((preds ops).getD i 0).testBit j = false) :
    Dj (maskL (lookL ops o)) (maskD o.dst) (maskL (lookL ops o')) (maskD o'.dst) :=
  slotsOk_go ops ops (preds ops) [] h i o hi j (maskL (lookL ops o'), maskD o'.dst) (by simp [hj]) (by simpa using hlt) hp
theorem pickE_get {env : Tri AV} : ∀ {l : List Nat} {t : Nat} {v : AV}, (pickE env l).get t = some v → t ∈ l ∧ env.get t = some v
  | [], t, v, h => by cases h
  | x :: l, t, v, h => by
    change (match env.get x with | some v => (match (pickE env l).put x (some v) with | some e => e | none => pickE env l) | none => pickE env l).get t = some v at h
    split at h
    · rename_i u hu
      split at h
      · rename_i e he
        rw [Tri.get_put he] at h
        split at h
        · rename_i ht; subst ht; cases h; exact ⟨List.mem_cons_self, hu⟩
        · obtain ⟨h1, h2⟩ := pickE_get h; exact ⟨List.mem_cons_of_mem _ h1, h2⟩
      · obtain ⟨h1, h2⟩ := pickE_get h; exact ⟨List.mem_cons_of_mem _ h1, h2⟩
    · obtain ⟨h1, h2⟩ := pickE_get h; exact ⟨List.mem_cons_of_mem _ h1, h2⟩
end Go.Proofs.YtaacfehlcdkdhaaGreatDoor.R
namespace Go.Proofs.YtaacfehlcdkdhaaGreatDoor.R
open Go
set_option linter.unusedVariables false
set_option linter.unusedSimpArgs false

/-- ahead of an operation: slots, memory; what it looks at, what it changes -/
structure Sp where
  e : Tri AV
  h : Tri AO
  c : Nat
  R : Nat
  W : Nat
section
variable {P : Program} {n : Nat} {ext : ExtF} {call : CallF}
/-- an operation, from one state to the next -/
def StepAt (P : Program) (ext : ExtF) (call : CallF) (n : Nat) (ops : List Oper) (o : Oper) (a b : Sp) : Prop :=
  (∃ v, wantA ops a.e o = some true ∧ stepV (natTab P) ext call (pickE a.e (lookL ops o)) ⟨a.h, a.c, 0, 0⟩ o = some (v, ⟨b.h, b.c, a.R, a.W⟩) ∧ putA n a.e o.dst v = some b.e) ∨
  (wantA ops a.e o = some false ∧ putA n a.e o.dst (.tup []) = some b.e ∧ b.h = a.h ∧ b.c = a.c ∧ a.R = 0 ∧ a.W = 0)
theorem runDrawn_cons (T : Tab) (ops : List Oper) (o : Oper) (l : List Oper) (pms : List Nat) (i : Nat) (loud : Loud) (st : St) : runDrawn T ext call n ops (o :: l) pms i loud st = (match pms with
    | [] => none
    | pm :: pms => (match wantA ops st.env o with
      | some true => (match stepV T ext call (pickE st.env (lookL ops o)) ⟨st.s.h, st.s.c, 0, 0⟩ o with
        | some (v, s') => bif clash pm s'.R s'.W loud then none else (match putA n st.env o.dst v with
          | some e => runDrawn T ext call n ops l pms (Nat.succ i) (bif Nat.beq (Nat.lor s'.R s'.W) 0 then loud else (i, s'.R, s'.W) :: loud) ⟨e, ⟨s'.h, s'.c, Nat.lor st.s.R s'.R, Nat.lor st.s.W s'.W⟩, st.d⟩
          | none => none)
        | none => none)
      | some false => (match putA n st.env o.dst (.tup []) with | some e => runDrawn T ext call n ops l pms (Nat.succ i) loud ⟨e, st.s, st.d⟩ | none => none)
      | none => none)) := rfl
theorem Dj.zero {R W : Nat} (R' W' : Nat) (h : Nat.beq (Nat.lor R W) 0 = true) : Dj R' W' R W := fun j => by
  have e : R ||| W = 0 := Nat.eq_of_beq_eq_true h
  have h1 : ∀ j, ¬ mem j R := fun j hj => by
    have : (R ||| W).testBit j = true := by rw [Nat.testBit_or]; simp [hj]
    rw [e] at this; simp at this
  have h2 : ∀ j, ¬ mem j W := fun j hj => by
    have : (R ||| W).testBit j = true := by rw [Nat.testBit_or]; simp [hj]
    rw [e] at this; simp at this
  exact ⟨fun _ => ⟨h1 j, h2 j⟩, fun _ => h2 j⟩
theorem Dj.none0 (R W : Nat) : Dj 0 0 R W := fun _ => ⟨fun h => absurd h mem_zero, fun h => absurd h mem_zero⟩
theorem drawn_trace {ops : List Oper} : ∀ (l : List Oper) (pms : List Nat) (k : Nat) (loud : Loud) (st st' : St), runDrawn (natTab P) ext call n ops l pms k loud st = some st' →
    ∃ T : Nat → Sp, ((T k).e = st.env ∧ (T k).h = st.s.h ∧ (T k).c = st.s.c) ∧ ((T (k + l.length)).e = st'.env ∧ (T (k + l.length)).h = st'.s.h ∧ (T (k + l.length)).c = st'.s.c ∧ st'.d = st.d) ∧
      (∀ j, (mem j st'.s.R ↔ mem j st.s.R ∨ ∃ i, i < l.length ∧ mem j (T (k + i)).R) ∧ (mem j st'.s.W ↔ mem j st.s.W ∨ ∃ i, i < l.length ∧ mem j (T (k + i)).W)) ∧
      (∀ i o, l[i]? = some o → StepAt P ext call n ops o (T (k + i)) (T (k + i + 1))) ∧
      (∀ i, i < l.length → ∀ q ∈ loud, (pms.getD i 0).testBit q.1 = false → Dj (T (k + i)).R (T (k + i)).W q.2.1 q.2.2) ∧
      (∀ i j, i < l.length → j < i → (pms.getD i 0).testBit (k + j) = false → Dj (T (k + i)).R (T (k + i)).W (T (k + j)).R (T (k + j)).W)
  | [], pms, k, loud, st, st', h => by
    cases h
    refine ⟨fun _ => ⟨st.env, st.s.h, st.s.c, 0, 0⟩, ⟨rfl, rfl, rfl⟩, ⟨rfl, rfl, rfl, rfl⟩, fun j => ⟨by simp, by simp⟩, fun i o h => by simp at h, fun i h => by simp at h, fun i j h => by simp at h⟩
  | o :: l, pms, k, loud, st, st', h => by
    rw [runDrawn_cons] at h
    have key : ∀ (pm : Nat) (pms' : List Nat) (R W : Nat) (loud1 : Loud) (st1 : St), runDrawn (natTab P) ext call n ops l pms' (k + 1) loud1 st1 = some st' → st1.d = st.d →
        (∀ j, (mem j st1.s.R ↔ mem j st.s.R ∨ mem j R) ∧ (mem j st1.s.W ↔ mem j st.s.W ∨ mem j W)) → StepAt P ext call n ops o ⟨st.env, st.s.h, st.s.c, R, W⟩ ⟨st1.env, st1.s.h, st1.s.c, 0, 0⟩ →
        (∀ q ∈ loud, q ∈ loud1) → (∀ q ∈ loud, pm.testBit q.1 = false → Dj R W q.2.1 q.2.2) → ((k, R, W) ∈ loud1 ∨ Nat.beq (Nat.lor R W) 0 = true) →
        ∃ T : Nat → Sp, ((T k).e = st.env ∧ (T k).h = st.s.h ∧ (T k).c = st.s.c) ∧ ((T (k + (o :: l).length)).e = st'.env ∧ (T (k + (o :: l).length)).h = st'.s.h ∧ (T (k + (o :: l).length)).c = st'.s.c ∧ st'.d = st.d) ∧
          (∀ j, (mem j st'.s.R ↔ mem j st.s.R ∨ ∃ i, i < (o :: l).length ∧ mem j (T (k + i)).R) ∧ (mem j st'.s.W ↔ mem j st.s.W ∨ ∃ i, i < (o :: l).length ∧ mem j (T (k + i)).W)) ∧
          (∀ i o', (o :: l)[i]? = some o' → StepAt P ext call n ops o' (T (k + i)) (T (k + i + 1))) ∧
          (∀ i, i < (o :: l).length → ∀ q ∈ loud, ((pm :: pms').getD i 0).testBit q.1 = false → Dj (T (k + i)).R (T (k + i)).W q.2.1 q.2.2) ∧
          (∀ i j, i < (o :: l).length → j < i → ((pm :: pms').getD i 0).testBit (k + j) = false → Dj (T (k + i)).R (T (k + i)).W (T (k + j)).R (T (k + j)).W) := by
      intro pm pms' R W loud1 st1 hr hd hRW hst hsub hcl hk
      obtain ⟨T, ⟨a1, a2, a3⟩, ⟨b1, b2, b3, b4⟩, c1, d1, e1, f1⟩ := drawn_trace l pms' (k + 1) loud1 st1 st' hr
      let U : Nat → Sp := fun i => if i = k then ⟨st.env, st.s.h, st.s.c, R, W⟩ else T i
      have U0 : U k = ⟨st.env, st.s.h, st.s.c, R, W⟩ := if_pos rfl
      have U1 : ∀ i, U (k + (i + 1)) = T (k + 1 + i) := fun i => by show (if _ then _ else _) = _; rw [if_neg (by omega)]; congr 1; omega
      have U2 : ∀ i, U (k + (i + 1) + 1) = T (k + 1 + i + 1) := fun i => by show (if _ then _ else _) = _; rw [if_neg (by omega)]; congr 1; omega
      refine ⟨U, ?_, ?_, fun j => ⟨?_, ?_⟩, fun i o' hi => ?_, fun i hi q hq hp => ?_, fun i j hi hj hp => ?_⟩
      · rw [U0]; exact ⟨rfl, rfl, rfl⟩
      · rw [List.length_cons, U1]; exact ⟨b1, b2, b3, b4.trans hd⟩
      · rw [(c1 j).1, (hRW j).1, or_assoc]
        refine or_congr Iff.rfl ⟨fun h => ?_, fun ⟨i, h1, h2⟩ => ?_⟩
        · rcases h with h | ⟨i, h1, h2⟩
          · exact ⟨0, by simp, by rw [Nat.add_zero, U0]; exact h⟩
          · exact ⟨i + 1, by simpa using h1, by rw [U1]; exact h2⟩
        · cases i with
          | zero => rw [Nat.add_zero, U0] at h2; exact .inl h2
          | succ i => rw [U1] at h2; exact .inr ⟨i, by simpa using h1, h2⟩
      · rw [(c1 j).2, (hRW j).2, or_assoc]
        refine or_congr Iff.rfl ⟨fun h => ?_, fun ⟨i, h1, h2⟩ => ?_⟩
        · rcases h with h | ⟨i, h1, h2⟩
          · exact ⟨0, by simp, by rw [Nat.add_zero, U0]; exact h⟩
          · exact ⟨i + 1, by simpa using h1, by rw [U1]; exact h2⟩
        · cases i with
          | zero => rw [Nat.add_zero, U0] at h2; exact .inl h2
          | succ i => rw [U1] at h2; exact .inr ⟨i, by simpa using h1, h2⟩
      · cases i with
        | zero =>
          simp only [List.getElem?_cons_zero, Option.some.injEq] at hi; subst hi
          rw [Nat.add_zero, U0, show U (k + 1) = T (k + 1) by have := U1 0; simpa using this]
          unfold StepAt at hst ⊢
          simp only [a1, a2, a3]
          exact hst
        | succ i => simp only [List.getElem?_cons_succ] at hi; rw [U1, U2]; exact d1 i o' hi
      · cases i with
        | zero => rw [Nat.add_zero, U0]; exact hcl q hq (by simpa using hp)
        | succ i => rw [U1]; exact e1 i (by simpa using hi) q (hsub q hq) (by simpa using hp)
      · cases i with
        | zero => omega
        | succ i =>
          rw [U1]
          cases j with
          | zero =>
            rw [show U (k + 0) = ⟨st.env, st.s.h, st.s.c, R, W⟩ from U0]
            rcases hk with hk | hk
            · exact e1 i (by simpa using hi) _ hk (by simpa using hp)
            · exact Dj.zero _ _ hk
          | succ j => rw [U1]; exact f1 i j (by simpa using hi) (by omega) (by rw [show k + 1 + j = k + (j + 1) by omega]; simpa using hp)
    cases pms with
    | nil => cases h
    | cons pm pms' =>
      simp only [] at h
      split at h
      · rename_i hw
        split at h
        · rename_i v s' hs
          cases hc : clash pm s'.R s'.W loud with
          | true => rw [hc] at h; cases h
          | false =>
            rw [hc] at h
            simp only [cond_false] at h
            split at h
            · rename_i e he
              refine key pm pms' s'.R s'.W _ _ h rfl (fun j => ⟨mem_lor, mem_lor⟩) (.inl ⟨v, hw, hs, he⟩) (fun q hq => ?_) (fun q hq hp => clash_ok hc q hq hp) ?_
              · cases Nat.beq (Nat.lor s'.R s'.W) 0 with
                | true => exact hq
                | false => exact List.mem_cons_of_mem _ hq
              · cases Nat.beq (Nat.lor s'.R s'.W) 0 with
                | true => exact .inr rfl
                | false => exact .inl List.mem_cons_self
            · cases h
        · cases h
      · rename_i hw
        split at h
        · rename_i e he
          exact key pm pms' 0 0 _ _ h rfl (fun j => ⟨by simp [mem_zero], by simp [mem_zero]⟩) (.inr ⟨hw, he, rfl, rfl, rfl, rfl⟩) (fun q hq => hq) (fun q hq hp => Dj.none0 _ _) (.inr rfl)
        · cases h
      · cases h

/-- what is known of a region as it was reckoned -/
structure TF (P : Program) (ext : ExtF) (call : CallF) (n : Nat) (ops : Array Oper) (T : Nat → Sp) (M0 : Nat → Prop) (ρ0 : Ren) : Prop where
  ab : ∀ i, i < ops.size → Ab ⟨(T i).h, (T i).c, 0, 0⟩ ⟨(T (i + 1)).h, (T (i + 1)).c, (T i).R, (T i).W⟩
  stp : ∀ i o, ops[i]? = some o → StepAt P ext call n ops.toList o (T i) (T (i + 1))
  dj : ∀ i j, i < ops.size → j < i → ((preds ops.toList).getD i 0).testBit j = false → Dj (T i).R (T i).W (T j).R (T j).W
  cov : ∀ j i, i < ops.size → j < (T 0).c → mem j (T i).R → M0 j
  fre : ∀ j, (T 0).c ≤ j → j < (T ops.size).c → ρ0 j = none
  lt : ∀ j, M0 j → j < (T 0).c
  so : slotsOk ops.toList = true
noncomputable def CM (T : Nat → Sp) (i j : Nat) : Option AO := if j < (T i).c then (T i).h.get j else none
def WM (T : Nat → Sp) (i j : Nat) : Bool := (T i).W.testBit j
noncomputable def CE (T : Nat → Sp) (i t : Nat) : Option AV := (T i).e.get t
def WE (ops : Array Oper) (i t : Nat) : Bool := match ops[i]? with | some o => (maskD o.dst).testBit t | none => false
def nw (T : Nat → Sp) (k j : Nat) : Prop := (T k).c ≤ j ∧ j < (T (k + 1)).c
def Nw (T : Nat → Sp) (m : Nat) (L : Nat → Bool) (j : Nat) : Prop := ∃ k, k < m ∧ L k = true ∧ nw T k j
def Ww (T : Nat → Sp) (m : Nat) (L : Nat → Bool) (j : Nat) : Prop := ∃ k, k < m ∧ L k = true ∧ mem j (T k).W
/-- the operations of L are done -/
structure DI (n : Nat) (ops : Array Oper) (T : Nat → Sp) (M0 : Nat → Prop) (ρ0 : Ren) (w0 : World) (L : Nat → Bool) (ρ : Ren) (a : Act) (w : World) : Prop where
  ext : ρ0.le ρ
  id : ∀ i p, ρ i = some p → ρ0 i = some p ∨ Nw T ops.size L i
  at_ : ∀ j o, (M0 j ∨ Nw T ops.size L j) → ov (CM T) (WM T) L ops.size j = some o → ∃ p x, ρ j = some p ∧ w.heap[p.b]? = some x ∧ OR ρ p o x
  inj : ∀ i j o o' p q, (M0 i ∨ Nw T ops.size L i) → (M0 j ∨ Nw T ops.size L j) → ov (CM T) (WM T) L ops.size i = some o → ov (CM T) (WM T) L ops.size j = some o' → ρ i = some p → ρ j = some q → p.b = q.b → i = j
  fresh : ∀ i p, Nw T ops.size L i → ρ i = some p → w0.heap.size ≤ p.b ∨ ∃ j o q, M0 j ∧ j < (T 0).c ∧ Ww T ops.size L j ∧ (T 0).h.get j = some o ∧ ov (CM T) (WM T) L ops.size j = none ∧ ρ0 j = some q ∧ q.b = p.b
  os : w.os = w0.os
  tape : w.tape = w0.tape
  output : w.output = w0.output
  size : w0.heap.size ≤ w.heap.size
  block : ∀ b, b < w0.heap.size → (∀ j o q, M0 j → j < (T 0).c → Ww T ops.size L j → (T 0).h.get j = some o → ρ0 j = some q → q.b ≠ b) → w.heap[b]? = w0.heap[b]?
  sz : a.tmps.size = n
  slot : ∀ t v, ov (CE T) (WE ops) L ops.size t = some v → VR ρ v (a.tmps.getD t undef)
section
variable {ops : Array Oper} {T : Nat → Sp} {M0 : Nat → Prop} {ρ0 : Ren} {w0 : World}
theorem TF.mono (F : TF P ext call n ops T M0 ρ0) {i : Nat} : ∀ {k : Nat}, i ≤ k → k ≤ ops.size → (T i).c ≤ (T k).c
  | 0, h, _ => by have : i = 0 := by omega
                  subst this; exact Nat.le_refl _
  | k + 1, h, hk => by
    by_cases e : i = k + 1
    · subst e; exact Nat.le_refl _
    · exact Nat.le_trans (F.mono (by omega) (by omega)) (F.ab k (by omega)).c
theorem TF.WR (F : TF P ext call n ops T M0 ρ0) {i j : Nat} (hi : i < ops.size) (h : mem j (T i).W) : mem j (T i).R := (F.ab i hi).wr (fun _ h => h) j h
theorem TF.nwW (F : TF P ext call n ops T M0 ρ0) {i j : Nat} (hi : i < ops.size) (h : nw T i j) : mem j (T i).W := (F.ab i hi).nw j h
theorem TF.keepM (F : TF P ext call n ops T M0 ρ0) {i : Nat} (hi : i < ops.size) {j : Nat} (h : WM T i j = false) : CM T (i + 1) j = CM T i j := by
  have ab := F.ab i hi
  have hn : ¬ mem j (T i).W := fun e => by unfold WM at h; rw [e] at h; cases h
  unfold CM
  by_cases h1 : j < (T i).c
  · rw [if_pos h1, if_pos (Nat.lt_of_lt_of_le h1 ab.c)]; exact ab.keep j h1 hn
  · rw [if_neg h1]
    by_cases h2 : j < (T (i + 1)).c
    · exact absurd (F.nwW hi ⟨by omega, h2⟩) hn
    · rw [if_neg h2]
theorem TF.liveM (F : TF P ext call n ops T M0 ρ0) {i : Nat} (hi : i < ops.size) {j : Nat} {o : AO} (hj : j < (T i).c) (h : CM T (i + 1) j = some o) : ∃ o', CM T i j = some o' := by
  unfold CM at h ⊢
  rw [if_pos (Nat.lt_of_lt_of_le hj (F.ab i hi).c)] at h
  rw [if_pos hj]
  exact (F.ab i hi).live j o hj h
theorem TF.live0 (F : TF P ext call n ops T M0 ρ0) {j : Nat} (hj : j < (T 0).c) : ∀ {i : Nat} {o : AO}, i ≤ ops.size → CM T i j = some o → ∃ o', (T 0).h.get j = some o'
  | 0, o, _, h => by unfold CM at h; rw [if_pos hj] at h; exact ⟨o, h⟩
  | i + 1, o, hi, h => by
    obtain ⟨o', h'⟩ := F.liveM (by omega) (Nat.lt_of_lt_of_le hj (F.mono (by omega) (by omega))) h
    exact F.live0 hj (by omega) h'
theorem TF.one (F : TF P ext call n ops T M0 ρ0) {i k j : Nat} (hi : i < ops.size) (hk : k < ops.size) (h1 : nw T i j) (h2 : nw T k j) : i = k := by
  rcases Nat.lt_trichotomy i k with h | h | h
  · have := F.mono (i := i + 1) (k := k) h (by omega); have := h1.2; have := h2.1; omega
  · exact h
  · have := F.mono (i := k + 1) (k := i) h (by omega); have := h2.2; have := h1.1; omega
theorem TF.whence (F : TF P ext call n ops T M0 ρ0) {j : Nat} (h0 : (T 0).c ≤ j) : ∀ {i : Nat}, i ≤ ops.size → j < (T i).c → ∃ k, k < i ∧ nw T k j
  | 0, _, h => by omega
  | i + 1, hi, h => by
    by_cases e : j < (T i).c
    · obtain ⟨k, h1, h2⟩ := F.whence h0 (by omega) e; exact ⟨k, by omega, h2⟩
    · exact ⟨i, by omega, by omega, h⟩
/-- what is ready, and what is done: what it looks at is there as it was -/
structure Rdy (ops : Array Oper) (L : Nat → Bool) (i : Nat) : Prop where
  hi : i < ops.size
  hL : L i = false
  cl : ∀ k, k < ops.size → L k = true → ∀ q, ((preds ops.toList).getD k 0).testBit q = true → L q = true
  rd : ∀ q, ((preds ops.toList).getD i 0).testBit q = true → L q = true
section
variable {L : Nat → Bool} {i : Nat}
theorem Rdy.A (F : TF P ext call n ops T M0 ρ0) (r : Rdy ops L i) {k j : Nat} (hk : k < i) (hw : mem j (T k).W) (hr : mem j (T i).R) : L k = true := by
  cases hp : ((preds ops.toList).getD i 0).testBit k with
  | true => exact r.rd k hp
  | false => exact absurd hw ((F.dj i k r.hi hk hp j).2 hr)
theorem Rdy.B (F : TF P ext call n ops T M0 ρ0) (r : Rdy ops L i) {k j : Nat} (hk : i < k) (hm : k < ops.size) (hl : L k = true) (hr : mem j (T i).R) : ¬ mem j (T k).W := fun hw => by
  cases hp : ((preds ops.toList).getD k 0).testBit i with
  | true => have := r.cl k hm hl i hp; rw [r.hL] at this; cases this
  | false => exact ((F.dj k i hm hk hp j).1 hw).1 hr
theorem wmF {k j : Nat} (h : ¬ mem j (T k).W) : WM T k j = false := by
  cases e : WM T k j with
  | false => rfl
  | true => exact absurd e h
theorem Rdy.now (F : TF P ext call n ops T M0 ρ0) (r : Rdy ops L i) {j : Nat} (hr : mem j (T i).R) : ov (CM T) (WM T) L ops.size j = CM T i j := by
  refine ov_at (Nat.le_of_lt r.hi) (fun k hk hw => r.A F hk hw hr) (fun k h1 h2 h3 => ?_) fun k hk hw => F.keepM (Nat.lt_trans hk r.hi) hw
  by_cases e : k = i
  · subst e; rw [r.hL] at h3; cases h3
  · exact wmF (r.B F (by omega) h2 h3 hr)
theorem Rdy.then (F : TF P ext call n ops T M0 ρ0) (r : Rdy ops L i) {j : Nat} (hr : mem j (T i).R) : ov (CM T) (WM T) (ins L i) ops.size j = CM T (i + 1) j := by
  cases hw : WM T i j with
  | true => exact ov_ins_in r.hi hw fun k h1 h2 h3 => wmF (r.B F h1 h2 h3 hr)
  | false => rw [ov_ins_out hw, r.now F hr, F.keepM r.hi hw]
theorem Rdy.out {j : Nat} (hw : ¬ mem j (T i).W) : ov (CM T) (WM T) (ins L i) ops.size j = ov (CM T) (WM T) L ops.size j := ov_ins_out (wmF hw)
theorem ins_self : ins L i i = true := if_pos rfl
theorem ins_of {k : Nat} (h : L k = true) : ins L i k = true := by unfold ins; split <;> first | rfl | exact h
theorem ins_inv {k : Nat} (h : ins L i k = true) : k = i ∨ L k = true := by
  unfold ins at h; split at h
  · exact .inl ‹_›
  · exact .inr h
/-- what an operation that is ready is given -/
def Mi (ops : Array Oper) (T : Nat → Sp) (M0 : Nat → Prop) (L : Nat → Bool) (i : Nat) : Nat → Prop := fun j => (M0 j ∨ Nw T ops.size L j) ∧ mem j (T i).R ∧ j < (T i).c
theorem Rdy.cov (F : TF P ext call n ops T M0 ρ0) (r : Rdy ops L i) {j : Nat} (hj : j < (T i).c) (hr : mem j (T i).R) : Mi ops T M0 L i j := by
  refine ⟨?_, hr, hj⟩
  by_cases h0 : j < (T 0).c
  · exact .inl (F.cov j i r.hi h0 hr)
  · obtain ⟨k, hk, hn⟩ := F.whence (by omega) (Nat.le_of_lt r.hi) hj
    have hkm : k < ops.size := Nat.lt_trans hk r.hi
    exact .inr ⟨k, hkm, r.A F hk (F.nwW hkm hn) hr, hn⟩
end
end
end
end Go.Proofs.YtaacfehlcdkdhaaGreatDoor.R
namespace Go.Proofs.YtaacfehlcdkdhaaGreatDoor.R
open Go
set_option linter.unusedVariables false
set_option linter.unusedSimpArgs false

section
variable {P : Program} {n : Nat} {ext : ExtF} {call : CallF} {ops : Array Oper} {T : Nat → Sp} {M0 : Nat → Prop} {ρ0 : Ren} {w0 : World} {L : Nat → Bool} {i : Nat} {ρ : Ren} {a : Act} {w : World}
theorem DI.pre (F : TF P ext call n ops T M0 ρ0) (D : DI n ops T M0 ρ0 w0 L ρ a w) (r : Rdy ops L i) : Pr (Mi ops T M0 L i) ρ ⟨(T i).h, (T i).c, 0, 0⟩ ⟨(T (i + 1)).h, (T (i + 1)).c, (T i).R, (T i).W⟩ w := by
  have at' : ∀ j o, Mi ops T M0 L i j → (T i).h.get j = some o → ov (CM T) (WM T) L ops.size j = some o := fun j o m e => by
    rw [r.now F m.2.1]; unfold CM; rw [if_pos m.2.2]; exact e
  refine ⟨⟨⟨fun j o m e => D.at_ j o m.1 (at' j o m e), fun j l o o' p q m1 m2 e1 e2 => D.inj j l o o' p q m1.1 m2.1 (at' j o m1 e1) (at' l o' m2 e2)⟩, fun j hj hr => r.cov F hj hr, fun j hj => ?_⟩, fun j m => m.2.2⟩
  cases hp : ρ j with
  | none => rfl
  | some p =>
    rcases D.id j p hp with h | ⟨k, hk, hl, hn⟩
    · rw [F.fre j (Nat.le_trans (F.mono (Nat.zero_le _) (Nat.le_of_lt r.hi)) hj.1) (Nat.lt_of_lt_of_le hj.2 (F.mono r.hi (Nat.le_refl _)))] at h; cases h
    · have := F.one hk r.hi hn hj
      subst this; rw [r.hL] at hl; cases hl
theorem lt_of_at {w : World} {b : Nat} {x : Obj} (h : w.heap[b]? = some x) : b < w.heap.size := (Array.getElem?_eq_some_iff.1 h).1
theorem DI.step (F : TF P ext call n ops T M0 ρ0) (D : DI n ops T M0 ρ0 w0 L ρ a w) (r : Rdy ops L i) {o : Oper} (ho : ops[i]? = some o) {v : AV} (he : putA n (T i).e o.dst v = some (T (i + 1)).e)
    {ρ' : Ren} {w' : World} {x : Value} (tr : Tr (Mi ops T M0 L i) ρ ρ' ⟨(T i).h, (T i).c, 0, 0⟩ ⟨(T (i + 1)).h, (T (i + 1)).c, (T i).R, (T i).W⟩ w w') (hv : VR ρ' v x) : DI n ops T M0 ρ0 w0 (ins L i) ρ' (a.put o.dst x) w' := by
  have ab := F.ab i r.hi
  have newOf : ∀ j, nw T i j ↔ new ⟨(T i).h, (T i).c, 0, 0⟩ ⟨(T (i + 1)).h, (T (i + 1)).c, (T i).R, (T i).W⟩ j := fun j => Iff.rfl
  have nwi : ∀ j, Nw T ops.size (ins L i) j → nw T i j ∨ Nw T ops.size L j := fun j ⟨k, hk, hl, hn⟩ => by
    rcases ins_inv hl with rfl | hl
    · exact .inl hn
    · exact .inr ⟨k, hk, hl, hn⟩
  have nwL : ∀ j, Nw T ops.size L j → Nw T ops.size (ins L i) j := fun j ⟨k, hk, hl, hn⟩ => ⟨k, hk, ins_of hl, hn⟩
  have WwL : ∀ j, Ww T ops.size L j → Ww T ops.size (ins L i) j := fun j ⟨k, hk, hl, hn⟩ => ⟨k, hk, ins_of hl, hn⟩
  have Wwi : ∀ j, mem j (T i).W → Ww T ops.size (ins L i) j := fun j h => ⟨i, r.hi, ins_self, h⟩
  -- what was looked at
  have inn : ∀ j o1, mem j (T i).R → ov (CM T) (WM T) (ins L i) ops.size j = some o1 → (T (i + 1)).h.get j = some o1 ∧ (Mi ops T M0 L i j ∨ nw T i j) := fun j o1 hr e => by
    rw [r.then F hr] at e
    unfold CM at e
    split at e
    · rename_i h1
      refine ⟨e, ?_⟩
      by_cases h2 : j < (T i).c
      · exact .inl (r.cov F h2 hr)
      · exact .inr ⟨by omega, h1⟩
    · cases e
  -- what was not
  have out : ∀ j o1, ¬ mem j (T i).R → (M0 j ∨ Nw T ops.size (ins L i) j) → ov (CM T) (WM T) (ins L i) ops.size j = some o1 →
      (M0 j ∨ Nw T ops.size L j) ∧ ov (CM T) (WM T) L ops.size j = some o1 ∧ ∃ p y, ρ j = some p ∧ w.heap[p.b]? = some y ∧ OR ρ p o1 y := fun j o1 hr m e => by
    have hw : ¬ mem j (T i).W := fun h => hr (F.WR r.hi h)
    have m' : M0 j ∨ Nw T ops.size L j := m.imp_right fun h => (nwi j h).resolve_left fun h => hw (F.nwW r.hi h)
    rw [Rdy.out hw] at e
    exact ⟨m', e, D.at_ j o1 m' e⟩
  have back : ∀ j p p', ρ j = some p → ρ' j = some p' → p = p' := fun j p p' h h' => by have := tr.ext j p h; rw [h'] at this; cases this; rfl
  have cross : ∀ j l o1 o2 p q, mem j (T i).R → ¬ mem l (T i).R → (M0 l ∨ Nw T ops.size (ins L i) l) → ov (CM T) (WM T) (ins L i) ops.size j = some o1 → ov (CM T) (WM T) (ins L i) ops.size l = some o2 →
      ρ' j = some p → ρ' l = some q → p.b = q.b → False := fun j l o1 o2 p q hj hl ml e1 e2 hp hq hpq => by
    obtain ⟨ml', el, q', y, hq', hy, _⟩ := out l o2 hl ml e2
    obtain rfl := back l q' q hq' hq
    obtain ⟨g1, h | h⟩ := inn j o1 hj e1
    · obtain ⟨o3, h3⟩ := ab.live j o1 h.2.2 g1
      have e3 : ov (CM T) (WM T) L ops.size j = some o3 := by rw [r.now F hj]; unfold CM; rw [if_pos h.2.2]; exact h3
      obtain ⟨p', _, hp', _⟩ := D.at_ j o3 h.1 e3
      obtain rfl := back j p' p hp' hp
      exact hl (D.inj j l o3 o2 p' q' h.1 ml' e3 el hp' hq' hpq ▸ hj)
    · rcases tr.fresh j p h hp with h1 | ⟨j1, o1', q1, m1, m2, m3, m4, m5, m6, m7⟩
      · have := lt_of_at hy; omega
      · have e3 : ov (CM T) (WM T) L ops.size j1 = some o1' := by rw [r.now F m1.2.1]; unfold CM; rw [if_pos m1.2.2]; exact m4
        exact hl (D.inj j1 l o1' o2 q1 q' m1.1 ml' e3 el m6 hq' (m7.trans hpq) ▸ m1.2.1)
  -- what is gone stays so
  have gone : ∀ j, j < (T 0).c → ov (CM T) (WM T) L ops.size j = none → ov (CM T) (WM T) (ins L i) ops.size j = none := fun j hj e => by
    by_cases hw : mem j (T i).W
    · have hr := F.WR r.hi hw
      rw [r.now F hr] at e
      rw [r.then F hr]
      cases h : CM T (i + 1) j with
      | none => rfl
      | some o1 =>
        obtain ⟨o2, h2⟩ := F.liveM r.hi (Nat.lt_of_lt_of_le hj (F.mono (Nat.zero_le _) (Nat.le_of_lt r.hi))) h
        rw [h2] at e; cases e
    · rw [Rdy.out hw]; exact e
  -- a block that the operation changes comes from one that was there
  have src : ∀ j o1 q, Mi ops T M0 L i j → (T i).h.get j = some o1 → ρ j = some q → mem j (T i).W → (∃ o2, M0 j ∧ j < (T 0).c ∧ (T 0).h.get j = some o2 ∧ ρ0 j = some q) ∨ w0.heap.size ≤ q.b ∨
      ∃ j0 o0 q0, M0 j0 ∧ j0 < (T 0).c ∧ Ww T ops.size L j0 ∧ (T 0).h.get j0 = some o0 ∧ ov (CM T) (WM T) L ops.size j0 = none ∧ ρ0 j0 = some q0 ∧ q0.b = q.b := fun j o1 q m e hq _ => by
    rcases m.1 with h | h
    · have hj := F.lt j h
      obtain ⟨o2, h2⟩ := F.live0 hj (i := i) (o := o1) (Nat.le_of_lt r.hi) (by unfold CM; rw [if_pos m.2.2]; exact e)
      refine .inl ⟨o2, h, hj, h2, ?_⟩
      rcases D.id j q hq with h3 | ⟨k, hk, _, h3⟩
      · exact h3
      · have := F.mono (Nat.zero_le k) (Nat.le_of_lt hk); have := h3.1; omega
    · exact .inr (D.fresh j q h hq)
  refine ⟨D.ext.trans tr.ext, fun j p hp => ?_, fun j o1 m e => ?_, fun j l o1 o2 p q m1 m2 e1 e2 hp hq hpq => ?_, fun j p hj hp => ?_, tr.os.trans D.os, tr.tape.trans D.tape, tr.output.trans D.output, Nat.le_trans D.size tr.size, fun b hb hc => ?_, ?_, fun t u hu => ?_⟩
  · rcases tr.id j p hp with h | h
    · exact (D.id j p h).imp_right (nwL j)
    · exact .inr ⟨i, r.hi, ins_self, h⟩
  · by_cases hr : mem j (T i).R
    · obtain ⟨g, h⟩ := inn j o1 hr e
      exact tr.rel.at_ j o1 h g
    · obtain ⟨m', e', p, y, hp, hy, hor⟩ := out j o1 hr m e
      refine ⟨p, y, tr.ext j p hp, ?_, hor.mono tr.ext⟩
      rw [tr.block p.b (lt_of_at hy) fun j' o' q' m1 m2 m3 m4 m5 hb => ?_]; exact hy
      have e3 : ov (CM T) (WM T) L ops.size j' = some o' := by rw [r.now F m1.2.1]; unfold CM; rw [if_pos m1.2.2]; exact m4
      exact hr (D.inj j' j o' o1 q' p m1.1 m' e3 e' m5 hp hb ▸ m1.2.1)
  · by_cases hj : mem j (T i).R
    · by_cases hl : mem l (T i).R
      · obtain ⟨g1, h1⟩ := inn j o1 hj e1
        obtain ⟨g2, h2⟩ := inn l o2 hl e2
        exact tr.rel.inj j l o1 o2 p q h1 h2 g1 g2 hp hq hpq
      · exact (cross j l o1 o2 p q hj hl m2 e1 e2 hp hq hpq).elim
    · by_cases hl : mem l (T i).R
      · exact (cross l j o2 o1 q p hl hj m1 e2 e1 hq hp hpq.symm).elim
      · obtain ⟨n1, f1, p', _, hp', _⟩ := out j o1 hj m1 e1
        obtain ⟨n2, f2, q', _, hq', _⟩ := out l o2 hl m2 e2
        obtain rfl := back j p' p hp' hp
        obtain rfl := back l q' q hq' hq
        exact D.inj j l o1 o2 p' q' n1 n2 f1 f2 hp' hq' hpq
  · by_cases hn : nw T i j
    · rcases tr.fresh j p hn hp with h1 | ⟨j1, o1, q1, m1, m2, m3, m4, m5, m6, m7⟩
      · exact .inl (Nat.le_trans D.size h1)
      · have hgone : ov (CM T) (WM T) (ins L i) ops.size j1 = none := by
          rw [r.then F m1.2.1]; unfold CM; rw [if_pos (Nat.lt_of_lt_of_le m1.2.2 ab.c)]; exact m5
        rcases src j1 o1 q1 m1 m4 m6 m3 with ⟨o2, k1, k2, k3, k4⟩ | h | ⟨j0, o0, q0, k1, k2, k3, k4, k5, k6, k7⟩
        · exact .inr ⟨j1, o2, q1, k1, k2, Wwi j1 m3, k3, hgone, k4, m7⟩
        · exact .inl (m7 ▸ h)
        · exact .inr ⟨j0, o0, q0, k1, k2, WwL j0 k3, k4, gone j0 k2 k5, k6, k7.trans m7⟩
    · have hj' : Nw T ops.size L j := (nwi j hj).resolve_left hn
      have hp' : ρ j = some p := (tr.id j p hp).resolve_right hn
      rcases D.fresh j p hj' hp' with h | ⟨j0, o0, q0, k1, k2, k3, k4, k5, k6, k7⟩
      · exact .inl h
      · exact .inr ⟨j0, o0, q0, k1, k2, WwL j0 k3, k4, gone j0 k2 k5, k6, k7⟩
  · rw [tr.block b (Nat.lt_of_lt_of_le hb D.size) fun j o1 q m1 m2 m3 m4 m5 hqb => ?_]
    · exact D.block b hb fun j o1 q m1 m2 m3 m4 m5 => hc j o1 q m1 m2 (WwL j m3) m4 m5
    · rcases src j o1 q m1 m4 m5 m3 with ⟨o2, k1, k2, k3, k4⟩ | h | ⟨j0, o0, q0, k1, k2, k3, k4, k5, k6, k7⟩
      · exact hc j o2 q k1 k2 (Wwi j m3) k3 k4 hqb
      · omega
      · exact hc j0 o0 q0 k1 k2 (WwL j0 k3) k4 k6 (k7.trans hqb)
  · have := D.sz
    cases hd : o.dst with
    | none => exact this
    | some d => simpa [Act.put] using this
  · have hWE : ∀ k o', ops[k]? = some o' → ∀ t, WE ops k t = (maskD o'.dst).testBit t := fun k o' h t => by unfold WE; rw [h]
    by_cases hd : o.dst = some t
    · have hin : WE ops i t = true := by rw [hWE i o ho]; exact mem_maskD.2 hd
      have hmem : mem t (maskD o.dst) := mem_maskD.2 hd
      rw [ov_ins_in r.hi hin fun k h1 h2 h3 => ?_] at hu
      · rw [hd] at he
        simp only [putA] at he
        cases hb : Nat.blt t n with
        | false => rw [hb] at he; cases he
        | true =>
          rw [hb] at he
          have hlt : t < n := Nat.le_of_ble_eq_true hb
          have : CE T (i + 1) t = some v := by show (T (i + 1)).e.get t = some v; rw [Tri.get_put he, if_pos rfl]
          rw [this] at hu; cases hu
          have hs := D.sz
          simpa [Act.put, hd, hs, hlt] using hv
      · obtain ⟨o', ho'⟩ : ∃ o', ops[k]? = some o' := ⟨_, Array.getElem?_eq_getElem h2⟩
        cases hp : ((preds ops.toList).getD k 0).testBit i with
        | true => have := r.cl k h2 h3 i hp; rw [r.hL] at this; cases this
        | false =>
          have hdj := slotsOk_spec F.so (i := k) (j := i) (by rw [Array.getElem?_toList]; exact ho') (by rw [Array.getElem?_toList]; exact ho) h1 hp
          cases e : WE ops k t with
          | false => rfl
          | true => rw [hWE k o' ho'] at e; exact absurd hmem ((hdj t).1 e).2
    · have hout : WE ops i t = false := by
        cases e : WE ops i t with
        | false => rfl
        | true => rw [hWE i o ho] at e; exact absurd (mem_maskD.1 e) hd
      rw [ov_ins_out hout] at hu
      have := VR.mono tr.ext _ _ (D.slot t u hu)
      cases hd' : o.dst with
      | none => exact this
      | some d =>
        have hne : d ≠ t := fun e => hd (by rw [hd', e])
        simp only [Act.put, Array.getD_eq_getD_getElem?] at this ⊢
        rw [Array.getElem?_setIfInBounds_ne hne]; exact this
/-- the slots that an operation looks at are as they were -/
theorem DI.look (F : TF P ext call n ops T M0 ρ0) (D : DI n ops T M0 ρ0 w0 L ρ a w) (r : Rdy ops L i) {o : Oper} (ho : ops[i]? = some o) {t : Nat} {v : AV} (ht : t ∈ lookL ops.toList o) (h : (T i).e.get t = some v) : VR ρ v (a.tmps.getD t undef) := by
  refine D.slot t v ?_
  have hWE : ∀ k o', ops[k]? = some o' → ∀ t, WE ops k t = (maskD o'.dst).testBit t := fun k o' h t => by unfold WE; rw [h]
  rw [ov_at (C := CE T) (W := WE ops) (i := i) (Nat.le_of_lt r.hi) (fun k hk hw => ?_) (fun k h1 h2 h3 => ?_) (fun k hk hw => ?_)]
  · exact h
  · obtain ⟨o', ho'⟩ : ∃ o', ops[k]? = some o' := ⟨_, Array.getElem?_eq_getElem (Nat.lt_trans hk r.hi)⟩
    rw [hWE k o' ho'] at hw
    cases hp : ((preds ops.toList).getD i 0).testBit k with
    | true => exact r.rd k hp
    | false =>
      have hdj := slotsOk_spec F.so (i := i) (j := k) (by rw [Array.getElem?_toList]; exact ho) (by rw [Array.getElem?_toList]; exact ho') hk hp
      exact absurd hw ((hdj t).2 (mem_maskL.2 ht))
  · by_cases e : k = i
    · subst e; rw [r.hL] at h3; cases h3
    · obtain ⟨o', ho'⟩ : ∃ o', ops[k]? = some o' := ⟨_, Array.getElem?_eq_getElem h2⟩
      cases hp : ((preds ops.toList).getD k 0).testBit i with
      | true => have := r.cl k h2 h3 i hp; rw [r.hL] at this; cases this
      | false =>
        have hdj := slotsOk_spec F.so (i := k) (j := i) (by rw [Array.getElem?_toList]; exact ho') (by rw [Array.getElem?_toList]; exact ho) (by omega) hp
        cases e : WE ops k t with
        | false => rfl
        | true => rw [hWE k o' ho'] at e; exact absurd (mem_maskL.2 ht) ((hdj t).1 e).1
  · have hk' : k < ops.size := Nat.lt_trans hk r.hi
    obtain ⟨o', ho'⟩ : ∃ o', ops[k]? = some o' := ⟨_, Array.getElem?_eq_getElem hk'⟩
    have key : ∀ v, putA n (T k).e o'.dst v = some (T (k + 1)).e → CE T (k + 1) t = CE T k t := fun v e => by
      unfold putA at e
      split at e
      · have h1 := Option.some.inj e; show (T (k + 1)).e.get t = (T k).e.get t; rw [h1]
      · rename_i d hd
        cases hb : Nat.blt d n with
        | false => rw [hb] at e; cases e
        | true =>
          rw [hb] at e
          show (T (k + 1)).e.get t = _
          rw [Tri.get_put e, if_neg]; · rfl
          intro e1; subst e1
          rw [hWE k o' ho', hd] at hw
          have : mem t (maskD (some t)) := mem_maskD.2 rfl
          unfold mem at this; rw [hw] at this; cases this
    rcases F.stp k o' ho' with ⟨v, _, _, e⟩ | ⟨_, e, _⟩
    · exact key _ e
    · exact key _ e
/-- all of it, in any order -/
theorem drawn_ok (hext : ExtOk P ext) (hc : CallOk P call) (h1 : onesOk ops.toList = true) (F : TF P ext call n ops T M0 ρ0) {Q : Exit → Act → World → Prop} (hq : ∀ ρ a' w', DI n ops T M0 ρ0 w0 (fun _ => true) ρ a' w' → a'.defers = a.defers → Q .normal a' w') :
    ∀ (fuel : Nat) (listed : Array Bool) (ρ : Ren) (a' : Act) (w : World), listed.size = ops.size → cnt (fun k => listed.getD k false) ops.size ≤ fuel →
      (∀ k o, ops[k]? = some o → listed.getD k false = true → ∀ e ∈ o.after, Region.binds .any e = true → listed.getD e.on false = true) →
      DI n ops T M0 ρ0 w0 (fun k => listed.getD k false) ρ a' w → a'.defers = a.defers → wpAny P .any ops Q fuel listed a' w := by
  have honly : ∀ i o, ops[i]? = some o → ∀ e ∈ o.after, Region.binds .any e = true → e.on < i := fun i o ho e he hb => by
    have := (onesOk_go ops.toList 0 h1 i o (by rw [Array.getElem?_toList]; exact ho)).1 e (by simpa using he) hb
    omega
  have fin : ∀ (listed : Array Bool) (ρ : Ren) (a' : Act) (w : World), listed.size = ops.size → Region.ready .any ops listed = [] → DI n ops T M0 ρ0 w0 (fun k => listed.getD k false) ρ a' w → a'.defers = a.defers → Q .normal a' w := fun listed ρ a' w hs hr D hd => by
    have all : ∀ i, i < ops.size → listed.getD i false = true := fun i => by
      induction i using Nat.strongRecOn with
      | _ i ih =>
        intro hi
        cases hl : listed.getD i false with
        | true => rfl
        | false =>
          have : i ∈ Region.ready .any ops listed := mem_ready.2 ⟨by simp [hs, hi] at hl ⊢; exact hl, _, Array.getElem?_eq_getElem hi, fun e he hb => ih e.on (honly i _ (Array.getElem?_eq_getElem hi) e he hb) (Nat.lt_trans (honly i _ (Array.getElem?_eq_getElem hi) e he hb) hi)⟩
          rw [hr] at this; cases this
    have e1 : ∀ {α β : Type} (C : Nat → α → β) (W : Nat → α → Bool) (x : α), ov C W (fun k => listed.getD k false) ops.size x = ov C W (fun _ => true) ops.size x := fun C W x => ov_congr fun i hi => by rw [all i hi]
    have e2 : ∀ j, Nw T ops.size (fun k => listed.getD k false) j ↔ Nw T ops.size (fun _ => true) j := fun j => ⟨fun ⟨k, hk, _, h⟩ => ⟨k, hk, rfl, h⟩, fun ⟨k, hk, _, h⟩ => ⟨k, hk, all k hk, h⟩⟩
    have e3 : ∀ j, Ww T ops.size (fun k => listed.getD k false) j ↔ Ww T ops.size (fun _ => true) j := fun j => ⟨fun ⟨k, hk, _, h⟩ => ⟨k, hk, rfl, h⟩, fun ⟨k, hk, _, h⟩ => ⟨k, hk, all k hk, h⟩⟩
    refine hq ρ a' w ?_ hd
    obtain ⟨d1, d2, d3, d4, d5, d6, d7, d8, d9, d10, d11, d12⟩ := D
    refine ⟨d1, fun j p h => (d2 j p h).imp_right (e2 j).1, fun j o m e => d3 j o (m.imp_right (e2 j).2) (by rw [e1]; exact e), fun j l o o' p q m1 m2 f1 f2 => d4 j l o o' p q (m1.imp_right (e2 j).2) (m2.imp_right (e2 l).2) (by rw [e1]; exact f1) (by rw [e1]; exact f2), fun j p hj hp => (d5 j p ((e2 j).2 hj) hp).imp_right fun ⟨j0, o, q, k1, k2, k3, k4, k5, k6⟩ => ⟨j0, o, q, k1, k2, (e3 j0).1 k3, k4, by rw [← e1]; exact k5, k6⟩, d6, d7, d8, d9, fun b hb hc => d10 b hb fun j o q k1 k2 k3 => hc j o q k1 k2 ((e3 j).1 k3), d11, fun t v h => d12 t v (by rw [e1]; exact h)⟩
  intro fuel
  induction fuel with
  | zero =>
    intro listed ρ a' w hs hcnt hcl D hd
    have hr : Region.ready .any ops listed = [] := by
      refine List.eq_nil_iff_forall_not_mem.2 fun i hi => ?_
      obtain ⟨h2, o, ho, _⟩ := mem_ready.1 hi
      have hlt := (Array.getElem?_eq_some_iff.1 ho).1
      have := cnt_zero (Nat.le_zero.1 hcnt) i hlt
      simp [hs, hlt] at h2 this; rw [this] at h2; cases h2
    exact ⟨hr, fin listed ρ a' w hs hr D hd⟩
  | succ fuel ih =>
    intro listed ρ a' w hs hcnt hcl D hd
    refine ⟨fun hr => fin listed ρ a' w hs hr D hd, fun i hi => ?_⟩
    obtain ⟨h2, o, ho, hall⟩ := mem_ready.1 hi
    have hlt := (Array.getElem?_eq_some_iff.1 ho).1
    have hL : listed.getD i false = false := by simp [hs, hlt] at h2 ⊢; exact h2
    have clo : ∀ k, (∀ o, ops[k]? = some o → ∀ e ∈ o.after, Region.binds .any e = true → listed.getD e.on false = true) → k < ops.size → ∀ q, ((preds ops.toList).getD k 0).testBit q = true → listed.getD q false = true := fun k => by
      induction k using Nat.strongRecOn with
      | _ k ihk =>
        intro hk hlt q hq
        obtain ⟨e, he, hb, h⟩ := preds_spec (ops := ops.toList) (i := k) (o := ops[k]) (by rw [Array.getElem?_toList]; exact Array.getElem?_eq_getElem hlt) hq
        have hle := hk _ (Array.getElem?_eq_getElem hlt) e (by simpa using he) hb
        rcases h with rfl | ⟨h1, h2⟩
        · exact hle
        · exact ihk e.on h1 (fun o' ho' => hcl e.on o' ho' hle) (Nat.lt_trans h1 hlt) q h2
    have r : Rdy ops (fun k => listed.getD k false) i := ⟨hlt, hL, fun k hk hl q hq => clo k (fun o' ho' => hcl k o' ho' hl) hk q hq, fun q hq => clo i (fun o' ho' => by rw [ho] at ho'; cases ho'; exact hall) hlt q hq⟩
    have hset : (fun k => (listed.setIfInBounds i true).getD k false) = ins (fun k => listed.getD k false) i := by
      funext k
      unfold ins
      by_cases e : k = i
      · subst e; simp [hs, hlt]
      · rw [if_neg e]; exact getD_set_ne false (fun h => e h.symm)
    have next : ∀ ρ' x w', DI n ops T M0 ρ0 w0 (ins (fun k => listed.getD k false) i) ρ' (a'.put o.dst x) w' → wpAny P .any ops Q fuel (listed.setIfInBounds i true) (a'.put o.dst x) w' := fun ρ' x w' D' => by
      refine ih _ ρ' _ w' (by simp [hs]) ?_ (fun k o' ho' hl e he hb => ?_) (by rw [hset]; exact D') (by rw [put_defers]; exact hd)
      · rw [hset]; have := (cnt_ins (L := fun k => listed.getD k false) (i := i) hL (m := ops.size)).1 hlt; omega
      · by_cases e1 : k = i
        · subst e1; rw [ho] at ho'; cases ho'; exact getD_set_true (hall e he hb)
        · rw [getD_set_ne false (fun h => e1 h.symm)] at hl; exact getD_set_true (hcl k o' ho' hl e he hb)
    have want : ∀ b, wantA ops.toList (T i).e o = some b → Region.wanted o (yielded ops a'.tmps) = b := fun b hb => wantA_ok (ρ := ρ) (fun j wt g d v hg hj hd' hv => D.look F r ho (by
      unfold lookL; rw [hg]; simp only [hj, hd']; exact List.mem_cons_self) hv) hb
    unfold wpOp
    simp only [ho]
    rcases F.stp i o ho with ⟨v, hw, hst, he⟩ | ⟨hw, he, hh, hcc, hR, hW⟩
    · rw [want _ hw]
      simp only [if_true]
      obtain ⟨_, k⟩ := stepV_ok hext hc hst
      refine .inl (k (ρ := ρ) (M := Mi ops T M0 (fun k => listed.getD k false) i) ⟨D.sz, fun t u ht => ?_⟩ (D.pre F r) fun ρ' x w' tr hx => next ρ' x w' (D.step F r ho he tr hx))
      obtain ⟨t1, t2⟩ := pickE_get ht
      exact D.look F r ho t1 t2
    · rw [want _ hw]
      simp only [Bool.false_eq_true, if_false]
      refine next ρ undef w (D.step F r ho he ?_ (VR_undef ρ))
      have := D.pre F r
      rw [hh, hcc, hR, hW] at this ⊢
      exact Tr.refl this.pre.rel
/-- nothing is done yet -/
theorem DI.init (F : TF P ext call n ops T M0 ρ0) (r0 : Rel M0 ρ0 (T 0).h w) (hw : w.heap = w0.heap) (h2 : w.os = w0.os) (h3 : w.tape = w0.tape) (h4 : w.output = w0.output) (er : ER n ρ0 (T 0).e a) : DI n ops T M0 ρ0 w0 (fun _ => false) ρ0 a w := by
  have e1 : ∀ {α β : Type} (C : Nat → α → β) (W : Nat → α → Bool) (x : α), ov C W (fun _ => false) ops.size x = C 0 x := fun C W x => ov_none fun i _ h => by cases h
  have no : ∀ j, ¬ Nw T ops.size (fun _ => false) j := fun j ⟨_, _, h, _⟩ => by cases h
  have c0 : ∀ j o, CM T 0 j = some o → (T 0).h.get j = some o := fun j o h => by unfold CM at h; split at h <;> first | exact h | cases h
  refine ⟨Ren.le.refl _, fun _ _ h => .inl h, fun j o m e => ?_, fun j l o o' p q m1 m2 f1 f2 => ?_, fun j p hj => (no j hj).elim, h2, h3, h4, by rw [hw]; exact Nat.le_refl _, fun b _ _ => by rw [hw], er.size, fun t v h => ?_⟩
  · rw [e1] at e; exact r0.at_ j o (m.resolve_right (no j)) (c0 j o e)
  · rw [e1] at f1 f2; exact r0.inj j l o o' p q (m1.resolve_right (no j)) (m2.resolve_right (no l)) (c0 j o f1) (c0 l o' f2)
  · rw [e1] at h; exact er.get t v h
/-- all is done -/
theorem DI.all (F : TF P ext call n ops T M0 ρ0) (D : DI n ops T M0 ρ0 w0 (fun _ => true) ρ a w) {s s' : HS} (hs : s.h = (T 0).h ∧ s.c = (T 0).c) (hs' : s'.h = (T ops.size).h ∧ s'.c = (T ops.size).c) (hW : ∀ j k, k < ops.size → mem j (T k).W → mem j s'.W) :
    Tr M0 ρ0 ρ s s' w0 w ∧ ∀ e, e = (T ops.size).e → (∀ i, i < ops.size → ∀ t, WE ops i t = false → CE T (i + 1) t = CE T i t) → ER n ρ e a := by
  have eM : ∀ j, ov (CM T) (WM T) (fun _ => true) ops.size j = CM T ops.size j := fun j => ov_all (fun _ _ => rfl) fun i hi h => F.keepM hi h
  have hN : ∀ j, new s s' j → Nw T ops.size (fun _ => true) j := fun j h => by
    have h1 := h.1; have h2 := h.2
    rw [hs.2] at h1; rw [hs'.2] at h2
    obtain ⟨k, hk, hn⟩ := F.whence h1 (Nat.le_refl _) h2
    exact ⟨k, hk, rfl, hn⟩
  have hN' : ∀ j, Nw T ops.size (fun _ => true) j → new s s' j := fun j ⟨k, hk, _, hn⟩ => by
    refine ⟨?_, ?_⟩
    · rw [hs.2]; exact Nat.le_trans (F.mono (Nat.zero_le _) (Nat.le_of_lt hk)) hn.1
    · rw [hs'.2]; exact Nat.lt_of_lt_of_le hn.2 (F.mono hk (Nat.le_refl _))
  have hWw : ∀ j, Ww T ops.size (fun _ => true) j → mem j s'.W := fun j ⟨k, hk, _, h⟩ => hW j k hk h
  have lt : ∀ j, (M0 j ∨ new s s' j) → j < (T ops.size).c := fun j h => h.elim (fun h => Nat.lt_of_lt_of_le (F.lt j h) (F.mono (Nat.zero_le _) (Nat.le_refl _))) fun h => by rw [← hs'.2]; exact h.2
  have cm : ∀ j o, (M0 j ∨ new s s' j) → s'.h.get j = some o → ov (CM T) (WM T) (fun _ => true) ops.size j = some o := fun j o m e => by
    rw [eM]; unfold CM; rw [if_pos (lt j m), ← hs'.1]; exact e
  refine ⟨⟨D.ext, fun j p h => (D.id j p h).imp_right (hN' j), ⟨fun j o m e => D.at_ j o (m.imp_right (hN j)) (cm j o m e), fun j l o o' p q m1 m2 f1 f2 => D.inj j l o o' p q (m1.imp_right (hN j)) (m2.imp_right (hN l)) (cm j o m1 f1) (cm l o' m2 f2)⟩, fun j p hj hp => ?_, D.os, D.tape, D.output, D.size, fun b hb hc => ?_⟩, fun e he hk => ⟨D.sz, fun t v h => ?_⟩⟩
  · rcases D.fresh j p (hN j hj) hp with h | ⟨j0, o, q, k1, k2, k3, k4, k5, k6, k7⟩
    · exact .inl h
    · refine .inr ⟨j0, o, q, k1, by rw [hs.2]; exact k2, hWw j0 k3, by rw [hs.1]; exact k4, ?_, k6, k7⟩
      rw [eM] at k5
      unfold CM at k5
      rw [if_pos (lt j0 (.inl k1))] at k5
      rw [hs'.1]; exact k5
  · exact D.block b hb fun j o q k1 k2 k3 k4 k5 => hc j o q k1 (by rw [hs.2]; exact k2) (hWw j k3) (by rw [hs.1]; exact k4) k5
  · refine D.slot t v ?_
    rw [ov_all (fun _ _ => rfl) fun i hi h => hk i hi t h]
    show (T ops.size).e.get t = some v
    rw [← he]; exact h
end
end Go.Proofs.YtaacfehlcdkdhaaGreatDoor.R
namespace Go.Proofs.YtaacfehlcdkdhaaGreatDoor.R
open Go
set_option linter.unusedVariables false
set_option linter.unusedSimpArgs false

section
variable {P : Program} {n : Nat} {ext : ExtF} {call : CallF}
theorem trace_ab {ops : Array Oper} {T : Nat → Sp} (hext : ExtOk P ext) (hc : CallOk P call) (h : ∀ i o, ops[i]? = some o → StepAt P ext call n ops.toList o (T i) (T (i + 1))) (i : Nat) (hi : i < ops.size) :
    Ab ⟨(T i).h, (T i).c, 0, 0⟩ ⟨(T (i + 1)).h, (T (i + 1)).c, (T i).R, (T i).W⟩ := by
  rcases h i _ (Array.getElem?_eq_getElem hi) with ⟨v, _, hs, _⟩ | ⟨_, _, h1, h2, h3, h4⟩
  · exact (stepV_ok (n := n) hext hc hs).1
  · rw [h1, h2, h3, h4]; exact Ab.refl _
theorem drawn_run (hext : ExtOk P ext) (hc : CallOk P call) (hm : P.follows .mixedOrders = true) {id : Nat} {ops : Array Oper} (h1 : onesOk ops.toList = true) (h2 : slotsOk ops.toList = true) {st st' : St}
    (h : runDrawn (natTab P) ext call n ops.toList ops.toList (preds ops.toList) 0 [] st = some st') : Ab st.s st'.s ∧
    ∀ {M : Nat → Prop} {ρ : Ren} {a : Act} {w : World}, ER n ρ st.env a → DR ρ st.d a.defers → Pr M ρ st.s st'.s w → ∀ {Q : Exit → Act → World → Prop}, (∀ e a' w', Post n M ρ st.s st' .normal w e a' w' → Q e a' w') → (Code.region id ops true).wp P Q a w := by
  obtain ⟨T, ⟨t1, t2, t3⟩, ⟨u1, u2, u3, u4⟩, hRW, hst, _, hdj⟩ := drawn_trace ops.toList _ 0 [] st st' h
  simp only [Nat.zero_add, Array.length_toList] at u1 u2 u3 hRW hst hdj
  have hst' : ∀ i o, ops[i]? = some o → StepAt P ext call n ops.toList o (T i) (T (i + 1)) := fun i o ho => hst i o (by rw [Array.getElem?_toList]; exact ho)
  have ab := trace_ab hext hc hst'
  have mkF : ∀ (M : Nat → Prop) (ρ : Ren), (∀ j i, i < ops.size → j < (T 0).c → mem j (T i).R → M j) → (∀ j, (T 0).c ≤ j → j < (T ops.size).c → ρ j = none) → (∀ j, M j → j < (T 0).c) → TF P ext call n ops T M ρ := fun M ρ k1 k2 k3 =>
    ⟨ab, hst', hdj, k1, k2, k3, h2⟩
  have F0 := mkF (fun j => j < (T 0).c) (fun _ => none) (fun _ _ _ h _ => h) (fun _ _ _ => rfl) (fun _ h => h)
  have memW : ∀ j k, k < ops.size → mem j (T k).W → mem j st'.s.W := fun j k hk hj => (hRW j).2.2 (.inr ⟨k, hk, hj⟩)
  refine ⟨⟨?_, fun j hj => (hRW j).1.2 (.inl hj), fun j hj => (hRW j).2.2 (.inl hj), fun j hj hn => ?_, fun j o hj e => ?_, fun j hj => ?_, fun hw j hj => ?_⟩, fun {M ρ a w} r d p Q q => ?_⟩
  · rw [← t3, ← u3]; exact F0.mono (Nat.zero_le _) (Nat.le_refl _)
  · have e : ov (CM T) (WM T) (fun _ => true) ops.size j = CM T 0 j := ov_none fun i hi _ => wmF fun h => hn (memW j i hi h)
    rw [ov_all (fun _ _ => rfl) fun i hi h => F0.keepM hi h] at e
    unfold CM at e
    rw [if_pos (Nat.lt_of_lt_of_le (by rw [t3]; exact hj) (F0.mono (Nat.zero_le _) (Nat.le_refl _))), if_pos (by rw [t3]; exact hj), u2, t2] at e
    exact e
  · have := F0.live0 (j := j) (by rw [t3]; exact hj) (i := ops.size) (o := o) (Nat.le_refl _) (by unfold CM; rw [if_pos (Nat.lt_of_lt_of_le (by rw [t3]; exact hj) (F0.mono (Nat.zero_le _) (Nat.le_refl _))), u2]; exact e)
    rw [t2] at this; exact this
  · obtain ⟨k, hk, hn⟩ := F0.whence (j := j) (by rw [t3]; exact hj.1) (Nat.le_refl _) (by rw [u3]; exact hj.2)
    exact memW j k hk (F0.nwW hk hn)
  · rcases (hRW j).2.1 hj with h | ⟨k, hk, h⟩
    · exact (hRW j).1.2 (.inl (hw j h))
    · exact (hRW j).1.2 (.inr ⟨k, hk, F0.WR hk h⟩)
  · have F := mkF M ρ (fun j i hi h1 h2 => p.pre.cov j (by rw [← t3]; exact h1) ((hRW j).1.2 (.inr ⟨i, hi, h2⟩))) (fun j h1 h2 => p.pre.fre j ⟨by rw [← t3]; exact h1, by rw [← u3]; exact h2⟩) (fun j hj => by rw [t3]; exact p.lt j hj)
    have D0 := DI.init (w0 := w) (w := { w with drawn := w.drawn + 1 }) (a := a) F (by rw [t2]; exact p.pre.rel.same rfl) rfl rfl rfl rfl (by rw [t1]; exact r)
    have e0 : (fun k => (Array.replicate ops.size false).getD k false) = fun _ => false := by
      funext k
      by_cases hk : k < ops.size
      · simp [hk]
      · simp [Array.getElem?_replicate, hk]
    refine wp_region_any hm (drawn_ok hext hc h1 F (a := a) (fun ρ' a' w' D hd => ?_) ops.size _ ρ a _ (by simp) ?_ (fun k o ho hl => ?_) (by rw [e0]; exact D0) rfl)
    · obtain ⟨tr, he⟩ := DI.all F D (s := st.s) (s' := st'.s) ⟨t2.symm, t3.symm⟩ ⟨u2.symm, u3.symm⟩ memW
      refine q _ _ _ ⟨ρ', tr, he _ u1.symm fun i hi t ht => ?_, by rw [hd, u4]; exact d.mono tr.ext, trivial⟩
      have ho := Array.getElem?_eq_getElem hi
      have key : ∀ v, putA n (T i).e ops[i].dst v = some (T (i + 1)).e → CE T (i + 1) t = CE T i t := fun v e => by
        unfold putA at e
        split at e
        · have h1 := Option.some.inj e; show (T (i + 1)).e.get t = (T i).e.get t; rw [h1]
        · rename_i dd hd
          cases hb : Nat.blt dd n with
          | false => rw [hb] at e; cases e
          | true =>
            rw [hb] at e
            show (T (i + 1)).e.get t = _
            rw [Tri.get_put e, if_neg]; · rfl
            intro e1; subst e1
            unfold WE at ht
            rw [ho] at ht
            simp only [hd] at ht
            have : mem t (maskD (some t)) := mem_maskD.2 rfl
            unfold mem at this; rw [ht] at this; cases this
      rcases hst' i _ ho with ⟨v, _, _, e⟩ | ⟨_, e, _⟩
      · exact key _ e
      · exact key _ e
    · rw [e0]
      have : ∀ m, cnt (fun _ => false) m = m := fun m => by induction m with | zero => rfl | succ m ih => simp [cnt, ih]
      rw [this]; exact Nat.le_refl _
    · rw [congrFun e0 k] at hl; cases hl

theorem runC_ok (hext : ExtOk P ext) (hc : CallOk P call) (hm : P.follows .mixedOrders = true) : ∀ f : Nat, (∀ (c : Code) (st : St) (ex : Ex) (st' : St), runC (natTab P) ext call n f c st = some (ex, st') → Ab st.s st'.s ∧
    ∀ {M : Nat → Prop} {ρ : Ren} {a : Act} {w : World}, ER n ρ st.env a → DR ρ st.d a.defers → Pr M ρ st.s st'.s w → ∀ {Q : Exit → Act → World → Prop}, (∀ e a' w', Post n M ρ st.s st' ex w e a' w' → Q e a' w') → c.wp P Q a w) ∧
    (∀ (c : Code) (st : St) (ex : Ex) (st' : St), runC (natTab P) ext call n f (.loop c) st = some (ex, st') → Ab st.s st'.s ∧
    ∀ {M : Nat → Prop} {ρ : Ren} {a : Act} {w : World}, ER n ρ st.env a → DR ρ st.d a.defers → Pr M ρ st.s st'.s w → ∀ {Q : Exit → Act → World → Prop}, (∀ e a' w', Post n M ρ st.s st' ex w e a' w' → Q e a' w') → Code.rounds P c Q f a w)
  | 0 => ⟨fun c st ex st' h => (by cases h), fun c st ex st' h => (by cases h)⟩
  | f + 1 => by
    obtain ⟨ih, ihl⟩ := runC_ok hext hc hm f
    have loop : ∀ (c : Code) (st : St) (ex : Ex) (st' : St), runC (natTab P) ext call n (f + 1) (.loop c) st = some (ex, st') → Ab st.s st'.s ∧
        ∀ {M : Nat → Prop} {ρ : Ren} {a : Act} {w : World}, ER n ρ st.env a → DR ρ st.d a.defers → Pr M ρ st.s st'.s w → ∀ {Q : Exit → Act → World → Prop}, (∀ e a' w', Post n M ρ st.s st' ex w e a' w' → Q e a' w') → Code.rounds P c Q (f + 1) a w := fun c st ex st' h => by
      change (match runC (natTab P) ext call n f c st with
        | some (.normal, st') => runC (natTab P) ext call n f (.loop c) st'
        | r => r) = some (ex, st') at h
      split at h
      · rename_i st1 h1
        obtain ⟨ab, k1⟩ := ih c st _ _ h1
        obtain ⟨bc, k2⟩ := ihl c st1 _ _ h
        refine ⟨ab.trans bc, fun {M ρ a w} r d p Q q => ?_⟩
        rw [rounds_succ]
        refine k1 r d (p.first bc) fun e a1 w1 hp => ?_
        obtain ⟨ρ1, t1, r1, d1, x1⟩ := hp
        cases e <;> first | exact x1.elim | exact k2 r1 d1 (p.next ab t1) fun e a2 w2 h => q _ _ _ (h.trans ab bc t1)
      · rename_i hn
        obtain ⟨ab, k1⟩ := ih c st _ _ h
        refine ⟨ab, fun {M ρ a w} r d p Q q => ?_⟩
        rw [rounds_succ]
        refine k1 r d p fun e a1 w1 hp => ?_
        have hq := q e a1 w1 hp
        obtain ⟨ρ1, t1, r1, d1, x1⟩ := hp
        cases e <;> first | exact hq | (cases ex <;> first | exact absurd h (hn _) | exact x1.elim)
    refine ⟨fun c st ex st' h => ?_, loop⟩
    cases c with
    | skip => cases h; exact ⟨Ab.refl _, fun r d p Q q => wp_skip (q _ _ _ ⟨_, Tr.refl p.pre.rel, r, d, trivial⟩)⟩
    | label l => cases h; exact ⟨Ab.refl _, fun r d p Q q => wp_label (q _ _ _ ⟨_, Tr.refl p.pre.rel, r, d, trivial⟩)⟩
    | exit id => cases h; exact ⟨Ab.refl _, fun r d p Q q => wp_exit (q _ _ _ ⟨_, Tr.refl p.pre.rel, r, d, rfl⟩)⟩
    | ret => cases h; exact ⟨Ab.refl _, fun r d p Q q => wp_ret (q _ _ _ ⟨_, Tr.refl p.pre.rel, r, d, trivial⟩)⟩
    | region id ops draw =>
      cases draw with
      | false =>
        change runOps (natTab P) ext call n ops.toList ops.toList st = some (ex, st') at h
        obtain ⟨ab, k⟩ := runOps_ok hext hc ops.toList 0 st ex st' (by simp) h
        refine ⟨ab, fun r d p Q q => wp_region ?_⟩
        rw [List.range_eq_range']
        exact k r d p q
      | true =>
        change (bif onesOk ops.toList && slotsOk ops.toList then (match runDrawn (natTab P) ext call n ops.toList ops.toList (preds ops.toList) 0 [] st with | some st' => some (.normal, st') | none => none) else none) = some (ex, st') at h
        cases hb : onesOk ops.toList && slotsOk ops.toList with
        | false => rw [hb] at h; cases h
        | true =>
          rw [hb] at h
          simp only [cond_true] at h
          simp only [Bool.and_eq_true] at hb
          split at h
          · rename_i st1 h1; cases h
            exact drawn_run hext hc hm hb.1 hb.2 h1
          · cases h
    | seq x y =>
      change (match runC (natTab P) ext call n f x st with
        | some (.normal, st') => runC (natTab P) ext call n f y st'
        | r => r) = some (ex, st') at h
      split at h
      · rename_i st1 h1
        obtain ⟨ab, k1⟩ := ih x st _ _ h1
        obtain ⟨bc, k2⟩ := ih y st1 _ _ h
        refine ⟨ab.trans bc, fun {M ρ a w} r d p Q q => wp_seq ?_⟩
        refine k1 r d (p.first bc) fun e a1 w1 hp => ?_
        obtain ⟨ρ1, t1, r1, d1, x1⟩ := hp
        cases e <;> first | exact x1.elim | exact k2 r1 d1 (p.next ab t1) fun e a2 w2 h => q _ _ _ (h.trans ab bc t1)
      · rename_i hn
        obtain ⟨ab, k1⟩ := ih x st _ _ h
        refine ⟨ab, fun {M ρ a w} r d p Q q => wp_seq ?_⟩
        refine k1 r d p fun e a1 w1 hp => ?_
        have hq := q e a1 w1 hp
        obtain ⟨ρ1, t1, r1, d1, x1⟩ := hp
        cases e <;> first | exact hq | (cases ex <;> first | exact absurd h (hn _) | exact x1.elim)
    | cond x y z =>
      change (match evA st.env x with
        | some (.sc (.bool true)) => runC (natTab P) ext call n f y st
        | some (.sc (.bool false)) => runC (natTab P) ext call n f z st
        | _ => none) = some (ex, st') at h
      split at h
      · rename_i hx
        obtain ⟨ab, k1⟩ := ih y st _ _ h
        exact ⟨ab, fun {M ρ a w} r d p Q q => wp_cond_true (r.ev hx) (k1 r d p q)⟩
      · rename_i hx
        obtain ⟨ab, k1⟩ := ih z st _ _ h
        exact ⟨ab, fun {M ρ a w} r d p Q q => wp_cond_false (r.ev hx) (k1 r d p q)⟩
      · cases h
    | block id x =>
      change (match runC (natTab P) ext call n f x st with
        | some (.exit j, st') => bif Nat.beq j id then some (.normal, st') else some (.exit j, st')
        | r => r) = some (ex, st') at h
      split at h
      · rename_i j st1 h1
        obtain ⟨ab, k1⟩ := ih x st _ _ h1
        cases hb : Nat.beq j id with
        | true =>
          rw [hb] at h; cases h
          have hj := Nat.eq_of_beq_eq_true hb
          refine ⟨ab, fun {M ρ a w} r d p Q q => wp_block (k1 r d p fun e a1 w1 hp => ?_)⟩
          obtain ⟨ρ1, t1, r1, d1, x1⟩ := hp
          cases e <;> first | exact x1.elim | skip
          rename_i l
          have hl : j = l := x1
          subst hl; subst hj
          simp only [Exit.inBlock, if_true]
          exact q _ _ _ ⟨ρ1, t1, r1, d1, trivial⟩
        | false =>
          rw [hb] at h; cases h
          have hj : j ≠ id := fun e => by subst e; rw [show Nat.beq j j = true from Nat.beq_refl j] at hb; cases hb
          refine ⟨ab, fun {M ρ a w} r d p Q q => wp_block (k1 r d p fun e a1 w1 hp => ?_)⟩
          have hq := q e a1 w1 hp
          obtain ⟨ρ1, t1, r1, d1, x1⟩ := hp
          cases e <;> first | exact x1.elim | skip
          rename_i l
          have hl : j = l := x1
          subst hl
          simp only [Exit.inBlock, if_neg hj]
          exact hq
      · rename_i hn
        obtain ⟨ab, k1⟩ := ih x st _ _ h
        refine ⟨ab, fun {M ρ a w} r d p Q q => wp_block (k1 r d p fun e a1 w1 hp => ?_)⟩
        have hq := q e a1 w1 hp
        obtain ⟨ρ1, t1, r1, d1, x1⟩ := hp
        cases e <;> first | exact hq | (cases ex <;> first | exact absurd h (hn _ _) | exact x1.elim)
    | loop x =>
      obtain ⟨ab, k⟩ := loop x st ex st' h
      exact ⟨ab, fun r d p Q q => wp_loop_rounds (f + 1) (k r d p q)⟩
    | scope x =>
      obtain ⟨ab, k⟩ := ih x st ex st' h
      refine ⟨ab, fun {M ρ a w} r d p Q q => wp_scope_straight (k r d p fun e a1 w1 hp => ?_)⟩
      have hq := q e a1 w1 hp
      obtain ⟨ρ1, t1, r1, d1, x1⟩ := hp
      cases e <;> first | exact hq | (cases ex <;> exact x1.elim)
    | _ => cases h

/-! what is given back -/
theorem resV_ok {env : Tri AV} {s s' : HS} {x : ResultVar} {v : AV} (h : resV (natTab P) env s x = some (v, s')) : Ab s s' ∧ s'.h = s.h ∧ s'.c = s.c ∧
    ∀ {M : Nat → Prop} {ρ : Ren} {a : Act} {w : World}, ER n ρ env a → Pre M ρ s s' w → ∃ y, V.RV P w a x y ∧ VR ρ v y := by
  unfold resV at h
  split at h
  · rename_i t
    split at h
    · rename_i u hu; cases h
      exact ⟨Ab.refl _, rfl, rfl, fun r p => ⟨_, rfl, r.get _ _ hu⟩⟩
    · cases h
  · rename_i x t
    split at h
    · rename_i i k hx
      split at h
      · rename_i ob s1 hr
        split at h
        · rename_i cs hcs
          split at h
          · rename_i u hu; cases h
            obtain ⟨ab, hh, hcc, hg, hi, hm, hrd⟩ := readB_ok hr
            refine ⟨ab, hh, hcc, fun {M ρ a w} r p => ?_⟩
            obtain ⟨q, y, hq, hy, hor⟩ := hrd p.rel (p.cov i hi hm)
            obtain ⟨a', ty, l0, l1, l2, rfl, ha, h0, hl, _⟩ := rowC_ok hcs hor
            obtain ⟨z, hz, hv⟩ := load_ok hu hl ha hy
            obtain ⟨q', hq', he⟩ := r.get _ _ hx
            rw [hq] at hq'; cases hq'
            rw [h0] at hz
            exact ⟨z, ⟨_, he, hz⟩, hv⟩
          · cases h
        · cases h
      · cases h
    · cases h
theorem resVs_ok {env : Tri AV} : ∀ {l : List ResultVar} {s s' : HS} {vs : List AV}, resVs (natTab P) env l s = some (vs, s') → Ab s s' ∧ s'.h = s.h ∧ s'.c = s.c ∧
    ∀ {M : Nat → Prop} {ρ : Ren} {a : Act} {w : World}, ER n ρ env a → Pre M ρ s s' w → ∃ ys, V.RVs P w a l ys ∧ VRL ρ vs ys
  | [], s, s', vs, h => by cases h; exact ⟨Ab.refl _, rfl, rfl, fun r p => ⟨[], trivial, rfl⟩⟩
  | x :: l, s, s', vs, h => by
    simp only [resVs] at h
    split at h
    · rename_i v s1 hv
      split at h
      · rename_i us s2 hus; cases h
        obtain ⟨ab, h1, h2, k1⟩ := resV_ok (n := n) hv
        obtain ⟨bc, h3, h4, k2⟩ := resVs_ok hus
        refine ⟨ab.trans bc, h3.trans h1, h4.trans h2, fun {M ρ a w} r p => ?_⟩
        obtain ⟨y, e1, e2⟩ := k1 r ⟨p.rel, fun i hi h => p.cov i hi (bc.R i h), fun i h => by have := h.1; have := h.2; omega⟩
        obtain ⟨ys, e3, e4⟩ := k2 r (M := M) (ρ := ρ) (a := a) (w := w) ⟨by rw [h1]; exact p.rel, fun i hi h => p.cov i (by rw [← h2]; exact hi) h, fun i h => by have := h.1; have := h.2; omega⟩
        exact ⟨y :: ys, ⟨e1, e3⟩, y, ys, rfl, e2, e4⟩
      · cases h
    · cases h
theorem VR_out {ρ : Ren} : ∀ {vs : List AV} {ys : List Value}, VRL ρ vs ys → VR ρ (outA vs) (V.outOf ys)
  | [], _, e => by cases e; exact ⟨_, rfl, rfl⟩
  | [v], _, ⟨y, ys, e, h, k⟩ => by cases k; subst e; exact h
  | _ :: _ :: _, _, ⟨y, ys, e, h, k⟩ => by
    obtain ⟨z, zs, e1, k1, k2⟩ := k
    subst e1; subst e
    exact ⟨_, rfl, ⟨y, _, rfl, h, z, zs, rfl, k1, k2⟩⟩
end
end Go.Proofs.YtaacfehlcdkdhaaGreatDoor.R
namespace Go.Proofs.YtaacfehlcdkdhaaGreatDoor.R
open Go
set_option linter.unusedVariables false
set_option linter.unusedSimpArgs false
open V (callOk callOk_spec)

def MdR (ρ : Ren) : Md → FrameMode → Prop
  | .ret, u => u = .returning
  | .pan v, u => ∃ x, VR ρ v x ∧ u = .panicking [{ v := x, recovered := false }]
  | .took v, u => ∃ x, VR ρ v x ∧ u = .panicking [{ v := x, recovered := true }]
theorem MdR.mono {ρ ρ' : Ren} (h : ρ.le ρ') : ∀ {m : Md} {u : FrameMode}, MdR ρ m u → MdR ρ' m u
  | .ret, _, e => e
  | .pan _, _, ⟨x, k, e⟩ => ⟨x, VR.mono h _ _ k, e⟩
  | .took _, _, ⟨x, k, e⟩ => ⟨x, VR.mono h _ _ k, e⟩
theorem MdR.settle {ρ : Ren} : ∀ {m : Md} {u : FrameMode}, MdR ρ m u → MdR ρ (settleM m) (Go.settle u)
  | .ret, _, e => by cases e; rfl
  | .pan _, _, ⟨x, k, e⟩ => by cases e; exact ⟨x, k, rfl⟩
  | .took _, _, ⟨x, k, e⟩ => by cases e; rfl
theorem MdR.ne {ρ : Ren} : ∀ {m : Md} {u : FrameMode}, MdR ρ m u → u ≠ .run
  | .ret, _, e => by cases e; intro h; cases h
  | .pan _, _, ⟨x, k, e⟩ => by cases e; intro h; cases h
  | .took _, _, ⟨x, k, e⟩ => by cases e; intro h; cases h
theorem env0_get : ∀ (l : List AV) (i : Nat) (e e' : Tri AV), env0 l i e = some e' → ∀ t, e'.get t = if i ≤ t ∧ t < i + l.length then l[t - i]? else e.get t
  | [], i, e, e', h, t => by
    cases h; rw [if_neg (by simp only [List.length_nil]; omega)]
  | v :: l, i, e, e', h, t => by
    simp only [env0] at h
    split at h
    · rename_i e1 h1
      rw [env0_get l _ e1 e' h t, Tri.get_put h1]
      simp only [List.length_cons, Nat.succ_eq_add_one]
      by_cases ht : t = i
      · subst ht; rw [if_neg (by omega), if_pos rfl, if_pos (by omega), Nat.sub_self]; rfl
      · rw [if_neg ht]
        by_cases hr : i + 1 ≤ t ∧ t < i + 1 + l.length
        · rw [if_pos hr, if_pos (by omega), show t - i = (t - (i + 1)) + 1 by omega]; rfl
        · rw [if_neg hr, if_neg (by omega)]
    · cases h
section
variable {P : Program} {n : Nat} {ext : ExtF} {call : CallF}
theorem env0_ok {ρ : Ren} {args : List AV} {xs : Array Value} {e : Tri AV} {m : Nat} (h : env0 args 0 .nil = some e) (hx : VRL ρ args xs.toList) (hm : args.length ≤ m) :
    ER m ρ e { tmps := xs ++ Array.replicate (m - xs.size) undef, defers := [] } := by
  have hl := hx.len
  simp only [Array.length_toList] at hl
  refine ⟨by simp; omega, fun t v ht => ?_⟩
  rw [env0_get args 0 .nil e h t] at ht
  split at ht
  · rename_i hr
    obtain ⟨y, hy, hv⟩ := hx.get ht
    have : xs[t]? = some y := by rw [← Array.getElem?_toList]; exact hy
    have hlt : t < xs.size := (Array.getElem?_eq_some_iff.1 this).1
    simp only [Array.getD_eq_getD_getElem?]
    rw [Array.getElem?_append_left hlt, this]; exact hv
  · cases ht
theorem runOpsS_ok (hext : ExtOk P ext) (hc : CallOk P call) {ops : Array Oper} : ∀ (l : List Oper) (k : Nat) (m : Md) (st : St) (m' : Md) (st' : St), ops.toList.drop k = l → runOpsS (natTab P) ext call n ops.toList l m st = some (m', st') → Ab st.s st'.s ∧
    ∀ {M : Nat → Prop} {ρ : Ren} {a : Act} {w : World} {u : FrameMode} {c₀ : Frame} {cs : List Frame}, ER n ρ st.env a → DR ρ st.d a.defers → Pr M ρ st.s st'.s w → MdR ρ m u → ∀ {Q : Exit → Act → List Frame → World → Prop},
      (∀ ρ' a' w' u', Tr M ρ ρ' st.s st'.s w w' → ER n ρ' st'.env a' → DR ρ' st'.d a'.defers → MdR ρ' m' u' → Q .normal a' ({ c₀ with mode := u' } :: cs) w') → wpOpsS P ops Q (List.range' k l.length) a ({ c₀ with mode := u } :: cs) w
  | [], k, m, st, m', st', hl, h => by
    cases h
    exact ⟨Ab.refl _, fun {M ρ a w u c₀ cs} r d p hu Q q => q ρ a w u (Tr.refl p.pre.rel) r d hu⟩
  | o :: l, k, m, st, m', st', hl, h => by
    have ho : ops[k]? = some o := by
      rw [← Array.getElem?_toList]
      have := congrArg (fun l => l[0]?) hl
      simpa [List.getElem?_drop] using this
    have hl' : ops.toList.drop (k + 1) = l := by
      have := congrArg (fun l => l.drop 1) hl
      simpa [List.drop_drop, Nat.add_comm] using this
    unfold runOpsS at h
    split at h
    · rename_i hw
      split at h
      · rename_i s1 hx
        rcases xop_ok (n := n) hext hx with ⟨u, hu, _⟩ | ⟨_, _, kq⟩
        · cases hu
        have other : ∀ m0, m0 = m → (∀ v, m0 ≠ .pan v) → (match putA n st.env o.dst (.sc .nilIface) with | some e => runOpsS (natTab P) ext call n ops.toList l m0 ⟨e, st.s, st.d⟩ | none => none) = some (m', st') → Ab st.s st'.s ∧
            ∀ {M : Nat → Prop} {ρ : Ren} {a : Act} {w : World} {u : FrameMode} {c₀ : Frame} {cs : List Frame}, ER n ρ st.env a → DR ρ st.d a.defers → Pr M ρ st.s st'.s w → MdR ρ m u → ∀ {Q : Exit → Act → List Frame → World → Prop},
              (∀ ρ' a' w' u', Tr M ρ ρ' st.s st'.s w w' → ER n ρ' st'.env a' → DR ρ' st'.d a'.defers → MdR ρ' m' u' → Q .normal a' ({ c₀ with mode := u' } :: cs) w') → wpOpsS P ops Q (List.range' k (o :: l).length) a ({ c₀ with mode := u } :: cs) w := fun m0 hm0 hnp h => by
          cases hm0
          split at h
          · rename_i e he
            obtain ⟨ab, k2⟩ := runOpsS_ok hext hc l (k + 1) _ _ _ _ hl' h
            refine ⟨ab, fun {M ρ a w u c₀ cs} r d p hu Q q => ?_⟩
            rw [List.length_cons, List.range'_succ]
            have hrun := kq w r
            simp only [Asks] at hrun
            have hrec : recoverD ({ c₀ with mode := u } :: cs) = none := by
              cases m with
              | ret => cases hu; rfl
              | pan v => exact absurd rfl (hnp v)
              | took v => obtain ⟨x, _, rfl⟩ := hu; rfl
            simp only [wpOpsS, ho, wantA_ok' r hw, if_true, hrun, hrec]
            exact k2 (r.put he rfl) (by rw [put_defers]; exact d) p hu q
          · cases h
        cases m with
        | pan v =>
          change (match putA n st.env o.dst v with | some e => runOpsS (natTab P) ext call n ops.toList l (.took v) ⟨e, st.s, st.d⟩ | none => none) = some (m', st') at h
          split at h
          · rename_i e he
            obtain ⟨ab, k2⟩ := runOpsS_ok hext hc l (k + 1) _ _ _ _ hl' h
            refine ⟨ab, fun {M ρ a w u c₀ cs} r d p hu Q q => ?_⟩
            rw [List.length_cons, List.range'_succ]
            have hrun := kq w r
            simp only [Asks] at hrun
            obtain ⟨x, hv, rfl⟩ := hu
            have hrec : recoverD ({ c₀ with mode := .panicking [{ v := x, recovered := false }] } :: cs) = some (x, { c₀ with mode := .panicking [{ v := x, recovered := true }] } :: cs) := rfl
            simp only [wpOpsS, ho, wantA_ok' r hw, if_true, hrun, hrec]
            exact k2 (r.put he hv) (by rw [put_defers]; exact d) p ⟨x, hv, rfl⟩ q
          · cases h
        | ret => exact other .ret rfl (fun v e => by cases e) h
        | took v => exact other (.took v) rfl (fun v e => by cases e) h
      · split at h
        · rename_i st1 hs
          obtain ⟨ab, k1⟩ := stepO_ok hext hc hs
          obtain ⟨bc, k2⟩ := runOpsS_ok hext hc l (k + 1) _ _ _ _ hl' h
          refine ⟨ab.trans bc, fun {M ρ a w u c₀ cs} r d p hu Q q => ?_⟩
          rw [List.length_cons, List.range'_succ]
          simp only [wpOpsS, ho, wantA_ok' r hw, if_true]
          have hwp := k1 (K := fun a' w' => wpOpsS P ops Q (List.range' (k + 1) l.length) a' ({ c₀ with mode := u } :: cs) w') (Q := fun e a' w' => Q e a' ({ c₀ with mode := u } :: cs) w') r d (p.first bc)
            (fun _ ρ1 a1 w1 t1 r1 d1 => k2 r1 d1 (p.next ab t1) (hu.mono t1.ext) fun ρ2 a2 w2 u2 t2 => q ρ2 a2 w2 u2 (t1.trans ab bc t2)) (fun v hv => by cases hv)
          unfold Oper.wp at hwp
          generalize (execOp a.eval o).run P w = rr at hwp ⊢
          cases rr with
          | ok nx w' => cases nx <;> first | exact hwp | exact hwp.elim
          | halt x w' => exact hwp
        · cases h
    · rename_i hw
      split at h
      · rename_i e he
        obtain ⟨ab, k2⟩ := runOpsS_ok hext hc l (k + 1) _ _ _ _ hl' h
        refine ⟨ab, fun {M ρ a w u c₀ cs} r d p hu Q q => ?_⟩
        rw [List.length_cons, List.range'_succ]
        simp only [wpOpsS, ho, wantA_ok' r hw, Bool.false_eq_true, if_false]
        exact k2 (r.put he (VR_undef ρ)) (by rw [put_defers]; exact d) p hu q
      · cases h
    · cases h
theorem runS_ok (hext : ExtOk P ext) (hc : CallOk P call) : ∀ (f : Nat) (c : Code) (m : Md) (st : St) (m' : Md) (st' : St), runS (natTab P) ext call n f c m st = some (m', st') → Ab st.s st'.s ∧
    ∀ {M : Nat → Prop} {ρ : Ren} {a : Act} {w : World} {u : FrameMode} {c₀ : Frame} {cs : List Frame}, ER n ρ st.env a → DR ρ st.d a.defers → Pr M ρ st.s st'.s w → MdR ρ m u → ∀ {Q : Exit → Act → List Frame → World → Prop},
      (∀ ρ' a' w' u', Tr M ρ ρ' st.s st'.s w w' → ER n ρ' st'.env a' → DR ρ' st'.d a'.defers → MdR ρ' m' u' → Q .normal a' ({ c₀ with mode := u' } :: cs) w') → c.wpS P Q a ({ c₀ with mode := u } :: cs) w
  | 0, c, m, st, m', st', h => by cases h
  | f + 1, c, m, st, m', st', h => by
    unfold runS at h
    split at h
    · cases h
      exact ⟨Ab.refl _, fun r d p hu Q q => wpS_of_wp (wp_skip (q _ _ _ _ (Tr.refl p.pre.rel) r d hu))⟩
    · rename_i id ops
      obtain ⟨ab, k⟩ := runOpsS_ok hext hc ops.toList 0 m st m' st' (by simp) h
      refine ⟨ab, fun r d p hu Q q => wpS_region ?_⟩
      rw [List.range_eq_range']
      exact k r d p hu q
    · rename_i x y
      split at h
      · rename_i m1 st1 h1
        obtain ⟨ab, k1⟩ := runS_ok hext hc f x _ _ _ _ h1
        obtain ⟨bc, k2⟩ := runS_ok hext hc f y _ _ _ _ h
        exact ⟨ab.trans bc, fun r d p hu Q q => wpS_seq (k1 r d (p.first bc) hu fun ρ1 a1 w1 u1 t1 r1 d1 hu1 => k2 r1 d1 (p.next ab t1) hu1 fun ρ2 a2 w2 u2 t2 => q ρ2 a2 w2 u2 (t1.trans ab bc t2))⟩
      · cases h
    · rename_i x y z
      split at h
      · rename_i hx
        obtain ⟨ab, k1⟩ := runS_ok hext hc f y _ _ _ _ h
        exact ⟨ab, fun r d p hu Q q => wpS_cond (t := true) (r.ev hx) (k1 r d p hu q)⟩
      · rename_i hx
        obtain ⟨ab, k1⟩ := runS_ok hext hc f z _ _ _ _ h
        exact ⟨ab, fun r d p hu Q q => wpS_cond (t := false) (r.ev hx) (k1 r d p hu q)⟩
      · cases h
    · cases h
theorem callD_ok (hext : ExtOk P ext) (hc : CallOk P call) {d : Df} {m m' : Md} {s s' : HS} (h : callD (natTab P) ext call d m s = some (m', s')) : callOk P d.f = true ∧ Ab s s' ∧
    ∀ {M : Nat → Prop} {ρ : Ren} {w : World} {xs : Array Value} {u : FrameMode}, VRL ρ d.args xs.toList → Pr M ρ s s' w → MdR ρ m u →
      CallsD P d.f xs u w fun e u' w' => ∃ v, e = .returned v ∧ ∃ ρ', Tr M ρ ρ' s s' w w' ∧ MdR ρ' m' u' := by
  unfold callD at h
  try simp only [nat_f, nat_call] at h
  split at h
  · rename_i fn hf
    split at h
    · rename_i c hb
      split at h
      · rename_i e he
        cases hg : callOk P d.f && Nat.ble d.args.length fn.ntmps && fn.results.isEmpty with
        | false => rw [hg] at h; cases h
        | true =>
          rw [hg] at h
          simp only [cond_true] at h
          simp only [Bool.and_eq_true] at hg
          obtain ⟨⟨g1, g2⟩, g3⟩ := hg
          split at h
          · rename_i m1 st1 hr
            split at h
            · rename_i hd; cases h
              obtain ⟨ab, k⟩ := runS_ok hext hc 1000 c _ _ _ _ hr
              refine ⟨g1, ab, fun {M ρ w xs u} hxs p hu => callsD_of_wpS hf hb fun c₀ cs hc0 => ?_⟩
              have e0 : c₀ = { c₀ with mode := u } := by subst hc0; rfl
              rw [e0]
              refine k (env0_ok he hxs (Nat.le_of_ble_eq_true g2)) rfl p hu fun ρ' a' w' u' t1 r1 d1 hu1 => ?_
              rw [hd] at d1
              refine ⟨d1, u', rfl, _, V.run_results (vs := []) ?_, _, rfl, ρ', t1, hu1⟩
              rw [show fn.results.toList = [] by simpa using g3]; trivial
            · cases h
          · cases h
      · cases h
    · cases h
  · cases h
theorem leave_ok (hext : ExtOk P ext) (hc : CallOk P call) {fn : Func} {tmps : Array Value} {R : Ending → World → Prop} : ∀ (ds : List Df) (m : Md) (s : HS) (m' : Md) (s' : HS), leave (natTab P) ext call ds m s = some (m', s') → Ab s s' ∧
    ∀ {M : Nat → Prop} {ρ : Ren} {w : World} {xs : List Deferred} {u : FrameMode}, DR ρ ds xs → MdR ρ m u → Pr M ρ s s' w →
      (∀ ρ' w' u', Tr M ρ ρ' s s' w w' → MdR ρ' m' u' → Leaves P fn tmps R [] u' w') → Leaves P fn tmps R xs u w
  | [], m, s, m', s', h => by
    cases h
    exact ⟨Ab.refl _, fun {M ρ w xs u} hd hu p q => by cases hd; exact q ρ w u (Tr.refl p.pre.rel) hu⟩
  | d :: ds, m, s, m', s', h => by
    simp only [leave] at h
    split at h
    · rename_i m1 s1 h1
      obtain ⟨g1, ab, k1⟩ := callD_ok hext hc h1
      obtain ⟨bc, k2⟩ := leave_ok hext hc ds _ _ _ _ h
      refine ⟨ab.trans bc, fun {M ρ w xs u} hd hu p q => ?_⟩
      obtain ⟨x, xs', rfl, ⟨cap, ht, hv⟩, hd'⟩ := hd
      obtain ⟨tg, ar⟩ := x
      simp only at ht hv
      subst ht
      refine leaves_cons hu.ne (f := d.f) (args := ar ++ cap) ?_ (CallsD.mono (k1 hv (p.first bc) hu) fun e u' w' he => ?_)
      · simp [invoke, callFunc_run g1]
      · obtain ⟨v, rfl, ρ1, t1, hu1⟩ := he
        exact k2 (hd'.mono t1.ext) hu1.settle (p.next ab t1) fun ρ2 w2 u2 t2 hu2 => q ρ2 w2 u2 (t1.trans ab bc t2) hu2
    · cases h
theorem fin_ok (hext : ExtOk P ext) (hc : CallOk P call) {fn : Func} {m : Md} {st : St} {r : Sum AV AV} {s' : HS} (h : fin (natTab P) ext call fn m st = some (r, s')) : Ab st.s s' ∧
    ∀ {M N : Nat → Prop} {ρ0 ρ : Ren} {a : Act} {w0 w : World} {u : FrameMode} {s0 : HS}, ER n ρ st.env a → DR ρ st.d a.defers → MdR ρ m u → Pr M ρ st.s s' w → (∀ ρ' w', Tr M ρ ρ' st.s s' w w' → Tr N ρ0 ρ' s0 s' w0 w') → Leaves P fn a.tmps (EndR N ρ0 s0 s' w0 r) a.defers u w := by
  unfold fin at h
  split at h
  · rename_i s1 hl
    split at h
    · rename_i vs s2 hr; cases h
      obtain ⟨bc, hh, hcc, k2⟩ := resVs_ok (n := n) hr
      refine ⟨Ab.trans ((leave_ok (fn := fn) (tmps := #[]) (R := fun _ _ => True) hext hc st.d m st.s _ _ hl).1) bc, fun {M N ρ0 ρ a w0 w u s0} re d hu p q => ?_⟩
      obtain ⟨ab, k1⟩ := leave_ok (fn := fn) (tmps := a.tmps) (R := EndR N ρ0 s0 s' w0 (.inl (outA vs))) hext hc st.d m st.s _ _ hl
      refine k1 d hu (p.first bc) fun ρ1 w1 u1 t1 hu1 => ?_
      cases hu1
      have p1 := p.next ab t1
      obtain ⟨ys, e1, e2⟩ := k2 (re.mono t1.ext) p1.pre
      have t2 : Tr (fun i => M i ∨ new st.s s1 i) ρ1 ρ1 s1 s' w1 w1 := Tr.look p1.pre.rel hh hcc rfl rfl rfl rfl
      exact ⟨_, V.run_results e1, ρ1, q _ _ (t1.trans ab bc t2), VR_out e2⟩
    · cases h
  · rename_i v s1 hl; cases h
    refine ⟨(leave_ok (fn := fn) (tmps := #[]) (R := fun _ _ => True) hext hc st.d m st.s _ _ hl).1, fun {M N ρ0 ρ a w0 w u s0} re d hu p q => ?_⟩
    obtain ⟨ab, k1⟩ := leave_ok (fn := fn) (tmps := a.tmps) (R := EndR N ρ0 s0 s' w0 (.inr v)) hext hc st.d m st.s _ _ hl
    refine k1 d hu p fun ρ1 w1 u1 t1 hu1 => ?_
    obtain ⟨x, hv, rfl⟩ := hu1
    exact ⟨ρ1, x, q _ _ t1, hv, rfl⟩
  · cases h
/-- functions that are told by a law -/
def PrimOk (P : Program) (prim : FuncId → List AV → HS → Option (Option (Sum AV AV × HS))) : Prop := ∀ f args s r s', prim f args s = some (some (r, s')) → Ab s s' ∧
  ∀ {M : Nat → Prop} {ρ : Ren} {w : World} {xs : Array Value}, VRL ρ args xs.toList → Pr M ρ s s' w → Calls P f xs w (EndR M ρ s s' w r)
theorem runF_ok (hext : ExtOk P ext) (hm : P.follows .mixedOrders = true) {prim : FuncId → List AV → HS → Option (Option (Sum AV AV × HS))} (hp : PrimOk P prim) : ∀ fuel, CallOk P (runF (natTab P) ext prim fuel)
  | 0 => fun f args s r s' h => by cases h
  | fuel + 1 => fun f args s r s' h => by
    have hc := runF_ok hext hm hp fuel
    change (match prim f args s with
      | some r => r
      | none => (match (natTab P).f f with
        | some fn => (match fn.body with
          | some c => (match env0 args 0 .nil with
            | some e => bif Nat.ble args.length fn.ntmps then (match runC (natTab P) ext (runF (natTab P) ext prim fuel) fn.ntmps 100000 c ⟨e, s, []⟩ with
              | some (.normal, st) => fin (natTab P) ext (runF (natTab P) ext prim fuel) fn .ret st
              | some (.ret, st) => fin (natTab P) ext (runF (natTab P) ext prim fuel) fn .ret st
              | some (.pan v, st) => fin (natTab P) ext (runF (natTab P) ext prim fuel) fn (.pan v) st
              | _ => none) else none
            | none => none)
          | none => none)
        | none => none)) = some (r, s') at h
    split at h
    · rename_i q hq; subst h; exact hp _ _ _ _ _ hq
    · split at h
      · rename_i fn hf
        split at h
        · rename_i c hb
          split at h
          · rename_i e he
            cases hg : Nat.ble args.length fn.ntmps with
            | false => rw [hg] at h; cases h
            | true =>
              rw [hg] at h
              simp only [cond_true] at h
              have hle := Nat.le_of_ble_eq_true hg
              have key : ∀ (ex : Ex) (m : Md) (st : St), runC (natTab P) ext (runF (natTab P) ext prim fuel) fn.ntmps 100000 c ⟨e, s, []⟩ = some (ex, st) → fin (natTab P) ext (runF (natTab P) ext prim fuel) fn m st = some (r, s') →
                  (∀ (ρ : Ren) (x : Exit), ExR ρ ex x → (∃ u, MdR ρ m u ∧ ∀ a w (R : Ending → World → Prop), Leaves P fn a.tmps R a.defers u w → bodyPostD P fn R x a w)) → Ab s s' ∧
                  ∀ {M : Nat → Prop} {ρ : Ren} {w : World} {xs : Array Value}, VRL ρ args xs.toList → Pr M ρ s s' w → Calls P f xs w (EndR M ρ s s' w r) := fun ex m st h1 h2 hx => by
                obtain ⟨ab, k1⟩ := (runC_ok hext hc hm 100000).1 c _ _ _ h1
                obtain ⟨bc, k2⟩ := fin_ok (n := fn.ntmps) hext hc h2
                refine ⟨ab.trans bc, fun {M ρ w xs} hxs p => calls_of_wp_defers hf hb ?_⟩
                refine k1 (env0_ok he hxs hle) rfl (p.first bc) fun e1 a1 w1 hp1 => ?_
                obtain ⟨ρ1, t1, r1, d1, x1⟩ := hp1
                obtain ⟨u, hu, hb1⟩ := hx ρ1 e1 x1
                exact hb1 a1 w1 _ (k2 r1 d1 hu (p.next ab t1) fun ρ2 w2 t2 => t1.trans ab bc t2)
              split at h
              · rename_i st h1
                refine key _ _ _ h1 h fun ρ x hx => ⟨.returning, rfl, fun a w R hl => ?_⟩
                cases x <;> first | exact hx.elim | exact hl
              · rename_i st h1
                refine key _ _ _ h1 h fun ρ x hx => ⟨.returning, rfl, fun a w R hl => ?_⟩
                cases x <;> first | exact hx.elim | exact hl
              · rename_i v st h1
                refine key _ _ _ h1 h fun ρ x hx => ?_
                cases x with
                | panic ch => obtain ⟨y, hy, rfl⟩ := hx; exact ⟨_, ⟨y, hy, rfl⟩, fun a w R hl => hl⟩
                | _ => exact hx.elim
              · cases h
          · cases h
        · cases h
      · cases h
end
end Go.Proofs.YtaacfehlcdkdhaaGreatDoor.R
namespace Go.Proofs.YtaacfehlcdkdhaaGreatDoor.R
open Go
set_option linter.unusedVariables false
set_option linter.unusedSimpArgs false
open V (bs Fr)

/-! maps.clone -/
noncomputable def cloneX (f0 : Nat) : ExtF := fun f vs s => bif Nat.beq f f0 then (match vs with
  | [.ifc t (.mp i)] => (match readB s i with
    | some (.map es c, s1) => (match newB s1 (.map es c) with | some s2 => some (.ifc t (.mp s1.c), s2) | none => none)
    | _ => none)
  | _ => none) else none
section
variable {P : Program}
theorem run_clone {w : World} {r : Nat} {es : Array MapEntry} {c : Nat} (t : TypeId) (h : w.heap[r]? = some (.map es c)) :
    (Extern.MapsClone.clone #[.iface t (.map (some r))]).run P w = .ok (.iface t (.map (some w.heap.size))) (w.alloc (.map es c)) := by
  have e : Extern.MapsClone.clone #[.iface t (.map (some r))] = (getObj r >>= fun o => match o with
      | .map entries clock => (newObj (.map entries clock) >>= fun n => pure (.iface t (.map (some n))))
      | _ => stuck "maps.clone: a map expected") := rfl
  rw [e, Sem.run_bind, getObj_run h]
  simp [newObj, Sem.run, World.alloc_eq]
theorem clone_ok {f0 : Nat} (hf : ∀ args w, (callFunc f0 args).run P w = ((Extern.MapsClone.clone args).run P w).andThen fun v w' => .ok (.value v) w') : ExtOk P (cloneX f0) := fun f vs s v s' h => by
  unfold cloneX at h
  cases hb : Nat.beq f f0 with
  | false => rw [hb] at h; cases h
  | true =>
    rw [hb] at h
    obtain rfl := Nat.eq_of_beq_eq_true hb
    simp only [cond_true] at h
    split at h
    · rename_i t i
      split at h
      · rename_i es c s1 hr
        split at h
        · rename_i s2 hn; cases h
          obtain ⟨ab, hh, hcc, hg, hi, hm, hrd⟩ := readB_ok hr
          obtain ⟨bc, tr⟩ := newB_ok hn
          refine ⟨ab.trans bc, fun {M ρ w xs} hxs p => ?_⟩
          obtain ⟨q, y, hq, hy, hor⟩ := hrd p.rel (p.cov i hi (bc.R _ hm))
          obtain ⟨a, rfl, hes⟩ := hor
          obtain ⟨x, xs', e1, ⟨z, e2, ⟨q', hq', e3⟩⟩, e4⟩ := hxs
          rw [hq] at hq'; cases hq'
          cases e4
          have hx : xs = #[.iface t (.map (some q.b))] := by apply Array.ext'; rw [e1, e2, e3]
          subst hx
          obtain ⟨t1, hn'⟩ := tr (M := M) (ρ := ρ) (w := w) (w' := w.alloc (.map a c)) (x := .map a c) 0 ⟨by rw [hh]; exact p.rel, fun j hj => p.cov j (by rw [← hcc]; exact hj), fun j hj => p.fre j ⟨by rw [← hcc]; exact hj.1, hj.2⟩⟩ ⟨a, rfl, hes⟩ rfl rfl rfl rfl
          have t0 : Tr M ρ ρ s s1 w w := Tr.look p.rel hh hcc rfl rfl rfl rfl
          have hMM : (fun i => M i ∨ new s s1 i) = M := funext fun i => propext ⟨fun hi => hi.resolve_right fun hn => by have := hn.1; have := hn.2; omega, .inl⟩
          refine ⟨_, _, _, t0.trans ab bc (by rw [hMM]; exact t1), by rw [hf, run_clone t hy]; rfl, _, rfl, _, xr_self, rfl⟩
        · cases h
      · cases h
    · cases h
/-- blocks are laid, none turned -/
theorem Tr.fr {M : Nat → Prop} {ρ : Ren} {s s' : HS} {w w' : World} (r : Rel M ρ s.h w) (hh : s'.h = s.h) (hc : s'.c = s.c) (f : Fr [] w w') : Tr M ρ ρ s s' w w' :=
  ⟨Ren.le.refl _, fun _ _ h => .inl h, ⟨fun j o m e => by
      rw [hh] at e
      obtain ⟨p, x, h1, h2, h3⟩ := r.at_ j o (m.resolve_right fun h => by have := h.1; have := h.2; omega) e
      exact ⟨p, x, h1, by rw [f.block _ (lt_of_at h2) (by simp)]; exact h2, h3⟩, fun i j o o' p q m1 m2 e1 e2 => r.inj i j o o' p q (m1.resolve_right fun h => by have := h.1; have := h.2; omega) (m2.resolve_right fun h => by have := h.1; have := h.2; omega) (by rw [hh] at e1; exact e1) (by rw [hh] at e2; exact e2)⟩,
    fun i p h => by have := h.1; have := h.2; omega, f.os, f.tape, f.output, f.size, fun b hb _ => f.block b hb (by simp)⟩
/-! strings.Split at one sign, strings.Join, a function at one text -/
def wordsA (c : UInt8) : List UInt8 → List (List UInt8)
  | [] => [[]]
  | b :: l => bif Nat.beq b.toNat c.toNat then [] :: wordsA c l else match wordsA c l with
    | [] => [[b]]
    | w :: ws => (b :: w) :: ws
theorem wordsA_eq (c : UInt8) : ∀ l, wordsA c l = V.words c l
  | [] => rfl
  | b :: l => by
    simp only [wordsA, V.words]
    by_cases h : b = c
    · subst h; rw [if_pos rfl, Nat.beq_refl, wordsA_eq b l]; rfl
    · have : Nat.beq b.toNat c.toNat = false := by
        cases hb : Nat.beq b.toNat c.toNat with
        | false => rfl
        | true => exact absurd (UInt8.toNat_inj.1 (Nat.eq_of_beq_eq_true hb)) h
      rw [if_neg h, this, wordsA_eq c l]; rfl
def strsA : List AV → Option (List (List UInt8))
  | [] => some []
  | .str l :: r => (match strsA r with | some q => some (l :: q) | none => none)
  | _ => none
theorem strsA_ok {ρ : Ren} : ∀ {l : List AV} {xs : List (List UInt8)} {ys : List Value}, strsA l = some xs → VRL ρ l ys → ys = xs.map fun x => Value.string (bs x)
  | [], xs, ys, h, k => by cases h; exact k
  | .str x :: r, xs, ys, h, ⟨y, ys', e, k1, k2⟩ => by
    simp only [strsA] at h
    split at h
    · rename_i q hq; cases h
      subst e; rw [strsA_ok hq k2, show y = .string (bs x) from k1]; rfl
    · cases h
noncomputable def joinP (s : HS) (i k m c : Nat) (sp : List UInt8) : Option (Sum AV AV × HS) := (match readB s i with
  | some (o, s') => (match rowC o with
    | some cs => (match strsA ((cs.drop k).take m) with
      | some xs => bif Nat.ble m c && Nat.beq xs.length m && Nat.blt 0 m && Nat.ble m 1000 && Nat.ble (Lib.join xs sp).length 100000 then some (.inl (.str (Lib.join xs sp)), s') else none
      | none => none)
    | none => none)
  | none => none)
noncomputable def primX (fS fJ fC t9 : Nat) (cl : List UInt8) (cv : AV) : FuncId → List AV → HS → Option (Option (Sum AV AV × HS)) := fun f args s =>
  bif Nat.beq f fS then (match args with
    | [.str l, .str [c]] => some (bif Nat.blt l.length 1000 then (match newB s (.row ((wordsA c l).map .str) t9) with | some s' => some (.inl (.sl s.c 0 (wordsA c l).length (wordsA c l).length), s') | none => none) else none)
    | _ => some none)
  else bif Nat.beq f fJ then (match args with
    | [.sl i k m c, .str sp] => some (joinP s i k m c sp)
    | [.so i k m q, .str sp] => some (joinP s i k m m sp)
    | _ => some none)
  else bif Nat.beq f fC then (match args with
    | [.str l] => some (bif eqL l cl then some (.inl cv, s) else none)
    | _ => some none)
  else none
abbrev SplitLaw (P : Program) (fS t9 : Nat) : Prop := ∀ (l : List UInt8) (c : UInt8) (w : World), l.length < 1000 → Calls P fS #[.string (bs l), .string (bs [c])] w fun e w' =>
  e = .returned (.slice (some ⟨w.heap.size, 0, none⟩) (V.words c l).length (V.words c l).length) ∧ w' = w.alloc (.cells ((V.words c l).map fun x => Value.string (bs x)).toArray t9)
abbrev JoinLaw (P : Program) (fJ : Nat) : Prop := ∀ (g off c : Nat) (xs : List (List UInt8)) (sp : List UInt8) (w : World), (∀ (j : Nat) x, xs[j]? = some x → w.cell? ⟨g, off + j, none⟩ = some (.string (bs x))) → g < w.heap.size → 0 < xs.length → xs.length ≤ 1000 → xs.length ≤ c →
  (Lib.join xs sp).length ≤ 100000 → Calls P fJ #[.slice (some ⟨g, off, none⟩) xs.length c, .string (bs sp)] w fun e w' => e = .returned (.string (bs (Lib.join xs sp))) ∧ Fr [] w w'
abbrev TextLaw (P : Program) (fC : Nat) (cl : List UInt8) (cv : AV) : Prop := ∀ w, Calls P fC #[.string (bs cl)] w fun e w' => ∃ x, e = .returned x ∧ (∀ ρ, VR ρ cv x) ∧ Fr [] w w'
theorem joinP_ok {fJ : Nat} (hJ : JoinLaw P fJ) {s s' : HS} {i k m c : Nat} {sp : List UInt8} {r : Sum AV AV} (h : joinP s i k m c sp = some (r, s')) : Ab s s' ∧
    ∀ {M : Nat → Prop} {ρ : Ren} {w : World} {p : Bl} {c' : Nat}, Pr M ρ s s' w → ρ i = some p → c ≤ c' → Calls P fJ #[.slice (some ⟨p.b, p.o + k, none⟩) m c', .string (bs sp)] w (EndR M ρ s s' w r) := by
  unfold joinP at h
  split at h
  · rename_i o s1 hr
    split at h
    · rename_i cs hc
      split at h
      · rename_i xs hx
        cases hb : Nat.ble m c && Nat.beq xs.length m && Nat.blt 0 m && Nat.ble m 1000 && Nat.ble (Lib.join xs sp).length 100000 with
        | false => rw [hb] at h; cases h
        | true =>
          rw [hb] at h; cases h
          simp only [Bool.and_eq_true] at hb
          obtain ⟨⟨⟨⟨b1, b2⟩, b3⟩, b4⟩, b5⟩ := hb
          have b1 := Nat.le_of_ble_eq_true b1
          obtain rfl := Nat.eq_of_beq_eq_true b2
          have b3 : 0 < xs.length := Nat.le_of_ble_eq_true b3
          have b4 := Nat.le_of_ble_eq_true b4
          have b5 := Nat.le_of_ble_eq_true b5
          obtain ⟨ab, hh, hcc, hg, hi, hm, hrd⟩ := readB_ok hr
          refine ⟨ab, fun {M ρ w p c'} pr hp hle => ?_⟩
          obtain ⟨q, y, hq, hy, hor⟩ := hrd pr.pre.rel (pr.pre.cov i hi hm)
          rw [hp] at hq; cases hq
          obtain ⟨a', tt, l0, l1, l2, rfl, ha, h0, hl, _⟩ := rowC_ok hc hor
          have hxs := strsA_ok hx ((hl.drop k).take xs.length)
          refine (hJ p.b (p.o + k) c' xs sp w (fun j x hj => ?_) (lt_of_at hy) b3 b4 (by omega) b5).mono fun e w' ⟨e1, e2⟩ => ?_
          · have hj' : j < xs.length := (List.getElem?_eq_some_iff.1 hj).1
            have h1 := congrArg (fun l => l[j]?) hxs
            simp only [List.getElem?_map, List.getElem?_take, hj', if_true, List.getElem?_drop, hj, Option.map_some] at h1
            have h2 := mid_cell ha hy h1
            rw [h0] at h2
            rw [Nat.add_assoc]; exact h2
          · subst e1
            exact ⟨ρ, Tr.fr pr.pre.rel hh hcc e2, rfl⟩
      · cases h
    · cases h
  · cases h
theorem two {ρ : Ren} {u v : AV} {xs : Array Value} (h : VRL ρ [u, v] xs.toList) : ∃ x y, xs = #[x, y] ∧ VR ρ u x ∧ VR ρ v y := by
  obtain ⟨x, r, e, h1, y, r', e', h2, h3⟩ := h
  cases h3
  exact ⟨x, y, by apply Array.ext'; rw [e, e'], h1, h2⟩
theorem one' {ρ : Ren} {u : AV} {xs : Array Value} (h : VRL ρ [u] xs.toList) : ∃ x, xs = #[x] ∧ VR ρ u x := by
  obtain ⟨x, r, e, h1, h3⟩ := h
  cases h3
  exact ⟨x, by apply Array.ext'; rw [e], h1⟩
theorem prim_ok {fS fJ fC t9 : Nat} {cl : List UInt8} {cv : AV} (hS : SplitLaw P fS t9) (hJ : JoinLaw P fJ) (hC : TextLaw P fC cl cv) : PrimOk P (primX fS fJ fC t9 cl cv) := fun f args s r s' h => by
  unfold primX at h
  cases h1 : Nat.beq f fS with
  | true =>
    rw [h1] at h
    obtain rfl := Nat.eq_of_beq_eq_true h1
    simp only [cond_true] at h
    split at h
    · rename_i l c
      cases hb : Nat.blt l.length 1000 with
      | false => rw [hb] at h; cases h
      | true =>
        rw [hb] at h
        have hb : l.length < 1000 := Nat.le_of_ble_eq_true hb
        simp only [cond_true, Option.some.injEq] at h
        split at h
        · rename_i s1 hn; cases h
          obtain ⟨bc, tr⟩ := newB_ok hn
          refine ⟨bc, fun {M ρ w xs} hxs p => ?_⟩
          obtain ⟨x, y, rfl, hx, hy⟩ := two hxs
          cases hx; cases hy
          refine (hS l c w hb).mono fun e w' ⟨e1, e2⟩ => ?_
          subst e1; subst e2
          rw [wordsA_eq] at tr ⊢
          have key : ∀ ws : List (List UInt8), VRL ρ (ws.map .str) (ws.map fun x => Value.string (bs x)) := fun ws => by
            induction ws with
            | nil => rfl
            | cons a ws ih => exact ⟨_, _, rfl, rfl, ih⟩
          obtain ⟨t1, hn'⟩ := tr (M := M) (ρ := ρ) (w := w) (w' := w.alloc (.cells ((V.words c l).map fun x => Value.string (bs x)).toArray t9)) 0 p.pre ⟨rfl, _, rfl, by simpa using key (V.words c l)⟩ rfl rfl rfl rfl
          exact ⟨_, t1, _, xr_self, by simp⟩
        · cases h
    · cases h
  | false =>
    rw [h1] at h
    cases h2 : Nat.beq f fJ with
    | true =>
      rw [h2] at h
      obtain rfl := Nat.eq_of_beq_eq_true h2
      simp only [cond_true, cond_false] at h
      split at h
      · rename_i i k m c sp
        obtain ⟨ab, kk⟩ := joinP_ok hJ (Option.some.inj h)
        refine ⟨ab, fun {M ρ w xs} hxs p => ?_⟩
        obtain ⟨x, y, rfl, ⟨q, hq, rfl⟩, rfl⟩ := two hxs
        exact kk p hq (Nat.le_refl _)
      · rename_i i k m c sp
        obtain ⟨ab, kk⟩ := joinP_ok hJ (Option.some.inj h)
        refine ⟨ab, fun {M ρ w xs} hxs p => ?_⟩
        obtain ⟨x, y, rfl, ⟨q, hq, hle, rfl⟩, rfl⟩ := two hxs
        exact kk p hq hle
      · cases h
    | false =>
      rw [h2] at h
      cases h3 : Nat.beq f fC with
      | true =>
        rw [h3] at h
        obtain rfl := Nat.eq_of_beq_eq_true h3
        simp only [cond_true, cond_false] at h
        split at h
        · rename_i l
          cases hb : eqL l cl with
          | false => rw [hb] at h; cases h
          | true =>
            rw [hb] at h; cases h
            obtain rfl := eqL_iff.1 hb
            refine ⟨Ab.refl _, fun {M ρ w xs} hxs p => ?_⟩
            obtain ⟨x, rfl, hx⟩ := one' hxs
            cases hx
            refine (hC w).mono fun e w' ⟨x, e1, e2, e3⟩ => ?_
            subst e1
            exact ⟨ρ, Tr.fr p.pre.rel rfl rfl e3, e2 ρ⟩
        · cases h
      | false => rw [h3] at h; cases h
/-! the tables as trees; a run from nothing -/
noncomputable def tabT (P : Program) : Tab := ⟨P, fun t => (match (triL 12 P.types.toList).get t with | some x => some x | none => P.info? t), (triL 12 P.funcs.toList).get⟩
theorem tabT_eq (h1 : Nat.blt P.types.toList.length 4096 = true) (h2 : Nat.blt P.funcs.toList.length 4096 = true) : tabT P = natTab P := by
  unfold tabT natTab
  congr 1
  · funext t
    rw [triL_get 12 _ _ (Nat.le_of_ble_eq_true h1), Array.getElem?_toList]
    by_cases hl : t < P.types.size
    · have e : P.info? t = P.types[t]? := by show Tables.info? _ _ = _; unfold Tables.info?; rw [if_pos hl]
      rw [e, Array.getElem?_eq_getElem hl]
    · rw [Array.getElem?_eq_none (Nat.le_of_not_lt hl)]
  · funext t
    rw [triL_get 12 _ _ (Nat.le_of_ble_eq_true h2)]
    exact Array.getElem?_toList
def isT : Option (Sum AV AV × HS) → Bool | some (.inl (.sc (.bool true)), _) => true | _ => false
theorem run_nothing {ext : ExtF} {prim : FuncId → List AV → HS → Option (Option (Sum AV AV × HS))} (hext : ExtOk P ext) (hm : P.follows .mixedOrders = true) (hp : PrimOk P prim) {fuel : Nat} {f : FuncId} {args : List AV} {xs : Array Value} (hx : ∀ ρ, VRL ρ args xs.toList)
    (h : isT (runF (natTab P) ext prim fuel f args ⟨.nil, 0, 0, 0⟩) = true) (w : World) : Calls P f xs w fun e w' => e = .returned (.bool true) ∧ Fr [] w w' := by
  unfold isT at h
  split at h
  · rename_i s' hr
    obtain ⟨_, k⟩ := runF_ok hext hm hp fuel _ _ _ _ _ hr
    refine (k (M := fun _ => False) (ρ := fun _ => none) (hx _) ⟨⟨⟨fun _ _ m => m.elim, fun _ _ _ _ _ _ m => m.elim⟩, fun i hi => by simp at hi, fun _ _ => rfl⟩, fun _ m => m.elim⟩).mono fun e w' he => ?_
    cases e with
    | returned x =>
      obtain ⟨ρ', t, hv⟩ := he
      cases hv
      exact ⟨rfl, t.os, t.tape, t.output, t.size, fun b hb _ => t.block b hb fun _ _ _ m => m.elim⟩
    | panicked ch => exact he.elim
    | outgrown => exact he.elim
  · cases h
end
end Go.Proofs.YtaacfehlcdkdhaaGreatDoor.R
