/- What the functions of this layer do, proved operation by operation, for all arguments, under the conditions that each theorem states. -/
import Derived.Test.YtinnnoimmioaiaaGreatProg
import Derived.Test.YtinnnoimmioaiaaGreatTra8
import Derived.Test.YtinnnoimmioaiaaGreatTra4
import Derived.Test.YtinnnoimmioaiaaGreatL2
namespace Go.Proofs.YtinnnoimmioaiaaGreat
open Go V
set_option linter.unusedVariables false
set_option linter.unusedSimpArgs false
set_option maxHeartbeats 4000000
set_option maxRecDepth 100000
/-! the document's Touched -/
def samR (l m : List Cl) (id : Int) : Bool := decide (mget (kvl l) id = mget (kvl m) id)
theorem samR_dif {kv kw : List (Int × Cl)} {l m : List Cl} (hK : KR kv l) (hM : KR kw m) (id : Int) : samR l m id = !difB kv kw id := by
  unfold samR difB; rw [← kr_get hK, ← kr_get hM]; by_cases h : mget kv id = mget kw id <;> simp [h]
theorem fd_ex {a : Int} {l : List Cl} (h : ¬ oI (fd a l) < 0) : ∃ i x, fd a l = some i ∧ l[i]? = some x ∧ mget (kvl l) a = some x := by
  cases hf : fd a l with
  | none => exact absurd (fd_neg.2 (fd_no hf)) h
  | some i => obtain ⟨x, h1, h2⟩ := fd_yes hf; exact ⟨i, x, rfl, h1, h2⟩
def rlB (l : List Cl) (id : Int) : Bool := decide ((ofR (gcl (kvl l) id).ra (gcl (kvl l) id).rb (gcl (kvl l) id).rc) > 1)
theorem rlB_rel {kv kw : List (Int × Cl)} {l m : List Cl} (hK : KR kv l) (hM : KR kw m) (id : Int) : (rlB l id || rlB m id) = relB kv kw id := by
  unfold rlB relB; rw [← kr_gcl hK, ← kr_gcl hM, rt_eq (kr_gok hK id), rt_eq (kr_gok hM id)]
structure TI (l m : List Cl) (kv kw : List (Int × Cl)) (i k : Nat) (out : List Int) : Prop where
  il : i ≤ l.length
  km : k ≤ m.length
  srt : out.Pairwise (· < ·)
  mem : ∀ z, z ∈ out ↔ ((∃ x ∈ l.take i, x.hi = z) ∨ (∃ y ∈ m.take k, y.hi = z)) ∧ difB kv kw z = true
  xl : ∀ x ∈ l.take i, ∀ y ∈ m.drop k, x.hi < y.hi
  xm : ∀ y ∈ m.take k, ∀ x ∈ l.drop i, y.hi < x.hi
theorem ti_0 (l m : List Cl) (kv kw : List (Int × Cl)) : TI l m kv kw 0 0 [] := ⟨by omega, by omega, by simp, by simp, by simp, by simp⟩
theorem rs_split {l : List Cl} (h : RS l) (i : Nat) {x y : Cl} (hx : x ∈ l.take i) (hy : y ∈ l.drop i) : x.hi < y.hi := by
  have h2 : RS (l.take i ++ l.drop i) := by rw [List.take_append_drop]; exact h
  exact (List.pairwise_append.1 h2).2.2 x hx y hy
theorem drop_at {l : List Cl} {i : Nat} {x : Cl} (h : l[i]? = some x) : l.drop i = x :: l.drop (i + 1) := by
  obtain ⟨h1, h2⟩ := List.getElem?_eq_some_iff.1 h
  rw [List.drop_eq_getElem_cons h1, h2]
theorem rs_head {l : List Cl} (h : RS l) {i : Nat} {x y : Cl} (hx : l[i]? = some x) (hy : y ∈ l.drop (i + 1)) : x.hi < y.hi :=
  rs_split h (i + 1) (by rw [take_snoc hx]; simp) hy
/-- one more number, that is above all so far -/
def addB (b : Bool) (out : List Int) (z : Int) : List Int := if b = true then out ++ [z] else out
theorem ti_out {l m : List Cl} {kv kw : List (Int × Cl)} {i k : Nat} {out : List Int} (hl : RS l) (hm : RS m) (h : TI l m kv kw i k out) {z : Int} (hz1 : ∀ x ∈ l.take i, x.hi < z) (hz2 : ∀ y ∈ m.take k, y.hi < z) : (addB (difB kv kw z) out z).Pairwise (· < ·) := by
  unfold addB; split
  · refine List.pairwise_append.2 ⟨h.srt, by simp, fun a ha b hb => ?_⟩
    simp at hb; subst hb
    rcases ((h.mem a).1 ha).1 with ⟨x, hx, rfl⟩ | ⟨y, hy, rfl⟩
    · exact hz1 x hx
    · exact hz2 y hy
  · exact h.srt
theorem addB_mem {b : Bool} {out : List Int} {z w : Int} : w ∈ addB b out z ↔ w ∈ out ∨ (w = z ∧ b = true) := by
  unfold addB; split <;> simp_all
theorem ti_l {l m : List Cl} {kv kw : List (Int × Cl)} {i k : Nat} {out : List Int} (hl : RS l) (hm : RS m) (h : TI l m kv kw i k out) {x : Cl} (hx : l[i]? = some x) (hc : ∀ y ∈ m.drop k, x.hi < y.hi) : TI l m kv kw (i + 1) k (addB (difB kv kw x.hi) out x.hi) := by
  have hil := (List.getElem?_eq_some_iff.1 hx).1
  have hxd : x ∈ l.drop i := by rw [drop_at hx]; simp
  refine ⟨by omega, h.km, ti_out hl hm h (fun y hy => rs_split hl i hy hxd) (fun y hy => h.xm y hy x hxd), fun z => ?_, fun y hy z hz => ?_, fun y hy z hz => ?_⟩
  · rw [addB_mem, h.mem, take_snoc hx]; constructor
    · rintro (⟨⟨y, hy, e⟩ | h2, h3⟩ | ⟨rfl, h3⟩)
      · exact ⟨.inl ⟨y, by simp [hy], e⟩, h3⟩
      · exact ⟨.inr h2, h3⟩
      · exact ⟨.inl ⟨x, by simp, rfl⟩, h3⟩
    · rintro ⟨⟨y, hy, e⟩ | h2, h3⟩
      · rcases List.mem_append.1 hy with hy | hy
        · exact .inl ⟨.inl ⟨y, hy, e⟩, h3⟩
        · simp at hy; subst hy; exact .inr ⟨e.symm, by rw [e]; exact h3⟩
      · exact .inl ⟨.inr h2, h3⟩
  · rw [take_snoc hx] at hy
    rcases List.mem_append.1 hy with hy | hy
    · exact h.xl y hy z hz
    · simp at hy; subst hy; exact hc z hz
  · exact h.xm y hy z (by rw [drop_at hx]; simp [hz])
theorem difB_sw (kv kw : List (Int × Cl)) (i : Int) : difB kw kv i = difB kv kw i := by
  unfold difB; by_cases h : mget kv i = mget kw i
  · simp [h]
  · have : ¬ mget kw i = mget kv i := fun e => h e.symm
    simp [h, this]
theorem ti_sw {l m : List Cl} {kv kw : List (Int × Cl)} {i k : Nat} {out : List Int} (h : TI l m kv kw i k out) : TI m l kw kv k i out :=
  ⟨h.km, h.il, h.srt, fun z => by rw [difB_sw, h.mem]; exact and_congr_left fun _ => or_comm, h.xm, h.xl⟩
theorem ti_m {l m : List Cl} {kv kw : List (Int × Cl)} {i k : Nat} {out : List Int} (hl : RS l) (hm : RS m) (h : TI l m kv kw i k out) {y : Cl} (hy : m[k]? = some y) (hc : ∀ x ∈ l.drop i, y.hi < x.hi) : TI l m kv kw i (k + 1) (addB (difB kv kw y.hi) out y.hi) := by
  have := ti_sw (ti_l hm hl (ti_sw h) hy hc); rw [difB_sw] at this; exact this
theorem ti_b {l m : List Cl} {kv kw : List (Int × Cl)} {i k : Nat} {out : List Int} (hl : RS l) (hm : RS m) (h : TI l m kv kw i k out) {x y : Cl} (hx : l[i]? = some x) (hy : m[k]? = some y) (e : y.hi = x.hi) : TI l m kv kw (i + 1) (k + 1) (addB (difB kv kw x.hi) out x.hi) := by
  have hil := (List.getElem?_eq_some_iff.1 hx).1
  have hkm := (List.getElem?_eq_some_iff.1 hy).1
  have hxd : x ∈ l.drop i := by rw [drop_at hx]; simp
  refine ⟨by omega, by omega, ti_out hl hm h (fun y hy => rs_split hl i hy hxd) (fun y hy => h.xm y hy x hxd), fun z => ?_, fun u hu z hz => ?_, fun u hu z hz => ?_⟩
  · rw [addB_mem, h.mem, take_snoc hx, take_snoc hy]; constructor
    · rintro (⟨⟨u, hu, e2⟩ | ⟨u, hu, e2⟩, h3⟩ | ⟨rfl, h3⟩)
      · exact ⟨.inl ⟨u, by simp [hu], e2⟩, h3⟩
      · exact ⟨.inr ⟨u, by simp [hu], e2⟩, h3⟩
      · exact ⟨.inl ⟨x, by simp, rfl⟩, h3⟩
    · rintro ⟨⟨u, hu, e2⟩ | ⟨u, hu, e2⟩, h3⟩
      · rcases List.mem_append.1 hu with hu | hu
        · exact .inl ⟨.inl ⟨u, hu, e2⟩, h3⟩
        · simp at hu; subst hu; exact .inr ⟨e2.symm, by rw [e2]; exact h3⟩
      · rcases List.mem_append.1 hu with hu | hu
        · exact .inl ⟨.inr ⟨u, hu, e2⟩, h3⟩
        · simp at hu; subst hu; exact .inr ⟨by omega, by rw [← e, e2]; exact h3⟩
  · have hz2 : z ∈ m.drop k := by rw [drop_at hy]; simp [hz]
    rw [take_snoc hx] at hu
    rcases List.mem_append.1 hu with hu | hu
    · exact h.xl u hu z hz2
    · simp at hu; subst hu; rw [← e]; exact rs_head hm hy hz
  · have hz2 : z ∈ l.drop i := by rw [drop_at hx]; simp [hz]
    rw [take_snoc hy] at hu
    rcases List.mem_append.1 hu with hu | hu
    · exact h.xm u hu z hz2
    · simp at hu; subst hu; rw [e]; exact rs_head hl hx hz
theorem drop_lt {m : List Cl} (hm : RS m) {k : Nat} {y : Cl} (hy : m[k]? = some y) {z : Int} (h : z < y.hi) : ∀ u ∈ m.drop k, z < u.hi := by
  intro u hu; rw [drop_at hy] at hu
  rcases List.mem_cons.1 hu with rfl | hu
  · exact h
  · have := rs_head hm hy hu; omega
theorem drop_none {m : List Cl} {k : Nat} (h : m.length ≤ k) {z : Int} : ∀ u ∈ m.drop k, z < u.hi := by
  rw [List.drop_eq_nil_of_le h]; simp
theorem tch_rsi (kv kw : List (Int × Cl)) : RSI (tchL kv kw) ∧ ∀ z, z ∈ tchL kv kw ↔ (z ∈ idsK kv ∨ z ∈ idsK kw) ∧ difB kv kw z = true := by
  have h := cmp_sort ((idsK kv ++ idsK kw).filter (difB kv kw))
  have e : tchL kv kw = cmpct (sortU ((idsK kv ++ idsK kw).filter (difB kv kw))) := by unfold tchL cmpct Go.Lib.compact; rfl
  rw [e]; refine ⟨h.1, fun z => ?_⟩
  rw [h.2, List.mem_filter, List.mem_append]
theorem ti_end {l m : List Cl} {kv kw : List (Int × Cl)} {i k : Nat} {out : List Int} (hK : KR kv l) (hM : KR kw m) (h : TI l m kv kw i k out) (hi : l.length ≤ i) (hk : m.length ≤ k) : out = tchL kv kw := by
  refine rsi_ext h.srt (tch_rsi kv kw).1 fun z => ?_
  rw [h.mem, (tch_rsi kv kw).2, List.take_of_length_le hi, List.take_of_length_le hk]
  have e1 : idsK kv = l.map Cl.hi := kr_ids hK
  have e2 : idsK kw = m.map Cl.hi := kr_ids hM
  rw [e1, e2, List.mem_map, List.mem_map]
theorem sub_len : ∀ {a b : List Int}, a.Nodup → a ⊆ b → a.length ≤ b.length
  | [], _, _, _ => by simp
  | x :: a, b, hn, hs => by
    have hx := hs (List.mem_cons_self ..)
    have h1 := sub_len (a := a) (b := b.erase x) (List.nodup_cons.1 hn).2 fun z hz => by
      have hne : z ≠ x := fun e => (List.nodup_cons.1 hn).1 (e ▸ hz)
      exact (List.mem_erase_of_ne hne).2 (hs (List.mem_cons_of_mem _ hz))
    rw [List.length_erase_of_mem hx] at h1
    have := List.length_pos_of_mem hx
    simp; omega
theorem ti_len {l m : List Cl} {kv kw : List (Int × Cl)} {i k : Nat} {out : List Int} (hK : KR kv l) (hM : KR kw m) (h : TI l m kv kw i k out) : out.length ≤ l.length + m.length := by
  have h1 : out.Nodup := h.srt.imp fun h e => by omega
  have h2 : out ⊆ l.map Cl.hi ++ m.map Cl.hi := fun z hz => by
    rcases ((h.mem z).1 hz).1 with ⟨x, hx, e⟩ | ⟨x, hx, e⟩
    · exact List.mem_append.2 (.inl (List.mem_map.2 ⟨x, List.mem_of_mem_take hx, e⟩))
    · exact List.mem_append.2 (.inr (List.mem_map.2 ⟨x, List.mem_of_mem_take hx, e⟩))
  have := sub_len h1 h2; simpa using this

theorem sam_spec (al : Option Addr) (l : List Cl) (cl : Nat) (bl : Option Addr) (m : List Cl) (dl : Nat) (id_ : Int) (hl : l.length ≤ 100000) (hm : m.length ≤ 100000) (w : World) (r0 : arrAt w al (V.flat encCl l)) (r1 : arrAt w bl (V.flat encCl m)) :
    Calls Tryz.prog 34 #[vS al l cl, vS bl m dl, i_ id_] w fun e w' => e = .returned (b_ (samR l m id_)) ∧ Fr [] w w' := by
  refine calls_of (args := [vS al l cl, vS bl m dl, i_ id_]) (penv [vS al l cl, vS bl m dl, i_ id_]) [] [] Tryz.func34 rfl rfl (look_penv _) (HS.nil w) ?_
  refine A.sr (A.g [.p] [] [] ?_)
  refine tsr (A.gk [.p, .p, .cq (i_ (oI (fd id_ l))), .p] [] [(7, i_ (oI (fd id_ l)))] [] (fun κ => κ.call 60 [vS al l cl, i_ id_] (i_ (oI (fd id_ l))) ∧ True) ⟨(fun ww ss => fd_spec al l cl id_ (by assumption) ww ((rd_old r0 (by simp [feet])) ww ss)), trivial⟩ ?_)
  refine tsr (A.gk [.p, .p, .cq (i_ (oI (fd id_ m))), .p] [2] [(8, i_ (oI (fd id_ m)))] [] (fun κ => κ.call 60 [vS bl m dl, i_ id_] (i_ (oI (fd id_ m))) ∧ True) ⟨(fun ww ss => fd_spec bl m dl id_ (by assumption) ww ((rd_old r1 (by simp [feet])) ww ss)), trivial⟩ ?_)
  refine A.tn (A.seq (A.sr (A.g [.p, .p, .p, .o, .p, .p, .cl] [] [(20, b_ ((decide ((oI (fd id_ l)) < 0)) || (decide ((oI (fd id_ m)) < 0))))] ?_)))
  refine A.tn (A.cn ((decide ((oI (fd id_ l)) < 0)) || (decide ((oI (fd id_ m)) < 0))) (fun e1 => ?_) (fun e1 => ?_))
  · have p1 := e1; try simp only [nrm] at p1
    refine A.sr (A.g [.p, .p, .p, .o, .p, .p, .cl, .p] [0, 1, 7, 8, 20] [(6, b_ ((decide ((oI (fd id_ l)) < 0)) && (decide ((oI (fd id_ m)) < 0))))] ?_)
    refine A.tn (A.ret (A.tr (A.pQ [b_ ((decide ((oI (fd id_ l)) < 0)) && (decide ((oI (fd id_ m)) < 0)))] ?_)))
    show ((b_ ((decide ((oI (fd id_ l)) < 0)) && (decide ((oI (fd id_ m)) < 0)))) : Value) = (b_ (samR l m id_))
    refine congrArg Value.bool ?_; unfold samR; grind [fd_neg]
  have p1 := e1; try simp only [nrm] at p1
  refine A.skip (A.tn (A.seq ?_))
  obtain ⟨i, x, hi, hx, hmx⟩ := fd_ex (l := l) (a := id_) (by omega); obtain ⟨k, y, hk, hy, hmy⟩ := fd_ex (l := m) (a := id_) (by omega); have hlx := (List.getElem?_eq_some_iff.1 hx).1; have hly := (List.getElem?_eq_some_iff.1 hy).1
  refine A.sv 7 (c_ i) (cgI (by rw [hi]; rfl)) ?_
  refine A.sv 8 (c_ k) (cgI (by rw [hk]; rfl)) ?_
  refine A.dA [.p, .p, .ix, .rd (encCl x), .p, .p, .ix, .rd (encCl y), .eq, .p] [0, 1, 2, 3, 4, 5, 6, 7, 8, 9] [0, 1, 7, 8, 20] [(6, b_ ((x.hi == y.hi) && ((x.hp == y.hp) && ((x.hl == y.hl) && (((x.ra == y.ra) && ((x.rb == y.rb) && (x.rc == y.rc))) && (((x.la == y.la) && ((x.lb == y.lb) && (x.lc == y.lc))) && (((x.ua == y.ua) && ((x.ub == y.ub) && (x.uc == y.uc))) && ((x.hk == y.hk) && (x.hq == y.hq)))))))))] [] (fun κ => κ.ix al l.length (i : Int) ∧ κ.rd ((at0 al).add (i * 14)) (encCl x) ∧ κ.ix bl m.length (k : Int) ∧ κ.rd ((at0 bl).add (k * 14)) (encCl y) ∧ True) ⟨(ixOf encCl_len (by decide) (rd_old r0 (by simp [feet])) (by omega)), reads_at0 (vs := (encCl x)) encCl_len (rd_old r0 (by simp [feet])) hx (Nat.le_of_ble_eq_true rfl) rfl, ixOf encCl_len (by decide) (rd_old r1 (by simp [feet])) (by omega), reads_at0 (vs := (encCl y)) encCl_len (rd_old r1 (by simp [feet])) hy (Nat.le_of_ble_eq_true rfl) rfl, trivial⟩ ?_
  refine A.tn (A.ret (A.pQ [b_ ((x.hi == y.hi) && ((x.hp == y.hp) && ((x.hl == y.hl) && (((x.ra == y.ra) && ((x.rb == y.rb) && (x.rc == y.rc))) && (((x.la == y.la) && ((x.lb == y.lb) && (x.lc == y.lc))) && (((x.ua == y.ua) && ((x.ub == y.ub) && (x.uc == y.uc))) && ((x.hk == y.hk) && (x.hq == y.hq))))))))] ?_))
  show ((b_ ((x.hi == y.hi) && ((x.hp == y.hp) && ((x.hl == y.hl) && (((x.ra == y.ra) && ((x.rb == y.rb) && (x.rc == y.rc))) && (((x.la == y.la) && ((x.lb == y.lb) && (x.lc == y.lc))) && (((x.ua == y.ua) && ((x.ub == y.ub) && (x.uc == y.uc))) && ((x.hk == y.hk) && (x.hq == y.hq))))))))) : Value) = (b_ (samR l m id_))
  refine congrArg Value.bool ?_; unfold samR; (rw [hmx, hmy, Bool.eq_iff_iff]; simp [cl_eq14]; grind)

theorem rlB_spec (al : Option Addr) (l : List Cl) (cl : Nat) (a : Int) (hl : l.length ≤ 100000) (w : World) (r0 : arrAt w al (V.flat encCl l)) :
    Calls Tryz.prog 38 #[vS al l cl, i_ a] w fun e w' => e = .returned (b_ (rlB l a)) ∧ Fr [] w w' := by
  refine calls_of (args := [vS al l cl, i_ a]) (penv [vS al l cl, i_ a]) [] [] Tryz.func38 rfl rfl (look_penv _) (HS.nil w) ?_
  refine A.sr (A.g [.p] [] [] ?_)
  refine tsr (A.gk [.p, .p, .cq (i_ (oI (fd a l))), .p] [1] [(5, i_ (oI (fd a l)))] [] (fun κ => κ.call 60 [vS al l cl, i_ a] (i_ (oI (fd a l))) ∧ True) ⟨(fun ww ss => fd_spec al l cl a (by assumption) ww ((rd_old r0 (by simp [feet])) ww ss)), trivial⟩ ?_)
  refine A.tn (A.seq ?_)
  by_cases ho : fd a l = none
  · have hm := fd_no ho
    refine A.sv 5 (i_ (-1)) (cgI (by rw [ho]; rfl)) ?_
    refine A.region (A.g [.p, .p, .p, .sk, .sk, .sk, .sk, .sk, .sk, .sk, .p, .p] [0, 5] [(4, b_ false)] ?_)
    refine A.tn (A.ret (A.pQ [b_ false] ?_))
    show ((b_ false) : Value) = (b_ (rlB l a))
    refine congrArg Value.bool ?_; unfold rlB gcl; rw [hm]; rfl
  obtain ⟨i, hi⟩ := Option.ne_none_iff_exists'.1 ho; obtain ⟨x, hx, hm⟩ := fd_yes hi; have hlt := (List.getElem?_eq_some_iff.1 hx).1
  refine A.sv 5 (c_ i) (cgI (by rw [hi]; rfl)) ?_
  refine A.region (A.gk [.p, .p, .p, .o, .p, .p, .ix, .p, .rd [u_ x.ra, u_ x.rb, u_ x.rc], .cq (i_ (ofR x.ra x.rb x.rc)), .p, .cl, .p] [0, 5] [(4, b_ ((decide ((i : Int) ≥ 0)) && (decide ((ofR x.ra x.rb x.rc) > 1))))] [] (fun κ => ((true && ((decide ((i : Int) ≥ 0)) == true)) = true → κ.ix al l.length (i : Int)) ∧ ((true && ((decide ((i : Int) ≥ 0)) == true)) = true → κ.rd (((at0 al).add (i * 14)).add 3) [u_ x.ra, u_ x.rb, u_ x.rc]) ∧ ((true && ((decide ((i : Int) ≥ 0)) == true)) = true → κ.call 56 [(.agg #[u_ x.ra, u_ x.rb, u_ x.rc])] (i_ (ofR x.ra x.rb x.rc))) ∧ True) ⟨(fun h_ => (ixOf encCl_len (by decide) (rd_old r0 (by simp [feet])) (by omega))), (fun h_ => (reads_at2 (f := 3) (vs := [u_ x.ra, u_ x.rb, u_ x.rc]) encCl_len (rd_old r0 (by simp [feet])) hx (by simp) rfl)), (fun h_ => (fun ww ss => rof_spec x.ra x.rb x.rc ww)), trivial⟩ ?_)
  refine A.tn (A.ret (A.pQ [b_ ((decide ((i : Int) ≥ 0)) && (decide ((ofR x.ra x.rb x.rc) > 1)))] ?_))
  show ((b_ ((decide ((i : Int) ≥ 0)) && (decide ((ofR x.ra x.rb x.rc) > 1)))) : Value) = (b_ (rlB l a))
  refine congrArg Value.bool ?_; unfold rlB gcl; rw [hm]; rfl

theorem rtch_spec (kv kw : List (Int × Cl)) (al : Option Addr) (l : List Cl) (cl : Nat) (bl : Option Addr) (m : List Cl) (dl : Nat) (hl : l.length ≤ 64) (hm : m.length ≤ 64) (hK : KR kv l) (hM : KR kw m) (w : World) (r0 : arrAt w al (V.flat encCl l)) (r1 : arrAt w bl (V.flat encCl m)) (hs : HS w (feet []) [] w) :
    Calls Tryz.prog 14 #[vS al l cl, vS bl m dl] w fun e w' => ∃ zz, e = .returned ((fun (zz : (Option Addr) × Nat) => match zz with | (al', cl') => (vS al' (tchL kv kw) cl')) zz) ∧ (fun (zz : (Option Addr) × Nat) => match zz with | (al', cl') => True) zz ∧ Turn [] ((fun (zz : (Option Addr) × Nat) => match zz with | (al', cl') => [sI al' (tchL kv kw) cl']) zz) w w' := by
  refine calls_of (args := [vS al l cl, vS bl m dl]) (penv [vS al l cl, vS bl m dl]) (feet []) [] Tryz.func14 rfl rfl (look_penv _) hs ?_
  refine A.sr (A.g [.p] [] [] ?_)
  refine tsr (A.g [.p] [] [(5, e_)] ?_)
  refine tsr (A.g [.p] [] [(6, i_ 0)] ?_)
  refine tsr (A.g [.p] [] [(7, i_ 0)] ?_)
  refine A.tn (A.seq (A.sr (A.gk [.p, .p, .p, .p, .w ((l.length : Int) + (m.length : Int)), .p] [] [(13, i_ ((l.length : Int) + (m.length : Int))), (14, i_ 0)] [] (fun κ => (IntKind.i64.wrap ((l.length : Int) + (m.length : Int)) = ((l.length : Int) + (m.length : Int))) ∧ True) ⟨(wrap_i64 (e := (l.length : Int) + (m.length : Int)) (by constructor <;> omega)), trivial⟩ ?_)))
  refine A.tn (A.block (A.ownNil 3 1 [sI none ([] : List Int) 0] rfl ?_))
  refine A.loop (fun (zz : Nat × Nat × Nat × (List Int) × (Option Addr) × Nat) => match zz with | (n, i, k, out, ao, co) => [(0, vS al l cl), (1, vS bl m dl), (13, i_ ((l.length : Int) + (m.length : Int))), (14, c_ n), (6, c_ i), (7, c_ k), (5, vS ao out co)]) (fun (zz : Nat × Nat × Nat × (List Int) × (Option Addr) × Nat) => match zz with | (n, i, k, out, ao, co) => [sI ao out co]) (fun (zz : Nat × Nat × Nat × (List Int) × (Option Addr) × Nat) => match zz with | (n, i, k, out, ao, co) => (n ≤ i + k) ∧ (TI l m kv kw i k out)) (fun (zz : Nat × Nat × Nat × (List Int) × (Option Addr) × Nat) => match zz with | (n, i, k, out, ao, co) => l.length + m.length - n) (0, 0, 0, ([] : List Int), none, 0) ⟨(by omega), (by exact ti_0 _ _ _ _)⟩ ?_ ?_
  · exact A.hK [0]
  rintro ⟨n, i, k, out, ao, co⟩ ⟨hn, hT⟩
  have hol := ti_len hK hM hT; have hil := hT.il; have hkm := hT.km; have hSl := hK.srt; have hSm := hM.srt
  refine A.sr (A.g [.p] [] [(15, b_ (decide ((n : Int) < ((l.length : Int) + (m.length : Int)))))] ?_)
  refine A.tn (A.seq (A.cn (decide ((n : Int) < ((l.length : Int) + (m.length : Int)))) (fun e1 => ?_) (fun e1 => ?_)))
  · have p1 := of_decide_eq_true e1
    refine A.skip (A.tn (A.seq (A.block (A.seq ?_))))
    obtain ⟨x, hx⟩ : ∃ x, i < l.length → l[i]? = some x := ⟨l.getD i cl0, fun h => by simp [h]⟩; obtain ⟨y, hy⟩ : ∃ x, k < m.length → m[k]? = some x := ⟨m.getD k cl0, fun h => by simp [h]⟩
    refine A.region (A.g [.p] [15] [] ?_)
    refine A.tn (A.seq (A.seq (A.dA [.p, .p, .p, .p, .p, .o, .p, .p, .p, .p, .p, .o, .p, .p, .ix, .p, .rd [i_ x.hi], .p, .p, .ix, .p, .rd [i_ y.hi], .p, .cl, .cl] [0, 1, 2, 3, 4, 5, 6, 7, 8, 9, 10, 11, 12, 13, 14, 15, 16, 17, 18, 19, 20, 21, 22] [] [(38, b_ ((decide ((i : Int) < (l.length : Int))) && (((k : Int) == (m.length : Int)) || (decide (x.hi ≤ y.hi)))))] [] (fun κ => (((true && ((decide ((i : Int) < (l.length : Int))) == true)) && (((k : Int) == (m.length : Int)) == false)) = true → κ.ix al l.length (i : Int)) ∧ (((true && ((decide ((i : Int) < (l.length : Int))) == true)) && (((k : Int) == (m.length : Int)) == false)) = true → κ.rd (((at0 al).add (i * 14)).add 0) [i_ x.hi]) ∧ (((true && ((decide ((i : Int) < (l.length : Int))) == true)) && (((k : Int) == (m.length : Int)) == false)) = true → κ.ix bl m.length (k : Int)) ∧ (((true && ((decide ((i : Int) < (l.length : Int))) == true)) && (((k : Int) == (m.length : Int)) == false)) = true → κ.rd (((at0 bl).add (k * 14)).add 0) [i_ y.hi]) ∧ True) ⟨(fun h_ => (ixOf encCl_len (by decide) (rd_old r0 (by simp [feet])) (by ((simp at h_; omega))))), (fun h_ => (reads_at2 (f := 0) (vs := [i_ x.hi]) encCl_len (rd_old r0 (by simp [feet])) (hx (by (simp at h_; omega))) (by simp) rfl)), (fun h_ => (ixOf encCl_len (by decide) (rd_old r1 (by simp [feet])) (by ((simp at h_; omega))))), (fun h_ => (reads_at2 (f := 0) (vs := [i_ y.hi]) encCl_len (rd_old r1 (by simp [feet])) (hy (by (simp at h_; omega))) (by simp) rfl)), trivial⟩ ?_)))
    refine A.tn (A.cn ((decide ((i : Int) < (l.length : Int))) && (((k : Int) == (m.length : Int)) || (decide (x.hi ≤ y.hi)))) (fun e2 => ?_) (fun e2 => ?_))
    · have p2 := e2; try simp only [nrm] at p2
      have q1 : (i < l.length ∧ ((k : Int) = (m.length : Int) ∨ x.hi ≤ y.hi)) := by simpa using e2
      refine A.region (A.gk [.p, .p, .ix, .p, .rd [i_ x.hi], .p] [38] [(8, i_ x.hi)] [] (fun κ => κ.ix al l.length (i : Int) ∧ κ.rd (((at0 al).add (i * 14)).add 0) [i_ x.hi] ∧ True) ⟨(ixOf encCl_len (by decide) (rd_old r0 (by simp [feet])) (by (omega))), reads_at2 (f := 0) (vs := [i_ x.hi]) encCl_len (rd_old r0 (by simp [feet])) (hx (by omega)) (by simp) rfl, trivial⟩ ?_)
      refine A.tn (A.seq (A.sr (A.gk [.p, .p, .p, .p, .p, .o, .p, .p, .ix, .p, .rd [i_ x.hi], .p, .p, .cl] [] [(65, b_ ((decide ((i : Int) < (l.length : Int))) && (x.hi == x.hi)))] [] (fun κ => ((true && ((decide ((i : Int) < (l.length : Int))) == true)) = true → κ.ix al l.length (i : Int)) ∧ ((true && ((decide ((i : Int) < (l.length : Int))) == true)) = true → κ.rd (((at0 al).add (i * 14)).add 0) [i_ x.hi]) ∧ True) ⟨(fun h_ => (ixOf encCl_len (by decide) (rd_old r0 (by simp [feet])) (by (omega)))), (fun h_ => (reads_at2 (f := 0) (vs := [i_ x.hi]) encCl_len (rd_old r0 (by simp [feet])) (hx (by omega)) (by simp) rfl)), trivial⟩ ?_)))
      refine A.tn (A.cn ((decide ((i : Int) < (l.length : Int))) && (x.hi == x.hi)) (fun e3 => ?_) (fun e3 => ?_))
      · have p3 := e3; try simp only [nrm] at p3
        refine A.region (A.gk [.p, .w ((i : Int) + 1), .p] [65] [(6, i_ ((i : Int) + 1))] [] (fun κ => (IntKind.i64.wrap ((i : Int) + 1) = ((i : Int) + 1)) ∧ True) ⟨(wrap_i64 (e := (i : Int) + 1) (by constructor <;> omega)), trivial⟩ ?_)
        refine A.tn (A.seq (A.sr (A.gk [.p, .p, .p, .p, .p, .o, .p, .p, .ix, .p, .rd [i_ y.hi], .p, .p, .cl] [] [(80, b_ ((decide ((k : Int) < (m.length : Int))) && (y.hi == x.hi)))] [] (fun κ => ((true && ((decide ((k : Int) < (m.length : Int))) == true)) = true → κ.ix bl m.length (k : Int)) ∧ ((true && ((decide ((k : Int) < (m.length : Int))) == true)) = true → κ.rd (((at0 bl).add (k * 14)).add 0) [i_ y.hi]) ∧ True) ⟨(fun h_ => (ixOf encCl_len (by decide) (rd_old r1 (by simp [feet])) (by ((simp at h_; omega))))), (fun h_ => (reads_at2 (f := 0) (vs := [i_ y.hi]) encCl_len (rd_old r1 (by simp [feet])) (hy (by (simp at h_; omega))) (by simp) rfl)), trivial⟩ ?_)))
        refine A.tn (A.cn ((decide ((k : Int) < (m.length : Int))) && (y.hi == x.hi)) (fun e4 => ?_) (fun e4 => ?_))
        · have p4 := e4; try simp only [nrm] at p4
          have q3 : (k < m.length ∧ y.hi = x.hi) := by simpa using e4
          refine A.region (A.gk [.p, .w ((k : Int) + 1), .p] [80] [(7, i_ ((k : Int) + 1))] [] (fun κ => (IntKind.i64.wrap ((k : Int) + 1) = ((k : Int) + 1)) ∧ True) ⟨(wrap_i64 (e := (k : Int) + 1) (by constructor <;> omega)), trivial⟩ ?_)
          refine tsr (A.gk [.p, .p, .p, .cq (b_ (samR l m x.hi)), .p] [] [(87, b_ (!(samR l m x.hi)))] [] (fun κ => κ.call 34 [vS al l cl, vS bl m dl, i_ x.hi] (b_ (samR l m x.hi)) ∧ True) ⟨(fun ww ss => sam_spec al l cl bl m dl x.hi (by omega) (by omega) ww ((rd_old r0 (by simp [feet])) ww ss) ((rd_old r1 (by simp [feet])) ww ss)), trivial⟩ ?_)
          refine A.tn (A.cn (!(samR l m x.hi)) (fun e5 => ?_) (fun e5 => ?_))
          · have p5 := e5; try simp only [nrm] at p5
            have hdf : difB kv kw x.hi = true := by have h_ := samR_dif hK hM x.hi; simp_all
            refine A.region (A.gp [.p, .p] [8, 87] [(88, vS ao out co), (89, i_ x.hi)] ?_)
            refine A.cons (A.buildSlice 90 (e := 3) [i_ x.hi] (by kernel_rfl) rfl (fun _ => by kernel_rfl) (fun b2 => [sI ao out co, blk b2 [i_ x.hi] 3]) (fun _ => rfl) ?_)
            intro b2
            refine A.cons (A.appendC (enc := encI) (xs := out) ([x.hi]) 0 91 (e := 3) (z := (i_ 0)) (sz := 1) (by_ := 8) (by kernel_rfl) rfl rfl rfl (by kernel_rfl) (by kernel_rfl) (by rfl) (by decide) encI_len encI_one rfl (rd_blk (i := 1) rfl) (by (simp; omega)) (fun A3 c3 => [sI A3 (out ++ ([x.hi])) c3, blk b2 [i_ x.hi] 3]) (fun _ _ => rfl) ?_)
            intro A3 c3
            refine A.goA [.p] [(0, vS al l cl), (1, vS bl m dl), (13, i_ ((l.length : Int) + (m.length : Int))), (14, c_ n), (6, i_ ((i : Int) + 1)), (7, i_ ((k : Int) + 1)), (5, vS A3 (out ++ ([x.hi])) c3)] [] T0 (by kernel_rfl) trivial ?_
            refine A.bn (tr (A.gk [.w ((n : Int) + 1), .p] [] [(14, i_ ((n : Int) + 1))] [] (fun κ => (IntKind.i64.wrap ((n : Int) + 1) = ((n : Int) + 1)) ∧ True) ⟨(wrap_i64 (e := (n : Int) + 1) (by constructor <;> omega)), trivial⟩ ?_))
            refine A.tn ?_
            have hT2 := ti_b hSl hSm hT (hx (by omega)) (hy (by omega)) (by omega); simp only [addB, hdf, if_true, Bool.false_eq_true, if_false] at hT2
            refine A.next (n + 1, i + 1, k + 1, out ++ ([x.hi]), A3, c3) ⟨(by omega), (by exact hT2)⟩ (by (show l.length + m.length - (n + 1) < l.length + m.length - n; omega)) ?_
            exact A.hK [0]
          have p5 := e5; try simp only [nrm] at p5
          have hdf : difB kv kw x.hi = false := by have h_ := samR_dif hK hM x.hi; simp_all
          refine A.skip (A.bn (tr (A.gk [.w ((n : Int) + 1), .p] [8, 87] [(14, i_ ((n : Int) + 1))] [] (fun κ => (IntKind.i64.wrap ((n : Int) + 1) = ((n : Int) + 1)) ∧ True) ⟨(wrap_i64 (e := (n : Int) + 1) (by constructor <;> omega)), trivial⟩ ?_)))
          refine A.tn ?_
          have hT2 := ti_b hSl hSm hT (hx (by omega)) (hy (by omega)) (by omega); simp only [addB, hdf, if_true, Bool.false_eq_true, if_false] at hT2
          refine A.next (n + 1, i + 1, k + 1, out, ao, co) ⟨(by omega), (by exact hT2)⟩ (by (show l.length + m.length - (n + 1) < l.length + m.length - n; omega)) ?_
          exact A.hK [0]
        have p4 := e4; try simp only [nrm] at p4
        have q3 : ¬ (k < m.length ∧ y.hi = x.hi) := by simpa using e4
        refine A.skip (tsr (A.gk [.p, .p, .p, .cq (b_ (samR l m x.hi)), .p] [80] [(87, b_ (!(samR l m x.hi)))] [] (fun κ => κ.call 34 [vS al l cl, vS bl m dl, i_ x.hi] (b_ (samR l m x.hi)) ∧ True) ⟨(fun ww ss => sam_spec al l cl bl m dl x.hi (by omega) (by omega) ww ((rd_old r0 (by simp [feet])) ww ss) ((rd_old r1 (by simp [feet])) ww ss)), trivial⟩ ?_))
        refine A.tn (A.cn (!(samR l m x.hi)) (fun e6 => ?_) (fun e6 => ?_))
        · have p6 := e6; try simp only [nrm] at p6
          have hdf : difB kv kw x.hi = true := by have h_ := samR_dif hK hM x.hi; simp_all
          refine A.region (A.gp [.p, .p] [8, 87] [(88, vS ao out co), (89, i_ x.hi)] ?_)
          refine A.cons (A.buildSlice 90 (e := 3) [i_ x.hi] (by kernel_rfl) rfl (fun _ => by kernel_rfl) (fun b4 => [sI ao out co, blk b4 [i_ x.hi] 3]) (fun _ => rfl) ?_)
          intro b4
          refine A.cons (A.appendC (enc := encI) (xs := out) ([x.hi]) 0 91 (e := 3) (z := (i_ 0)) (sz := 1) (by_ := 8) (by kernel_rfl) rfl rfl rfl (by kernel_rfl) (by kernel_rfl) (by rfl) (by decide) encI_len encI_one rfl (rd_blk (i := 1) rfl) (by (simp; omega)) (fun A5 c5 => [sI A5 (out ++ ([x.hi])) c5, blk b4 [i_ x.hi] 3]) (fun _ _ => rfl) ?_)
          intro A5 c5
          refine A.goA [.p] [(0, vS al l cl), (1, vS bl m dl), (13, i_ ((l.length : Int) + (m.length : Int))), (14, c_ n), (6, i_ ((i : Int) + 1)), (7, c_ k), (5, vS A5 (out ++ ([x.hi])) c5)] [] T0 (by kernel_rfl) trivial ?_
          refine A.bn (tr (A.gk [.w ((n : Int) + 1), .p] [] [(14, i_ ((n : Int) + 1))] [] (fun κ => (IntKind.i64.wrap ((n : Int) + 1) = ((n : Int) + 1)) ∧ True) ⟨(wrap_i64 (e := (n : Int) + 1) (by constructor <;> omega)), trivial⟩ ?_))
          refine A.tn ?_
          have hT2 := ti_l hSl hSm hT (hx (by omega)) (by (rcases Nat.lt_or_ge k m.length with g_ | g_; exact drop_lt hSm (hy g_) (by omega); exact drop_none g_)); simp only [addB, hdf, if_true, Bool.false_eq_true, if_false] at hT2
          refine A.next (n + 1, i + 1, k, out ++ ([x.hi]), A5, c5) ⟨(by omega), (by exact hT2)⟩ (by (show l.length + m.length - (n + 1) < l.length + m.length - n; omega)) ?_
          exact A.hK [0]
        have p6 := e6; try simp only [nrm] at p6
        have hdf : difB kv kw x.hi = false := by have h_ := samR_dif hK hM x.hi; simp_all
        refine A.skip (A.bn (tr (A.gk [.w ((n : Int) + 1), .p] [8, 87] [(14, i_ ((n : Int) + 1))] [] (fun κ => (IntKind.i64.wrap ((n : Int) + 1) = ((n : Int) + 1)) ∧ True) ⟨(wrap_i64 (e := (n : Int) + 1) (by constructor <;> omega)), trivial⟩ ?_)))
        refine A.tn ?_
        have hT2 := ti_l hSl hSm hT (hx (by omega)) (by (rcases Nat.lt_or_ge k m.length with g_ | g_; exact drop_lt hSm (hy g_) (by omega); exact drop_none g_)); simp only [addB, hdf, if_true, Bool.false_eq_true, if_false] at hT2
        refine A.next (n + 1, i + 1, k, out, ao, co) ⟨(by omega), (by exact hT2)⟩ (by (show l.length + m.length - (n + 1) < l.length + m.length - n; omega)) ?_
        exact A.hK [0]
      exact absurd e3 (by (intro h_; simp at h_; omega))
    have p2 := e2; try simp only [nrm] at p2
    have q1 : ¬ (i < l.length ∧ ((k : Int) = (m.length : Int) ∨ x.hi ≤ y.hi)) := by simpa using e2
    refine A.seq (A.sr (A.g [.p, .p, .p, .p] [38] [(47, b_ ((k : Int) == (m.length : Int)))] ?_))
    refine A.tn (A.cn ((k : Int) == (m.length : Int)) (fun e7 => ?_) (fun e7 => ?_))
    · have p7 := e7; try simp only [nrm] at p7
      refine A.exit (A.te (A.te (A.bm rfl ?_)))
      refine A.te (A.te (A.bh (tsr (A.g [.p, .p] [0, 1, 13, 14, 6, 7, 5, 47] [(4, vS ao out co)] ?_))))
      refine A.tn (A.ret (A.setH [sI ao (tchL kv kw) co] (cc (slC (by exact ti_end hK hM hT (by omega) (by omega) : out = (tchL kv kw))) rfl) ?_))
      refine A.pK [0] [vS ao out co] (ao, co) ?_ ?_
      · show ((vS ao out co) : Value) = (vS ao (tchL kv kw) co)
        rw [ti_end hK hM hT (by omega) (by omega)]
      trivial
    have p7 := e7; try simp only [nrm] at p7
    refine A.skip (tr (A.gk [.p, .p, .ix, .p, .rd [i_ y.hi], .p] [47] [(8, i_ y.hi)] [] (fun κ => κ.ix bl m.length (k : Int) ∧ κ.rd (((at0 bl).add (k * 14)).add 0) [i_ y.hi] ∧ True) ⟨(ixOf encCl_len (by decide) (rd_old r1 (by simp [feet])) (by (omega))), reads_at2 (f := 0) (vs := [i_ y.hi]) encCl_len (rd_old r1 (by simp [feet])) (hy (by omega)) (by simp) rfl, trivial⟩ ?_))
    refine A.tn (A.seq (A.sr (A.gk [.p, .p, .p, .p, .p, .o, .p, .p, .ix, .p, .rd [i_ x.hi], .p, .p, .cl] [] [(65, b_ ((decide ((i : Int) < (l.length : Int))) && (x.hi == y.hi)))] [] (fun κ => ((true && ((decide ((i : Int) < (l.length : Int))) == true)) = true → κ.ix al l.length (i : Int)) ∧ ((true && ((decide ((i : Int) < (l.length : Int))) == true)) = true → κ.rd (((at0 al).add (i * 14)).add 0) [i_ x.hi]) ∧ True) ⟨(fun h_ => (ixOf encCl_len (by decide) (rd_old r0 (by simp [feet])) (by ((simp at h_; omega))))), (fun h_ => (reads_at2 (f := 0) (vs := [i_ x.hi]) encCl_len (rd_old r0 (by simp [feet])) (hx (by (simp at h_; omega))) (by simp) rfl)), trivial⟩ ?_)))
    refine A.tn (A.cn ((decide ((i : Int) < (l.length : Int))) && (x.hi == y.hi)) (fun e8 => ?_) (fun e8 => ?_))
    · exact absurd e8 (by (intro h_; simp at h_; omega))
    have p8 := e8; try simp only [nrm] at p8
    refine A.skip (A.tn (A.seq (A.sr (A.gk [.p, .p, .p, .p, .p, .o, .p, .p, .ix, .p, .rd [i_ y.hi], .p, .p, .cl] [65] [(80, b_ ((decide ((k : Int) < (m.length : Int))) && (y.hi == y.hi)))] [] (fun κ => ((true && ((decide ((k : Int) < (m.length : Int))) == true)) = true → κ.ix bl m.length (k : Int)) ∧ ((true && ((decide ((k : Int) < (m.length : Int))) == true)) = true → κ.rd (((at0 bl).add (k * 14)).add 0) [i_ y.hi]) ∧ True) ⟨(fun h_ => (ixOf encCl_len (by decide) (rd_old r1 (by simp [feet])) (by (omega)))), (fun h_ => (reads_at2 (f := 0) (vs := [i_ y.hi]) encCl_len (rd_old r1 (by simp [feet])) (hy (by omega)) (by simp) rfl)), trivial⟩ ?_))))
    refine A.tn (A.cn ((decide ((k : Int) < (m.length : Int))) && (y.hi == y.hi)) (fun e9 => ?_) (fun e9 => ?_))
    · have p9 := e9; try simp only [nrm] at p9
      have q3 : (k < m.length ∧ y.hi = y.hi) := by simpa using e9
      refine A.region (A.gk [.p, .w ((k : Int) + 1), .p] [80] [(7, i_ ((k : Int) + 1))] [] (fun κ => (IntKind.i64.wrap ((k : Int) + 1) = ((k : Int) + 1)) ∧ True) ⟨(wrap_i64 (e := (k : Int) + 1) (by constructor <;> omega)), trivial⟩ ?_)
      refine tsr (A.gk [.p, .p, .p, .cq (b_ (samR l m y.hi)), .p] [] [(87, b_ (!(samR l m y.hi)))] [] (fun κ => κ.call 34 [vS al l cl, vS bl m dl, i_ y.hi] (b_ (samR l m y.hi)) ∧ True) ⟨(fun ww ss => sam_spec al l cl bl m dl y.hi (by omega) (by omega) ww ((rd_old r0 (by simp [feet])) ww ss) ((rd_old r1 (by simp [feet])) ww ss)), trivial⟩ ?_)
      refine A.tn (A.cn (!(samR l m y.hi)) (fun e10 => ?_) (fun e10 => ?_))
      · have p10 := e10; try simp only [nrm] at p10
        have hdf : difB kv kw y.hi = true := by have h_ := samR_dif hK hM y.hi; simp_all
        refine A.region (A.gp [.p, .p] [8, 87] [(88, vS ao out co), (89, i_ y.hi)] ?_)
        refine A.cons (A.buildSlice 90 (e := 3) [i_ y.hi] (by kernel_rfl) rfl (fun _ => by kernel_rfl) (fun b6 => [sI ao out co, blk b6 [i_ y.hi] 3]) (fun _ => rfl) ?_)
        intro b6
        refine A.cons (A.appendC (enc := encI) (xs := out) ([y.hi]) 0 91 (e := 3) (z := (i_ 0)) (sz := 1) (by_ := 8) (by kernel_rfl) rfl rfl rfl (by kernel_rfl) (by kernel_rfl) (by rfl) (by decide) encI_len encI_one rfl (rd_blk (i := 1) rfl) (by (simp; omega)) (fun A7 c7 => [sI A7 (out ++ ([y.hi])) c7, blk b6 [i_ y.hi] 3]) (fun _ _ => rfl) ?_)
        intro A7 c7
        refine A.goA [.p] [(0, vS al l cl), (1, vS bl m dl), (13, i_ ((l.length : Int) + (m.length : Int))), (14, c_ n), (6, c_ i), (7, i_ ((k : Int) + 1)), (5, vS A7 (out ++ ([y.hi])) c7)] [] T0 (by kernel_rfl) trivial ?_
        refine A.bn (tr (A.gk [.w ((n : Int) + 1), .p] [] [(14, i_ ((n : Int) + 1))] [] (fun κ => (IntKind.i64.wrap ((n : Int) + 1) = ((n : Int) + 1)) ∧ True) ⟨(wrap_i64 (e := (n : Int) + 1) (by constructor <;> omega)), trivial⟩ ?_))
        refine A.tn ?_
        have hT2 := ti_m hSl hSm hT (hy (by omega)) (by (rcases Nat.lt_or_ge i l.length with g_ | g_; exact drop_lt hSl (hx g_) (by omega); exact drop_none g_)); simp only [addB, hdf, if_true, Bool.false_eq_true, if_false] at hT2
        refine A.next (n + 1, i, k + 1, out ++ ([y.hi]), A7, c7) ⟨(by omega), (by exact hT2)⟩ (by (show l.length + m.length - (n + 1) < l.length + m.length - n; omega)) ?_
        exact A.hK [0]
      have p10 := e10; try simp only [nrm] at p10
      have hdf : difB kv kw y.hi = false := by have h_ := samR_dif hK hM y.hi; simp_all
      refine A.skip (A.bn (tr (A.gk [.w ((n : Int) + 1), .p] [8, 87] [(14, i_ ((n : Int) + 1))] [] (fun κ => (IntKind.i64.wrap ((n : Int) + 1) = ((n : Int) + 1)) ∧ True) ⟨(wrap_i64 (e := (n : Int) + 1) (by constructor <;> omega)), trivial⟩ ?_)))
      refine A.tn ?_
      have hT2 := ti_m hSl hSm hT (hy (by omega)) (by (rcases Nat.lt_or_ge i l.length with g_ | g_; exact drop_lt hSl (hx g_) (by omega); exact drop_none g_)); simp only [addB, hdf, if_true, Bool.false_eq_true, if_false] at hT2
      refine A.next (n + 1, i, k + 1, out, ao, co) ⟨(by omega), (by exact hT2)⟩ (by (show l.length + m.length - (n + 1) < l.length + m.length - n; omega)) ?_
      exact A.hK [0]
    exact absurd e9 (by (intro h_; simp at h_; omega))
  have p1 := of_decide_eq_false e1
  refine A.exit (A.te (A.te (A.bh (tsr (A.g [.p, .p] [0, 1, 13, 14, 6, 7, 5, 15] [(4, vS ao out co)] ?_)))))
  refine A.tn (A.ret (A.setH [sI ao (tchL kv kw) co] (cc (slC (by exact ti_end hK hM hT (by omega) (by omega) : out = (tchL kv kw))) rfl) ?_))
  refine A.pK [0] [vS ao out co] (ao, co) ?_ ?_
  · show ((vS ao out co) : Value) = (vS ao (tchL kv kw) co)
    rw [ti_end hK hM hT (by omega) (by omega)]
  trivial

theorem rrel_spec (kv kw : List (Int × Cl)) (al : Option Addr) (l : List Cl) (cl : Nat) (bl : Option Addr) (m : List Cl) (dl : Nat) (hl : l.length ≤ 64) (hm : m.length ≤ 64) (hK : KR kv l) (hM : KR kw m) (w : World) (r0 : arrAt w al (V.flat encCl l)) (r1 : arrAt w bl (V.flat encCl m)) (hs : HS w (feet []) [] w) :
    Calls Tryz.prog 16 #[vS al l cl, vS bl m dl] w fun e w' => ∃ zz, e = .returned ((fun (zz : Unit) => (b_ ((tchL kv kw).any (relB kv kw)))) zz) ∧ (fun (zz : Unit) => True) zz ∧ Turn [] ((fun (zz : Unit) => []) zz) w w' := by
  refine calls_of (args := [vS al l cl, vS bl m dl]) (penv [vS al l cl, vS bl m dl]) (feet []) [] Tryz.func16 rfl rfl (look_penv _) hs ?_
  refine A.sr (A.g [.p] [] [] ?_)
  refine A.tn (A.seq (A.sr (A.gp [.p, .p] [] [(7, vS al l cl), (8, vS bl m dl)] ?_)))
  refine A.cons (A.cT (some 9) [vS al l cl, vS bl m dl] [] ((fun zz => match zz with | (al'1, cl'2) => (vS al'1 (tchL kv kw) cl'2))) ((fun zz => match zz with | (al'1, cl'2) => True)) ((fun zz => match zz with | (al'1, cl'2) => [sI al'1 (tchL kv kw) cl'2])) (fun ww ss hh => rtch_spec kv kw al l cl bl m dl (by assumption) (by assumption) (by assumption) (by assumption) ww ((rd_old r0 (by simp [feet])) ww ss) ((rd_old r1 (by simp [feet])) ww ss) hh) ?_)
  rintro ⟨al'1, cl'2⟩ -
  refine A.g [.p, .p] [7, 8] [(9, vS al'1 (tchL kv kw) cl'2), (10, i_ ((tchL kv kw).length : Int)), (11, i_ 0)] ?_
  refine A.tn (A.block (A.loop (fun (zz : Nat) => match zz with | k => [(0, vS al l cl), (1, vS bl m dl), (9, vS al'1 (tchL kv kw) cl'2), (10, i_ ((tchL kv kw).length : Int)), (11, c_ k)]) (fun (zz : Nat) => match zz with | k => [sI al'1 (tchL kv kw) cl'2]) (fun (zz : Nat) => match zz with | k => (k ≤ (tchL kv kw).length) ∧ (∀ x ∈ (tchL kv kw).take k, relB kv kw x = false)) (fun (zz : Nat) => match zz with | k => (tchL kv kw).length - k) (0 : Nat) ⟨(by omega), (by simp)⟩ ?_ ?_))
  · exact A.hK [0]
  rintro k ⟨hk, hn⟩
  have htl := tch_len kv kw; have hlk := kr_len hK; have hlm := kr_len hM
  refine A.sr (A.g [.p] [] [(12, b_ (decide ((k : Int) < ((tchL kv kw).length : Int))))] ?_)
  refine A.tn (A.seq (A.cn (decide ((k : Int) < ((tchL kv kw).length : Int))) (fun e2 => ?_) (fun e2 => ?_)))
  · have p2 := of_decide_eq_true e2
    refine A.skip (A.tn (A.seq (A.block (A.sr (A.gpk [.ix] [12] [(13, (.pointer (some ((at0 al'1).add (k * 1)))))] [] (fun κ => κ.ix al'1 ((tchL kv kw).length) (k : Int) ∧ True) ⟨(ixOf encI_len (by decide) (rd_sl (i := 0) rfl) (by omega)), trivial⟩ ?_)))))
    obtain ⟨x4, hx4⟩ : ∃ x, ((tchL kv kw))[k]? = some x := ⟨_, List.getElem?_eq_getElem (by omega)⟩
    refine A.gk [.rd [i_ x4], .p] [13] [(6, i_ x4)] [] (fun κ => κ.rd ((at0 al'1).add (k * 1)) [i_ x4] ∧ True) ⟨(reads_at0 (vs := [i_ x4]) encI_len (rd_sl (i := 0) rfl) hx4 (Nat.le_of_ble_eq_true rfl) rfl), trivial⟩ ?_
    refine tsr (A.gk [.p, .p, .cq (b_ (rlB l x4)), .p, .o, .p, .p, .cq (b_ (rlB m x4)), .cl] [6] [(22, b_ ((rlB l x4) || (rlB m x4)))] [] (fun κ => κ.call 38 [vS al l cl, i_ x4] (b_ (rlB l x4)) ∧ ((true && ((rlB l x4) == false)) = true → κ.call 38 [vS bl m dl, i_ x4] (b_ (rlB m x4))) ∧ True) ⟨(fun ww ss => rlB_spec al l cl x4 (by omega) ww ((rd_old r0 (by simp [feet])) ww ss)), (fun h_ => (fun ww ss => rlB_spec bl m dl x4 (by omega) ww ((rd_old r1 (by simp [feet])) ww ss))), trivial⟩ ?_)
    refine A.tn (A.cn ((rlB l x4) || (rlB m x4)) (fun e3 => ?_) (fun e3 => ?_))
    · have p3 := e3; try simp only [nrm] at p3
      refine A.sr (A.g [.p] [0, 1, 9, 10, 11, 22] [(4, b_ true)] ?_)
      refine A.tn (A.ret (A.br (A.tr (A.tr (A.br (A.tr (A.pK [] [b_ true] () ?_ ?_)))))))
      · show ((b_ true) : Value) = (b_ ((tchL kv kw).any (relB kv kw)))
        refine congrArg Value.bool ?_; (rw [anyR_t (by assumption) (by rw [← rlB_rel hK hM]; simp_all)]; done)
      trivial
    have p3 := e3; try simp only [nrm] at p3
    refine A.skip (A.bn (tr (A.gk [.w ((k : Int) + 1), .p] [22] [(11, i_ ((k : Int) + 1))] [] (fun κ => (IntKind.i64.wrap ((k : Int) + 1) = ((k : Int) + 1)) ∧ True) ⟨(wrap_i64 (e := (k : Int) + 1) (by constructor <;> omega)), trivial⟩ ?_)))
    refine A.tn (A.next (k + 1) ⟨(by omega), (by exact anyR_s hn (by assumption) (by rw [← rlB_rel hK hM]; simp_all))⟩ (by (simp; omega)) ?_)
    exact A.hK [0]
  have p2 := of_decide_eq_false e2
  refine A.exit (A.te (A.te (A.bh (tsr (A.g [.p] [0, 1, 9, 10, 11, 12] [(4, b_ false)] ?_)))))
  refine A.tn (A.ret (A.pK [] [b_ false] () ?_ ?_))
  · show ((b_ false) : Value) = (b_ ((tchL kv kw).any (relB kv kw)))
    refine congrArg Value.bool ?_; (rw [anyR_f hn (by omega)]; done)
  trivial
end Go.Proofs.YtinnnoimmioaiaaGreat
