/- Go's slices.Grow of no slice, for at most 1000 places: a slice of the call's own without elements. -/
import Derived.Test.YtinnnoimmioaiaaTra1
namespace Go.Proofs.Ytinnnoimmioaiaa
open Go V
/-- append of so many zeros to no slice -/
theorem run_append_zeros {P : Program} {t ti ty e : TypeId} {k : IntKind} {i : TypeInfo} {z : Value} {n : Nat} (w : World) (ht : P.underlying t = some (.slice e)) (hti : P.underlying ti = some (.int k)) (hi : P.info? e = some i) (hz : i.zero = some z) (hzs : z.cells.size = i.size) (hsz : 0 < i.size)
    (hn : 0 < n) (h63 : n ≤ maxLen) (hbytes : n * i.bytes ≤ 140737488355328) :
    ∃ b c' w', (Builtin.append_ #[t, ti] ty #[.slice none 0 0, .int .i64 n]).run P w = .ok (.slice (some ⟨b, 0, none⟩) n c') w' ∧ (sl (some ⟨b, 0, none⟩) 0 c' e i.size []).holds w' ∧ Fr [] w w' ∧ w.heap.size ≤ b := by
  have hge := grownCap_ge w n 0 e
  have hcm' : grownCap w n 0 e ≤ maxLen := grownCap_le_maxLen w n 0 e h63
  obtain ⟨w', hw'⟩ : ∃ w', w' = (World.drew w).alloc (.cells (Builtin.zeroCells z.cells n ++ Builtin.zeroCells z.cells (grownCap w n 0 e - n)) e) := ⟨_, rfl⟩
  refine ⟨w.heap.size, grownCap w n 0 e, w', ?_, ⟨by simp, Nat.zero_le _, hcm', .inr ⟨w.heap.size, 0, _, rfl, by rw [hw']; exact heap_alloc_new w.drew _, ?_, by simp⟩⟩, ?_, Nat.le_refl _⟩
  · subst hw'
    have h48 : ¬ (Builtin.nextslicecap n 0 * i.bytes > 2 ^ 48) := by
      have h2 := growslice_fits (need := n) (old := 0) (by omega) hbytes
      omega
    have hmax : IntKind.i64.max = 9223372036854775807 := by decide
    have hm63 : n ≤ 9223372036854775807 := by simp only [maxLen] at h63; omega
    have hwr : IntKind.i64.wrap (n : Int) = n := wrap_i64 (e := (n : Int)) (by constructor <;> omega)
    have hb48 : ¬ ((n : Int) * (i.bytes : Int) > 2 ^ 48) := by
      have : n * i.bytes ≤ 2 ^ 48 := by omega
      have h2 : ((n * i.bytes : Nat) : Int) ≤ 2 ^ 48 := by exact_mod_cast this
      rw [Int.natCast_mul] at h2; omega
    have hn0 : ¬ ((n : Int) < 0) := by omega
    have hn1 : n ≠ 0 := by omega
    simp only [Builtin.append_]
    simp [run_underlying ht, run_underlying hti, sizeOf, typeInfo, zeroValue, hi, hz, Builtin.lenOf, h48, Question.forced, newRow, grownCap, asInt, asIntOf, hwr, hb48, hn0, hn1, Builtin.firstCells]
    have q1 : ¬ (281474976710656 < (n : Int) * (i.bytes : Int)) := by omega
    have q2 : ¬ (9223372036854775807 < (n : Int)) := by omega
    have q3 : ¬ (n * i.size = 0) := Nat.ne_of_gt (Nat.mul_pos hn hsz)
    rw [if_neg q1, if_neg q2, if_neg q3]
  · simp only [Array.size_append, size_zeroCells, hzs]
    rw [← Nat.add_mul, Nat.zero_add]
    apply Nat.le_of_eq; congr 1; omega
  · subst hw'
    exact ⟨rfl, rfl, rfl, by simp, fun k hk _ => heap_alloc_old w.drew _ hk⟩
theorem A.appendZ {P : Program} {n : Nat} {env : Env} {w0 : World} {S : List Nat} {H : List V.Item} {ops : Array Oper} {o : Oper} {K : Act → World → Prop} (d : Nat) {x y : Operand} {t ti e : TypeId} {k : IntKind} {z : Value} {sz by_ m : Nat}
    (hok : headOk ops n env o (some d) = true) (ho : o.op = .call { callee := .builtin .append, args := #[x, y], argTypes := #[t, ti] }) (hx : ev env x = some (.slice none 0 0)) (hy : ev env y = some (.int .i64 m))
    (ht : P.underlying t = some (.slice e)) (hti : P.underlying ti = some (.int k)) (hinf : (P.info? e).map (fun i => (i.zero, i.size, i.bytes)) = some (some z, sz, by_)) (hzs : z.cells.size = sz) (hsz : 0 < sz) (hm : 0 < m) (h63 : m ≤ maxLen) (hbytes : m * by_ ≤ 140737488355328)
    (H' : Nat → Nat → List V.Item) (hH : ∀ b c, H ++ [sl (some ⟨b, 0, none⟩) 0 c e sz []] = H' b c)
    (h : ∀ b c, V.A n ((d, .slice (some ⟨b, 0, none⟩) m c) :: env) w0 S (H' b c) K) : V.A n env w0 S H (Step P ops o K) := by
  intro a w r s
  obtain ⟨h1', h2, h3, h4⟩ := headOk_spec hok
  unfold Step
  rw [if_pos (wanted_of r h1')]
  simp only [Option.map_eq_some_iff, Prod.mk.injEq] at hinf
  obtain ⟨inf, hinf, hz, hs1, hs2⟩ := hinf
  subst hs1; subst hs2
  obtain ⟨b, c, w', hrun, hsl, hfr, hb⟩ := run_append_zeros (P := P) (ty := o.type) w ht hti hinf hz hzs hsz hm h63 hbytes
  unfold Oper.wp execOp
  simp only [ho, resolve, invoke, builtin, Sem.run_bind, Sem.run_pure, Result.andThen_ok, List.map_toArray, List.map_cons, List.map_nil, r.ev hx, r.ev hy, hrun, Oper.upon, h2]
  refine h b c _ _ (r.put (h3 d rfl)) ?_
  rw [← hH]
  exact s.add hfr hsl (show (slFoot (some ⟨b, 0, none⟩)).Nodup from slFoot_nodup _) (by simpa [sl, slFoot] using hb)
set_option maxHeartbeats 1000000 in
set_option maxRecDepth 100000 in
theorem grow_spec (n : Nat) (hn : n ≤ 1000) (w : World) (hs : HS w (feet []) [] w) :
    Calls Try.prog 121 #[.slice none 0 0, c_ n] w fun e w' => ∃ zz : Option Addr × Nat, e = .returned ((fun zz => match zz with | (al', cl') => vS al' ([] : List Int) cl') zz) ∧ (fun zz => match zz with | (al', cl') => True) zz ∧ Turn [] ((fun zz => match zz with | (al', cl') => [sI al' ([] : List Int) cl']) zz) w w' := by
  refine calls_of (args := [.slice none 0 0, c_ n]) (penv [.slice none 0 0, c_ n]) (feet []) [] Try.func121 rfl rfl (look_penv _) hs ?_
  refine A.norm [(0, .slice none 0 0), (1, c_ n)] [] (by exact ⟨rfl, rfl, trivial⟩) rfl ?_
  refine A.seq (A.region (A.goA [.p] [(0, .slice none 0 0), (1, c_ n), (4, .slice none 0 0)] [] T0 (by kernel_rfl) trivial ?_))
  refine A.tn (A.seq (A.seq (A.region (A.goA [.p, .p] [(0, .slice none 0 0), (1, c_ n), (6, b_ (decide ((n : Int) < 0)))] [] T0 (by kernel_rfl) trivial ?_))))
  refine A.tn (A.cond (E := decide ((n : Int) < 0)) rfl (fun e1 => ?_) (fun e1 => ?_))
  · exact absurd e1 (by simp)
  refine A.skip (A.tn (A.seq (A.seq (A.region (A.goA [.p, .p, .p, .p, .p, .p, .w ((n : Int) - 0), .p] [(0, .slice none 0 0), (1, i_ ((n : Int) - 0))] [] (fun κ => (IntKind.i64.wrap ((n : Int) - 0) = ((n : Int) - 0)) ∧ True) (by kernel_rfl) ⟨wrap_i64 (e := (n : Int) - 0) (by constructor <;> omega), trivial⟩ ?_)))))
  refine A.tn (A.seq ?_)
  refine A.sub [(0, .slice none 0 0), (1, c_ n)] (by exact ⟨rfl, congrArg (fun z_ => some (i_ z_)) (Int.sub_zero _), trivial⟩) ?_
  refine A.region (A.goA [.p, .p] [(0, .slice none 0 0), (1, c_ n), (16, b_ (decide ((n : Int) > 0)))] [] T0 (by kernel_rfl) trivial ?_)
  refine A.tn (A.cond (E := decide ((n : Int) > 0)) rfl (fun e2 => ?_) (fun e2 => ?_))
  · have hn0 : 0 < n := by have := of_decide_eq_true e2; omega
    refine A.region (A.goP [.p, .p, .p, .p, .p] [(0, .slice none 0 0), (20, .slice none 0 0), (21, c_ n)] [] T0 (by kernel_rfl) trivial ?_)
    refine A.cons (A.appendZ 22 (t := 45) (ti := 3) (e := 3) (k := .i64) (z := i_ 0) (sz := 1) (by_ := 8) (m := n) (by kernel_rfl) rfl rfl rfl (by kernel_rfl) (by kernel_rfl) (by kernel_rfl) (by rfl) (by decide) hn0 (by unfold maxLen; omega) (by omega) (fun b c => [sI (some ⟨b, 0, none⟩) ([] : List Int) c]) (fun _ _ => rfl) ?_)
    intro b c
    refine A.goP [.p, .p] [(22, .slice (some ⟨b, 0, none⟩) n c), (24, i_ 0)] [] T0 (by kernel_rfl) trivial ?_
    refine A.cons (A.q (some 25) (.slice (if c = 0 then some ⟨b, 0, none⟩ else (some ⟨b, 0, none⟩ : Option Addr).map (·.add 0)) 0 c) (by kernel_rfl) (qt_upto (k := 0) (el := 3) (sz := 1) rfl rfl rfl (by kernel_rfl) (by kernel_rfl) (Nat.zero_le _)) ?_)
    refine A.goA [.p] [(0, (.slice (if c = 0 then some ⟨b, 0, none⟩ else (some ⟨b, 0, none⟩ : Option Addr).map (·.add 0)) 0 c))] [] T0 (by kernel_rfl) trivial ?_
    refine A.sub [(0, vS (some ⟨b, 0, none⟩) ([] : List Int) c)] (by exact ⟨congrArg (fun z_ => some (Value.slice z_ 0 c)) (by split <;> rfl), trivial⟩) ?_
    refine A.tn (A.seq (A.region (A.goA [.p, .p] [(4, vS (some ⟨b, 0, none⟩) ([] : List Int) c)] [] T0 (by kernel_rfl) trivial ?_)))
    refine A.tn (A.ret (A.postK [0] [vS (some ⟨b, 0, none⟩) ([] : List Int) c] (fun aa ww rr ss => ⟨rv_tmp rr rfl, trivial⟩) (some ⟨b, 0, none⟩, c) rfl trivial (by kernel_rfl)))
  · refine A.skip (A.tn (A.seq (A.region (A.goA [.p, .p] [(4, .slice none 0 0)] [] T0 (by kernel_rfl) trivial ?_))))
    refine A.ownNil 3 1 [sI none ([] : List Int) 0] rfl ?_
    refine A.tn (A.ret (A.postK [0] [.slice none 0 0] (fun aa ww rr ss => ⟨rv_tmp rr rfl, trivial⟩) (none, 0) rfl trivial (by kernel_rfl)))
end Go.Proofs.Ytinnnoimmioaiaa
