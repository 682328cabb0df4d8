/- The iterator of the words of a text (a function that a range goes through) yields them one behind the other, with their places, as long as the body goes on: for texts of at most 1000 bytes. -/
import Derived.Test.YtaacfehlcdkdhaaGreatDoorStrL
import Derived.Test.YtaacfehlcdkdhaaGreatDoorWd
namespace Go.Proofs.YtaacfehlcdkdhaaGreatDoor
open Go V
theorem run_yieldcall {P : Program} {w : World} {ρ : Operand → Value} {o : Oper} {x : Operand} {ys : Array Operand} {l : Nat} {ts : Array TypeId} (ho : o.op = .call { callee := .value x, args := ys, argTypes := ts }) (hx : ρ x = .func (.yield l) #[] #[]) :
    (execOp ρ o).run P w = (Instr.yield l (ys.map ρ)).run P w := by
  simp only [execOp, ho, resolve, hx]
  simp [go_sem, invoke]
theorem in_move {F : Fence} {n : Nat} {P : Program} {o : Oper} {a : Act} {w : World} {K : Act → World → Prop} {Q : Exit → Act → World → Prop} (x : Operand) (h : o.op = .move x) (hF : ∀ f, F.fn f) (hk : K (a.put o.dst (a.eval x)) w) : o.wpIn F n P a w K Q := by
  refine ⟨fun f _ => hF f, ?_⟩
  rw [Oper.semAt_eq _ _ _ (by simp [h])]; unfold execOp; rw [h]; exact hk
theorem rep2 (x y : Value) (n : Nat) : Rep (n + 2) [(0, x), (1, y)] { tmps := (#[x] ++ #[y]) ++ Array.replicate n undef, defers := [] } := by
  refine ⟨by simp; omega, rfl, fun i v hv => ?_⟩
  have hl := look_penv [x, y] i v hv
  have hlt : i < 2 := (List.getElem?_eq_some_iff.1 hl).1
  simp only [Array.getD_eq_getD_getElem?]
  rw [Array.getElem?_append_left (by simpa using hlt)]
  have : (#[x] ++ #[y] : Array Value) = #[x, y] := by simp
  rw [this]; simp at hl ⊢; rw [hl]; rfl
theorem cut_in {w : World} {R : Ending → World → Prop} {S : List Nat} {H : List V.Item} (x : Value) (k : Nat) (y : Value) (hs : HS w S H w) (h : ∀ c0, Tryz.f30.body = some c0 → A 19 [(0, x), (1, y)] w S H (WI none k Tryz.prog [] c0 (bodyPost Tryz.prog Tryz.f30 R))) : CallsIn (FW none) k Tryz.prog 30 [x, y].toArray w R :=
  I.callsB [(0, x), (1, y)] S H Tryz.func30 rfl rfl (fun i v hv => look_penv [x, y] i v hv) hs (h _ rfl)
theorem gdL0 {α : Type} {l : List α} {i : Nat} {d : α} (h : i < l.length) : l[i]? = some (l.getD i d) := by simp [List.getD, List.getElem?_eq_getElem h]
theorem grown_of {W1 W2 : World} (f : Fr [] W1 W2) : W1.grownBy W2 none := by
  obtain ⟨h1, h2, h3, h4, h5⟩ := f
  exact ⟨h1, h2, h3, h4, fun k hk _ => h5 k hk (by simp)⟩
theorem grown_fr {β : Type} {N : Nat} {J : β → World → Prop} (hJ : AbidesFrom N J) {s : β} {W1 W2 : World} (h : J s W1) (f : Fr [] W1 W2) : J s W2 :=
  hJ s W1 W2 none h (grown_of f) (fun r e => by cases e)
/-- the words of a line with their places -/
def wz (l : List UInt8) : List (Nat × List UInt8) := (List.range (words 32 l).length).map fun i => (i, (words 32 l).getD i [])
theorem wz_len (l : List UInt8) : (wz l).length = (words 32 l).length := by simp [wz]
theorem wz_get {l : List UInt8} {j : Nat} (h : j < (words 32 l).length) : (wz l)[j]? = some (j, (words 32 l).getD j []) := by
  unfold wz; rw [List.getElem?_map, List.getElem?_range h]; rfl
def encW (x : Nat × List UInt8) : Array Value := #[c_ x.1, s_ (bs x.2)]
def idx8 (a : Act) : Nat := match a.tmps.getD 8 undef with | .int _ v => v.toNat | _ => 0
theorem idx8_of {n : Nat} {env : Env} {a : Act} {j : Nat} (r : Rep n env a) (h : V.look env 8 = some (c_ j)) : idx8 a = j := by
  unfold idx8; rw [r.get 8 _ h]; simp
theorem sl_kc {A : Option Addr} {n c : Nat} {t sz : Nat} {cs : List Value} {B : List Nat} {W W' : World} (h : (V.sl A n c t sz cs).holds W) (hb : ∀ b ∈ (V.sl A n c t sz cs).foot, b ∉ B) (hk : Kc B W W') : (V.sl A n c t sz cs).holds W' := by
  refine (V.sl A n c t sz cs).loc W W' (fun b hm => ?_) h
  have h4 := h.2.2.2
  rcases h4 with ⟨rfl, _⟩ | ⟨g, off, cur, rfl, hg, _⟩
  · simp [V.sl, slFoot] at hm
  · have : b = g := by simpa [V.sl, slFoot] using hm
    subst this
    rw [hg]; exact hk.2 _ _ hg rfl (hb _ hm)
set_option maxHeartbeats 400000 in
set_option maxRecDepth 100000 in
theorem cut_key (l : List UInt8) (hl : l.length ≤ 1000) (c k : Nat) (B : List Nat) (N : Nat) (hcB : c ∉ B) (hB : ∀ b ∈ B, b < N) (l0 : Nat) (J Jx : List (Nat × List UInt8) → World → Prop) (W : World) (hN : N ≤ W.heap.size)
    (hJ : AbidesFrom W.heap.size J) (hJx : AbidesFrom W.heap.size Jx)
    (hy : ∀ pre x W1, J pre W1 → pre.length < (wz l).length → YieldAt (FW none) (k - 1) Tryz.prog l0 (encW x) W1 fun e W' => (e = .returned (.bool true) ∧ J (pre ++ [x]) W' ∧ Kc B W1 W') ∨ (e = .returned (.bool false) ∧ Jx (pre ++ [x]) W'))
    (hJ0 : J [] W) (hcW : W.heap[c]? = some (.cells #[s_ (bs l)] 9 (0, 0))) (R : Ending → World → Prop)
    (hRd : ∀ W', J (wz l) W' → R (.returned (.tuple #[])) W') (hRs : ∀ j W', j < (wz l).length → Jx ((wz l).take (j + 1)) W' → R (.returned (.tuple #[])) W') (hRo : ∀ w, ¬ R .outgrown w)
    (c0 : Code) (hc0 : Tryz.f30.body = some c0) :
    A 19 [(0, .func (.yield l0) #[] #[]), (1, p_ c)] W [c] [blk c [s_ (bs l)] 9] (WI none k Tryz.prog [] c0 (bodyPost Tryz.prog Tryz.f30 R)) := by
  have grown : ∀ {pre : List (Nat × List UInt8)} {W1 W2 : World}, J pre W1 → Fr [] W1 W2 → J pre W2 := fun h f => grown_fr hJ h f
  have hwc : (words 32 l).length = (wz l).length := (wz_len l).symm
  cases hc0
  have hqB : ∀ a w, ¬ (bodyPost Tryz.prog Tryz.f30 R .outgrown a w) := fun a w h => hRo w h
  refine I.seq (I.region (by kernel_rfl) (fun a w h => hRo w h) ?_)
  refine A.goP [.ld 0] [(0, .func (.yield l0) #[] #[]), (1, p_ c), (5, s_ (bs l))] [c] T0 (by kernel_rfl) trivial ?_
  refine A.cons (A.callT (some 6) [s_ (bs l), s_ (bs [32])] [] (fun zz => match zz with | (al', cl') => vS al' (words 32 l) cl') (fun zz => match zz with | (al', cl') => True) (fun zz => match zz with | (al', cl') => [sS al' (words 32 l) cl']) (fun zz => match zz with | (al', cl') => [sS al' (words 32 l) cl', blk c [s_ (bs l)] 9]) (by kernel_rfl) rfl rfl (fun ww ss hh => split_spec l 32 (by omega) ww hh) (fun _ => rfl) ?_)
  rintro ⟨al, cl⟩ -
  refine A.goA [.p, .p] [(0, .func (.yield l0) #[] #[]), (6, vS al (words 32 l) cl), (7, i_ ((words 32 l).length : Int)), (8, c_ 0)] [] T0 (by kernel_rfl) trivial ?_
  refine I.q (I.tn (I.block ?_))
  intro a1 w1 r1 s1
  have hsl : (sS al (words 32 l) cl).holds w1 := s1.all _ (by simp)
  have hwl : (words 32 l).length ≤ 9223372036854775807 := by have h1 := hsl.2.1; have h2 := hsl.2.2.1; unfold maxLen at h2; omega
  have hfb : ∀ b ∈ (sS al (words 32 l) cl).foot, b ∉ B := fun b hb hB1 => by
    have h1 := hB b hB1
    have h2 := hN
    have h3 := s1.own b (by show b ∈ feet [sS al (words 32 l) cl, blk c [s_ (bs l)] 9]; simp only [feet, List.flatMap_cons, List.flatMap_nil, List.append_nil, List.mem_append]; exact .inl hb)
    have h4 := s1.nodup
    rcases h3 with h3 | h3
    · rw [List.mem_singleton] at h3; subst h3; exact hcB hB1
    · omega
  have hfr : Fr [] W w1 := ⟨s1.fr.os, s1.fr.tape, s1.fr.output, s1.fr.size, fun q hq _ => by
    by_cases hqc : q = c
    · subst hqc
      have : w1.heap[q]? = some (.cells #[s_ (bs l)] 9 (0, 0)) := s1.all (blk q [s_ (bs l)] 9) (by simp)
      rw [this, hcW]
    · exact s1.fr.block q hq (by simpa using hqc)⟩
  refine wpIn_loop (fun a w => ∃ j, j ≤ (words 32 l).length ∧ Rep 19 [(0, .func (.yield l0) #[] #[]), (6, vS al (words 32 l) cl), (7, i_ ((words 32 l).length : Int)), (8, c_ j)] a ∧ (sS al (words 32 l) cl).holds w ∧ J ((wz l).take j) w) (fun a _ => (words 32 l).length - idx8 a)
    ⟨0, Nat.zero_le _, ⟨r1.size, rfl, r1.get⟩, hsl, by simpa using grown hJ0 hfr⟩ ?_
  rintro a w2 ⟨j, hj, r2, hs2, hJ2⟩
  have r0 : arrAt w2 al (V.flat encS (words 32 l)) := (rd_sl (w0 := w2) (S := feet [sS al (words 32 l) cl]) (H := [sS al (words 32 l) cl]) (i := 0) rfl) w2 (HS.start w2 [sS al (words 32 l) cl] (by intro it hi; rw [List.mem_singleton] at hi; subst hi; exact hs2) (by simp [feet, V.sl, slFoot_nodup]))
  have ha : ({ a with defers := [] } : Act) = a := by obtain ⟨t, d⟩ := a; have := r2.nod; simp at this; subst this; rfl
  rw [← ha]
  refine (?_ : A 19 [(0, .func (.yield l0) #[] #[]), (6, vS al (words 32 l) cl), (7, i_ ((words 32 l).length : Int)), (8, c_ j)] w2 [] [] (WI none k Tryz.prog [] _ _)) a w2 r2 (HS.nil w2)
  refine I.seq (I.region (by kernel_rfl) (fun a w h => hRo w h) ?_)
  refine A.goA [.p] [(0, .func (.yield l0) #[] #[]), (6, vS al (words 32 l) cl), (7, i_ ((words 32 l).length : Int)), (8, c_ j), (9, b_ (decide ((j : Int) < ((words 32 l).length : Int))))] [] T0 (by kernel_rfl) trivial ?_
  refine I.q (I.tn (I.seq (I.cond (E := decide ((j : Int) < ((words 32 l).length : Int))) rfl (fun e => ?_) (fun e => ?_))))
  · have hjl : j < (words 32 l).length := by have := of_decide_eq_true e; omega
    have hx := gdL0 (d := ([] : List UInt8)) hjl
    refine I.skip (I.tn (I.seq (I.block (I.seq (I.region (by kernel_rfl) (fun a w h => hRo w h) ?_)))))
    refine A.goA [.p, .ix, .rd [s_ (bs ((words 32 l).getD j []))], .p, .p] [(0, .func (.yield l0) #[] #[]), (6, vS al (words 32 l) cl), (7, i_ ((words 32 l).length : Int)), (8, c_ j), (3, c_ j), (4, s_ (bs ((words 32 l).getD j [])))] [] (fun κ => κ.ix al (words 32 l).length (j : Int) ∧ κ.rd ((at0 al).add (j * 1)) [s_ (bs ((words 32 l).getD j []))] ∧ True) (by kernel_rfl) ⟨ixOf encS_len (by decide) (rd_old r0 (by simp [feet])) (by omega), reads_at0 (vs := [s_ (bs ((words 32 l).getD j []))]) encS_len (rd_old r0 (by simp [feet])) hx (Nat.le_of_ble_eq_true rfl) rfl, trivial⟩ ?_
    refine I.q (I.tn (I.seq ?_))
    intro a3 w3 r3 s3
    have f3 : Fr [] w2 w3 := s3.fr
    have hJ3 := grown hJ2 f3
    have hs3 : (sS al (words 32 l) cl).holds w3 := (sS al (words 32 l) cl).loc w2 w3 (fun b hb => f3.block b ((sS al (words 32 l) cl).here w2 hs2 b hb) (by simp)) hs2
    refine wpIn_region_lit (wpListIn_plain rfl fun K1 hK1 => in_move (.tmp 0) rfl (fun _ => trivial) (hK1 _ _ (wpListIn_plain rfl fun K2 hK2 => in_move (.tmp 3) rfl (fun _ => trivial) (hK2 _ _ (wpListIn_plain rfl fun K3 hK3 => in_move (.tmp 4) rfl (fun _ => trivial) (hK3 _ _ (wpListIn_plain rfl fun K4 hK4 => ?_)))))))
    have v0 : Act.eval { a3 with defers := [] } (.tmp 0) = .func (.yield l0) #[] #[] := r3.ev (x := .tmp 0) rfl
    obtain ⟨a4, ha4⟩ : ∃ a4, a4 = Act.put { a3 with defers := [] } (some 13) (Act.eval { a3 with defers := [] } (.tmp 0)) := ⟨_, rfl⟩
    have r4 : Rep 19 ((13, .func (.yield l0) #[] #[]) :: [(0, .func (.yield l0) #[] #[]), (6, vS al (words 32 l) cl), (7, i_ ((words 32 l).length : Int)), (8, c_ j), (3, c_ j), (4, s_ (bs ((words 32 l).getD j [])))]) a4 := by
      rw [ha4, v0]; exact Rep.put ⟨r3.size, rfl, r3.get⟩ (by decide)
    obtain ⟨a5, ha5⟩ : ∃ a5, a5 = Act.put a4 (some 14) (Act.eval a4 (.tmp 3)) := ⟨_, rfl⟩
    have r5 := Rep.put (d := 14) (v := c_ j) r4 (by decide)
    rw [← r4.ev (x := .tmp 3) (v := c_ j) rfl, ← ha5] at r5
    obtain ⟨a6, ha6⟩ : ∃ a6, a6 = Act.put a5 (some 15) (Act.eval a5 (.tmp 4)) := ⟨_, rfl⟩
    have x4 : Act.eval a4 (.tmp 3) = c_ j := r4.ev rfl
    rw [x4] at r5
    have r6 := Rep.put (d := 15) (v := s_ (bs ((words 32 l).getD j []))) r5 (by decide)
    rw [← r5.ev (x := .tmp 4) (v := s_ (bs ((words 32 l).getD j []))) rfl, ← ha6] at r6
    have x5 : Act.eval a5 (.tmp 4) = s_ (bs ((words 32 l).getD j [])) := r5.ev rfl
    rw [x5] at r6
    obtain ⟨fn, tm, asn, bd, hrun, hround⟩ := hy ((wz l).take j) (j, (words 32 l).getD j []) w3 hJ3 (by rw [List.length_take]; omega)
    have harg : (#[.tmp 14, .tmp 15] : Array Operand).map a6.eval = encW (j, (words 32 l).getD j []) := by
      have e1 : a6.eval (.tmp 14) = c_ j := r6.ev rfl
      have e2 : a6.eval (.tmp 15) = s_ (bs ((words 32 l).getD j [])) := r6.ev rfl
      simp [encW, e1, e2]
    refine ⟨fun _ _ => trivial, ?_⟩
    rw [Oper.semAt_eq _ _ _ (by intro c hc; cases hc)]
    rw [← ha4, ← ha5, ← ha6]
    rw [run_yieldcall (x := .tmp 13) (ys := #[.tmp 14, .tmp 15]) (l := l0) rfl (r6.ev rfl), harg, hrun, Oper.uponIn_round]
    refine ⟨fun hh => (by cases hh), hround.mono fun e4 w4 hR4 => ?_⟩
    have q4 : Act.eval { a3 with defers := [] } (.tmp 0) = .func (.yield l0) #[] #[] := v0
    have stp : ∀ bv : Bool, Rep 19 ((16, b_ bv) :: [(15, s_ (bs ((words 32 l).getD j []))), (14, c_ j), (13, .func (.yield l0) #[] #[]), (0, .func (.yield l0) #[] #[]), (6, vS al (words 32 l) cl), (7, i_ ((words 32 l).length : Int)), (8, c_ j), (3, c_ j), (4, s_ (bs ((words 32 l).getD j [])))]) (a6.put (some 16) (b_ bv)) := fun bv => Rep.put r6 (by decide)
    have nd : ∀ bv : Bool, ({ a6.put (some 16) (b_ bv) with defers := [] } : Act) = a6.put (some 16) (b_ bv) := fun bv => by
      have := (stp bv).nod
      generalize a6.put (some 16) (b_ bv) = aa at this ⊢
      obtain ⟨t, d⟩ := aa; simp at this; subst this; rfl
    have tk : (wz l).take (j + 1) = (wz l).take j ++ [(j, (words 32 l).getD j [])] := by rw [List.take_add_one, wz_get hjl]; rfl
    rw [← tk] at hR4
    rcases hR4 with ⟨rfl, hJ4, hK⟩ | ⟨rfl, hJ4⟩
    · refine hK4 _ _ ?_
      have hs4 := sl_kc hs3 hfb hK
      show wpListIn _ _ _ _ _ _ (a6.put (some 16) (b_ true)) w4
      rw [← nd true]
      refine list_in (ds := []) (fun a w h => hRo w h) _ _ w4 rfl (stp true).nod ?_
      refine (?_ : A 19 _ w4 [] [] (wpList Tryz.prog _ _ _)) _ w4 (stp true) (HS.nil w4)
      refine A.goA [.p] [(0, .func (.yield l0) #[] #[]), (6, vS al (words 32 l) cl), (7, i_ ((words 32 l).length : Int)), (8, c_ j), (17, b_ false)] [] T0 (by kernel_rfl) trivial ?_
      refine I.q (I.tn (I.cond (E := false) rfl (fun e => by cases e) (fun _ => ?_)))
      refine I.skip (I.bn (I.tn (I.region (by kernel_rfl) (fun a w h => hRo w h) ?_)))
      refine A.goA [.w ((j : Int) + 1), .p] [(0, .func (.yield l0) #[] #[]), (6, vS al (words 32 l) cl), (7, i_ ((words 32 l).length : Int)), (8, i_ ((j : Int) + 1))] [] (fun κ => (IntKind.i64.wrap ((j : Int) + 1) = ((j : Int) + 1)) ∧ True) (by kernel_rfl) ⟨wrap_i64 (e := (j : Int) + 1) (by constructor <;> omega), trivial⟩ ?_
      refine I.q ?_
      intro a8 w8 r8 s8
      have f8 : Fr [] w4 w8 := s8.fr
      have n8 : ({ a8 with defers := [] } : Act) = a8 := by have := r8.nod; obtain ⟨t, d⟩ := a8; simp at this; subst this; rfl
      show (∃ j, _) ∧ _
      rw [n8, ha]
      have i8 : idx8 a8 = j + 1 := idx8_of r8 (j := j + 1) rfl
      have i2 : idx8 a = j := idx8_of r2 rfl
      exact ⟨⟨j + 1, hjl, ⟨r8.size, r8.nod, r8.get⟩, (sS al (words 32 l) cl).loc w4 w8 (fun b hb => f8.block b ((sS al (words 32 l) cl).here w4 hs4 b hb) (by simp)) hs4, grown hJ4 f8⟩, by rw [i8, i2]; omega⟩
    · refine hK4 _ _ ?_
      show wpListIn _ _ _ _ _ _ (a6.put (some 16) (b_ false)) w4
      rw [← nd false]
      refine list_in (ds := []) (fun a w h => hRo w h) _ _ w4 rfl (stp false).nod ?_
      refine (?_ : A 19 _ w4 [] [] (wpList Tryz.prog _ _ _)) _ w4 (stp false) (HS.nil w4)
      refine A.goA [.p] [(0, .func (.yield l0) #[] #[]), (6, vS al (words 32 l) cl), (7, i_ ((words 32 l).length : Int)), (8, c_ j), (17, b_ true)] [] T0 (by kernel_rfl) trivial ?_
      refine I.q (I.tn (I.cond (E := true) rfl (fun _ => ?_) (fun e => by cases e)))
      refine I.ret (I.br (I.tr (I.tr (I.br ?_))))
      refine I.end (.inr rfl) [] (fun _ _ _ _ => trivial) fun w9 s9 => hRs j w9 (by omega) ?_
      exact grown_fr hJx hJ4 (⟨s9.fr.os, s9.fr.tape, s9.fr.output, s9.fr.size, s9.fr.block⟩ : Fr [] w4 w9)
  · refine I.exit (I.te (I.te (I.bh ?_)))
    refine I.end (.inl rfl) [] (fun _ _ _ _ => trivial) fun w3 s3 => hRd w3 ?_
    have hjn : j = (wz l).length := by have := of_decide_eq_false e; omega
    have := grown hJ2 (⟨s3.fr.os, s3.fr.tape, s3.fr.output, s3.fr.size, s3.fr.block⟩ : Fr [] w2 w3)
    rw [hjn, List.take_length] at this; exact this
set_option maxHeartbeats 400000 in
set_option maxRecDepth 100000 in
theorem cut_seq (l : List UInt8) (hl : l.length ≤ 1000) (c k : Nat) (B : List Nat) (w : World) (hcB : c ∉ B) (hB : ∀ b ∈ B, b < w.heap.size) (hc : w.heap[c]? = some (.cells #[s_ (bs l)] 9 (0, 0))) :
    SeqStopsK (FW none) k Tryz.prog 30 #[p_ c] encW (Kc B) (fun xs => xs = wz l) (fun pre => ∃ j, j < (wz l).length ∧ pre = (wz l).take (j + 1)) (wz l).length w := by
  intro l0 J Jx W hbel hJ hJx hy hJ0
  have hcl : c < w.heap.size := (Array.getElem?_eq_some_iff.1 hc).1
  have hcW : W.heap[c]? = some (.cells #[s_ (bs l)] 9 (0, 0)) := (hbel.block c hcl).trans hc
  suffices hmain : ∀ R : Ending → World → Prop, (∀ W', J (wz l) W' → R (.returned (.tuple #[])) W') → (∀ j W', j < (wz l).length → Jx ((wz l).take (j + 1)) W' → R (.returned (.tuple #[])) W') → (∀ w, ¬ R .outgrown w) →
      CallsIn (FW none) k Tryz.prog 30 (#[.func (.yield l0) #[] #[]] ++ #[p_ c]) W R from
    hmain _ (fun W' h => ⟨⟨_, rfl⟩, .inl ⟨_, rfl, h⟩⟩) (fun j W' hj h => ⟨⟨_, rfl⟩, .inr ⟨_, ⟨j, hj, rfl⟩, h⟩⟩) (fun w h => by obtain ⟨⟨v, hv⟩, _⟩ := h; cases hv)
  intro R hRd hRs hRo
  rw [show (#[.func (.yield l0) #[] #[]] ++ #[p_ c] : Array Value) = [Value.func (.yield l0) #[] #[], p_ c].toArray from by simp]
  have hcs : HS W [c] [blk c [s_ (bs l)] 9] W := HS.start W [blk c [s_ (bs l)] 9] (by intro it hi; rw [List.mem_singleton] at hi; subst hi; exact hcW) (by simp [feet, blk])
  have hka := fun c0 hc0 => cut_key l hl c k B w.heap.size hcB hB l0 J Jx W hbel.size hJ hJx hy hJ0 hcW R hRd hRs hRo c0 hc0
  exact cut_in _ k _ hcs hka
end Go.Proofs.YtaacfehlcdkdhaaGreatDoor
