/- What whole and ParseClass tell of any text: both range over a function; for texts of at most 1000 bytes, and for all texts. -/
import Derived.Test.YtaacfehlcdkdhaaGreatDoorIns5
namespace Go.Proofs.YtaacfehlcdkdhaaGreatDoor
open Go V
theorem in_assign {F : Fence} {n : Nat} {P : Program} {o : Oper} {a : Act} {w : World} {K : Act → World → Prop} {Q : Exit → Act → World → Prop} (x : Operand) (h : o.op = .assign x) (hF : ∀ f, F.fn f) (hk : K (a.put o.dst (a.eval x)) w) : o.wpIn F n P a w K Q := by
  refine ⟨fun f _ => hF f, ?_⟩
  rw [Oper.semAt_eq _ _ _ (by simp [h])]; unfold execOp; rw [h]; exact hk
theorem wz_mem {l : List UInt8} {p : Nat × List UInt8} (h : p ∈ wz l) : p.2 ∈ words 32 l := by
  unfold wz at h
  obtain ⟨i, hi, rfl⟩ := List.mem_map.1 h
  have hi := List.mem_range.1 hi
  simp only [List.getD, List.getElem?_eq_getElem hi, Option.getD_some]
  exact List.getElem_mem hi
theorem wz_all {l : List UInt8} (h : ∀ p ∈ wz l, ¬ p.2 = []) : (words 32 l).contains [] = false := by
  rw [Bool.eq_false_iff, Ne, List.contains_iff_mem]
  intro hm
  obtain ⟨i, hi, he⟩ := List.mem_iff_getElem.1 hm
  refine h (i, (words 32 l).getD i []) ?_ ?_
  · exact List.mem_of_getElem? (wz_get hi)
  · simp [List.getD, List.getElem?_eq_getElem hi, he]
theorem act_eta {n : Nat} {env : Env} {a : Act} (r : Rep n env a) : ({ tmps := a.tmps, defers := [] } : Act) = a := by
  have := r.nod; obtain ⟨t, d⟩ := a; simp at this; subst this; rfl
theorem fresh_of {w0 w : World} {S : List Nat} {H : List V.Item} (s : HS w0 S H w) {b : Nat} (h : b ∈ feet H) : b < w.heap.size := by
  obtain ⟨it, hi, hf⟩ := List.mem_flatMap.1 h
  exact it.here w (s.all it hi) b hf
set_option maxHeartbeats 1000000 in
set_option maxRecDepth 100000 in
theorem whole_key (l : List UInt8) (hl : l.length ≤ 1000) (w : World) (c0 : Code) (hc0 : Tryz.f23.body = some c0) :
    A 16 [(0, s_ (bs l))] w [] [] (WI none 3 Tryz.prog [] c0 (bodyPostM (FW none) 3 Tryz.prog Tryz.f23 (fun e w' => e = .returned (b_ (wholeB l)) ∧ Fr [] w w'))) := by
  have hqB : ∀ a w1, ¬ (bodyPostM (FW none) 3 Tryz.prog Tryz.f23 (fun e w' => e = .returned (b_ (wholeB l)) ∧ Fr [] w w') .outgrown a w1) := fun a w1 h => by cases h.1
  have hN : (wz l).length ≤ 1001 := by have := words_cnt 32 l; rw [wz_len]; omega
  cases hc0
  refine I.seq (I.region (by kernel_rfl) (fun a w h => hqB a w h) ?_)
  refine A.goA1 [.al] [0, 2] (fun b => [(0, s_ (bs l)), (2, p_ b)]) (fun b => [blk b [b_ false] 4]) (fun b => []) (fun _ => T0) (fun _ => by kernel_rfl) (fun b => trivial) ?_
  intro b2
  refine I.q (I.tn (I.seq (I.region (by kernel_rfl) (fun a w h => hqB a w h) ?_)))
  refine A.goA1 [.al, .st 1] [0, 2, 3] (fun b => [(0, s_ (bs l)), (2, p_ b2), (3, p_ b)]) (fun b => [blk b2 [b_ false] 4, blk b [i_ 0] 3]) (fun b => [b]) (fun _ => T0) (fun _ => by kernel_rfl) (fun b => trivial) ?_
  intro b3
  refine I.q (I.tn (I.seq (I.seq (I.region (by kernel_rfl) (fun a w h => hqB a w h) ?_))))
  refine A.goP [.p] [(0, s_ (bs l)), (2, p_ b2), (3, p_ b3), (6, s_ (bs l))] [] T0 (by kernel_rfl) trivial ?_
  refine A.cons (A.callT (some 7) [s_ (bs l)] [] (fun c => .func (.func 30) #[] #[p_ c]) (fun c => True) (fun c => [blk c [s_ (bs l)] 9]) (fun c => [blk c [s_ (bs l)] 9, blk b2 [b_ false] 4, blk b3 [i_ 0] 3]) (by kernel_rfl) rfl rfl (fun ww ss hh => cut_spec l ww hh) (fun _ => rfl) ?_)
  rintro c -
  refine A.goA [] [(0, s_ (bs l)), (2, p_ b2), (3, p_ b3), (7, .func (.func 30) #[] #[p_ c])] [] T0 (by kernel_rfl) trivial ?_
  refine I.q (I.tn (I.block ?_))
  refine I.range (α := Nat × List UInt8) (by decide) rfl (enters_of Tryz.func30 (by kernel_rfl) rfl) encW (fun _ => rfl) (wz l).length (fun xs => xs = wz l) (fun pre => ∃ j, j < (wz l).length ∧ pre = (wz l).take (j + 1))
    (fun pre => ∀ p ∈ pre, ¬ p.2 = []) (fun pre => ∃ p ∈ pre, p.2 = []) [b2, b3] (fun pre => [blk b2 [b_ false] 4, blk b3 [c_ pre.length] 3]) (fun pre => [blk b2 [b_ false] 4, blk b3 [c_ (pre.length - 1)] 3])
    (fun _ => rfl) (fun _ => rfl) ?_ ?_ ?_ (.cons _ (List.Sublist.refl _)) (by simp) (fun x => [(5, s_ (bs x.2)), (9, s_ (bs x.2)), (8, c_ x.1), (0, s_ (bs l)), (2, p_ b2), (3, p_ b3), (7, .func (.func 30) #[] #[p_ c])])
    (fun a x => ((a.put (some 8) (c_ x.1)).put (some 9) (s_ (bs x.2))).put (some 5) (s_ (bs x.2))) ?_ ?_ ?_ ?_ ?_
  · intro pre it hi
    simp only [List.mem_cons, List.not_mem_nil, or_false] at hi
    rcases hi with rfl | rfl <;> exact ⟨_, _, _, rfl⟩
  · intro pre it hi
    simp only [List.mem_cons, List.not_mem_nil, or_false] at hi
    rcases hi with rfl | rfl <;> exact ⟨_, _, _, rfl⟩
  · intro w1 s1
    have hn := s1.nodup
    have hb := fun b hb => fresh_of s1 (b := b) hb
    simp [feet, blk] at hn hb
    exact cut_seq l hl c _ [b2, b3] w1 (by simp; omega) (by simp; omega) (s1.all (blk c [s_ (bs l)] 9) (by simp))
  · intro a x r
    exact Rep.put (Rep.put (Rep.put r (by decide)) (by decide)) (by decide)
  · intro l0 a x W K r hk
    obtain ⟨t, d⟩ := a
    have hd := r.nod
    simp only at hd; subst hd
    have r0 := Rep.put (d := 9) (v := s_ (bs x.2)) (Rep.put (d := 8) (v := c_ x.1) r (by decide)) (by decide)
    have ef : ({ tmps := ((#[8, 9] : Array Tmp).zip (encW x)).foldl (fun t (p, v) => t.setIfInBounds p v) t, defers := [] } : Act) = Act.put (Act.put ⟨t, []⟩ (some 8) (c_ x.1)) (some 9) (s_ (bs x.2)) := by simp [encW, Act.put]
    change Code.wpIn _ _ _ _ _ ({ tmps := ((#[8, 9] : Array Tmp).zip (encW x)).foldl (fun t (p, v) => t.setIfInBounds p v) t, defers := [] } : Act) W
    rw [ef]
    refine wpIn_region_lit (wpListIn_plain rfl fun K1 hK1 => in_assign (.tmp 9) rfl (fun _ => trivial) (hK1 _ _ ?_))
    have e9 : Act.eval ((Act.put (Act.put ⟨t, []⟩ (some 8) (c_ x.1)) (some 9) (s_ (bs x.2)))) (.tmp 9) = s_ (bs x.2) := r0.ev rfl
    show K (Act.put _ (some 5) (Act.eval ((Act.put (Act.put ⟨t, []⟩ (some 8) (c_ x.1)) (some 9) (s_ (bs x.2)))) (.tmp 9))) W
    rw [e9]; exact hk
  · intro l0 pre x W hlt hP
    refine I.block (I.seq (I.seq (I.region (by kernel_rfl) (fun _ _ h => h) ?_)))
    refine A.goA [.p, .eq] [(11, b_ (bs x.2 == bs [])), (0, s_ (bs l)), (2, p_ b2), (3, p_ b3)] [] T0 (by kernel_rfl) trivial ?_
    refine I.q (I.tn (I.cond (E := bs x.2 == bs []) rfl (fun e => ?_) (fun e => ?_)))
    · refine I.seq (I.region (by kernel_rfl) (fun _ _ h => h) ?_)
      refine A.goAS [.st 0] [(0, s_ (bs l)), (2, p_ b2), (3, p_ b3)] [blk b2 [b_ false] 4, blk b3 [c_ pre.length] 3] [b2] T0 (by kernel_rfl) trivial ?_
      refine I.q (I.tn (I.ret (I.tr (I.br (I.rpr ?_ ?_)))))
      · simp
      · exact ⟨x, by simp, by simpa [bs_beq] using e⟩
    · refine I.skip (I.tn (I.region (by kernel_rfl) (fun _ _ h => h) ?_))
      refine A.goAS [.ld 1, .w ((pre.length : Int) + 1), .st 1] [(0, s_ (bs l)), (2, p_ b2), (3, p_ b3)] [blk b2 [b_ false] 4, blk b3 [i_ ((pre.length : Int) + 1)] 3] [b3, b3] (fun κ => (IntKind.i64.wrap ((pre.length : Int) + 1) = ((pre.length : Int) + 1)) ∧ True) (by kernel_rfl) ⟨wrap_i64 (e := (pre.length : Int) + 1) (by constructor <;> omega), trivial⟩ ?_
      refine I.q (I.bn (I.rpn ?_ ?_))
      · rw [List.length_append]; rfl
      · intro p hp
        rcases List.mem_append.1 hp with hp | hp
        · exact hP p hp
        · rw [List.mem_singleton] at hp; subst hp; simpa [bs_beq] using e
  · intro D xs hS hP
    subst hS
    refine I.bn (I.tn (I.seq (I.region (by kernel_rfl) (fun a w h => hqB a w h) ?_)))
    refine A.goAS [.ld 1, .p, .st 0] [(2, p_ b2)] [blk b2 [b_ (((wz l).length : Int) == 8)] 4, blk b3 [c_ (wz l).length] 3, dblk D] [b3, b2] T0 (by kernel_rfl) trivial ?_
    refine I.q (I.tn (I.ret ?_))
    refine I.postQ (H := [blk b2 [b_ (((wz l).length : Int) == 8)] 4, blk b3 [c_ (wz l).length] 3]) [b_ (((wz l).length : Int) == 8)] ?_ (fun aa ww rr ss => ⟨rv_cell1 rr ss rfl (by kernel_rfl) (reads_blk (i := 0) rfl rfl), trivial⟩) ?_
    · intro it hi
      simp only [List.mem_cons, List.not_mem_nil, or_false] at hi
      rcases hi with rfl | rfl <;> exact ⟨_, _, _, rfl⟩
    · show b_ _ = b_ _
      refine congrArg Value.bool ?_
      unfold wholeB; rw [wz_all hP, wz_len, Bool.eq_iff_iff]; simp; omega
  · rintro D pre ⟨j, hj, rfl⟩ ⟨p, hp, hpe⟩
    refine I.br (I.tr ?_)
    refine I.postQ (H := [blk b2 [b_ false] 4, blk b3 [c_ (((wz l).take (j + 1)).length - 1)] 3]) [b_ false] ?_ (fun aa ww rr ss => ⟨rv_cell1 rr ss rfl (by kernel_rfl) (reads_blk (i := 0) rfl rfl), trivial⟩) ?_
    · intro it hi
      simp only [List.mem_cons, List.not_mem_nil, or_false] at hi
      rcases hi with rfl | rfl <;> exact ⟨_, _, _, rfl⟩
    · show b_ _ = b_ _
      refine congrArg Value.bool ?_
      have h1 := wz_mem (List.mem_of_mem_take hp)
      rw [hpe] at h1
      unfold wholeB; rw [List.contains_iff_mem.2 h1]; rfl
theorem whole_spec (l : List UInt8) (hl : l.length ≤ 1000) (w : World) : Calls Tryz.prog 23 #[s_ (bs l)] w fun e w' => e = .returned (b_ (wholeB l)) ∧ Fr [] w w' :=
  I.calls (args := [s_ (bs l)]) 3 [(0, s_ (bs l))] [] [] Tryz.func23 rfl rfl (look_penv [s_ (bs l)]) (HS.nil w) (whole_key l hl w _ rfl)
theorem I.perm {n : Nat} {env : Env} {w0 : World} {S : List Nat} {H H' : List V.Item} {G : Act → World → Prop} (hp : H.Perm H') (h : A n env w0 S H' G) : A n env w0 S H G := fun a w r s =>
  have hf : (feet H).Perm (feet H') := hp.flatMap_right _
  h a w r ⟨s.fr, fun it hi => s.all it (hp.mem_iff.2 hi), hf.nodup_iff.1 s.nodup, fun b hb => s.own b (hf.mem_iff.2 hb)⟩
/-! ### ParseClass -/
def stC (pre : List (Nat × List UInt8)) : Ck := pre.foldl (fun s p => wdS s p.1 p.2) ck0
theorem stC_snoc (pre : List (Nat × List UInt8)) (x : Nat × List UInt8) : stC (pre ++ [x]) = wdS (stC pre) x.1 x.2 := by simp [stC, List.foldl_append]
def lastE (pre : List (Nat × List UInt8)) : Int := match pre.getLast? with | some x => wdE x.1 x.2 | none => 0
theorem lastE_snoc (pre : List (Nat × List UInt8)) (x : Nat × List UInt8) : lastE (pre ++ [x]) = wdE x.1 x.2 := by simp [lastE]
theorem wz8 {l : List UInt8} (h : (words 32 l).length = 8) : wz l = [(0, (words 32 l).getD 0 []), (1, (words 32 l).getD 1 []), (2, (words 32 l).getD 2 []), (3, (words 32 l).getD 3 []), (4, (words 32 l).getD 4 []), (5, (words 32 l).getD 5 []), (6, (words 32 l).getD 6 []), (7, (words 32 l).getD 7 [])] := by
  unfold wz; rw [h]; rfl
theorem stC_wz {l : List UInt8} (h : (words 32 l).length = 8) : stC (wz l) = cpX l := by rw [wz8 h]; rfl
theorem whole_len {l : List UInt8} (h : wholeB l = true) : (words 32 l).length = 8 := by
  unfold wholeB at h; simp only [Bool.and_eq_true, beq_iff_eq] at h; exact h.2
abbrev icR (l : List UInt8) : Value := .tuple #[.agg (encCk (cpV l)).toArray, i_ (cpE l)]
set_option maxHeartbeats 2000000 in
set_option maxRecDepth 100000 in
theorem pcls_key (l : List UInt8) (w : World) (c0 : Code) (hc0 : Tryz.f15.body = some c0) :
    A 30 [(0, s_ (bs l))] w [] [] (WI none 3 Tryz.prog [] c0 (bodyPostM (FW none) 3 Tryz.prog Tryz.f15 (fun e w' => e = .returned (icR l) ∧ Fr [] w w'))) := by
  have hqB : ∀ a w1, ¬ (bodyPostM (FW none) 3 Tryz.prog Tryz.f15 (fun e w' => e = .returned (icR l) ∧ Fr [] w w') .outgrown a w1) := fun a w1 h => by cases h.1
  cases hc0
  refine I.seq (I.region (by kernel_rfl) (fun a w h => hqB a w h) ?_)
  refine A.goA2 [.al, .al] [0, 2, 3] (fun b c => [(0, s_ (bs l)), (2, p_ b), (3, p_ c)]) (fun b c => [blk b (encCk ck0) 47, blk c [i_ 0] 28]) (fun b c => []) (fun _ _ => T0) (fun _ _ => by kernel_rfl) (fun _ _ => trivial) ?_
  intro b2 b3
  refine I.q (I.tn (I.seq (I.block (I.seq (I.region (by kernel_rfl) (fun a w h => hqB a w h) ?_)))))
  refine A.goA [.p, .p, .p, .p] [(0, s_ (bs l)), (2, p_ b2), (3, p_ b3), (8, b_ (decide ((l.length : Int) > 400)))] [] T0 (by kernel_rfl) trivial ?_
  refine I.q (I.tn (I.cond (E := decide ((l.length : Int) > 400)) rfl (fun e => ?_) (fun e => ?_)))
  · have h4 : 400 < l.length := by have := of_decide_eq_true e; omega
    refine I.seq (I.region (by kernel_rfl) (fun a w h => hqB a w h) ?_)
    refine A.goAS [.p, .st 0, .st 1] [(2, p_ b2), (3, p_ b3)] [blk b2 (encCk ck0) 47, blk b3 [i_ 2] 28] [b2, b3] T0 (by kernel_rfl) trivial ?_
    refine I.q (I.tn (I.ret (I.br (I.tr ?_))))
    refine I.postQ0 [.agg (encCk ck0).toArray, i_ 2] (fun aa ww rr ss => ⟨rv_cellN rr ss rfl (by kernel_rfl) (reads_blk (i := 0) rfl rfl), rv_cell1 rr ss rfl (by kernel_rfl) (reads_blk (i := 1) rfl rfl), trivial⟩) ?_
    unfold icR; rw [(cp_long h4).1, (cp_long h4).2]; rfl
  have h400 : ¬ 400 < l.length := by have := of_decide_eq_false e; omega
  have hl : l.length ≤ 1000 := by omega
  refine I.seq (I.region (by kernel_rfl) (fun a w h => hqB a w h) ?_)
  refine A.goA [.p, .cq (b_ (wholeB l)), .p, .p] [(0, s_ (bs l)), (2, p_ b2), (3, p_ b3), (13, b_ (!(wholeB l)))] [] (fun κ => κ.call 23 [s_ (bs l)] (b_ (wholeB l)) ∧ True) (by kernel_rfl) ⟨fun ww ss => whole_spec l hl ww, trivial⟩ ?_
  refine I.q (I.tn (I.cond (E := !(wholeB l)) rfl (fun e => ?_) (fun e => ?_)))
  · have hwb : wholeB l = false := by simpa using e
    refine I.seq (I.region (by kernel_rfl) (fun a w h => hqB a w h) ?_)
    refine A.goAS [.p, .st 0, .st 1] [(2, p_ b2), (3, p_ b3)] [blk b2 (encCk ck0) 47, blk b3 [i_ 4] 28] [b2, b3] T0 (by kernel_rfl) trivial ?_
    refine I.q (I.tn (I.ret (I.br (I.tr ?_))))
    refine I.postQ0 [.agg (encCk ck0).toArray, i_ 4] (fun aa ww rr ss => ⟨rv_cellN rr ss rfl (by kernel_rfl) (reads_blk (i := 0) rfl rfl), rv_cell1 rr ss rfl (by kernel_rfl) (reads_blk (i := 1) rfl rfl), trivial⟩) ?_
    unfold icR; rw [(cp_whole h400 hwb).1, (cp_whole h400 hwb).2]; rfl
  have hwb : wholeB l = true := by simpa using e
  have h8 := whole_len hwb
  have hz8 : (wz l).length = 8 := by rw [wz_len, h8]
  refine I.skip (I.bn (I.tn (I.seq (I.region (by kernel_rfl) (fun a w h => hqB a w h) ?_))))
  refine A.goA1 [.al] [0, 2, 3, 4] (fun b => [(0, s_ (bs l)), (2, p_ b2), (3, p_ b3), (4, p_ b)]) (fun b => [blk b2 (encCk ck0) 47, blk b3 [i_ 0] 28, blk b (encCk ck0) 47]) (fun b => []) (fun _ => T0) (fun _ => by kernel_rfl) (fun b => trivial) ?_
  intro b4
  refine I.q (I.tn (I.seq (I.seq (I.region (by kernel_rfl) (fun a w h => hqB a w h) ?_))))
  refine A.goP [.p] [(0, s_ (bs l)), (2, p_ b2), (3, p_ b3), (4, p_ b4), (18, s_ (bs l))] [] T0 (by kernel_rfl) trivial ?_
  refine A.cons (A.callT (some 19) [s_ (bs l)] [] (fun c => .func (.func 30) #[] #[p_ c]) (fun c => True) (fun c => [blk c [s_ (bs l)] 9]) (fun c => [blk c [s_ (bs l)] 9, blk b2 (encCk ck0) 47, blk b3 [i_ 0] 28, blk b4 (encCk ck0) 47]) (by kernel_rfl) rfl rfl (fun ww ss hh => cut_spec l ww hh) (fun _ => rfl) ?_)
  rintro c -
  refine A.goA [] [(0, s_ (bs l)), (2, p_ b2), (3, p_ b3), (4, p_ b4), (19, .func (.func 30) #[] #[p_ c])] [] T0 (by kernel_rfl) trivial ?_
  refine I.q (I.tn (I.block ?_))
  refine I.range (α := Nat × List UInt8) (by decide) rfl (enters_of Tryz.func30 (by kernel_rfl) rfl) encW (fun _ => rfl) (wz l).length (fun xs => xs = wz l) (fun pre => ∃ j, j < (wz l).length ∧ pre = (wz l).take (j + 1))
    (fun pre => ∀ p ∈ pre, wdE p.1 p.2 = 0) (fun pre => ∃ q x, pre = q ++ [x] ∧ (∀ p ∈ q, wdE p.1 p.2 = 0) ∧ ¬ wdE x.1 x.2 = 0) [b2, b3, b4] (fun pre => [blk b2 (encCk ck0) 47, blk b3 [i_ 0] 28, blk b4 (encCk (stC pre)) 47]) (fun pre => [blk b2 (encCk ck0) 47, blk b3 [i_ (lastE pre)] 28, blk b4 (encCk (stC pre)) 47])
    (fun _ => rfl) (fun _ => rfl) ?_ ?_ ?_ (.cons _ (List.Sublist.refl _)) (by simp) (fun x => [(6, s_ (bs x.2)), (5, c_ x.1), (21, s_ (bs x.2)), (20, c_ x.1), (0, s_ (bs l)), (2, p_ b2), (3, p_ b3), (4, p_ b4), (19, .func (.func 30) #[] #[p_ c])])
    (fun a x => (((a.put (some 20) (c_ x.1)).put (some 21) (s_ (bs x.2))).put (some 5) (c_ x.1)).put (some 6) (s_ (bs x.2))) ?_ ?_ ?_ ?_ ?_
  · intro pre it hi
    simp only [List.mem_cons, List.not_mem_nil, or_false] at hi
    rcases hi with rfl | rfl | rfl <;> exact ⟨_, _, _, rfl⟩
  · intro pre it hi
    simp only [List.mem_cons, List.not_mem_nil, or_false] at hi
    rcases hi with rfl | rfl | rfl <;> exact ⟨_, _, _, rfl⟩
  · intro w1 s1
    have hn := s1.nodup
    have hb := fun b hb => fresh_of s1 (b := b) hb
    simp [feet, blk] at hn hb
    exact cut_seq l hl c _ [b2, b3, b4] w1 (by simp; omega) (by simp; omega) (s1.all (blk c [s_ (bs l)] 9) (by simp))
  · intro a x r
    exact Rep.put (Rep.put (Rep.put (Rep.put r (by decide)) (by decide)) (by decide)) (by decide)
  · intro l0 a x W K r hk
    obtain ⟨t, d⟩ := a
    have hd := r.nod
    simp only at hd; subst hd
    have r0 := Rep.put (d := 21) (v := s_ (bs x.2)) (Rep.put (d := 20) (v := c_ x.1) r (by decide)) (by decide)
    have ef : ({ tmps := ((#[20, 21] : Array Tmp).zip (encW x)).foldl (fun t (p, v) => t.setIfInBounds p v) t, defers := [] } : Act) = Act.put (Act.put ⟨t, []⟩ (some 20) (c_ x.1)) (some 21) (s_ (bs x.2)) := by simp [encW, Act.put]
    change Code.wpIn _ _ _ _ _ ({ tmps := ((#[20, 21] : Array Tmp).zip (encW x)).foldl (fun t (p, v) => t.setIfInBounds p v) t, defers := [] } : Act) W
    rw [ef]
    refine wpIn_seq (wpIn_region_lit (wpListIn_plain rfl fun K1 hK1 => in_assign (.tmp 20) rfl (fun _ => trivial) (hK1 _ _ ?_)))
    have e20 : Act.eval (Act.put (Act.put ⟨t, []⟩ (some 20) (c_ x.1)) (some 21) (s_ (bs x.2))) (.tmp 20) = c_ x.1 := r0.ev rfl
    have r1 := Rep.put (d := 5) (v := c_ x.1) r0 (by decide)
    show Code.wpIn _ _ _ _ _ (Act.put _ (some 5) (Act.eval (Act.put (Act.put ⟨t, []⟩ (some 20) (c_ x.1)) (some 21) (s_ (bs x.2))) (.tmp 20))) W
    rw [e20]
    refine wpIn_region_lit (wpListIn_plain rfl fun K1 hK1 => in_assign (.tmp 21) rfl (fun _ => trivial) (hK1 _ _ ?_))
    have e21 : Act.eval (Act.put (Act.put (Act.put ⟨t, []⟩ (some 20) (c_ x.1)) (some 21) (s_ (bs x.2))) (some 5) (c_ x.1)) (.tmp 21) = s_ (bs x.2) := r1.ev rfl
    show K (Act.put _ (some 6) (Act.eval (Act.put (Act.put (Act.put ⟨t, []⟩ (some 20) (c_ x.1)) (some 21) (s_ (bs x.2))) (some 5) (c_ x.1)) (.tmp 21))) W
    rw [e21]; exact hk
  · intro l0 pre x W hlt hP
    refine I.block (I.seq (I.region (by kernel_rfl) (fun _ _ h => h) ?_))
    refine A.goP [.p, .p] [(2, p_ b2), (3, p_ b3), (4, p_ b4), (22, c_ x.1), (23, s_ (bs x.2))] [] T0 (by kernel_rfl) trivial ?_
    refine A.cons (A.callT (some 24) [p_ b4, c_ x.1, s_ (bs x.2)] [2] (fun (zz : Unit) => i_ (wdE x.1 x.2)) (fun zz => True) (fun zz => [blk b4 (encCk (wdS (stC pre) x.1 x.2)) 47]) (fun zz => [blk b4 (encCk (wdS (stC pre) x.1 x.2)) 47, blk b2 (encCk ck0) 47, blk b3 [i_ 0] 28]) (by kernel_rfl) rfl rfl (fun ww ss hh => word_spec b4 (stC pre).ni (stC pre).np (stC pre).nl (stC pre).ra (stC pre).rb (stC pre).rc (stC pre).la (stC pre).lb (stC pre).lc (stC pre).ua (stC pre).ub (stC pre).uc (stC pre).nk (stC pre).nb x.1 x.2 ww hh) (fun _ => rfl) ?_)
    rintro ⟨⟩ -
    refine A.goA [.p] [(2, p_ b2), (3, p_ b3), (4, p_ b4), (7, i_ (wdE x.1 x.2))] [] T0 (by kernel_rfl) trivial ?_
    refine I.q (I.tn (I.seq (I.region (by kernel_rfl) (fun _ _ h => h) ?_)))
    refine A.goA [.p, .p] [(2, p_ b2), (3, p_ b3), (4, p_ b4), (7, i_ (wdE x.1 x.2)), (26, b_ (wdE x.1 x.2 != 0))] [] T0 (by kernel_rfl) trivial ?_
    refine I.perm (List.perm_append_comm (l₁ := [blk b4 (encCk (wdS (stC pre) x.1 x.2)) 47]) (l₂ := [blk b2 (encCk ck0) 47, blk b3 [i_ 0] 28])) ?_
    refine I.q (I.tn (I.cond (E := wdE x.1 x.2 != 0) rfl (fun e => ?_) (fun e => ?_)))
    · refine I.seq (I.region (by kernel_rfl) (fun _ _ h => h) ?_)
      refine A.goAS [.p, .p, .st 0, .st 1] [(2, p_ b2), (3, p_ b3), (4, p_ b4)] [blk b2 (encCk ck0) 47, blk b3 [i_ (wdE x.1 x.2)] 28, blk b4 (encCk (wdS (stC pre) x.1 x.2)) 47] [b2, b3] T0 (by kernel_rfl) trivial ?_
      refine I.q (I.tn (I.ret (I.br (I.rpr ?_ ?_))))
      · rw [stC_snoc, lastE_snoc]
      · exact ⟨pre, x, rfl, hP, by simpa using e⟩
    · refine I.skip (I.bn (I.rpn ?_ ?_))
      · rw [stC_snoc]; rfl
      · intro p hp
        rcases List.mem_append.1 hp with hp | hp
        · exact hP p hp
        · rw [List.mem_singleton] at hp; subst hp; simpa using e
  · intro D xs hS hP
    subst hS
    have hz : ∀ j, j < 8 → wE l j = 0 := fun j hj => hP (j, (words 32 l).getD j []) (List.mem_of_getElem? (wz_get (by omega)))
    obtain ⟨g1, g2⟩ := cp_ok h400 hwb hz
    refine I.bn (I.tn (I.seq (I.region (by kernel_rfl) (fun a w h => hqB a w h) ?_)))
    refine A.goAS [.ld 2, .st 0, .st 1] [(2, p_ b2), (3, p_ b3)] [blk b2 (encCk (stC (wz l))) 47, blk b3 [i_ 0] 28, blk b4 (encCk (stC (wz l))) 47, dblk D] [b4, b2, b3] T0 (by kernel_rfl) trivial ?_
    refine I.q (I.tn (I.ret ?_))
    refine I.postQ (H := [blk b2 (encCk (stC (wz l))) 47, blk b3 [i_ 0] 28, blk b4 (encCk (stC (wz l))) 47]) [.agg (encCk (stC (wz l))).toArray, i_ 0] ?_ (fun aa ww rr ss => ⟨rv_cellN rr ss rfl (by kernel_rfl) (reads_blk (i := 0) rfl rfl), rv_cell1 rr ss rfl (by kernel_rfl) (reads_blk (i := 1) rfl rfl), trivial⟩) ?_
    · intro it hi
      simp only [List.mem_cons, List.not_mem_nil, or_false] at hi
      rcases hi with rfl | rfl | rfl <;> exact ⟨_, _, _, rfl⟩
    · unfold icR; rw [g1, g2, stC_wz h8]; rfl
  · rintro D pre ⟨j, hj, rfl⟩ ⟨q, x, hq, hz, hx⟩
    have hjw : j < (words 32 l).length := by rw [← wz_len]; exact hj
    have ht : (wz l).take (j + 1) = (wz l).take j ++ [(j, (words 32 l).getD j [])] := by rw [List.take_add_one, wz_get hjw]; rfl
    have hq2 := ht.symm.trans hq
    obtain ⟨e1, e2⟩ := List.append_inj' hq2 rfl
    have e3 : x = (j, (words 32 l).getD j []) := by simpa using e2.symm
    have hz' : ∀ i, i < j → wE l i = 0 := fun i hi => hz (i, (words 32 l).getD i []) (by
      rw [← e1]; refine List.mem_of_getElem? (i := i) ?_
      rw [List.getElem?_take_of_lt hi]; exact wz_get (by omega))
    have hx' : ¬ wE l j = 0 := by rw [e3] at hx; exact hx
    obtain ⟨g1, g2⟩ := cp_err h400 hwb (by omega) hz' hx'
    refine I.br (I.tr ?_)
    refine I.postQ (H := [blk b2 (encCk ck0) 47, blk b3 [i_ (lastE ((wz l).take (j + 1)))] 28, blk b4 (encCk (stC ((wz l).take (j + 1)))) 47]) [.agg (encCk ck0).toArray, i_ (lastE ((wz l).take (j + 1)))] ?_ (fun aa ww rr ss => ⟨rv_cellN rr ss rfl (by kernel_rfl) (reads_blk (i := 0) rfl rfl), rv_cell1 rr ss rfl (by kernel_rfl) (reads_blk (i := 1) rfl rfl), trivial⟩) ?_
    · intro it hi
      simp only [List.mem_cons, List.not_mem_nil, or_false] at hi
      rcases hi with rfl | rfl | rfl <;> exact ⟨_, _, _, rfl⟩
    · unfold icR; rw [g1, g2, ht, lastE_snoc]; rfl
theorem icp_key (l : List UInt8) (w : World) : Calls Tryz.prog 15 #[s_ (bs l)] w fun e w' => e = .returned (icR l) ∧ Fr [] w w' :=
  I.calls (args := [s_ (bs l)]) 3 [(0, s_ (bs l))] [] [] Tryz.func15 rfl rfl (look_penv [s_ (bs l)]) (HS.nil w) (pcls_key l w _ rfl)
end Go.Proofs.YtaacfehlcdkdhaaGreatDoor
