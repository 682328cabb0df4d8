/- What the functions of this layer do, proved operation by operation, for all arguments, under the conditions that each theorem states. -/
import Derived.Test.YtinnnoimmioaiaaProg
import Derived.Test.YtinnnoimmioaiaaHier9
import Derived.Test.YtinnnoimmioaiaaL2
namespace Go.Proofs.Ytinnnoimmioaiaa
open Go V
set_option linter.unusedVariables false
set_option linter.unusedSimpArgs false
set_option maxHeartbeats 4000000
set_option maxRecDepth 100000
def shI (kv : List (Int × Cl)) (i : Int) : Bool := decide ((ofC ((mget kv i).getD cl0).la ((mget kv i).getD cl0).lb ((mget kv i).getD cl0).lc) > 1)
def setE (kv : List (Int × Cl)) (y : Cl) : Int :=
  if wrongC y ≠ 0 then wrongC y else if (mget kv y.hi).isSome = false then 6
  else if y.hp ≠ (gcl kv y.hi).hp ∨ y.hl ≠ (gcl kv y.hi).hl then 1
  else if ((ofC y.la y.lb y.lc) > 1 ∧ sharesH kv y.hp = false) ∨ ((ofC y.la y.lb y.lc) ≤ 1 ∧ ((keysF kv (fun v_ => v_.hp == y.hi))).any (shI kv) = true) then 29 else 0
def setK (kv : List (Int × Cl)) (y : Cl) : List (Int × Cl) := if setE kv y = 0 then mput kv y.hi y else kv
theorem anyI_t {l : List Int} {f : Int → Bool} {k : Nat} {i : Int} (h : l[k]? = some i) (hf : f i = true) : l.any f = true := List.any_eq_true.2 ⟨i, List.mem_of_getElem? h, hf⟩
theorem anyI_f {l : List Int} {f : Int → Bool} {k : Nat} (hn : ∀ x ∈ l.take k, f x = false) (hk : l.length ≤ k) : l.any f = false := by
  rw [List.take_of_length_le hk] at hn; rw [List.any_eq_false]; intro x hx; simp [hn x hx]
theorem anyI_s {l : List Int} {f : Int → Bool} {k : Nat} {i : Int} (hn : ∀ x ∈ l.take k, f x = false) (h : l[k]? = some i) (hf : f i = false) : ∀ x ∈ l.take (k + 1), f x = false := by
  rw [List.take_add_one, h]; intro x hx; rcases List.mem_append.1 hx with hx | hx
  · exact hn x hx
  · simp at hx; rw [hx]; exact hf

theorem set_ok (bt mb : Nat) (kv : List (Int × Cl)) (y : Cl) (hl : kv.length ≤ 1000) (w : World) (hs : HS w (feet [blk bt [(.map (some mb))] 124, mHI mb kv]) [blk bt [(.map (some mb))] 124, mHI mb kv] w) :
    Calls Try.prog 64 #[p_ bt, (.agg (encCl y).toArray)] w fun e w' => ∃ zz, e = .returned ((fun (kv' : (List (Int × Cl))) => (i_ (setE kv y))) zz) ∧ (fun (kv' : (List (Int × Cl))) => kv' = setK kv y) zz ∧ Turn [blk bt [(.map (some mb))] 124, mHI mb kv] ((fun (kv' : (List (Int × Cl))) => [blk bt [(.map (some mb))] 124, mHI mb kv']) zz) w w' := by
  have hkl := keysF_len kv (fun v_ => v_.hp == y.hi)
  refine calls_of (args := [p_ bt, (.agg (encCl y).toArray)]) (penv [p_ bt, (.agg (encCl y).toArray)]) (feet [blk bt [(.map (some mb))] 124, mHI mb kv]) [blk bt [(.map (some mb))] 124, mHI mb kv] Try.func64 rfl rfl (look_penv _) hs ?_
  refine A.sr (A.n2 [.al, .al, .p] [] (fun b1 b2 => [(2, p_ b1), (3, p_ b2), (4, i_ 0)]) (fun b1 b2 => [blk b1 [p_ bt] 54, blk b2 (encCl y) 98]) ?_)
  intro b1 b2
  refine A.tn (A.seq (A.sr (A.gk [.ld 2, .p] [] [(10, b_ false)] [b1] T0 trivial ?_)))
  refine A.tn (A.cf (A.skip (A.tn (A.seq (A.sr (A.gk [.ld 3, .cq (i_ (wrongC y)), .p] [] [(5, i_ (wrongC y))] [b2] (fun κ => κ.call 111 [(.agg (encCl y).toArray)] (i_ (wrongC y)) ∧ True) ⟨(fun ww ss => right_spec y ww), trivial⟩ ?_))))))
  refine tsr (A.g [.p, .p] [] [(14, b_ ((wrongC y) != 0))] ?_)
  refine A.tn (A.cn ((wrongC y) != 0) (fun e1 => ?_) (fun e1 => ?_))
  · have p1 := e1; try simp only [nrm] at p1
    refine A.sr (A.g [.p, .p] [] [(4, i_ (wrongC y))] ?_)
    refine A.tn (A.ret (A.tr (A.pK [0, 0] [i_ (wrongC y)] (kv) ?_ ?_)))
    · show ((i_ (wrongC y)) : Value) = (i_ (setE kv y))
      refine congrArg (Value.int .i64) ?_; unfold setE; (simp_all [gcl]; done)
    show kv = setK kv y
    unfold setK setE; (simp_all [gcl]; done)
  have p1 := e1; try simp only [nrm] at p1
  refine A.skip (A.tn (A.seq (A.draw3 [10, 11] 13 [blk bt [(.map (some mb))] 124, mHI mb kv, blk b1 [p_ bt] 54, blk b2 (encCl y) 98] (by kernel_rfl) ?_)))
  refine A.drawB 7 [.ld 2, .p, .p, .ld 0, .p, .ld 3] [0, 1, 2, 3, 4, 5] [(0, p_ bt), (1, (.agg (encCl y).toArray)), (2, p_ b1), (3, p_ b2), (4, i_ 0), (10, b_ false), (5, i_ (wrongC y)), (14, b_ ((wrongC y) != 0)), (20, (.map (some mb))), (22, i_ y.hi)] [b1, bt, b2] T0 (by kernel_rfl) (List.Sublist.refl _) trivial ?_
  refine A.takeB 6 (some 23) (.tuple #[(.agg (encCl ((mget kv y.hi).getD cl0)).toArray), b_ ((mget kv y.hi).isSome)]) rfl (by kernel_rfl) (by kernel_rfl) (List.Sublist.refl _) (qt_lookupOk (kt := 3) (et := 98) (enck := (fun k : Int => i_ k)) (encv := (fun v_ : Cl => (.agg (encCl v_).toArray))) (b := mb) (kv := kv) (k := y.hi) (d0 := cl0) (fun ww ss => ss.mem (i := 1) rfl) rfl rfl rfl (by kernel_rfl) keyOk_I (by kernel_rfl) rfl) ?_
  refine A.drawB 3 [.p, .p, .p] [7, 8, 9] [(0, p_ bt), (1, (.agg (encCl y).toArray)), (2, p_ b1), (3, p_ b2), (4, i_ 0), (10, b_ false), (5, i_ (wrongC y)), (14, b_ ((wrongC y) != 0)), (24, (.agg (encCl ((mget kv y.hi).getD cl0)).toArray)), (25, b_ ((mget kv y.hi).isSome))] [] T0 (by kernel_rfl) (List.Sublist.refl _) trivial ?_
  refine A.only3 10 rfl (by kernel_rfl) (A.alloc 6 [i_ 0, i_ 0, b_ false, u_ 0, u_ 0, u_ 0, u_ 0, u_ 0, u_ 0, u_ 0, u_ 0, u_ 0, i_ 0, i_ 0] (by kernel_rfl) rfl (by kernel_rfl) (fun b3 => [blk bt [(.map (some mb))] 124, mHI mb kv, blk b1 [p_ bt] 54, blk b2 (encCl y) 98, blk b3 [i_ 0, i_ 0, b_ false, u_ 0, u_ 0, u_ 0, u_ 0, u_ 0, u_ 0, u_ 0, u_ 0, u_ 0, i_ 0, i_ 0] 98]) (fun _ => rfl) ?_)
  intro b3
  refine A.stage3 (.cons_cons _ (.cons_cons _ (.cons_cons _ (.cons_cons _ (.cons _ (List.Sublist.slnil)))))) ?_
  refine A.only3 11 rfl (by kernel_rfl) (A.store 4 (vs := (encCl ((mget kv y.hi).getD cl0))) [blk bt [(.map (some mb))] 124, mHI mb kv, blk b1 [p_ bt] 54, blk b2 (encCl y) 98, blk b3 (encCl ((mget kv y.hi).getD cl0)) 98] (by kernel_rfl) rfl rfl rfl rfl (by kernel_rfl) rfl rfl (by kernel_rfl) rfl ?_)
  refine A.stage3 (.cons_cons _ (.cons_cons _ (.cons_cons _ (.cons_cons _ (.cons _ (List.Sublist.slnil)))))) ?_
  refine A.drawB 0 [.p] [12] [(0, p_ bt), (1, (.agg (encCl y).toArray)), (2, p_ b1), (3, p_ b2), (4, i_ 0), (10, b_ false), (5, i_ (wrongC y)), (14, b_ ((wrongC y) != 0)), (6, p_ b3), (7, b_ ((mget kv y.hi).isSome))] [] T0 (by kernel_rfl) (.cons_cons _ (.cons_cons _ (.cons_cons _ (.cons_cons _ (.cons _ (List.Sublist.slnil)))))) trivial ?_
  refine A.fin3 (by kernel_rfl) ?_
  refine tsr (A.g [.p, .p] [] [(8, (.func (.func 114) #[] #[p_ b1]))] ?_)
  refine A.tn (A.seq (A.block (A.sr (A.g [.p, .p, .p] [] [(27, b_ (!((mget kv y.hi).isSome)))] ?_))))
  refine A.tn (A.cn (!((mget kv y.hi).isSome)) (fun e2 => ?_) (fun e2 => ?_))
  · have p2 := e2; try simp only [nrm] at p2
    refine A.sr (A.g [.p] [] [(4, i_ 6)] ?_)
    refine A.tn (A.ret (A.br (A.tr (A.pK [0, 0] [i_ 6] (kv) ?_ ?_))))
    · show ((i_ 6) : Value) = (i_ (setE kv y))
      refine congrArg (Value.int .i64) ?_; unfold setE; (simp_all [gcl]; done)
    show kv = setK kv y
    unfold setK setE; (simp_all [gcl]; done)
  have p2 := e2; try simp only [nrm] at p2
  refine A.sr (A.gk [.p, .ld 3, .p, .ld 4, .p, .p, .o, .p, .ld 3, .p, .ld 4, .eq, .cl, .p] [] [(30, b_ ((y.hp != (((mget kv y.hi).getD cl0).hp)) || (!(y.hl == (((mget kv y.hi).getD cl0).hl)))))] [b2, b3, b2, b3] T0 trivial ?_)
  refine A.tn (A.cn ((y.hp != (((mget kv y.hi).getD cl0).hp)) || (!(y.hl == (((mget kv y.hi).getD cl0).hl)))) (fun e3 => ?_) (fun e3 => ?_))
  · have p3 := e3; try simp only [nrm] at p3
    refine A.sr (A.g [.p] [] [(4, i_ 1)] ?_)
    refine A.tn (A.ret (A.br (A.tr (A.pK [0, 0] [i_ 1] (kv) ?_ ?_))))
    · show ((i_ 1) : Value) = (i_ (setE kv y))
      refine congrArg (Value.int .i64) ?_; unfold setE; (simp_all [gcl]; done)
    show kv = setK kv y
    unfold setK setE; (simp_all [gcl]; done)
  have p3 := e3; try simp only [nrm] at p3
  refine A.sr (A.gpk [.ld 3, .cq (b_ (decide ((ofC y.la y.lb y.lc) > 1))), .p, .o, .ld 2, .p, .ld 3, .cq (b_ (sharesH kv y.hp)), .p, .cl, .p] [] [(53, b_ ((decide ((ofC y.la y.lb y.lc) > 1)) && (!(sharesH kv y.hp))))] [b2, b1, b2] (fun κ => κ.call 58 [(.agg (encCl y).toArray)] (b_ (decide ((ofC y.la y.lb y.lc) > 1))) ∧ ((true && ((decide ((ofC y.la y.lb y.lc) > 1)) == true)) = true → κ.call 112 [p_ bt, i_ y.hp] (b_ (sharesH kv y.hp))) ∧ True) ⟨(fun ww ss => shares_spec y ww), (fun h_ => (fun ww ss => hshares_spec bt mb kv y.hp ww (ss.mem (i := 0) rfl) (ss.mem (i := 1) rfl))), trivial⟩ ?_)
  refine A.bool ((decide ((ofC y.la y.lb y.lc) > 1)) && (!(sharesH kv y.hp))) (fun e4 => ?_) (fun e4 => ?_)
  · refine A.sv 53 (b_ true) (cgB e4) ?_
    refine A.g [.sk, .sk, .sk, .sk, .sk, .sk, .sk, .sk, .sk, .sk, .sk, .p, .p] [53] [(43, b_ true)] ?_
    refine A.tn (A.ct (A.sr (A.g [.p] [] [(4, i_ 29)] ?_)))
    refine A.tn (A.ret (A.br (A.tr (A.pK [0, 0] [i_ 29] (kv) ?_ ?_))))
    · show ((i_ 29) : Value) = (i_ (setE kv y))
      refine congrArg (Value.int .i64) ?_; unfold setE; (simp_all [gcl]; done)
    show kv = setK kv y
    unfold setK setE; (simp_all [gcl]; done)
  refine A.sv 53 (b_ false) (cgB e4) ?_
  refine A.gpk [.ld 3, .cq (b_ (decide ((ofC y.la y.lb y.lc) > 1))), .p, .p] [] [(57, b_ (!(decide ((ofC y.la y.lb y.lc) > 1))))] [b2] (fun κ => κ.call 58 [(.agg (encCl y).toArray)] (b_ (decide ((ofC y.la y.lb y.lc) > 1))) ∧ True) ⟨(fun ww ss => shares_spec y ww), trivial⟩ ?_
  refine A.bool (!(decide ((ofC y.la y.lb y.lc) > 1))) (fun e5 => ?_) (fun e5 => ?_)
  · refine A.sv 57 (b_ true) (cgB e5) ?_
    refine A.gpk [.ld 2, .p, .ld 3] [] [(58, p_ bt), (60, i_ y.hi)] [b1, b2] T0 trivial ?_
    refine A.cons (A.cT (some 61) [p_ bt, i_ y.hi] [] ((fun zz => match zz with | (al'4, cl'5) => (vS al'4 (keysF kv (fun v_ => v_.hp == y.hi)) cl'5))) ((fun zz => match zz with | (al'4, cl'5) => True)) ((fun zz => match zz with | (al'4, cl'5) => [sI al'4 (keysF kv (fun v_ => v_.hp == y.hi)) cl'5])) (fun ww ss hh => children_ok bt mb kv y.hi (by assumption) ww (ss.mem (i := 0) rfl) (ss.mem (i := 1) rfl) hh) ?_)
    rintro ⟨al'4, cl'5⟩ -
    refine A.gp [.p] [58, 60] [(61, vS al'4 (keysF kv (fun v_ => v_.hp == y.hi)) cl'5), (62, (.func (.func 114) #[] #[p_ b1]))] ?_
    refine A.cons (A.inlX (some 63) [vS al'4 (keysF kv (fun v_ => v_.hp == y.hi)) cl'5, (.func (.func 114) #[] #[p_ b1])] [(0, vS al'4 (keysF kv (fun v_ => v_.hp == y.hi)) cl'5), (1, (.func (.func 114) #[] #[p_ b1]))] (by kernel_rfl) rfl Try.func80 rfl rfl ?_)
    refine A.sr (A.g [.p] [] [(4, b_ false)] ?_)
    refine tsr (A.gp [.p, .p] [] [(5, vS al'4 (keysF kv (fun v_ => v_.hp == y.hi)) cl'5), (6, (.func (.func 114) #[] #[p_ b1]))] ?_)
    refine A.cons (A.inlX (some 7) [vS al'4 (keysF kv (fun v_ => v_.hp == y.hi)) cl'5, (.func (.func 114) #[] #[p_ b1])] [(0, vS al'4 (keysF kv (fun v_ => v_.hp == y.hi)) cl'5), (1, (.func (.func 114) #[] #[p_ b1]))] (by kernel_rfl) rfl Try.func122 rfl rfl ?_)
    refine A.sr (A.g [.p] [] [(4, i_ 0)] ?_)
    refine A.tn (A.seq (A.sr (A.g [.p, .p, .p] [] [(7, i_ ((keysF kv (fun v_ => v_.hp == y.hi)).length : Int)), (8, i_ 0)] ?_)))
    refine A.tn (A.block (A.loop (fun (zz : Nat) => match zz with | k => [(0, vS al'4 (keysF kv (fun v_ => v_.hp == y.hi)) cl'5), (1, (.func (.func 114) #[] #[p_ b1])), (7, i_ ((keysF kv (fun v_ => v_.hp == y.hi)).length : Int)), (8, c_ k)]) (fun (zz : Nat) => match zz with | k => [sI al'4 (keysF kv (fun v_ => v_.hp == y.hi)) cl'5, blk bt [(.map (some mb))] 124, mHI mb kv, blk b1 [p_ bt] 54, blk b2 (encCl y) 98, blk b3 (encCl ((mget kv y.hi).getD cl0)) 98]) (fun (zz : Nat) => match zz with | k => (k ≤ (keysF kv (fun v_ => v_.hp == y.hi)).length) ∧ (∀ x ∈ (keysF kv (fun v_ => v_.hp == y.hi)).take k, shI kv x = false)) (fun (zz : Nat) => match zz with | k => (keysF kv (fun v_ => v_.hp == y.hi)).length - k) (0 : Nat) ⟨(by omega), (by simp)⟩ ?_ ?_))
    · exact A.hK [0, 0, 0, 0, 0, 0]
    rintro k ⟨hk, hn⟩
    refine A.sr (A.goA [.p] [(0, vS al'4 (keysF kv (fun v_ => v_.hp == y.hi)) cl'5), (1, (.func (.func 114) #[] #[p_ b1])), (7, i_ ((keysF kv (fun v_ => v_.hp == y.hi)).length : Int)), (8, c_ k), (9, b_ (decide ((k : Int) < ((keysF kv (fun v_ => v_.hp == y.hi)).length : Int))))] [] T0 (by kernel_rfl) trivial ?_)
    refine A.tn (A.seq (A.cn (decide ((k : Int) < ((keysF kv (fun v_ => v_.hp == y.hi)).length : Int))) (fun e7 => ?_) (fun e7 => ?_)))
    · have p7 := of_decide_eq_true e7
      refine A.skip (A.tn (A.seq (A.block (A.sr (A.g [.p, .p] [] [(5, c_ k)] ?_)))))
      refine tsr (A.gpk [.p, .p, .p, .ix] [] [(11, (.func (.func 114) #[] #[p_ b1])), (14, (.pointer (some ((at0 al'4).add (k * 1)))))] [] (fun κ => κ.ix al'4 ((keysF kv (fun v_ => v_.hp == y.hi)).length) (k : Int) ∧ True) ⟨(ixOf encI_len (by decide) (rd_sl (i := 0) rfl) (by omega)), trivial⟩ ?_)
      obtain ⟨x7, hx7⟩ : ∃ x, ((keysF kv (fun v_ => v_.hp == y.hi)))[k]? = some x := ⟨_, List.getElem?_eq_getElem (by omega)⟩
      refine A.gpk [.rd [i_ x7]] [14] [(15, i_ x7)] [] (fun κ => κ.rd ((at0 al'4).add (k * 1)) [i_ x7] ∧ True) ⟨(reads_at0 (vs := [i_ x7]) encI_len (rd_sl (i := 0) rfl) hx7 (Nat.le_of_ble_eq_true rfl) rfl), trivial⟩ ?_
      refine A.cons (A.inlX (some 16) [i_ x7, p_ b1] [(0, i_ x7), (1, p_ b1)] (by kernel_rfl) rfl Try.func114 rfl rfl ?_)
      refine A.sr (A.g [.p] [] [(3, b_ false)] ?_)
      refine tsr (A.gpk [.ld 3, .p, .p, .ld 1, .p] [] [(7, (.map (some mb))), (8, i_ x7)] [b1, bt] T0 trivial ?_)
      refine A.cons (A.q (some 9) (.agg (encCl ((mget kv x7).getD cl0)).toArray) (by kernel_rfl) (qt_lookup (kt := 3) (et := 98) (enck := (fun k : Int => i_ k)) (encv := (fun v_ : Cl => (.agg (encCl v_).toArray))) (b := mb) (kv := kv) (k := x7) (d0 := cl0) (fun ww ss => ss.mem (i := 2) rfl) rfl rfl rfl (by kernel_rfl) keyOk_I (by kernel_rfl) rfl) ?_)
      refine A.gk [.cq (b_ (decide ((ofC ((mget kv x7).getD cl0).la ((mget kv x7).getD cl0).lb ((mget kv x7).getD cl0).lc) > 1))), .p] [7, 8, 9] [(3, b_ (decide ((ofC ((mget kv x7).getD cl0).la ((mget kv x7).getD cl0).lb ((mget kv x7).getD cl0).lc) > 1)))] [] (fun κ => κ.call 58 [(.agg (encCl ((mget kv x7).getD cl0)).toArray)] (b_ (decide ((ofC ((mget kv x7).getD cl0).la ((mget kv x7).getD cl0).lb ((mget kv x7).getD cl0).lc) > 1))) ∧ True) ⟨(fun ww ss => shares_spec ((mget kv x7).getD cl0) ww), trivial⟩ ?_
      refine A.tn (A.ret (A.post [b_ (decide ((ofC ((mget kv x7).getD cl0).la ((mget kv x7).getD cl0).lb ((mget kv x7).getD cl0).lc) > 1))] (fun aa ww rr ss => ⟨rv_tmp rr rfl, trivial⟩) (A.back (by kernel_rfl) ?_)))
      refine A.done ?_
      refine A.sub [(0, vS al'4 (keysF kv (fun v_ => v_.hp == y.hi)) cl'5), (1, (.func (.func 114) #[] #[p_ b1])), (7, i_ ((keysF kv (fun v_ => v_.hp == y.hi)).length : Int)), (8, c_ k), (9, b_ (decide ((k : Int) < ((keysF kv (fun v_ => v_.hp == y.hi)).length : Int)))), (5, c_ k), (16, b_ (decide ((ofC ((mget kv x7).getD cl0).la ((mget kv x7).getD cl0).lb ((mget kv x7).getD cl0).lc) > 1)))] (by exact ⟨rfl, rfl, rfl, rfl, rfl, rfl, rfl, trivial⟩) ?_
      refine A.tn (A.cn (decide ((ofC ((mget kv x7).getD cl0).la ((mget kv x7).getD cl0).lb ((mget kv x7).getD cl0).lc) > 1)) (fun e8 => ?_) (fun e8 => ?_))
      · have p8 := of_decide_eq_true e8
        refine A.sr (A.g [.p, .p] [] [(4, c_ k)] ?_)
        refine A.tn (A.ret (A.br (A.tr (A.tr (A.br (A.tr (A.post [c_ k] (fun aa ww rr ss => ⟨rv_tmp rr rfl, trivial⟩) (A.back (by kernel_rfl) ?_))))))))
        refine A.goA [.p, .p] [(0, vS al'4 (keysF kv (fun v_ => v_.hp == y.hi)) cl'5), (1, (.func (.func 114) #[] #[p_ b1])), (4, b_ (decide ((k : Int) ≥ 0)))] [] T0 (by kernel_rfl) trivial ?_
        refine A.tn (A.ret (A.post [b_ (decide ((k : Int) ≥ 0))] (fun aa ww rr ss => ⟨rv_tmp rr rfl, trivial⟩) (A.back (by kernel_rfl) ?_)))
        refine A.goA [.p, .p, .p] [(0, p_ bt), (1, (.agg (encCl y).toArray)), (2, p_ b1), (3, p_ b2), (4, i_ 0), (10, b_ false), (5, i_ (wrongC y)), (14, b_ ((wrongC y) != 0)), (6, p_ b3), (7, b_ ((mget kv y.hi).isSome)), (8, (.func (.func 114) #[] #[p_ b1])), (27, b_ (!((mget kv y.hi).isSome))), (30, b_ ((y.hp != (((mget kv y.hi).getD cl0).hp)) || (!(y.hl == (((mget kv y.hi).getD cl0).hl))))), (43, b_ (decide ((k : Int) ≥ 0)))] [] T0 (by kernel_rfl) trivial ?_
        refine A.tn (A.cn (decide ((k : Int) ≥ 0)) (fun e9 => ?_) (fun e9 => ?_))
        · have p9 := of_decide_eq_true e9
          refine A.sr (A.g [.p] [] [(4, i_ 29)] ?_)
          refine A.tn (A.ret (A.br (A.tr (A.pK [1, 1] [i_ 29] (kv) ?_ ?_))))
          · show ((i_ 29) : Value) = (i_ (setE kv y))
            refine congrArg (Value.int .i64) ?_; unfold setE; (have hq_ := anyI_t (f := shI kv) (by assumption) (by unfold shI; assumption); simp only [hq_]; simp_all [gcl]; done)
          show kv = setK kv y
          unfold setK setE; (have hq_ := anyI_t (f := shI kv) (by assumption) (by unfold shI; assumption); simp only [hq_]; simp_all [gcl]; done)
        have p9 := of_decide_eq_false e9
        refine A.skip (A.bn (A.tn (A.seq (A.draw2 [7] 8 (by kernel_rfl) ?_))))
        refine A.dP 1 [.ld 3, .p, .p, .ld 1, .p, .ld 4, .ld 4] [0, 1, 2, 3, 4, 5, 6] [] [(69, (.map (some mb))), (71, i_ y.hi), (72, (.agg (encCl y).toArray))] [b1, bt, b2, b2] T0 trivial ?_
        refine A.only2 7 rfl (by kernel_rfl) (A.mapPut (kt := 3) (et := 98) (enck := (fun k : Int => i_ k)) (encv := (fun v_ : Cl => (.agg (encCl v_).toArray))) (kv := kv) (k := y.hi) 2 y [sI al'4 (keysF kv (fun v_ => v_.hp == y.hi)) cl'5, blk bt [(.map (some mb))] 124, mHI mb (mput kv y.hi y), blk b1 [p_ bt] 54, blk b2 (encCl y) 98, blk b3 (encCl ((mget kv y.hi).getD cl0)) 98] (by kernel_rfl) rfl rfl rfl rfl (by kernel_rfl) keyOk_I rfl rfl ?_)
        refine A.stage ?_
        refine A.fin2 (by kernel_rfl) ?_
        refine A.sub [(0, p_ bt), (1, (.agg (encCl y).toArray)), (2, p_ b1), (3, p_ b2), (4, i_ 0), (10, b_ false), (5, i_ (wrongC y)), (14, b_ ((wrongC y) != 0)), (6, p_ b3), (7, b_ ((mget kv y.hi).isSome)), (8, (.func (.func 114) #[] #[p_ b1])), (27, b_ (!((mget kv y.hi).isSome))), (30, b_ ((y.hp != (((mget kv y.hi).getD cl0).hp)) || (!(y.hl == (((mget kv y.hi).getD cl0).hl))))), (43, b_ (decide ((k : Int) ≥ 0)))] (by exact ⟨rfl, rfl, rfl, rfl, rfl, rfl, rfl, rfl, rfl, rfl, rfl, rfl, rfl, rfl, trivial⟩) ?_
        refine tsr (A.g [.p] [] [] ?_)
        refine A.tn (A.ret (A.pK [1, 1] [i_ 0] (mput kv y.hi y) ?_ ?_))
        · show ((i_ 0) : Value) = (i_ (setE kv y))
          refine congrArg (Value.int .i64) ?_; unfold setE; (have hq_ := anyI_t (f := shI kv) (by assumption) (by unfold shI; assumption); simp only [hq_]; simp_all [gcl]; done)
        show (mput kv y.hi y) = setK kv y
        unfold setK setE; (have hq_ := anyI_t (f := shI kv) (by assumption) (by unfold shI; assumption); simp only [hq_]; simp_all [gcl]; done)
      have p8 := of_decide_eq_false e8
      refine A.skip (A.bn (tr (A.gk [.w ((k : Int) + 1), .p] [] [(8, i_ ((k : Int) + 1))] [] (fun κ => (IntKind.i64.wrap ((k : Int) + 1) = ((k : Int) + 1)) ∧ True) ⟨(wrap_i64 (e := (k : Int) + 1) (by constructor <;> omega)), trivial⟩ ?_)))
      refine A.tn (A.next (k + 1) ⟨(by omega), (by exact anyI_s hn (by assumption) (by assumption))⟩ (by (simp; omega)) ?_)
      exact A.hK [0, 0, 0, 0, 0, 0]
    have p7 := of_decide_eq_false e7
    refine A.exit (A.te (A.te (A.bh (tsr (A.g [.p] [] [(4, i_ (-1))] ?_)))))
    refine A.tn (A.ret (A.post [i_ (-1)] (fun aa ww rr ss => ⟨rv_tmp rr rfl, trivial⟩) (A.back (by kernel_rfl) ?_)))
    refine A.goA [.p, .p] [(0, vS al'4 (keysF kv (fun v_ => v_.hp == y.hi)) cl'5), (1, (.func (.func 114) #[] #[p_ b1])), (4, b_ false)] [] T0 (by kernel_rfl) trivial ?_
    refine A.tn (A.ret (A.post [b_ false] (fun aa ww rr ss => ⟨rv_tmp rr rfl, trivial⟩) (A.back (by kernel_rfl) ?_)))
    refine A.goA [.p, .p, .p] [(0, p_ bt), (1, (.agg (encCl y).toArray)), (2, p_ b1), (3, p_ b2), (4, i_ 0), (10, b_ false), (5, i_ (wrongC y)), (14, b_ ((wrongC y) != 0)), (6, p_ b3), (7, b_ ((mget kv y.hi).isSome)), (8, (.func (.func 114) #[] #[p_ b1])), (27, b_ (!((mget kv y.hi).isSome))), (30, b_ ((y.hp != (((mget kv y.hi).getD cl0).hp)) || (!(y.hl == (((mget kv y.hi).getD cl0).hl))))), (43, b_ false)] [] T0 (by kernel_rfl) trivial ?_
    refine A.tn (A.cf (A.skip (A.bn (A.tn (A.seq (A.draw2 [7] 8 (by kernel_rfl) ?_))))))
    refine A.dP 1 [.ld 3, .p, .p, .ld 1, .p, .ld 4, .ld 4] [0, 1, 2, 3, 4, 5, 6] [] [(69, (.map (some mb))), (71, i_ y.hi), (72, (.agg (encCl y).toArray))] [b1, bt, b2, b2] T0 trivial ?_
    refine A.only2 7 rfl (by kernel_rfl) (A.mapPut (kt := 3) (et := 98) (enck := (fun k : Int => i_ k)) (encv := (fun v_ : Cl => (.agg (encCl v_).toArray))) (kv := kv) (k := y.hi) 2 y [sI al'4 (keysF kv (fun v_ => v_.hp == y.hi)) cl'5, blk bt [(.map (some mb))] 124, mHI mb (mput kv y.hi y), blk b1 [p_ bt] 54, blk b2 (encCl y) 98, blk b3 (encCl ((mget kv y.hi).getD cl0)) 98] (by kernel_rfl) rfl rfl rfl rfl (by kernel_rfl) keyOk_I rfl rfl ?_)
    refine A.stage ?_
    refine A.fin2 (by kernel_rfl) ?_
    refine A.sub [(0, p_ bt), (1, (.agg (encCl y).toArray)), (2, p_ b1), (3, p_ b2), (4, i_ 0), (10, b_ false), (5, i_ (wrongC y)), (14, b_ ((wrongC y) != 0)), (6, p_ b3), (7, b_ ((mget kv y.hi).isSome)), (8, (.func (.func 114) #[] #[p_ b1])), (27, b_ (!((mget kv y.hi).isSome))), (30, b_ ((y.hp != (((mget kv y.hi).getD cl0).hp)) || (!(y.hl == (((mget kv y.hi).getD cl0).hl))))), (43, b_ false)] (by exact ⟨rfl, rfl, rfl, rfl, rfl, rfl, rfl, rfl, rfl, rfl, rfl, rfl, rfl, rfl, trivial⟩) ?_
    refine tsr (A.g [.p] [] [] ?_)
    refine A.tn (A.ret (A.pK [1, 1] [i_ 0] (mput kv y.hi y) ?_ ?_))
    · show ((i_ 0) : Value) = (i_ (setE kv y))
      refine congrArg (Value.int .i64) ?_; unfold setE; (have hq_ := anyI_f hn (by omega); simp only [hq_]; simp_all [gcl]; done)
    show (mput kv y.hi y) = setK kv y
    unfold setK setE; (have hq_ := anyI_f hn (by omega); simp only [hq_]; simp_all [gcl]; done)
  refine A.sv 57 (b_ false) (cgB e5) ?_
  refine A.g [.sk, .sk, .sk, .sk, .sk, .sk, .p, .p, .p] [53, 57] [(43, b_ false)] ?_
  refine A.tn (A.cf (A.skip (A.bn (A.tn (A.seq (A.draw2 [7] 8 (by kernel_rfl) ?_))))))
  refine A.dP 1 [.ld 2, .p, .p, .ld 0, .p, .ld 3, .ld 3] [0, 1, 2, 3, 4, 5, 6] [] [(69, (.map (some mb))), (71, i_ y.hi), (72, (.agg (encCl y).toArray))] [b1, bt, b2, b2] T0 trivial ?_
  refine A.only2 7 rfl (by kernel_rfl) (A.mapPut (kt := 3) (et := 98) (enck := (fun k : Int => i_ k)) (encv := (fun v_ : Cl => (.agg (encCl v_).toArray))) (kv := kv) (k := y.hi) 1 y [blk bt [(.map (some mb))] 124, mHI mb (mput kv y.hi y), blk b1 [p_ bt] 54, blk b2 (encCl y) 98, blk b3 (encCl ((mget kv y.hi).getD cl0)) 98] (by kernel_rfl) rfl rfl rfl rfl (by kernel_rfl) keyOk_I rfl rfl ?_)
  refine A.stage ?_
  refine A.fin2 (by kernel_rfl) ?_
  refine A.sub [(0, p_ bt), (1, (.agg (encCl y).toArray)), (2, p_ b1), (3, p_ b2), (4, i_ 0), (10, b_ false), (5, i_ (wrongC y)), (14, b_ ((wrongC y) != 0)), (6, p_ b3), (7, b_ ((mget kv y.hi).isSome)), (8, (.func (.func 114) #[] #[p_ b1])), (27, b_ (!((mget kv y.hi).isSome))), (30, b_ ((y.hp != (((mget kv y.hi).getD cl0).hp)) || (!(y.hl == (((mget kv y.hi).getD cl0).hl))))), (43, b_ false)] (by exact ⟨rfl, rfl, rfl, rfl, rfl, rfl, rfl, rfl, rfl, rfl, rfl, rfl, rfl, rfl, trivial⟩) ?_
  refine tsr (A.g [.p] [] [] ?_)
  refine A.tn (A.ret (A.pK [0, 0] [i_ 0] (mput kv y.hi y) ?_ ?_))
  · show ((i_ 0) : Value) = (i_ (setE kv y))
    refine congrArg (Value.int .i64) ?_; unfold setE; grind [gcl]
  show (mput kv y.hi y) = setK kv y
  unfold setK setE; grind [gcl]
end Go.Proofs.Ytinnnoimmioaiaa
