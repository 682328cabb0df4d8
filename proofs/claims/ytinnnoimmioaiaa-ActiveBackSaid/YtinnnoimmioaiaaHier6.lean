/- What the functions of this layer do, proved operation by operation, for all arguments, under the conditions that each theorem states. -/
import Derived.Test.YtinnnoimmioaiaaProg
import Derived.Test.YtinnnoimmioaiaaL2
import Derived.Test.YtinnnoimmioaiaaHier4
import Derived.Test.YtinnnoimmioaiaaHier3
namespace Go.Proofs.Ytinnnoimmioaiaa
open Go V
set_option linter.unusedVariables false
set_option linter.unusedSimpArgs false
set_option maxHeartbeats 4000000
set_option maxRecDepth 100000
/-- how many classes there are, from one on upward, as far as so many -/
def depN (kv : List (Int × Cl)) : Nat → Int → Nat
  | 0, _ => 0
  | n + 1, k => if (mget kv k).isSome then depN kv n (gcl kv k).hp + 1 else 0
def dep (kv : List (Int × Cl)) (k : Int) : Nat := depN kv 17 k
theorem upA_succ (kv : List (Int × Cl)) (k : Int) : ∀ j, upA kv k (j + 1) = upA kv (gcl kv k).hp j
  | 0 => rfl
  | j + 1 => by show (gcl kv (upA kv k (j + 1))).hp = (gcl kv (upA kv (gcl kv k).hp j)).hp; rw [upA_succ kv k j]
theorem depN_lt (kv : List (Int × Cl)) : ∀ (n : Nat) (k : Int) (j : Nat), j < depN kv n k → mget kv (upA kv k j) ≠ none
  | 0, k, j, h => by simp [depN] at h
  | n + 1, k, j, h => by
    unfold depN at h
    split at h
    · rename_i hs
      cases j with
      | zero => intro e; simp only [upA] at e; rw [e] at hs; cases hs
      | succ j => rw [upA_succ]; exact depN_lt kv n _ j (by omega)
    · omega
theorem depN_end (kv : List (Int × Cl)) : ∀ (n : Nat) (k : Int), depN kv n k < n → mget kv (upA kv k (depN kv n k)) = none
  | 0, k, h => by omega
  | n + 1, k, h => by
    unfold depN at h ⊢
    split
    · rename_i hs; rw [if_pos hs] at h; rw [upA_succ]; exact depN_end kv n _ (by omega)
    · rename_i hs; simpa [upA] using hs
def HOk (kv : List (Int × Cl)) : Prop := ∀ k, dep kv k ≤ 16
theorem HOk.lt {kv : List (Int × Cl)} (h : HOk kv) (k : Int) : (∀ j, j < dep kv k → mget kv (upA kv k j) ≠ none) ∧ mget kv (upA kv k (dep kv k)) = none ∧ dep kv k ≤ 1000 :=
  ⟨fun j => depN_lt kv 17 k j, depN_end kv 17 k (by have := h k; unfold dep at this; omega), by have := h k; omega⟩
def addE (kv : List (Int × Cl)) (y : Cl) : Int :=
  if wrongC y ≠ 0 then wrongC y else if (mget kv y.hi).isSome = true then 8 else if (kv.length : Int) = 64 then 5
  else if (y.hp ≠ 0 ∧ (mget kv y.hp).isSome = false) ∨ (gcl kv y.hp).hl = true then 23
  else if (ofC y.la y.lb y.lc) > 1 ∧ sharesH kv y.hp = false then 29 else if (dep kv y.hp : Int) = 16 then 25 else 0
def addK (kv : List (Int × Cl)) (y : Cl) : List (Int × Cl) := if addE kv y = 0 then mput kv y.hi y else kv

theorem hnew_spec (w : World) (hs : HS w (feet []) [] w) :
    Calls Try.prog 62 #[] w fun e w' => ∃ zz, e = .returned ((fun (zz : Nat × Nat) => match zz with | (bt, mb) => (p_ bt)) zz) ∧ (fun (zz : Nat × Nat) => match zz with | (bt, mb) => True) zz ∧ Turn [] ((fun (zz : Nat × Nat) => match zz with | (bt, mb) => [blk bt [(.map (some mb))] 124, mHI mb ([] : List (Int × Cl))]) zz) w w' := by
  refine calls_of (args := []) (penv []) (feet []) [] Try.func62 rfl rfl (look_penv _) hs ?_
  refine A.norm [] [] trivial rfl ?_
  refine A.sr (A.g [.p] [] [] ?_)
  refine tsr (A.cons (A.makeMap (fun k : Int => i_ k) (fun v_ : Cl => (.agg (encCl v_).toArray)) 1 (by kernel_rfl) rfl (fun m1 => [mHI m1 ([] : List (Int × Cl))]) (fun _ => rfl) ?_))
  intro m1
  refine A.goA1 [.p, .al, .p] [0] (fun b2 => [(0, p_ b2)]) (fun b2 => [mHI m1 ([] : List (Int × Cl)), blk b2 [(.map (some m1))] 124]) (fun b2 => []) (fun _ => T0) (fun _ => by kernel_rfl) (fun b2 => trivial) ?_
  intro b2
  refine A.tn (A.ret (A.pK [1, 0] [p_ b2] (b2, m1) ?_ ?_))
  · rfl
  trivial

theorem add_nil (y : Cl) (w : World) :
    Calls Try.prog 63 #[n_, (.agg (encCl y).toArray)] w fun e w' => e = .returned (i_ 7) ∧ Fr [] w w' := by
  refine calls_of (args := [n_, (.agg (encCl y).toArray)]) (penv [n_, (.agg (encCl y).toArray)]) [] [] Try.func63 rfl rfl (look_penv _) (HS.nil w) ?_
  refine A.sr (A.n1 [.al, .p] [1] (fun b1 => [(3, p_ b1)]) (fun b1 => blk b1 (encCl y) 98) ?_)
  intro b1
  refine A.tn (A.seq (A.sr (A.g [.p, .p] [] [(11, b_ true)] ?_)))
  refine A.tn (A.ct (A.sr (A.g [.p] [0, 3, 11] [(4, i_ 7)] ?_)))
  refine A.tn (A.ret (A.tr (A.pQ [i_ 7] ?_)))
  rfl

theorem add_ok (bt mb : Nat) (kv : List (Int × Cl)) (y : Cl) (hO : HOk kv) (hl : kv.length ≤ 64) (w : World) (hs : HS w (feet [blk bt [(.map (some mb))] 124, mHI mb kv]) [blk bt [(.map (some mb))] 124, mHI mb kv] w) :
    Calls Try.prog 63 #[p_ bt, (.agg (encCl y).toArray)] w fun e w' => ∃ zz, e = .returned ((fun (kv' : (List (Int × Cl))) => (i_ (addE kv y))) zz) ∧ (fun (kv' : (List (Int × Cl))) => kv' = addK kv y) zz ∧ Turn [blk bt [(.map (some mb))] 124, mHI mb kv] ((fun (kv' : (List (Int × Cl))) => [blk bt [(.map (some mb))] 124, mHI mb kv']) zz) w w' := by
  obtain ⟨hd, he, hd7⟩ := hO.lt y.hp; have hwr : wrongC y ≠ 0 → addE kv y = wrongC y := fun h => by unfold addE; rw [if_pos h]
  refine calls_of (args := [p_ bt, (.agg (encCl y).toArray)]) (penv [p_ bt, (.agg (encCl y).toArray)]) (feet [blk bt [(.map (some mb))] 124, mHI mb kv]) [blk bt [(.map (some mb))] 124, mHI mb kv] Try.func63 rfl rfl (look_penv _) hs ?_
  refine A.sr (A.n1 [.al, .p] [1] (fun b1 => [(3, p_ b1)]) (fun b1 => blk b1 (encCl y) 98) ?_)
  intro b1
  refine A.tn (A.seq (A.sr (A.g [.p, .p] [] [(11, b_ false)] ?_)))
  refine A.tn (A.cf (A.skip (A.tn (A.seq (A.sr (A.gk [.ld 2, .cq (i_ (wrongC y)), .p] [11] [(5, i_ (wrongC y))] [b1] (fun κ => κ.call 111 [(.agg (encCl y).toArray)] (i_ (wrongC y)) ∧ True) ⟨(fun ww ss => right_spec y ww), trivial⟩ ?_))))))
  refine tsr (A.g [.p, .p] [] [(15, b_ ((wrongC y) != 0))] ?_)
  refine A.tn (A.cn ((wrongC y) != 0) (fun e1 => ?_) (fun e1 => ?_))
  · have p1 := e1; try simp only [nrm] at p1
    refine A.sr (A.g [.p, .p] [0, 3, 5, 15] [(4, i_ (wrongC y))] ?_)
    refine A.tn (A.ret (A.tr (A.pK [0, 0] [i_ (wrongC y)] (kv) ?_ ?_)))
    · show ((i_ (wrongC y)) : Value) = (i_ (addE kv y))
      refine congrArg (Value.int .i64) ?_; unfold addE; cases hm_ : mget kv y.hp <;> (simp_all [gcl]; done)
    show kv = addK kv y
    unfold addK addE; cases hm_ : mget kv y.hp <;> (simp_all [gcl]; done)
  have p1 := e1; try simp only [nrm] at p1
  refine A.skip (A.tn (A.seq (A.draw3 [10, 11] 13 [blk bt [(.map (some mb))] 124, mHI mb kv, blk b1 (encCl y) 98] (by kernel_rfl) ?_)))
  refine A.drawB 7 [.p, .p, .p, .ld 0, .p, .ld 2] [0, 1, 2, 3, 4, 5] [(0, p_ bt), (3, p_ b1), (21, (.map (some mb))), (23, i_ y.hi)] [bt, b1] T0 (by kernel_rfl) (List.Sublist.refl _) trivial ?_
  refine A.takeB 6 (some 24) (.tuple #[(.agg (encCl ((mget kv y.hi).getD cl0)).toArray), b_ ((mget kv y.hi).isSome)]) rfl (by kernel_rfl) (by kernel_rfl) (List.Sublist.refl _) (qt_lookupOk (kt := 3) (et := 98) (enck := (fun k : Int => i_ k)) (encv := (fun v_ : Cl => (.agg (encCl v_).toArray))) (b := mb) (kv := kv) (k := y.hi) (d0 := cl0) (fun ww ss => ss.mem (i := 1) rfl) rfl rfl rfl (by kernel_rfl) keyOk_I (by kernel_rfl) rfl) ?_
  refine A.drawB 3 [.p, .p, .p] [7, 8, 9] [(0, p_ bt), (3, p_ b1), (25, (.agg (encCl ((mget kv y.hi).getD cl0)).toArray)), (26, b_ ((mget kv y.hi).isSome))] [] T0 (by kernel_rfl) (List.Sublist.refl _) trivial ?_
  refine A.only3 10 rfl (by kernel_rfl) (A.alloc 6 [i_ 0, i_ 0, b_ false, u_ 0, u_ 0, u_ 0, u_ 0, u_ 0, u_ 0, u_ 0, u_ 0, u_ 0, i_ 0, i_ 0] (by kernel_rfl) rfl (by kernel_rfl) (fun b2 => [blk bt [(.map (some mb))] 124, mHI mb kv, blk b1 (encCl y) 98, blk b2 [i_ 0, i_ 0, b_ false, u_ 0, u_ 0, u_ 0, u_ 0, u_ 0, u_ 0, u_ 0, u_ 0, u_ 0, i_ 0, i_ 0] 98]) (fun _ => rfl) ?_)
  intro b2
  refine A.stage3 (.cons_cons _ (.cons_cons _ (.cons_cons _ (.cons _ (List.Sublist.slnil))))) ?_
  refine A.only3 11 rfl (by kernel_rfl) (A.store 3 (vs := (encCl ((mget kv y.hi).getD cl0))) [blk bt [(.map (some mb))] 124, mHI mb kv, blk b1 (encCl y) 98, blk b2 (encCl ((mget kv y.hi).getD cl0)) 98] (by kernel_rfl) rfl rfl rfl rfl (by kernel_rfl) rfl rfl (by kernel_rfl) rfl ?_)
  refine A.stage3 (.cons_cons _ (.cons_cons _ (.cons_cons _ (.cons _ (List.Sublist.slnil))))) ?_
  refine A.drawB 0 [.p] [12] [(0, p_ bt), (3, p_ b1), (7, b_ ((mget kv y.hi).isSome))] [] T0 (by kernel_rfl) (.cons_cons _ (.cons_cons _ (.cons_cons _ (.cons _ (List.Sublist.slnil))))) trivial ?_
  refine A.fin3 (by kernel_rfl) ?_
  refine A.tn (A.seq (A.draw3 [10, 11] 13 [blk bt [(.map (some mb))] 124, mHI mb kv, blk b1 (encCl y) 98, blk b2 (encCl ((mget kv y.hi).getD cl0)) 98] (by kernel_rfl) ?_))
  refine A.drawB 7 [.p, .p, .p, .ld 0, .p, .ld 2] [0, 1, 2, 3, 4, 5] [(0, p_ bt), (3, p_ b1), (7, b_ ((mget kv y.hi).isSome)), (31, (.map (some mb))), (33, i_ y.hp)] [bt, b1] T0 (by kernel_rfl) (List.Sublist.refl _) trivial ?_
  refine A.takeB 6 (some 34) (.tuple #[(.agg (encCl ((mget kv y.hp).getD cl0)).toArray), b_ ((mget kv y.hp).isSome)]) rfl (by kernel_rfl) (by kernel_rfl) (List.Sublist.refl _) (qt_lookupOk (kt := 3) (et := 98) (enck := (fun k : Int => i_ k)) (encv := (fun v_ : Cl => (.agg (encCl v_).toArray))) (b := mb) (kv := kv) (k := y.hp) (d0 := cl0) (fun ww ss => ss.mem (i := 1) rfl) rfl rfl rfl (by kernel_rfl) keyOk_I (by kernel_rfl) rfl) ?_
  refine A.drawB 3 [.p, .p, .p] [7, 8, 9] [(0, p_ bt), (3, p_ b1), (7, b_ ((mget kv y.hi).isSome)), (35, (.agg (encCl ((mget kv y.hp).getD cl0)).toArray)), (36, b_ ((mget kv y.hp).isSome))] [] T0 (by kernel_rfl) (List.Sublist.refl _) trivial ?_
  refine A.only3 10 rfl (by kernel_rfl) (A.alloc 8 [i_ 0, i_ 0, b_ false, u_ 0, u_ 0, u_ 0, u_ 0, u_ 0, u_ 0, u_ 0, u_ 0, u_ 0, i_ 0, i_ 0] (by kernel_rfl) rfl (by kernel_rfl) (fun b3 => [blk bt [(.map (some mb))] 124, mHI mb kv, blk b1 (encCl y) 98, blk b2 (encCl ((mget kv y.hi).getD cl0)) 98, blk b3 [i_ 0, i_ 0, b_ false, u_ 0, u_ 0, u_ 0, u_ 0, u_ 0, u_ 0, u_ 0, u_ 0, u_ 0, i_ 0, i_ 0] 98]) (fun _ => rfl) ?_)
  intro b3
  refine A.stage3 (.cons_cons _ (.cons_cons _ (.cons_cons _ (.cons_cons _ (.cons _ (List.Sublist.slnil)))))) ?_
  refine A.only3 11 rfl (by kernel_rfl) (A.store 4 (vs := (encCl ((mget kv y.hp).getD cl0))) [blk bt [(.map (some mb))] 124, mHI mb kv, blk b1 (encCl y) 98, blk b2 (encCl ((mget kv y.hi).getD cl0)) 98, blk b3 (encCl ((mget kv y.hp).getD cl0)) 98] (by kernel_rfl) rfl rfl rfl rfl (by kernel_rfl) rfl rfl (by kernel_rfl) rfl ?_)
  refine A.stage3 (.cons_cons _ (.cons_cons _ (.cons_cons _ (.cons_cons _ (.cons _ (List.Sublist.slnil)))))) ?_
  refine A.drawB 0 [.p] [12] [(0, p_ bt), (3, p_ b1), (7, b_ ((mget kv y.hi).isSome)), (8, p_ b3), (9, b_ ((mget kv y.hp).isSome))] [] T0 (by kernel_rfl) (.cons_cons _ (.cons_cons _ (.cons_cons _ (.cons_cons _ (.cons _ (List.Sublist.slnil)))))) trivial ?_
  refine A.fin3 (by kernel_rfl) ?_
  refine A.tn (A.seq (A.block (A.sr (A.g [.p, .p] [7] [(37, b_ ((mget kv y.hi).isSome))] ?_))))
  refine A.tn (A.cn ((mget kv y.hi).isSome) (fun e2 => ?_) (fun e2 => ?_))
  · have p2 := e2; try simp only [nrm] at p2
    refine A.sr (A.g [.p] [0, 3, 8, 9, 37] [(4, i_ 8)] ?_)
    refine A.tn (A.ret (A.br (A.tr (A.pK [0, 0] [i_ 8] (kv) ?_ ?_))))
    · show ((i_ 8) : Value) = (i_ (addE kv y))
      refine congrArg (Value.int .i64) ?_; unfold addE; cases hm_ : mget kv y.hp <;> (simp_all [gcl]; done)
    show kv = addK kv y
    unfold addK addE; cases hm_ : mget kv y.hp <;> (simp_all [gcl]; done)
  have p2 := e2; try simp only [nrm] at p2
  refine A.sr (A.gpk [.p, .p, .p, .ld 0] [37] [(43, (.map (some mb)))] [bt] T0 trivial ?_)
  refine A.cons (A.q (some 44) (c_ kv.length) (by kernel_rfl) (qt_lenMap (kt := 3) (et := 98) (enck := (fun k : Int => i_ k)) (encv := (fun v_ : Cl => (.agg (encCl v_).toArray))) (b := mb) (kv := kv) (fun ww ss => ss.mem (i := 1) rfl) rfl rfl (by kernel_rfl)) ?_)
  refine A.g [.p, .p] [43, 44] [(39, b_ ((kv.length : Int) == 64))] ?_
  refine A.tn (A.cn ((kv.length : Int) == 64) (fun e3 => ?_) (fun e3 => ?_))
  · have p3 := e3; try simp only [nrm] at p3
    refine A.sr (A.g [.p] [0, 3, 8, 9, 39] [(4, i_ 5)] ?_)
    refine A.tn (A.ret (A.br (A.tr (A.pK [0, 0] [i_ 5] (kv) ?_ ?_))))
    · show ((i_ 5) : Value) = (i_ (addE kv y))
      refine congrArg (Value.int .i64) ?_; unfold addE; cases hm_ : mget kv y.hp <;> (simp_all [gcl]; done)
    show kv = addK kv y
    unfold addK addE; cases hm_ : mget kv y.hp <;> (simp_all [gcl]; done)
  have p3 := e3; try simp only [nrm] at p3
  refine A.sr (A.gk [.p, .ld 2, .p, .p, .o, .p, .p, .cl, .p, .o, .p, .ld 4, .cl, .p] [8, 9, 39] [(46, b_ (((y.hp != 0) && (!((mget kv y.hp).isSome))) || (((mget kv y.hp).getD cl0).hl)))] [b1, b3] T0 trivial ?_)
  refine A.tn (A.cn (((y.hp != 0) && (!((mget kv y.hp).isSome))) || (((mget kv y.hp).getD cl0).hl)) (fun e4 => ?_) (fun e4 => ?_))
  · have p4 := e4; try simp only [nrm] at p4
    refine A.sr (A.g [.p] [0, 3, 46] [(4, i_ 23)] ?_)
    refine A.tn (A.ret (A.br (A.tr (A.pK [0, 0] [i_ 23] (kv) ?_ ?_))))
    · show ((i_ 23) : Value) = (i_ (addE kv y))
      refine congrArg (Value.int .i64) ?_; unfold addE; cases hm_ : mget kv y.hp <;> (simp_all [gcl]; done)
    show kv = addK kv y
    unfold addK addE; cases hm_ : mget kv y.hp <;> (simp_all [gcl]; done)
  have p4 := e4; try simp only [nrm] at p4
  refine A.sr (A.gk [.ld 2, .cq (b_ (decide ((ofC y.la y.lb y.lc) > 1))), .p, .o, .p, .p, .ld 2, .cq (b_ (sharesH kv y.hp)), .p, .cl, .p] [46] [(58, b_ ((decide ((ofC y.la y.lb y.lc) > 1)) && (!(sharesH kv y.hp))))] [b1, b1] (fun κ => κ.call 58 [(.agg (encCl y).toArray)] (b_ (decide ((ofC y.la y.lb y.lc) > 1))) ∧ ((true && ((decide ((ofC y.la y.lb y.lc) > 1)) == true)) = true → κ.call 112 [p_ bt, i_ y.hp] (b_ (sharesH kv y.hp))) ∧ True) ⟨(fun ww ss => shares_spec y ww), (fun h_ => (fun ww ss => hshares_spec bt mb kv y.hp ww (ss.mem (i := 0) rfl) (ss.mem (i := 1) rfl))), trivial⟩ ?_)
  refine A.tn (A.cn ((decide ((ofC y.la y.lb y.lc) > 1)) && (!(sharesH kv y.hp))) (fun e5 => ?_) (fun e5 => ?_))
  · have p5 := e5; try simp only [nrm] at p5
    refine A.sr (A.g [.p] [0, 3, 58] [(4, i_ 29)] ?_)
    refine A.tn (A.ret (A.br (A.tr (A.pK [0, 0] [i_ 29] (kv) ?_ ?_))))
    · show ((i_ 29) : Value) = (i_ (addE kv y))
      refine congrArg (Value.int .i64) ?_; unfold addE; cases hm_ : mget kv y.hp <;> (simp_all [gcl]; done)
    show kv = addK kv y
    unfold addK addE; cases hm_ : mget kv y.hp <;> (simp_all [gcl]; done)
  have p5 := e5; try simp only [nrm] at p5
  refine A.sr (A.gk [.p, .p, .ld 2, .cq (c_ (dep kv y.hp)), .p, .p] [58] [(68, b_ (((dep kv y.hp) : Int) == 16))] [b1] (fun κ => κ.call 113 [p_ bt, i_ y.hp] (c_ (dep kv y.hp)) ∧ True) ⟨(fun ww ss => depth_ok bt mb kv y.hp (dep kv y.hp) (by assumption) (by assumption) (by assumption) ww (ss.mem (i := 0) rfl) (ss.mem (i := 1) rfl)), trivial⟩ ?_)
  refine A.tn (A.cn (((dep kv y.hp) : Int) == 16) (fun e6 => ?_) (fun e6 => ?_))
  · have p6 := e6; try simp only [nrm] at p6
    refine A.sr (A.g [.p] [0, 3, 68] [(4, i_ 25)] ?_)
    refine A.tn (A.ret (A.br (A.tr (A.pK [0, 0] [i_ 25] (kv) ?_ ?_))))
    · show ((i_ 25) : Value) = (i_ (addE kv y))
      refine congrArg (Value.int .i64) ?_; unfold addE; cases hm_ : mget kv y.hp <;> (simp_all [gcl]; done)
    show kv = addK kv y
    unfold addK addE; cases hm_ : mget kv y.hp <;> grind [gcl]
  have p6 := e6; try simp only [nrm] at p6
  refine A.skip (A.bn (A.tn (A.seq (A.draw2 [7] 8 (by kernel_rfl) ?_))))
  refine A.dP 1 [.p, .p, .p, .ld 0, .p, .ld 2, .ld 2] [0, 1, 2, 3, 4, 5, 6] [0, 3, 68] [(77, (.map (some mb))), (79, i_ y.hi), (80, (.agg (encCl y).toArray))] [bt, b1, b1] T0 trivial ?_
  refine A.only2 7 rfl (by kernel_rfl) (A.mapPut (kt := 3) (et := 98) (enck := (fun k : Int => i_ k)) (encv := (fun v_ : Cl => (.agg (encCl v_).toArray))) (kv := kv) (k := y.hi) 1 y [blk bt [(.map (some mb))] 124, mHI mb (mput kv y.hi y), blk b1 (encCl y) 98, blk b2 (encCl ((mget kv y.hi).getD cl0)) 98, blk b3 (encCl ((mget kv y.hp).getD cl0)) 98] (by kernel_rfl) rfl rfl rfl rfl (by kernel_rfl) keyOk_I rfl rfl ?_)
  refine A.stage ?_
  refine A.fin2 (by kernel_rfl) ?_
  refine tsr (A.goA [.p] [(4, i_ 0)] [] T0 (by kernel_rfl) trivial ?_)
  refine A.tn (A.ret (A.pK [0, 0] [i_ 0] (mput kv y.hi y) ?_ ?_))
  · show ((i_ 0) : Value) = (i_ (addE kv y))
    refine congrArg (Value.int .i64) ?_; unfold addE; cases hm_ : mget kv y.hp <;> (simp_all [gcl]; done)
  show (mput kv y.hi y) = addK kv y
  unfold addK addE; cases hm_ : mget kv y.hp <;> (simp_all [gcl]; done)
end Go.Proofs.Ytinnnoimmioaiaa
