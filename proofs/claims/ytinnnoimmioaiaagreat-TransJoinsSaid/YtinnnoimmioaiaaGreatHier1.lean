/- What the functions of this layer do, proved operation by operation, for all arguments, under the conditions that each theorem states. -/
import Derived.Test.YtinnnoimmioaiaaGreatProg
import Derived.Test.YtinnnoimmioaiaaGreatHierS
import Derived.Test.YtinnnoimmioaiaaGreatL2
namespace Go.Proofs.YtinnnoimmioaiaaGreat
open Go V
set_option linter.unusedVariables false
set_option linter.unusedSimpArgs false
set_option maxHeartbeats 4000000
set_option maxRecDepth 100000

theorem children_nil (ci : Int) (w : World) :
    Calls Tryz.prog 45 #[n_, i_ ci] w fun e w' => e = .returned e_ ∧ Fr [] w w' := by
  refine calls_of (args := [n_, i_ ci]) (penv [n_, i_ ci]) [] [] Tryz.func45 rfl rfl (look_penv _) (HS.nil w) ?_
  refine A.sr (A.n1 [.al, .p] [1] (fun b1 => [(3, p_ b1)]) (fun b1 => blk b1 [i_ ci] 3) ?_)
  intro b1
  refine tsr (A.gp [.p, .p] [0, 3] [(5, n_), (6, (.func (.func 68) #[] #[p_ b1]))] ?_)
  refine A.cons (A.inlX (some 7) [n_, (.func (.func 68) #[] #[p_ b1])] [(0, n_), (1, (.func (.func 68) #[] #[p_ b1]))] (by kernel_rfl) rfl Tryz.func39 rfl rfl ?_)
  refine A.sr (A.g [.p] [] [] ?_)
  refine A.tn (A.seq (A.sr (A.g [.p, .p] [] [(9, b_ true)] ?_)))
  refine A.tn (A.ct (A.sr (A.g [.p] [0, 1, 9] [(4, e_)] ?_)))
  refine A.tn (A.ret (A.tr (A.post [e_] (fun aa ww rr ss => ⟨rv_tmp rr rfl, trivial⟩) (A.back (by kernel_rfl) ?_))))
  refine A.goA [.p] [(4, e_)] [] T0 (by kernel_rfl) trivial ?_
  refine A.tn (A.ret (A.pQ [e_] ?_))
  rfl

theorem children_ok (bt mb : Nat) (kv : List (Int × Cl)) (ci : Int) (hl : kv.length ≤ 1000) (w : World) (r0 : (blk bt [(.map (some mb))] 77).holds w) (r1 : (mHI mb kv).holds w) (hs : HS w (feet []) [] w) :
    Calls Tryz.prog 45 #[p_ bt, i_ ci] w fun e w' => ∃ zz, e = .returned ((fun (zz : (Option Addr) × Nat) => match zz with | (al', cl') => (vS al' (keysF kv (fun v_ => v_.hp == ci)) cl')) zz) ∧ (fun (zz : (Option Addr) × Nat) => match zz with | (al', cl') => True) zz ∧ Turn [] ((fun (zz : (Option Addr) × Nat) => match zz with | (al', cl') => [sI al' (keysF kv (fun v_ => v_.hp == ci)) cl']) zz) w w' := by
  refine calls_of (args := [p_ bt, i_ ci]) (penv [p_ bt, i_ ci]) (feet []) [] Tryz.func45 rfl rfl (look_penv _) hs ?_
  refine A.sr (A.n1 [.al, .p] [1] (fun b1 => [(3, p_ b1)]) (fun b1 => blk b1 [i_ ci] 3) ?_)
  intro b1
  refine tsr (A.gp [.p, .p] [0, 3] [(5, p_ bt), (6, (.func (.func 68) #[] #[p_ b1]))] ?_)
  refine A.cons (A.inlX (some 7) [p_ bt, (.func (.func 68) #[] #[p_ b1])] [(0, p_ bt), (1, (.func (.func 68) #[] #[p_ b1]))] (by kernel_rfl) rfl Tryz.func39 rfl rfl ?_)
  refine A.sr (A.g [.p] [] [] ?_)
  refine A.tn (A.seq (A.sr (A.g [.p, .p] [] [(9, b_ false)] ?_)))
  refine A.tn (A.cf (A.skip (tsr (A.g [.p] [9] [(5, e_)] ?_))))
  refine A.tn (A.seq (A.sr (A.gpk [.p, .p, .p, .rd [(.map (some mb))]] [0] [(13, (.map (some mb)))] [] (fun κ => κ.rd ⟨bt, 0, none⟩ [(.map (some mb))] ∧ True) ⟨(reads_oldblk r0 rfl), trivial⟩ ?_)))
  obtain ⟨⟨es2, cl2, hhp2, hEn2, hbo2, hnd2⟩, hkn2⟩ := id r1
  refine A.cons (A.rangeM (kt := 3) (et := 48) (es := es2) (clock := cl2) 14 (by kernel_rfl) rfl rfl (by kernel_rfl) (fun ww ss => old_heap ss hhp2 (by simp [feet])) (fun b3 => [blk b1 [i_ ci] 3, iterI b3 mb es2 cl2 ([] : List Nat)]) (fun _ => rfl) ?_)
  intro b3
  refine A.done ?_
  refine A.tn (A.block (A.ownNil 3 1 [blk b1 [i_ ci] 3, iterI b3 mb es2 cl2 ([] : List Nat), sI none ([] : List Int) 0] rfl ?_))
  refine A.setH [blk b1 [i_ ci] 3, iterI b3 mb es2 cl2 ([] : List Nat), sI none (selK kv (fun v_ => v_.hp == ci) ([] : List Nat)) 0] (cc rfl (cc rfl (cc (slC (by rfl : ([] : List Int) = (selK kv (fun v_ => v_.hp == ci) ([] : List Nat)))) rfl))) ?_
  refine A.sub [(1, (.func (.func 68) #[] #[p_ b1])), (5, vS none (selK kv (fun v_ => v_.hp == ci) ([] : List Nat)) 0), (13, (.map (some mb))), (14, p_ b3)] (by exact ⟨rfl, congrArg (fun z_ : List Int => some (Value.slice none z_.length 0)) (by rfl : ([] : List Int) = (selK kv (fun v_ => v_.hp == ci) ([] : List Nat))), rfl, rfl, trivial⟩) ?_
  refine A.loop (fun (zz : (List Nat) × (Option Addr) × Nat) => match zz with | (seen, ao, co) => [(1, (.func (.func 68) #[] #[p_ b1])), (14, p_ b3), (5, vS ao (selK kv (fun v_ => v_.hp == ci) seen) co)]) (fun (zz : (List Nat) × (Option Addr) × Nat) => match zz with | (seen, ao, co) => [iterI b3 mb es2 cl2 seen, sI ao (selK kv (fun v_ => v_.hp == ci) seen) co, blk b1 [i_ ci] 3]) (fun (zz : (List Nat) × (Option Addr) × Nat) => match zz with | (seen, ao, co) => seen.Nodup ∧ (∀ j ∈ seen, j < kv.length)) (fun (zz : (List Nat) × (Option Addr) × Nat) => match zz with | (seen, ao, co) => kv.length - seen.length) (([] : List Nat), none, 0) ⟨(by simp), (by simp)⟩ ?_ ?_
  · exact A.hK [1, 1, 0]
  rintro ⟨seen, ao, co⟩ ⟨hn, hb⟩
  have hsl := nodup_le hn hb; have hsk := selK_len kv (fun v_ => v_.hp == ci) seen
  refine A.sr (A.cons (A.nextM (enck := (fun k : Int => i_ k)) (encv := (fun v_ : Cl => (.agg (encCl v_).toArray))) (kv := kv) 0 15 (by kernel_rfl) rfl rfl rfl (fun ww ss => old_heap ss hhp2 (by simp [feet])) hEn2 hbo2 hnd2 (by assumption) (fun j5 => [iterI b3 mb es2 cl2 (seen ++ [j5]), sI ao (selK kv (fun v_ => v_.hp == ci) seen) co, blk b1 [i_ ci] 3]) (fun _ => rfl) (fun hall5 => ?_) (fun j5 mk5 mv5 hj5 hn5 => ?_)))
  · refine A.goA [.p] [(1, (.func (.func 68) #[] #[p_ b1])), (14, p_ b3), (5, vS ao (selK kv (fun v_ => v_.hp == ci) seen) co), (16, b_ false)] [] T0 (by kernel_rfl) trivial ?_
    refine A.tn (A.seq (A.cf (A.exit (A.te (A.te (A.bh (tsr (A.gp [.p] [1, 14, 16] [(27, vS ao (selK kv (fun v_ => v_.hp == ci) seen) co)] ?_))))))))
    refine A.cons (A.cT (some 28) [vS ao (selK kv (fun v_ => v_.hp == ci) seen) co] [1] ((fun _ => (.tuple #[]))) ((fun _ => True)) ((fun _ => [sI ao (sortI (selK kv (fun v_ => v_.hp == ci) seen)) co])) (fun ww ss hh => sort_spec ao (selK kv (fun v_ => v_.hp == ci) seen) co (by omega) ww hh) ?_)
    rintro ⟨⟩ -
    refine A.done ?_
    refine tsr (A.g [.p, .p] [5, 27, 28] [(4, vS ao (selK kv (fun v_ => v_.hp == ci) seen) co)] ?_)
    refine A.tn (A.ret (A.post [vS ao (selK kv (fun v_ => v_.hp == ci) seen) co] (fun aa ww rr ss => ⟨rv_tmp rr rfl, trivial⟩) (A.back (by kernel_rfl) ?_)))
    refine A.goA [.p] [(4, vS ao (selK kv (fun v_ => v_.hp == ci) seen) co)] [] T0 (by kernel_rfl) trivial ?_
    refine A.tn (A.ret (A.setH [sI ao (keysF kv (fun v_ => v_.hp == ci)) co, iterI b3 mb es2 cl2 seen, blk b1 [i_ ci] 3] (cc (slC (by exact sel_all hn hb (by assumption) : (sortI (selK kv (fun v_ => v_.hp == ci) seen)) = (keysF kv (fun v_ => v_.hp == ci)))) rfl) ?_))
    refine A.pK [0] [vS ao (selK kv (fun v_ => v_.hp == ci) seen) co] (ao, co) ?_ ?_
    · show ((vS ao (selK kv (fun v_ => v_.hp == ci) seen) co) : Value) = (vS ao (keysF kv (fun v_ => v_.hp == ci)) co)
      rw [← sel_all (f := fun v_ => v_.hp == ci) hn hb (by assumption)]; unfold vS; rw [sortI_len]
    trivial
  refine A.goA [.p] [(1, (.func (.func 68) #[] #[p_ b1])), (14, p_ b3), (5, vS ao (selK kv (fun v_ => v_.hp == ci) seen) co), (16, b_ true)] [] T0 (by kernel_rfl) trivial ?_
  refine A.tn (A.seq (A.ct (A.skip (A.tn (A.block (A.sr (A.cons (A.q (some 17) (.tuple #[i_ mk5, (.agg (encCl mv5).toArray)]) (by kernel_rfl) (qt_entry (enck := (fun k : Int => i_ k)) (encv := (fun v_ : Cl => (.agg (encCl v_).toArray))) (kv := kv) (k := mk5) (v := mv5) 0 j5 rfl rfl rfl (fun ww ss => old_heap ss hhp2 (by simp [feet])) hEn2 hnd2 hj5) ?_))))))))
  refine A.goA1 [.p, .p, .al, .p, .st 3] [1, 14, 5, 7, 6] (fun b6 => [(1, (.func (.func 68) #[] #[p_ b1])), (14, p_ b3), (5, vS ao (selK kv (fun v_ => v_.hp == ci) seen) co), (7, p_ b6), (6, i_ mk5)]) (fun b6 => [iterI b3 mb es2 cl2 (seen ++ [j5]), sI ao (selK kv (fun v_ => v_.hp == ci) seen) co, blk b1 [i_ ci] 3, blk b6 (encCl mv5) 48]) (fun b6 => [b6]) (fun _ => T0) (fun _ => by kernel_rfl) (fun b6 => trivial) ?_
  intro b6
  refine tsr (A.gpk [.p, .ld 3] [7] [(20, (.func (.func 68) #[] #[p_ b1])), (21, (.agg (encCl mv5).toArray))] [b6] T0 trivial ?_)
  refine A.cons (A.inlX (some 22) [(.agg (encCl mv5).toArray), p_ b1] [(0, (.agg (encCl mv5).toArray)), (1, p_ b1)] (by kernel_rfl) rfl Tryz.func68 rfl rfl ?_)
  refine A.sr (A.n1 [.al, .p] [0] (fun b7 => [(2, p_ b7)]) (fun b7 => blk b7 (encCl mv5) 48) ?_)
  intro b7
  refine tsr (A.gk [.p, .ld 4, .ld 2, .p, .p] [1, 2] [(3, b_ (mv5.hp == ci))] [b7, b1] T0 trivial ?_)
  refine A.tn (A.ret (A.post [b_ (mv5.hp == ci)] (fun aa ww rr ss => ⟨rv_tmp rr rfl, trivial⟩) (A.back (by kernel_rfl) ?_)))
  refine A.items [iterI b3 mb es2 cl2 (seen ++ [j5]), sI ao (selK kv (fun v_ => v_.hp == ci) seen) co, blk b1 [i_ ci] 3] (.cons_cons _ (.cons_cons _ (.cons_cons _ (.cons _ (.cons _ (List.Sublist.slnil)))))) ?_
  refine A.done ?_
  refine A.tn (A.cn (mv5.hp == ci) (fun e2 => ?_) (fun e2 => ?_))
  · have p2 := e2; try simp only [nrm] at p2
    refine A.region (A.goP [.p, .p] [(1, (.func (.func 68) #[] #[p_ b1])), (14, p_ b3), (5, vS ao (selK kv (fun v_ => v_.hp == ci) seen) co), (23, vS ao (selK kv (fun v_ => v_.hp == ci) seen) co), (24, i_ mk5)] [] T0 (by kernel_rfl) trivial ?_)
    refine A.cons (A.buildSlice 25 (e := 3) [i_ mk5] (by kernel_rfl) rfl (fun _ => by kernel_rfl) (fun b8 => [iterI b3 mb es2 cl2 (seen ++ [j5]), sI ao (selK kv (fun v_ => v_.hp == ci) seen) co, blk b1 [i_ ci] 3, blk b8 [i_ mk5] 3]) (fun _ => rfl) ?_)
    intro b8
    refine A.cons (A.appendC (enc := encI) (xs := (selK kv (fun v_ => v_.hp == ci) seen)) ([mk5]) 1 26 (e := 3) (z := (i_ 0)) (sz := 1) (by_ := 8) (by kernel_rfl) rfl rfl rfl (by kernel_rfl) (by kernel_rfl) (by rfl) (by decide) encI_len encI_one rfl (rd_blk (i := 3) rfl) (by simp; omega) (fun A9 c9 => [iterI b3 mb es2 cl2 (seen ++ [j5]), sI A9 ((selK kv (fun v_ => v_.hp == ci) seen) ++ ([mk5])) c9, blk b1 [i_ ci] 3, blk b8 [i_ mk5] 3]) (fun _ _ => rfl) ?_)
    intro A9 c9
    refine A.goA [.p] [(1, (.func (.func 68) #[] #[p_ b1])), (14, p_ b3), (5, vS A9 ((selK kv (fun v_ => v_.hp == ci) seen) ++ ([mk5])) c9)] [] T0 (by kernel_rfl) trivial ?_
    refine A.bn (A.tn (A.setH [iterI b3 mb es2 cl2 (seen ++ [j5]), sI A9 (selK kv (fun v_ => v_.hp == ci) (seen ++ [j5])) c9, blk b1 [i_ ci] 3, blk b8 [i_ mk5] 3] (cc rfl (cc (slC (by exact selK_t (by assumption) (by assumption) : (selK kv (fun v_ => v_.hp == ci) seen) ++ ([mk5]) = (selK kv (fun v_ => v_.hp == ci) (seen ++ [j5])))) rfl)) ?_))
    refine A.sv 5 (vS A9 (selK kv (fun v_ => v_.hp == ci) (seen ++ [j5])) c9) (cgL (by exact selK_t (by assumption) (by assumption))) ?_
    refine A.next ((seen ++ [j5]), A9, c9) ⟨(by exact (walk_lt hn hb (by assumption) (by assumption)).1), (by exact (walk_lt hn hb (by assumption) (by assumption)).2.1)⟩ (by ((have h_ := (walk_lt hn hb (by assumption) (by assumption)).2.2); simp; omega)) ?_
    exact A.hK [0, 0, 0]
  have p2 := e2; try simp only [nrm] at p2
  refine A.skip (A.bn (A.tn (A.setH [iterI b3 mb es2 cl2 (seen ++ [j5]), sI ao (selK kv (fun v_ => v_.hp == ci) (seen ++ [j5])) co, blk b1 [i_ ci] 3] (cc rfl (cc (slC (by exact selK_f (by assumption) (by assumption) : (selK kv (fun v_ => v_.hp == ci) seen) = (selK kv (fun v_ => v_.hp == ci) (seen ++ [j5])))) rfl)) ?_)))
  refine A.sub [(1, (.func (.func 68) #[] #[p_ b1])), (14, p_ b3), (5, vS ao (selK kv (fun v_ => v_.hp == ci) (seen ++ [j5])) co), (6, i_ mk5), (20, (.func (.func 68) #[] #[p_ b1])), (21, (.agg (encCl mv5).toArray)), (22, b_ (mv5.hp == ci))] (by exact ⟨rfl, rfl, cgL (by exact selK_f (by assumption) (by assumption)), rfl, rfl, rfl, rfl, trivial⟩) ?_
  refine A.next ((seen ++ [j5]), ao, co) ⟨(by exact (walk_lt hn hb (by assumption) (by assumption)).1), (by exact (walk_lt hn hb (by assumption) (by assumption)).2.1)⟩ (by ((have h_ := (walk_lt hn hb (by assumption) (by assumption)).2.2); simp; omega)) ?_
  exact A.hK [0, 0, 0]
end Go.Proofs.YtinnnoimmioaiaaGreat
