/- What the functions of this layer do, proved operation by operation, for all arguments, under the conditions that each theorem states. -/
import Derived.Test.YtinnnoimmioaiaaProg
import Derived.Test.YtinnnoimmioaiaaHierS
namespace Go.Proofs.Ytinnnoimmioaiaa
open Go V
set_option linter.unusedVariables false
set_option linter.unusedSimpArgs false

set_option maxHeartbeats 4000000 in
set_option maxRecDepth 100000 in
theorem children_nil (ci : Int) (w : World) :
    Calls Try.prog 74 #[n_, i_ ci] w fun e w' => e = .returned e_ ∧ Fr [] w w' := by
  refine calls_of (args := [n_, i_ ci]) (penv [n_, i_ ci]) [] [] Try.func74 rfl rfl (look_penv _) (HS.nil w) ?_
  refine A.norm [(0, n_), (1, i_ ci)] [] (by exact ⟨rfl, rfl, trivial⟩) rfl ?_
  refine A.seq (A.region (A.goA1 [.al, .p] [0, 3] (fun b1 => [(0, n_), (3, p_ b1)]) (fun b1 => [blk b1 [i_ ci] 3]) (fun b1 => []) (fun _ => T0) (fun _ => by kernel_rfl) (fun b1 => trivial) ?_))
  intro b1
  refine A.tn (A.seq (A.region (A.goP [.p, .p] [(5, n_), (6, (.func (.func 118) #[] #[p_ b1]))] [] T0 (by kernel_rfl) trivial ?_)))
  refine A.cons (A.inlX (some 7) [n_, (.func (.func 118) #[] #[p_ b1])] [(0, n_), (1, (.func (.func 118) #[] #[p_ b1]))] (by kernel_rfl) rfl Try.func72 rfl rfl ?_)
  refine A.seq (A.region (A.goA [.p] [(0, n_), (1, (.func (.func 118) #[] #[p_ b1]))] [] T0 (by kernel_rfl) trivial ?_))
  refine A.tn (A.seq (A.seq (A.region (A.goA [.p, .p] [(0, n_), (1, (.func (.func 118) #[] #[p_ b1])), (9, b_ true)] [] T0 (by kernel_rfl) trivial ?_))))
  refine A.tn (A.cond_t rfl (A.seq (A.region (A.goA [.p] [(4, e_)] [] T0 (by kernel_rfl) trivial ?_))))
  refine A.tn (A.ret (A.tr (A.post [e_] (fun aa ww rr ss => ⟨rv_tmp rr rfl, trivial⟩) (A.back (by kernel_rfl) ?_))))
  refine A.goA [.p] [(4, e_)] [] T0 (by kernel_rfl) trivial ?_
  refine A.tn (A.ret (A.postQ [e_] (fun aa ww rr ss => ⟨rv_tmp rr rfl, trivial⟩) ?_))
  rfl

set_option maxHeartbeats 4000000 in
set_option maxRecDepth 100000 in
theorem children_ok (bt mb : Nat) (kv : List (Int × Cl)) (ci : Int) (hl : kv.length ≤ 1000) (w : World) (r0 : (blk bt [(.map (some mb))] 124).holds w) (r1 : (mHI mb kv).holds w) (hs : HS w (feet []) [] w) :
    Calls Try.prog 74 #[p_ bt, i_ ci] w fun e w' => ∃ zz, e = .returned ((fun (zz : (Option Addr) × Nat) => match zz with | (al', cl') => (vS al' (keysF kv (fun v_ => v_.hp == ci)) cl')) zz) ∧ (fun (zz : (Option Addr) × Nat) => match zz with | (al', cl') => True) zz ∧ Turn [] ((fun (zz : (Option Addr) × Nat) => match zz with | (al', cl') => [sI al' (keysF kv (fun v_ => v_.hp == ci)) cl']) zz) w w' := by
  refine calls_of (args := [p_ bt, i_ ci]) (penv [p_ bt, i_ ci]) (feet []) [] Try.func74 rfl rfl (look_penv _) hs ?_
  refine A.norm [(0, p_ bt), (1, i_ ci)] [] (by exact ⟨rfl, rfl, trivial⟩) rfl ?_
  refine A.seq (A.region (A.goA1 [.al, .p] [0, 3] (fun b1 => [(0, p_ bt), (3, p_ b1)]) (fun b1 => [blk b1 [i_ ci] 3]) (fun b1 => []) (fun _ => T0) (fun _ => by kernel_rfl) (fun b1 => trivial) ?_))
  intro b1
  refine A.tn (A.seq (A.region (A.goP [.p, .p] [(5, p_ bt), (6, (.func (.func 118) #[] #[p_ b1]))] [] T0 (by kernel_rfl) trivial ?_)))
  refine A.cons (A.inlX (some 7) [p_ bt, (.func (.func 118) #[] #[p_ b1])] [(0, p_ bt), (1, (.func (.func 118) #[] #[p_ b1]))] (by kernel_rfl) rfl Try.func72 rfl rfl ?_)
  refine A.seq (A.region (A.goA [.p] [(0, p_ bt), (1, (.func (.func 118) #[] #[p_ b1]))] [] T0 (by kernel_rfl) trivial ?_))
  refine A.tn (A.seq (A.seq (A.region (A.goA [.p, .p] [(0, p_ bt), (1, (.func (.func 118) #[] #[p_ b1])), (9, b_ false)] [] T0 (by kernel_rfl) trivial ?_))))
  refine A.tn (A.cond_f rfl (A.skip (A.tn (A.seq (A.region (A.goA [.p] [(0, p_ bt), (1, (.func (.func 118) #[] #[p_ b1])), (5, e_)] [] T0 (by kernel_rfl) trivial ?_))))))
  refine A.tn (A.seq (A.seq (A.region (A.goP [.p, .p, .p, .rd [(.map (some mb))]] [(1, (.func (.func 118) #[] #[p_ b1])), (5, e_), (13, (.map (some mb)))] [] (fun κ => κ.rd ⟨bt, 0, none⟩ [(.map (some mb))] ∧ True) (by kernel_rfl) ⟨(reads_oldblk r0 rfl), trivial⟩ ?_))))
  obtain ⟨⟨es2, cl2, hhp2, hEn2, hbo2, hnd2⟩, hkn2⟩ := id r1
  refine A.cons (A.rangeM (kt := 3) (et := 98) (es := es2) (clock := cl2) 14 (by kernel_rfl) rfl rfl (by kernel_rfl) (fun ww ss => old_heap ss hhp2 (by simp [feet])) (fun b3 => [blk b1 [i_ ci] 3, iterI b3 mb es2 cl2 ([] : List Nat)]) (fun _ => rfl) ?_)
  intro b3
  refine A.done ?_
  refine A.tn (A.block (A.ownNil 3 1 [blk b1 [i_ ci] 3, iterI b3 mb es2 cl2 ([] : List Nat), sI none ([] : List Int) 0] rfl ?_))
  refine A.setH [blk b1 [i_ ci] 3, iterI b3 mb es2 cl2 ([] : List Nat), sI none (selK kv (fun v_ => v_.hp == ci) ([] : List Nat)) 0] (cc rfl (cc rfl (cc (slC (by first | rfl | exact selK_t (by assumption) (by first | assumption | rfl) | exact selK_f (by assumption) (by assumption) | exact sel_all hn hb (by assumption) : ([] : List Int) = (selK kv (fun v_ => v_.hp == ci) ([] : List Nat)))) rfl))) ?_
  refine A.sub [(1, (.func (.func 118) #[] #[p_ b1])), (5, vS none (selK kv (fun v_ => v_.hp == ci) ([] : List Nat)) 0), (13, (.map (some mb))), (14, p_ b3)] (by exact ⟨rfl, congrArg (fun z_ : List Int => some (Value.slice none z_.length 0)) (by first | rfl | exact selK_t (by assumption) (by first | assumption | rfl) | exact selK_f (by assumption) (by assumption) | exact sel_all hn hb (by assumption) : ([] : List Int) = (selK kv (fun v_ => v_.hp == ci) ([] : List Nat))), rfl, rfl, trivial⟩) ?_
  refine A.loop (fun (zz : (List Nat) × (Option Addr) × Nat) => match zz with | (seen, ao, co) => [(1, (.func (.func 118) #[] #[p_ b1])), (14, p_ b3), (5, vS ao (selK kv (fun v_ => v_.hp == ci) seen) co)]) (fun (zz : (List Nat) × (Option Addr) × Nat) => match zz with | (seen, ao, co) => [iterI b3 mb es2 cl2 seen, sI ao (selK kv (fun v_ => v_.hp == ci) seen) co, blk b1 [i_ ci] 3]) (fun (zz : (List Nat) × (Option Addr) × Nat) => match zz with | (seen, ao, co) => seen.Nodup ∧ (∀ j ∈ seen, j < kv.length)) (fun (zz : (List Nat) × (Option Addr) × Nat) => match zz with | (seen, ao, co) => kv.length - seen.length) (([] : List Nat), none, 0) ⟨(by simp), (by simp)⟩ ?_ ?_
  · exact A.hereK [1, 1, 0] (by exact ⟨rfl, rfl, rfl, trivial⟩) (by kernel_rfl)
  · rintro ⟨seen, ao, co⟩ ⟨hn, hb⟩
    have hsl := nodup_le hn hb; have hsk := selK_len kv (fun v_ => v_.hp == ci) seen
    refine A.norm [(1, (.func (.func 118) #[] #[p_ b1])), (14, p_ b3), (5, vS ao (selK kv (fun v_ => v_.hp == ci) seen) co)] [iterI b3 mb es2 cl2 seen, sI ao (selK kv (fun v_ => v_.hp == ci) seen) co, blk b1 [i_ ci] 3] (by exact ⟨rfl, rfl, rfl, trivial⟩) rfl ?_
    refine A.seq (A.region (A.cons (A.nextM (enck := (fun k : Int => i_ k)) (encv := (fun v_ : Cl => (.agg (encCl v_).toArray))) (kv := kv) 0 15 (by kernel_rfl) rfl rfl rfl (fun ww ss => old_heap ss hhp2 (by simp [feet])) hEn2 hbo2 hnd2 (by assumption) (fun j5 => [iterI b3 mb es2 cl2 (seen ++ [j5]), sI ao (selK kv (fun v_ => v_.hp == ci) seen) co, blk b1 [i_ ci] 3]) (fun _ => rfl) (fun hall5 => ?_) (fun j5 mk5 mv5 hj5 hn5 => ?_))))
    · skip
      refine A.goA [.p] [(1, (.func (.func 118) #[] #[p_ b1])), (14, p_ b3), (5, vS ao (selK kv (fun v_ => v_.hp == ci) seen) co), (16, b_ false)] [] T0 (by kernel_rfl) trivial ?_
      refine A.tn (A.seq (A.cond_f rfl (A.exit (A.te (A.te (A.bh (A.tn (A.seq (A.region (A.goP [.p] [(5, vS ao (selK kv (fun v_ => v_.hp == ci) seen) co), (27, vS ao (selK kv (fun v_ => v_.hp == ci) seen) co)] [] T0 (by kernel_rfl) trivial ?_))))))))))
      refine A.cons (A.callT (some 28) [vS ao (selK kv (fun v_ => v_.hp == ci) seen) co] [1] ((fun _ => (.tuple #[]))) ((fun _ => True)) ((fun _ => [sI ao (sortI (selK kv (fun v_ => v_.hp == ci) seen)) co])) (fun _ => [sI ao (sortI (selK kv (fun v_ => v_.hp == ci) seen)) co, iterI b3 mb es2 cl2 seen, blk b1 [i_ ci] 3]) (by kernel_rfl) rfl rfl (fun ww ss hh => sort_spec ao (selK kv (fun v_ => v_.hp == ci) seen) co (by first | assumption | omega) ww hh) (fun _ => rfl) ?_)
      rintro ⟨⟩ -
      refine A.done ?_
      refine A.tn (A.seq (A.region (A.goA [.p, .p] [(4, vS ao (selK kv (fun v_ => v_.hp == ci) seen) co)] [] T0 (by kernel_rfl) trivial ?_)))
      refine A.tn (A.ret (A.post [vS ao (selK kv (fun v_ => v_.hp == ci) seen) co] (fun aa ww rr ss => ⟨rv_tmp rr rfl, trivial⟩) (A.back (by kernel_rfl) ?_)))
      refine A.goA [.p] [(4, vS ao (selK kv (fun v_ => v_.hp == ci) seen) co)] [] T0 (by kernel_rfl) trivial ?_
      refine A.tn (A.ret (A.setH [sI ao (keysF kv (fun v_ => v_.hp == ci)) co, iterI b3 mb es2 cl2 seen, blk b1 [i_ ci] 3] (cc (slC (by first | rfl | exact selK_t (by assumption) (by first | assumption | rfl) | exact selK_f (by assumption) (by assumption) | exact sel_all hn hb (by assumption) : (sortI (selK kv (fun v_ => v_.hp == ci) seen)) = (keysF kv (fun v_ => v_.hp == ci)))) rfl) ?_))
      refine A.postK [0] [vS ao (selK kv (fun v_ => v_.hp == ci) seen) co] (fun aa ww rr ss => ⟨rv_tmp rr rfl, trivial⟩) (ao, co) ?_ ?_ (by kernel_rfl)
      · show ((vS ao (selK kv (fun v_ => v_.hp == ci) seen) co) : Value) = (vS ao (keysF kv (fun v_ => v_.hp == ci)) co)
        rw [← sel_all (f := fun v_ => v_.hp == ci) hn hb (by assumption)]; unfold vS; rw [sortI_len]
      · trivial
    · skip
      refine A.goA [.p] [(1, (.func (.func 118) #[] #[p_ b1])), (14, p_ b3), (5, vS ao (selK kv (fun v_ => v_.hp == ci) seen) co), (16, b_ true)] [] T0 (by kernel_rfl) trivial ?_
      refine A.tn (A.seq (A.cond_t rfl (A.skip (A.tn (A.block (A.seq (A.region (A.cons (A.q (some 17) (.tuple #[i_ mk5, (.agg (encCl mv5).toArray)]) (by kernel_rfl) (qt_entry (enck := (fun k : Int => i_ k)) (encv := (fun v_ : Cl => (.agg (encCl v_).toArray))) (kv := kv) (k := mk5) (v := mv5) 0 j5 rfl rfl rfl (fun ww ss => old_heap ss hhp2 (by simp [feet])) hEn2 hnd2 hj5) ?_)))))))))
      refine A.goA1 [.p, .p, .al, .p, .st 3] [1, 14, 5, 7, 6] (fun b6 => [(1, (.func (.func 118) #[] #[p_ b1])), (14, p_ b3), (5, vS ao (selK kv (fun v_ => v_.hp == ci) seen) co), (7, p_ b6), (6, i_ mk5)]) (fun b6 => [iterI b3 mb es2 cl2 (seen ++ [j5]), sI ao (selK kv (fun v_ => v_.hp == ci) seen) co, blk b1 [i_ ci] 3, blk b6 (encCl mv5) 98]) (fun b6 => [b6]) (fun _ => T0) (fun _ => by kernel_rfl) (fun b6 => trivial) ?_
      intro b6
      refine A.tn (A.seq (A.region (A.goP [.p, .ld 3] [(1, (.func (.func 118) #[] #[p_ b1])), (14, p_ b3), (5, vS ao (selK kv (fun v_ => v_.hp == ci) seen) co), (6, i_ mk5), (20, (.func (.func 118) #[] #[p_ b1])), (21, (.agg (encCl mv5).toArray))] [b6] T0 (by kernel_rfl) trivial ?_)))
      refine A.cons (A.inlX (some 22) [(.agg (encCl mv5).toArray), p_ b1] [(0, (.agg (encCl mv5).toArray)), (1, p_ b1)] (by kernel_rfl) rfl Try.func118 rfl rfl ?_)
      refine A.seq (A.region (A.goA1 [.al, .p] [1, 2] (fun b7 => [(1, p_ b1), (2, p_ b7)]) (fun b7 => [iterI b3 mb es2 cl2 (seen ++ [j5]), sI ao (selK kv (fun v_ => v_.hp == ci) seen) co, blk b1 [i_ ci] 3, blk b6 (encCl mv5) 98, blk b7 (encCl mv5) 98]) (fun b7 => []) (fun _ => T0) (fun _ => by kernel_rfl) (fun b7 => trivial) ?_))
      intro b7
      refine A.tn (A.seq (A.region (A.goA [.p, .ld 4, .ld 2, .p, .p] [(3, b_ (mv5.hp == ci))] [b7, b1] T0 (by kernel_rfl) trivial ?_)))
      refine A.tn (A.ret (A.post [b_ (mv5.hp == ci)] (fun aa ww rr ss => ⟨rv_tmp rr rfl, trivial⟩) (A.back (by kernel_rfl) ?_)))
      refine A.items [iterI b3 mb es2 cl2 (seen ++ [j5]), sI ao (selK kv (fun v_ => v_.hp == ci) seen) co, blk b1 [i_ ci] 3] (.cons_cons _ (.cons_cons _ (.cons_cons _ (.cons _ (.cons _ (List.Sublist.slnil)))))) ?_
      refine A.done ?_
      refine A.tn (A.cond (E := mv5.hp == ci) rfl (fun e2 => ?_) (fun e2 => ?_))
      · skip
        have p2 := e2; try simp only [nrm] at p2
        refine A.region (A.goP [.p, .p] [(1, (.func (.func 118) #[] #[p_ b1])), (14, p_ b3), (5, vS ao (selK kv (fun v_ => v_.hp == ci) seen) co), (23, vS ao (selK kv (fun v_ => v_.hp == ci) seen) co), (24, i_ mk5)] [] T0 (by kernel_rfl) trivial ?_)
        refine A.cons (A.buildSlice 25 (e := 3) [i_ mk5] (by kernel_rfl) rfl (fun _ => by kernel_rfl) (fun b8 => [iterI b3 mb es2 cl2 (seen ++ [j5]), sI ao (selK kv (fun v_ => v_.hp == ci) seen) co, blk b1 [i_ ci] 3, blk b8 [i_ mk5] 3]) (fun _ => rfl) ?_)
        intro b8
        refine A.cons (A.appendC (enc := encI) (xs := (selK kv (fun v_ => v_.hp == ci) seen)) ([mk5]) 1 26 (e := 3) (z := (i_ 0)) (sz := 1) (by_ := 8) (by kernel_rfl) rfl rfl rfl (by kernel_rfl) (by kernel_rfl) (by rfl) (by decide) encI_len encI_one rfl (rd_blk (i := 3) rfl) (by simp; omega) (fun A9 c9 => [iterI b3 mb es2 cl2 (seen ++ [j5]), sI A9 ((selK kv (fun v_ => v_.hp == ci) seen) ++ ([mk5])) c9, blk b1 [i_ ci] 3, blk b8 [i_ mk5] 3]) (fun _ _ => rfl) ?_)
        intro A9 c9
        refine A.goA [.p] [(1, (.func (.func 118) #[] #[p_ b1])), (14, p_ b3), (5, vS A9 ((selK kv (fun v_ => v_.hp == ci) seen) ++ ([mk5])) c9)] [] T0 (by kernel_rfl) trivial ?_
        refine A.bn (A.tn (A.setH [iterI b3 mb es2 cl2 (seen ++ [j5]), sI A9 (selK kv (fun v_ => v_.hp == ci) (seen ++ [j5])) c9, blk b1 [i_ ci] 3, blk b8 [i_ mk5] 3] (cc rfl (cc (slC (by first | rfl | exact selK_t (by assumption) (by first | assumption | rfl) | exact selK_f (by assumption) (by assumption) | exact sel_all hn hb (by assumption) : (selK kv (fun v_ => v_.hp == ci) seen) ++ ([mk5]) = (selK kv (fun v_ => v_.hp == ci) (seen ++ [j5])))) rfl)) ?_))
        refine A.sub [(1, (.func (.func 118) #[] #[p_ b1])), (14, p_ b3), (5, vS A9 (selK kv (fun v_ => v_.hp == ci) (seen ++ [j5])) c9)] (by exact ⟨rfl, rfl, congrArg (fun z_ : List Int => some (Value.slice A9 z_.length c9)) (by first | rfl | exact selK_t (by assumption) (by first | assumption | rfl) | exact selK_f (by assumption) (by assumption) | exact sel_all hn hb (by assumption) : (selK kv (fun v_ => v_.hp == ci) seen) ++ ([mk5]) = (selK kv (fun v_ => v_.hp == ci) (seen ++ [j5]))), trivial⟩) ?_
        refine A.next ((seen ++ [j5]), A9, c9) ⟨(by exact (walk_lt hn hb (by assumption) (by assumption)).1), (by exact (walk_lt hn hb (by assumption) (by assumption)).2.1)⟩ (by ((have h_ := (walk_lt hn hb (by assumption) (by assumption)).2.2); simp; omega)) ?_
        exact A.hereK [0, 0, 0] (by exact ⟨rfl, rfl, rfl, trivial⟩) (by kernel_rfl)
      · skip
        have p2 := e2; try simp only [nrm] at p2
        refine A.skip (A.bn (A.tn (A.setH [iterI b3 mb es2 cl2 (seen ++ [j5]), sI ao (selK kv (fun v_ => v_.hp == ci) (seen ++ [j5])) co, blk b1 [i_ ci] 3] (cc rfl (cc (slC (by first | rfl | exact selK_t (by assumption) (by first | assumption | rfl) | exact selK_f (by assumption) (by assumption) | exact sel_all hn hb (by assumption) : (selK kv (fun v_ => v_.hp == ci) seen) = (selK kv (fun v_ => v_.hp == ci) (seen ++ [j5])))) rfl)) ?_)))
        refine A.sub [(1, (.func (.func 118) #[] #[p_ b1])), (14, p_ b3), (5, vS ao (selK kv (fun v_ => v_.hp == ci) (seen ++ [j5])) co), (6, i_ mk5), (20, (.func (.func 118) #[] #[p_ b1])), (21, (.agg (encCl mv5).toArray)), (22, b_ (mv5.hp == ci))] (by exact ⟨rfl, rfl, congrArg (fun z_ : List Int => some (Value.slice ao z_.length co)) (by first | rfl | exact selK_t (by assumption) (by first | assumption | rfl) | exact selK_f (by assumption) (by assumption) | exact sel_all hn hb (by assumption) : (selK kv (fun v_ => v_.hp == ci) seen) = (selK kv (fun v_ => v_.hp == ci) (seen ++ [j5]))), rfl, rfl, rfl, rfl, trivial⟩) ?_
        refine A.next ((seen ++ [j5]), ao, co) ⟨(by exact (walk_lt hn hb (by assumption) (by assumption)).1), (by exact (walk_lt hn hb (by assumption) (by assumption)).2.1)⟩ (by ((have h_ := (walk_lt hn hb (by assumption) (by assumption)).2.2); simp; omega)) ?_
        exact A.hereK [0, 0, 0] (by exact ⟨rfl, rfl, rfl, trivial⟩) (by kernel_rfl)
end Go.Proofs.Ytinnnoimmioaiaa
