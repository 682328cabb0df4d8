/- What the functions of this layer do, proved operation by operation, for all arguments, under the conditions that each theorem states. -/
import Derived.Test.YtinnnoimmioaiaaProg
import Derived.Test.YtinnnoimmioaiaaHier2
import Derived.Test.YtinnnoimmioaiaaL2
namespace Go.Proofs.Ytinnnoimmioaiaa
open Go V
set_option linter.unusedVariables false
set_option linter.unusedSimpArgs false
set_option maxHeartbeats 4000000
set_option maxRecDepth 100000
def rtOf (y : Cl) : Cv := ⟨y.ra, y.rb, y.rc⟩
def realsK (kv : List (Int × Cl)) (k : Nat) : List Cv := ((keysF kv (fun v_ => decide ((ofC v_.ra v_.rb v_.rc) > 1))).take k).map fun i => rtOf ((mget kv i).getD cl0)
def realsL (kv : List (Int × Cl)) : List Cv := (keysF kv (fun v_ => decide ((ofC v_.ra v_.rb v_.rc) > 1))).map fun i => rtOf ((mget kv i).getD cl0)
theorem realsK_snoc {kv : List (Int × Cl)} {k : Nat} {i : Int} (h : (keysF kv (fun v_ => decide ((ofC v_.ra v_.rb v_.rc) > 1)))[k]? = some i) : realsK kv k ++ [(⟨((mget kv i).getD cl0).ra, ((mget kv i).getD cl0).rb, ((mget kv i).getD cl0).rc⟩ : Cv)] = realsK kv (k + 1) := by
  unfold realsK; rw [List.take_add_one, h]; simp [rtOf]
theorem realsK_all {kv : List (Int × Cl)} {k : Nat} (h : (keysF kv (fun v_ => decide ((ofC v_.ra v_.rb v_.rc) > 1))).length ≤ k) : realsK kv k = realsL kv := by unfold realsK realsL; rw [List.take_of_length_le h]
theorem realsK_len (kv : List (Int × Cl)) (k : Nat) : (realsK kv k).length ≤ k := by unfold realsK; simp; omega
theorem keysF_len (kv : List (Int × Cl)) (f : Cl → Bool) : (keysF kv f).length ≤ kv.length := by
  unfold keysF; rw [sortI_len, List.length_map]; exact List.length_filter_le _ _

theorem ids_nil (w : World) :
    Calls Try.prog 56 #[n_] w fun e w' => e = .returned e_ ∧ Fr [] w w' := by
  refine calls_of (args := [n_]) (penv [n_]) [] [] Try.func56 rfl rfl (look_penv _) (HS.nil w) ?_
  refine A.sr (A.g [.p] [] [] ?_)
  refine tsr (A.gp [.p] [0] [(3, n_)] ?_)
  refine A.cons (A.inlX (some 4) [n_, (.func (.func 105) #[] #[])] [(0, n_), (1, (.func (.func 105) #[] #[]))] (by kernel_rfl) rfl Try.func72 rfl rfl ?_)
  refine A.sr (A.g [.p] [] [] ?_)
  refine A.tn (A.seq (A.sr (A.g [.p, .p] [] [(9, b_ true)] ?_)))
  refine A.tn (A.ct (A.sr (A.g [.p] [0, 1, 9] [(4, e_)] ?_)))
  refine A.tn (A.ret (A.tr (A.post [e_] (fun aa ww rr ss => ⟨rv_tmp rr rfl, trivial⟩) (A.back (by kernel_rfl) ?_))))
  refine A.goA [.p] [(2, e_)] [] T0 (by kernel_rfl) trivial ?_
  refine A.tn (A.ret (A.pQ [e_] ?_))
  rfl

theorem ids_ok (bt mb : Nat) (kv : List (Int × Cl))  (hl : kv.length ≤ 1000) (w : World) (r0 : (blk bt [(.map (some mb))] 124).holds w) (r1 : (mHI mb kv).holds w) (hs : HS w (feet []) [] w) :
    Calls Try.prog 56 #[p_ bt] w fun e w' => ∃ zz, e = .returned ((fun (zz : (Option Addr) × Nat) => match zz with | (al', cl') => (vS al' (keysF kv (fun v_ => true)) cl')) zz) ∧ (fun (zz : (Option Addr) × Nat) => match zz with | (al', cl') => True) zz ∧ Turn [] ((fun (zz : (Option Addr) × Nat) => match zz with | (al', cl') => [sI al' (keysF kv (fun v_ => true)) cl']) zz) w w' := by
  refine calls_of (args := [p_ bt]) (penv [p_ bt]) (feet []) [] Try.func56 rfl rfl (look_penv _) hs ?_
  refine A.sr (A.g [.p] [] [] ?_)
  refine tsr (A.gp [.p] [0] [(3, p_ bt)] ?_)
  refine A.cons (A.inlX (some 4) [p_ bt, (.func (.func 105) #[] #[])] [(0, p_ bt), (1, (.func (.func 105) #[] #[]))] (by kernel_rfl) rfl Try.func72 rfl rfl ?_)
  refine A.sr (A.g [.p] [] [] ?_)
  refine A.tn (A.seq (A.sr (A.g [.p, .p] [] [(9, b_ false)] ?_)))
  refine A.tn (A.cf (A.skip (tsr (A.g [.p] [9] [(5, e_)] ?_))))
  refine A.tn (A.seq (A.sr (A.gpk [.p, .p, .p, .rd [(.map (some mb))]] [0] [(13, (.map (some mb)))] [] (fun κ => κ.rd ⟨bt, 0, none⟩ [(.map (some mb))] ∧ True) ⟨(reads_oldblk r0 rfl), trivial⟩ ?_)))
  obtain ⟨⟨es1, cl1, hhp1, hEn1, hbo1, hnd1⟩, hkn1⟩ := id r1
  refine A.cons (A.rangeM (kt := 3) (et := 98) (es := es1) (clock := cl1) 14 (by kernel_rfl) rfl rfl (by kernel_rfl) (fun ww ss => old_heap ss hhp1 (by simp [feet])) (fun b2 => [iterI b2 mb es1 cl1 ([] : List Nat)]) (fun _ => rfl) ?_)
  intro b2
  refine A.done ?_
  refine A.tn (A.block (A.ownNil 3 1 [iterI b2 mb es1 cl1 ([] : List Nat), sI none ([] : List Int) 0] rfl ?_))
  refine A.setH [iterI b2 mb es1 cl1 ([] : List Nat), sI none (selK kv (fun v_ => true) ([] : List Nat)) 0] (cc rfl (cc (slC (by rfl : ([] : List Int) = (selK kv (fun v_ => true) ([] : List Nat)))) rfl)) ?_
  refine A.sub [(1, (.func (.func 105) #[] #[])), (5, vS none (selK kv (fun v_ => true) ([] : List Nat)) 0), (13, (.map (some mb))), (14, p_ b2)] (by exact ⟨rfl, congrArg (fun z_ : List Int => some (Value.slice none z_.length 0)) (by rfl : ([] : List Int) = (selK kv (fun v_ => true) ([] : List Nat))), rfl, rfl, trivial⟩) ?_
  refine A.loop (fun (zz : (List Nat) × (Option Addr) × Nat) => match zz with | (seen, ao, co) => [(1, (.func (.func 105) #[] #[])), (14, p_ b2), (5, vS ao (selK kv (fun v_ => true) seen) co)]) (fun (zz : (List Nat) × (Option Addr) × Nat) => match zz with | (seen, ao, co) => [iterI b2 mb es1 cl1 seen, sI ao (selK kv (fun v_ => true) seen) co]) (fun (zz : (List Nat) × (Option Addr) × Nat) => match zz with | (seen, ao, co) => seen.Nodup ∧ (∀ j ∈ seen, j < kv.length)) (fun (zz : (List Nat) × (Option Addr) × Nat) => match zz with | (seen, ao, co) => kv.length - seen.length) (([] : List Nat), none, 0) ⟨(by simp), (by simp)⟩ ?_ ?_
  · exact A.hK [0, 0]
  rintro ⟨seen, ao, co⟩ ⟨hn, hb⟩
  have hsl := nodup_le hn hb; have hsk := selK_len kv (fun v_ => true) seen
  refine A.sr (A.cons (A.nextM (enck := (fun k : Int => i_ k)) (encv := (fun v_ : Cl => (.agg (encCl v_).toArray))) (kv := kv) 0 15 (by kernel_rfl) rfl rfl rfl (fun ww ss => old_heap ss hhp1 (by simp [feet])) hEn1 hbo1 hnd1 (by assumption) (fun j4 => [iterI b2 mb es1 cl1 (seen ++ [j4]), sI ao (selK kv (fun v_ => true) seen) co]) (fun _ => rfl) (fun hall4 => ?_) (fun j4 mk4 mv4 hj4 hn4 => ?_)))
  · refine A.goA [.p] [(1, (.func (.func 105) #[] #[])), (14, p_ b2), (5, vS ao (selK kv (fun v_ => true) seen) co), (16, b_ false)] [] T0 (by kernel_rfl) trivial ?_
    refine A.tn (A.seq (A.cf (A.exit (A.te (A.te (A.bh (tsr (A.gp [.p] [1, 14, 16] [(27, vS ao (selK kv (fun v_ => true) seen) co)] ?_))))))))
    refine A.cons (A.cT (some 28) [vS ao (selK kv (fun v_ => true) seen) co] [1] ((fun _ => (.tuple #[]))) ((fun _ => True)) ((fun _ => [sI ao (sortI (selK kv (fun v_ => true) seen)) co])) (fun ww ss hh => sort_spec ao (selK kv (fun v_ => true) seen) co (by omega) ww hh) ?_)
    rintro ⟨⟩ -
    refine A.done ?_
    refine tsr (A.g [.p, .p] [5, 27, 28] [(4, vS ao (selK kv (fun v_ => true) seen) co)] ?_)
    refine A.tn (A.ret (A.post [vS ao (selK kv (fun v_ => true) seen) co] (fun aa ww rr ss => ⟨rv_tmp rr rfl, trivial⟩) (A.back (by kernel_rfl) ?_)))
    refine A.goA [.p] [(2, vS ao (selK kv (fun v_ => true) seen) co)] [] T0 (by kernel_rfl) trivial ?_
    refine A.tn (A.ret (A.setH [sI ao (keysF kv (fun v_ => true)) co, iterI b2 mb es1 cl1 seen] (cc (slC (by exact sel_all hn hb (by assumption) : (sortI (selK kv (fun v_ => true) seen)) = (keysF kv (fun v_ => true)))) rfl) ?_))
    refine A.pK [0] [vS ao (selK kv (fun v_ => true) seen) co] (ao, co) ?_ ?_
    · show ((vS ao (selK kv (fun v_ => true) seen) co) : Value) = (vS ao (keysF kv (fun v_ => true)) co)
      rw [← sel_all (f := fun v_ => true) hn hb (by assumption)]; unfold vS; rw [sortI_len]
    trivial
  refine A.goA [.p] [(1, (.func (.func 105) #[] #[])), (14, p_ b2), (5, vS ao (selK kv (fun v_ => true) seen) co), (16, b_ true)] [] T0 (by kernel_rfl) trivial ?_
  refine A.tn (A.seq (A.ct (A.skip (A.tn (A.block (A.sr (A.cons (A.q (some 17) (.tuple #[i_ mk4, (.agg (encCl mv4).toArray)]) (by kernel_rfl) (qt_entry (enck := (fun k : Int => i_ k)) (encv := (fun v_ : Cl => (.agg (encCl v_).toArray))) (kv := kv) (k := mk4) (v := mv4) 0 j4 rfl rfl rfl (fun ww ss => old_heap ss hhp1 (by simp [feet])) hEn1 hnd1 hj4) ?_))))))))
  refine A.goA1 [.p, .p, .al, .p, .st 2] [1, 14, 5, 7, 6] (fun b5 => [(1, (.func (.func 105) #[] #[])), (14, p_ b2), (5, vS ao (selK kv (fun v_ => true) seen) co), (7, p_ b5), (6, i_ mk4)]) (fun b5 => [iterI b2 mb es1 cl1 (seen ++ [j4]), sI ao (selK kv (fun v_ => true) seen) co, blk b5 (encCl mv4) 98]) (fun b5 => [b5]) (fun _ => T0) (fun _ => by kernel_rfl) (fun b5 => trivial) ?_
  intro b5
  refine tsr (A.gpk [.p, .ld 2] [7] [(20, (.func (.func 105) #[] #[])), (21, (.agg (encCl mv4).toArray))] [b5] T0 trivial ?_)
  refine A.cons (A.inlX (some 22) [(.agg (encCl mv4).toArray)] [(0, (.agg (encCl mv4).toArray))] (by kernel_rfl) rfl Try.func105 rfl rfl ?_)
  refine A.sr (A.n1 [.al, .p] [0] (fun b6 => []) (fun b6 => blk b6 (encCl mv4) 98) ?_)
  intro b6
  refine tsr (A.g [.p] [] [(2, b_ true)] ?_)
  refine A.tn (A.ret (A.post [b_ true] (fun aa ww rr ss => ⟨rv_tmp rr rfl, trivial⟩) (A.back (by kernel_rfl) ?_)))
  refine A.items [iterI b2 mb es1 cl1 (seen ++ [j4]), sI ao (selK kv (fun v_ => true) seen) co] (.cons_cons _ (.cons_cons _ (.cons _ (.cons _ (List.Sublist.slnil))))) ?_
  refine A.done ?_
  refine A.tn (A.ct (A.region (A.goP [.p, .p] [(1, (.func (.func 105) #[] #[])), (14, p_ b2), (5, vS ao (selK kv (fun v_ => true) seen) co), (23, vS ao (selK kv (fun v_ => true) seen) co), (24, i_ mk4)] [] T0 (by kernel_rfl) trivial ?_)))
  refine A.cons (A.buildSlice 25 (e := 3) [i_ mk4] (by kernel_rfl) rfl (fun _ => by kernel_rfl) (fun b7 => [iterI b2 mb es1 cl1 (seen ++ [j4]), sI ao (selK kv (fun v_ => true) seen) co, blk b7 [i_ mk4] 3]) (fun _ => rfl) ?_)
  intro b7
  refine A.cons (A.appendC (enc := encI) (xs := (selK kv (fun v_ => true) seen)) ([mk4]) 1 26 (e := 3) (z := (i_ 0)) (sz := 1) (by_ := 8) (by kernel_rfl) rfl rfl rfl (by kernel_rfl) (by kernel_rfl) (by rfl) (by decide) encI_len encI_one rfl (rd_blk (i := 2) rfl) (by simp; omega) (fun A8 c8 => [iterI b2 mb es1 cl1 (seen ++ [j4]), sI A8 ((selK kv (fun v_ => true) seen) ++ ([mk4])) c8, blk b7 [i_ mk4] 3]) (fun _ _ => rfl) ?_)
  intro A8 c8
  refine A.goA [.p] [(1, (.func (.func 105) #[] #[])), (14, p_ b2), (5, vS A8 ((selK kv (fun v_ => true) seen) ++ ([mk4])) c8)] [] T0 (by kernel_rfl) trivial ?_
  refine A.bn (A.tn (A.setH [iterI b2 mb es1 cl1 (seen ++ [j4]), sI A8 (selK kv (fun v_ => true) (seen ++ [j4])) c8, blk b7 [i_ mk4] 3] (cc rfl (cc (slC (by exact selK_t (by assumption) (by rfl) : (selK kv (fun v_ => true) seen) ++ ([mk4]) = (selK kv (fun v_ => true) (seen ++ [j4])))) rfl)) ?_))
  refine A.sv 5 (vS A8 (selK kv (fun v_ => true) (seen ++ [j4])) c8) (cgL (by exact selK_t (by assumption) (by rfl))) ?_
  refine A.next ((seen ++ [j4]), A8, c8) ⟨(by exact (walk_lt hn hb (by assumption) (by assumption)).1), (by exact (walk_lt hn hb (by assumption) (by assumption)).2.1)⟩ (by ((have h_ := (walk_lt hn hb (by assumption) (by assumption)).2.2); simp; omega)) ?_
  exact A.hK [0, 0]

theorem leaves_nil (w : World) :
    Calls Try.prog 34 #[n_] w fun e w' => e = .returned e_ ∧ Fr [] w w' := by
  refine calls_of (args := [n_]) (penv [n_]) [] [] Try.func34 rfl rfl (look_penv _) (HS.nil w) ?_
  refine A.sr (A.g [.p] [] [] ?_)
  refine tsr (A.gp [.p] [0] [(3, n_)] ?_)
  refine A.cons (A.inlX (some 4) [n_, (.func (.func 73) #[] #[])] [(0, n_), (1, (.func (.func 73) #[] #[]))] (by kernel_rfl) rfl Try.func72 rfl rfl ?_)
  refine A.sr (A.g [.p] [] [] ?_)
  refine A.tn (A.seq (A.sr (A.g [.p, .p] [] [(9, b_ true)] ?_)))
  refine A.tn (A.ct (A.sr (A.g [.p] [0, 1, 9] [(4, e_)] ?_)))
  refine A.tn (A.ret (A.tr (A.post [e_] (fun aa ww rr ss => ⟨rv_tmp rr rfl, trivial⟩) (A.back (by kernel_rfl) ?_))))
  refine A.goA [.p] [(2, e_)] [] T0 (by kernel_rfl) trivial ?_
  refine A.tn (A.ret (A.pQ [e_] ?_))
  rfl

theorem leaves_ok (bt mb : Nat) (kv : List (Int × Cl))  (hl : kv.length ≤ 1000) (w : World) (r0 : (blk bt [(.map (some mb))] 124).holds w) (r1 : (mHI mb kv).holds w) (hs : HS w (feet []) [] w) :
    Calls Try.prog 34 #[p_ bt] w fun e w' => ∃ zz, e = .returned ((fun (zz : (Option Addr) × Nat) => match zz with | (al', cl') => (vS al' (keysF kv (fun v_ => v_.hl)) cl')) zz) ∧ (fun (zz : (Option Addr) × Nat) => match zz with | (al', cl') => True) zz ∧ Turn [] ((fun (zz : (Option Addr) × Nat) => match zz with | (al', cl') => [sI al' (keysF kv (fun v_ => v_.hl)) cl']) zz) w w' := by
  refine calls_of (args := [p_ bt]) (penv [p_ bt]) (feet []) [] Try.func34 rfl rfl (look_penv _) hs ?_
  refine A.sr (A.g [.p] [] [] ?_)
  refine tsr (A.gp [.p] [0] [(3, p_ bt)] ?_)
  refine A.cons (A.inlX (some 4) [p_ bt, (.func (.func 73) #[] #[])] [(0, p_ bt), (1, (.func (.func 73) #[] #[]))] (by kernel_rfl) rfl Try.func72 rfl rfl ?_)
  refine A.sr (A.g [.p] [] [] ?_)
  refine A.tn (A.seq (A.sr (A.g [.p, .p] [] [(9, b_ false)] ?_)))
  refine A.tn (A.cf (A.skip (tsr (A.g [.p] [9] [(5, e_)] ?_))))
  refine A.tn (A.seq (A.sr (A.gpk [.p, .p, .p, .rd [(.map (some mb))]] [0] [(13, (.map (some mb)))] [] (fun κ => κ.rd ⟨bt, 0, none⟩ [(.map (some mb))] ∧ True) ⟨(reads_oldblk r0 rfl), trivial⟩ ?_)))
  obtain ⟨⟨es1, cl1, hhp1, hEn1, hbo1, hnd1⟩, hkn1⟩ := id r1
  refine A.cons (A.rangeM (kt := 3) (et := 98) (es := es1) (clock := cl1) 14 (by kernel_rfl) rfl rfl (by kernel_rfl) (fun ww ss => old_heap ss hhp1 (by simp [feet])) (fun b2 => [iterI b2 mb es1 cl1 ([] : List Nat)]) (fun _ => rfl) ?_)
  intro b2
  refine A.done ?_
  refine A.tn (A.block (A.ownNil 3 1 [iterI b2 mb es1 cl1 ([] : List Nat), sI none ([] : List Int) 0] rfl ?_))
  refine A.setH [iterI b2 mb es1 cl1 ([] : List Nat), sI none (selK kv (fun v_ => v_.hl) ([] : List Nat)) 0] (cc rfl (cc (slC (by rfl : ([] : List Int) = (selK kv (fun v_ => v_.hl) ([] : List Nat)))) rfl)) ?_
  refine A.sub [(1, (.func (.func 73) #[] #[])), (5, vS none (selK kv (fun v_ => v_.hl) ([] : List Nat)) 0), (13, (.map (some mb))), (14, p_ b2)] (by exact ⟨rfl, congrArg (fun z_ : List Int => some (Value.slice none z_.length 0)) (by rfl : ([] : List Int) = (selK kv (fun v_ => v_.hl) ([] : List Nat))), rfl, rfl, trivial⟩) ?_
  refine A.loop (fun (zz : (List Nat) × (Option Addr) × Nat) => match zz with | (seen, ao, co) => [(1, (.func (.func 73) #[] #[])), (14, p_ b2), (5, vS ao (selK kv (fun v_ => v_.hl) seen) co)]) (fun (zz : (List Nat) × (Option Addr) × Nat) => match zz with | (seen, ao, co) => [iterI b2 mb es1 cl1 seen, sI ao (selK kv (fun v_ => v_.hl) seen) co]) (fun (zz : (List Nat) × (Option Addr) × Nat) => match zz with | (seen, ao, co) => seen.Nodup ∧ (∀ j ∈ seen, j < kv.length)) (fun (zz : (List Nat) × (Option Addr) × Nat) => match zz with | (seen, ao, co) => kv.length - seen.length) (([] : List Nat), none, 0) ⟨(by simp), (by simp)⟩ ?_ ?_
  · exact A.hK [0, 0]
  rintro ⟨seen, ao, co⟩ ⟨hn, hb⟩
  have hsl := nodup_le hn hb; have hsk := selK_len kv (fun v_ => v_.hl) seen
  refine A.sr (A.cons (A.nextM (enck := (fun k : Int => i_ k)) (encv := (fun v_ : Cl => (.agg (encCl v_).toArray))) (kv := kv) 0 15 (by kernel_rfl) rfl rfl rfl (fun ww ss => old_heap ss hhp1 (by simp [feet])) hEn1 hbo1 hnd1 (by assumption) (fun j4 => [iterI b2 mb es1 cl1 (seen ++ [j4]), sI ao (selK kv (fun v_ => v_.hl) seen) co]) (fun _ => rfl) (fun hall4 => ?_) (fun j4 mk4 mv4 hj4 hn4 => ?_)))
  · refine A.goA [.p] [(1, (.func (.func 73) #[] #[])), (14, p_ b2), (5, vS ao (selK kv (fun v_ => v_.hl) seen) co), (16, b_ false)] [] T0 (by kernel_rfl) trivial ?_
    refine A.tn (A.seq (A.cf (A.exit (A.te (A.te (A.bh (tsr (A.gp [.p] [1, 14, 16] [(27, vS ao (selK kv (fun v_ => v_.hl) seen) co)] ?_))))))))
    refine A.cons (A.cT (some 28) [vS ao (selK kv (fun v_ => v_.hl) seen) co] [1] ((fun _ => (.tuple #[]))) ((fun _ => True)) ((fun _ => [sI ao (sortI (selK kv (fun v_ => v_.hl) seen)) co])) (fun ww ss hh => sort_spec ao (selK kv (fun v_ => v_.hl) seen) co (by omega) ww hh) ?_)
    rintro ⟨⟩ -
    refine A.done ?_
    refine tsr (A.g [.p, .p] [5, 27, 28] [(4, vS ao (selK kv (fun v_ => v_.hl) seen) co)] ?_)
    refine A.tn (A.ret (A.post [vS ao (selK kv (fun v_ => v_.hl) seen) co] (fun aa ww rr ss => ⟨rv_tmp rr rfl, trivial⟩) (A.back (by kernel_rfl) ?_)))
    refine A.goA [.p] [(2, vS ao (selK kv (fun v_ => v_.hl) seen) co)] [] T0 (by kernel_rfl) trivial ?_
    refine A.tn (A.ret (A.setH [sI ao (keysF kv (fun v_ => v_.hl)) co, iterI b2 mb es1 cl1 seen] (cc (slC (by exact sel_all hn hb (by assumption) : (sortI (selK kv (fun v_ => v_.hl) seen)) = (keysF kv (fun v_ => v_.hl)))) rfl) ?_))
    refine A.pK [0] [vS ao (selK kv (fun v_ => v_.hl) seen) co] (ao, co) ?_ ?_
    · show ((vS ao (selK kv (fun v_ => v_.hl) seen) co) : Value) = (vS ao (keysF kv (fun v_ => v_.hl)) co)
      rw [← sel_all (f := fun v_ => v_.hl) hn hb (by assumption)]; unfold vS; rw [sortI_len]
    trivial
  refine A.goA [.p] [(1, (.func (.func 73) #[] #[])), (14, p_ b2), (5, vS ao (selK kv (fun v_ => v_.hl) seen) co), (16, b_ true)] [] T0 (by kernel_rfl) trivial ?_
  refine A.tn (A.seq (A.ct (A.skip (A.tn (A.block (A.sr (A.cons (A.q (some 17) (.tuple #[i_ mk4, (.agg (encCl mv4).toArray)]) (by kernel_rfl) (qt_entry (enck := (fun k : Int => i_ k)) (encv := (fun v_ : Cl => (.agg (encCl v_).toArray))) (kv := kv) (k := mk4) (v := mv4) 0 j4 rfl rfl rfl (fun ww ss => old_heap ss hhp1 (by simp [feet])) hEn1 hnd1 hj4) ?_))))))))
  refine A.goA1 [.p, .p, .al, .p, .st 2] [1, 14, 5, 7, 6] (fun b5 => [(1, (.func (.func 73) #[] #[])), (14, p_ b2), (5, vS ao (selK kv (fun v_ => v_.hl) seen) co), (7, p_ b5), (6, i_ mk4)]) (fun b5 => [iterI b2 mb es1 cl1 (seen ++ [j4]), sI ao (selK kv (fun v_ => v_.hl) seen) co, blk b5 (encCl mv4) 98]) (fun b5 => [b5]) (fun _ => T0) (fun _ => by kernel_rfl) (fun b5 => trivial) ?_
  intro b5
  refine tsr (A.gpk [.p, .ld 2] [7] [(20, (.func (.func 73) #[] #[])), (21, (.agg (encCl mv4).toArray))] [b5] T0 trivial ?_)
  refine A.cons (A.inlX (some 22) [(.agg (encCl mv4).toArray)] [(0, (.agg (encCl mv4).toArray))] (by kernel_rfl) rfl Try.func73 rfl rfl ?_)
  refine A.sr (A.n1 [.al, .p] [0] (fun b6 => [(1, p_ b6)]) (fun b6 => blk b6 (encCl mv4) 98) ?_)
  intro b6
  refine tsr (A.gk [.p, .ld 3, .p] [1] [(2, b_ mv4.hl)] [b6] T0 trivial ?_)
  refine A.tn (A.ret (A.post [b_ mv4.hl] (fun aa ww rr ss => ⟨rv_tmp rr rfl, trivial⟩) (A.back (by kernel_rfl) ?_)))
  refine A.items [iterI b2 mb es1 cl1 (seen ++ [j4]), sI ao (selK kv (fun v_ => v_.hl) seen) co] (.cons_cons _ (.cons_cons _ (.cons _ (.cons _ (List.Sublist.slnil))))) ?_
  refine A.done ?_
  refine A.tn (A.cn mv4.hl (fun e2 => ?_) (fun e2 => ?_))
  · have p2 := e2; try simp only [nrm] at p2
    refine A.region (A.goP [.p, .p] [(1, (.func (.func 73) #[] #[])), (14, p_ b2), (5, vS ao (selK kv (fun v_ => v_.hl) seen) co), (23, vS ao (selK kv (fun v_ => v_.hl) seen) co), (24, i_ mk4)] [] T0 (by kernel_rfl) trivial ?_)
    refine A.cons (A.buildSlice 25 (e := 3) [i_ mk4] (by kernel_rfl) rfl (fun _ => by kernel_rfl) (fun b7 => [iterI b2 mb es1 cl1 (seen ++ [j4]), sI ao (selK kv (fun v_ => v_.hl) seen) co, blk b7 [i_ mk4] 3]) (fun _ => rfl) ?_)
    intro b7
    refine A.cons (A.appendC (enc := encI) (xs := (selK kv (fun v_ => v_.hl) seen)) ([mk4]) 1 26 (e := 3) (z := (i_ 0)) (sz := 1) (by_ := 8) (by kernel_rfl) rfl rfl rfl (by kernel_rfl) (by kernel_rfl) (by rfl) (by decide) encI_len encI_one rfl (rd_blk (i := 2) rfl) (by simp; omega) (fun A8 c8 => [iterI b2 mb es1 cl1 (seen ++ [j4]), sI A8 ((selK kv (fun v_ => v_.hl) seen) ++ ([mk4])) c8, blk b7 [i_ mk4] 3]) (fun _ _ => rfl) ?_)
    intro A8 c8
    refine A.goA [.p] [(1, (.func (.func 73) #[] #[])), (14, p_ b2), (5, vS A8 ((selK kv (fun v_ => v_.hl) seen) ++ ([mk4])) c8)] [] T0 (by kernel_rfl) trivial ?_
    refine A.bn (A.tn (A.setH [iterI b2 mb es1 cl1 (seen ++ [j4]), sI A8 (selK kv (fun v_ => v_.hl) (seen ++ [j4])) c8, blk b7 [i_ mk4] 3] (cc rfl (cc (slC (by exact selK_t (by assumption) (by assumption) : (selK kv (fun v_ => v_.hl) seen) ++ ([mk4]) = (selK kv (fun v_ => v_.hl) (seen ++ [j4])))) rfl)) ?_))
    refine A.sv 5 (vS A8 (selK kv (fun v_ => v_.hl) (seen ++ [j4])) c8) (cgL (by exact selK_t (by assumption) (by assumption))) ?_
    refine A.next ((seen ++ [j4]), A8, c8) ⟨(by exact (walk_lt hn hb (by assumption) (by assumption)).1), (by exact (walk_lt hn hb (by assumption) (by assumption)).2.1)⟩ (by ((have h_ := (walk_lt hn hb (by assumption) (by assumption)).2.2); simp; omega)) ?_
    exact A.hK [0, 0]
  have p2 := e2; try simp only [nrm] at p2
  refine A.skip (A.bn (A.tn (A.setH [iterI b2 mb es1 cl1 (seen ++ [j4]), sI ao (selK kv (fun v_ => v_.hl) (seen ++ [j4])) co] (cc rfl (cc (slC (by exact selK_f (by assumption) (by assumption) : (selK kv (fun v_ => v_.hl) seen) = (selK kv (fun v_ => v_.hl) (seen ++ [j4])))) rfl)) ?_)))
  refine A.sub [(1, (.func (.func 73) #[] #[])), (14, p_ b2), (5, vS ao (selK kv (fun v_ => v_.hl) (seen ++ [j4])) co), (6, i_ mk4), (20, (.func (.func 73) #[] #[])), (21, (.agg (encCl mv4).toArray)), (22, b_ mv4.hl)] (by exact ⟨rfl, rfl, cgL (by exact selK_f (by assumption) (by assumption)), rfl, rfl, rfl, rfl, trivial⟩) ?_
  refine A.next ((seen ++ [j4]), ao, co) ⟨(by exact (walk_lt hn hb (by assumption) (by assumption)).1), (by exact (walk_lt hn hb (by assumption) (by assumption)).2.1)⟩ (by ((have h_ := (walk_lt hn hb (by assumption) (by assumption)).2.2); simp; omega)) ?_
  exact A.hK [0, 0]

theorem reals_nil (w : World) :
    Calls Try.prog 77 #[n_] w fun e w' => e = .returned e_ ∧ Fr [] w w' := by
  refine calls_of (args := [n_]) (penv [n_]) [] [] Try.func77 rfl rfl (look_penv _) (HS.nil w) ?_
  refine A.sr (A.g [.p] [] [] ?_)
  refine tsr (A.g [.p] [] [(3, e_)] ?_)
  refine A.tn (A.seq (A.sr (A.gp [.p] [] [(6, n_)] ?_)))
  refine A.cons (A.inlX (some 7) [n_, (.func (.func 82) #[] #[])] [(0, n_), (1, (.func (.func 82) #[] #[]))] (by kernel_rfl) rfl Try.func72 rfl rfl ?_)
  refine A.sr (A.g [.p] [] [] ?_)
  refine A.tn (A.seq (A.sr (A.g [.p, .p] [] [(9, b_ true)] ?_)))
  refine A.tn (A.ct (A.sr (A.g [.p] [0, 1, 9] [(4, e_)] ?_)))
  refine A.tn (A.ret (A.tr (A.post [e_] (fun aa ww rr ss => ⟨rv_tmp rr rfl, trivial⟩) (A.back (by kernel_rfl) ?_))))
  refine A.goA [.p, .p] [(0, n_), (3, e_), (7, e_), (8, i_ 0), (9, i_ 0)] [] T0 (by kernel_rfl) trivial ?_
  refine A.tn (A.block (A.unroll 400 ?_))
  refine A.turnk (m := 399) ?_
  refine A.sr (A.g [.p] [] [(10, b_ false)] ?_)
  refine A.tn (A.seq (A.cf (A.exit (A.te (A.te (A.bh (tsr (A.g [.p, .p] [0, 3, 7, 8, 9, 10] [(2, e_)] ?_))))))))
  refine A.tn (A.ret (A.pQ [e_] ?_))
  rfl

theorem reals_ok (bt mb : Nat) (kv : List (Int × Cl)) (hl : kv.length ≤ 1000) (w : World) (r0 : (blk bt [(.map (some mb))] 124).holds w) (r1 : (mHI mb kv).holds w) (hs : HS w (feet []) [] w) :
    Calls Try.prog 77 #[p_ bt] w fun e w' => ∃ zz, e = .returned ((fun (zz : (Option Addr) × Nat) => match zz with | (al', cl') => (vS al' (realsL kv) cl')) zz) ∧ (fun (zz : (Option Addr) × Nat) => match zz with | (al', cl') => True) zz ∧ Turn [] ((fun (zz : (Option Addr) × Nat) => match zz with | (al', cl') => [sCv al' (realsL kv) cl']) zz) w w' := by
  have hkl := keysF_len kv (fun v_ => decide ((ofC v_.ra v_.rb v_.rc) > 1))
  refine calls_of (args := [p_ bt]) (penv [p_ bt]) (feet []) [] Try.func77 rfl rfl (look_penv _) hs ?_
  refine A.sr (A.g [.p] [] [] ?_)
  refine tsr (A.g [.p] [] [(3, e_)] ?_)
  refine A.tn (A.seq (A.sr (A.gp [.p] [] [(6, p_ bt)] ?_)))
  refine A.cons (A.inlX (some 7) [p_ bt, (.func (.func 82) #[] #[])] [(0, p_ bt), (1, (.func (.func 82) #[] #[]))] (by kernel_rfl) rfl Try.func72 rfl rfl ?_)
  refine A.sr (A.g [.p] [] [] ?_)
  refine A.tn (A.seq (A.sr (A.g [.p, .p] [] [(9, b_ false)] ?_)))
  refine A.tn (A.cf (A.skip (tsr (A.g [.p] [9] [(5, e_)] ?_))))
  refine A.tn (A.seq (A.sr (A.gpk [.p, .p, .p, .rd [(.map (some mb))]] [0] [(13, (.map (some mb)))] [] (fun κ => κ.rd ⟨bt, 0, none⟩ [(.map (some mb))] ∧ True) ⟨(reads_oldblk r0 rfl), trivial⟩ ?_)))
  obtain ⟨⟨es1, cl1, hhp1, hEn1, hbo1, hnd1⟩, hkn1⟩ := id r1
  refine A.cons (A.rangeM (kt := 3) (et := 98) (es := es1) (clock := cl1) 14 (by kernel_rfl) rfl rfl (by kernel_rfl) (fun ww ss => old_heap ss hhp1 (by simp [feet])) (fun b2 => [iterI b2 mb es1 cl1 ([] : List Nat)]) (fun _ => rfl) ?_)
  intro b2
  refine A.done ?_
  refine A.tn (A.block (A.ownNil 3 1 [iterI b2 mb es1 cl1 ([] : List Nat), sI none ([] : List Int) 0] rfl ?_))
  refine A.setH [iterI b2 mb es1 cl1 ([] : List Nat), sI none (selK kv (fun v_ => decide ((ofC v_.ra v_.rb v_.rc) > 1)) ([] : List Nat)) 0] (cc rfl (cc (slC (by rfl : ([] : List Int) = (selK kv (fun v_ => decide ((ofC v_.ra v_.rb v_.rc) > 1)) ([] : List Nat)))) rfl)) ?_
  refine A.sub [(1, (.func (.func 82) #[] #[])), (5, vS none (selK kv (fun v_ => decide ((ofC v_.ra v_.rb v_.rc) > 1)) ([] : List Nat)) 0), (13, (.map (some mb))), (14, p_ b2)] (by exact ⟨rfl, congrArg (fun z_ : List Int => some (Value.slice none z_.length 0)) (by rfl : ([] : List Int) = (selK kv (fun v_ => decide ((ofC v_.ra v_.rb v_.rc) > 1)) ([] : List Nat))), rfl, rfl, trivial⟩) ?_
  refine A.loop (fun (zz : (List Nat) × (Option Addr) × Nat) => match zz with | (seen, ao, co) => [(1, (.func (.func 82) #[] #[])), (14, p_ b2), (5, vS ao (selK kv (fun v_ => decide ((ofC v_.ra v_.rb v_.rc) > 1)) seen) co)]) (fun (zz : (List Nat) × (Option Addr) × Nat) => match zz with | (seen, ao, co) => [iterI b2 mb es1 cl1 seen, sI ao (selK kv (fun v_ => decide ((ofC v_.ra v_.rb v_.rc) > 1)) seen) co]) (fun (zz : (List Nat) × (Option Addr) × Nat) => match zz with | (seen, ao, co) => seen.Nodup ∧ (∀ j ∈ seen, j < kv.length)) (fun (zz : (List Nat) × (Option Addr) × Nat) => match zz with | (seen, ao, co) => kv.length - seen.length) (([] : List Nat), none, 0) ⟨(by simp), (by simp)⟩ ?_ ?_
  · exact A.hK [0, 0]
  rintro ⟨seen, ao, co⟩ ⟨hn, hb⟩
  have hsl := nodup_le hn hb; have hsk := selK_len kv (fun v_ => decide ((ofC v_.ra v_.rb v_.rc) > 1)) seen
  refine A.sr (A.cons (A.nextM (enck := (fun k : Int => i_ k)) (encv := (fun v_ : Cl => (.agg (encCl v_).toArray))) (kv := kv) 0 15 (by kernel_rfl) rfl rfl rfl (fun ww ss => old_heap ss hhp1 (by simp [feet])) hEn1 hbo1 hnd1 (by assumption) (fun j4 => [iterI b2 mb es1 cl1 (seen ++ [j4]), sI ao (selK kv (fun v_ => decide ((ofC v_.ra v_.rb v_.rc) > 1)) seen) co]) (fun _ => rfl) (fun hall4 => ?_) (fun j4 mk4 mv4 hj4 hn4 => ?_)))
  · refine A.goA [.p] [(1, (.func (.func 82) #[] #[])), (14, p_ b2), (5, vS ao (selK kv (fun v_ => decide ((ofC v_.ra v_.rb v_.rc) > 1)) seen) co), (16, b_ false)] [] T0 (by kernel_rfl) trivial ?_
    refine A.tn (A.seq (A.cf (A.exit (A.te (A.te (A.bh (tsr (A.gp [.p] [1, 14, 16] [(27, vS ao (selK kv (fun v_ => decide ((ofC v_.ra v_.rb v_.rc) > 1)) seen) co)] ?_))))))))
    refine A.cons (A.cT (some 28) [vS ao (selK kv (fun v_ => decide ((ofC v_.ra v_.rb v_.rc) > 1)) seen) co] [1] ((fun _ => (.tuple #[]))) ((fun _ => True)) ((fun _ => [sI ao (sortI (selK kv (fun v_ => decide ((ofC v_.ra v_.rb v_.rc) > 1)) seen)) co])) (fun ww ss hh => sort_spec ao (selK kv (fun v_ => decide ((ofC v_.ra v_.rb v_.rc) > 1)) seen) co (by omega) ww hh) ?_)
    rintro ⟨⟩ -
    refine A.done ?_
    refine A.tn (A.seq ?_)
    have hcv5 : (sortI (selK kv (fun v_ => decide ((ofC v_.ra v_.rb v_.rc) > 1)) seen)) = (keysF kv (fun v_ => decide ((ofC v_.ra v_.rb v_.rc) > 1))) := sel_all hn hb (by assumption)
    refine A.setH [sI ao (keysF kv (fun v_ => decide ((ofC v_.ra v_.rb v_.rc) > 1))) co, iterI b2 mb es1 cl1 seen] (cc (slC hcv5) rfl) ?_
    refine A.sv 5 (vS ao (keysF kv (fun v_ => decide ((ofC v_.ra v_.rb v_.rc) > 1))) co) (cgN (by rw [← hcv5, sortI_len])) (A.sv 27 (vS ao (keysF kv (fun v_ => decide ((ofC v_.ra v_.rb v_.rc) > 1))) co) (cgN (by rw [← hcv5, sortI_len])) ?_)
    refine A.region (A.g [.p, .p] [5, 27, 28] [(4, vS ao (keysF kv (fun v_ => decide ((ofC v_.ra v_.rb v_.rc) > 1))) co)] ?_)
    refine A.tn (A.ret (A.post [vS ao (keysF kv (fun v_ => decide ((ofC v_.ra v_.rb v_.rc) > 1))) co] (fun aa ww rr ss => ⟨rv_tmp rr rfl, trivial⟩) (A.back (by kernel_rfl) ?_)))
    refine A.goA [.p, .p] [(0, p_ bt), (3, e_), (7, vS ao (keysF kv (fun v_ => decide ((ofC v_.ra v_.rb v_.rc) > 1))) co), (8, i_ ((keysF kv (fun v_ => decide ((ofC v_.ra v_.rb v_.rc) > 1))).length : Int)), (9, i_ 0)] [] T0 (by kernel_rfl) trivial ?_
    refine A.tn (A.block (A.ownNil 43 3 [sI ao (keysF kv (fun v_ => decide ((ofC v_.ra v_.rb v_.rc) > 1))) co, iterI b2 mb es1 cl1 seen, sCv none ([] : List Cv) 0] rfl ?_))
    refine A.setH [sI ao (keysF kv (fun v_ => decide ((ofC v_.ra v_.rb v_.rc) > 1))) co, iterI b2 mb es1 cl1 seen, sCv none (realsK kv 0) 0] (cc rfl (cc rfl (cc (slC (by rfl : ([] : List Cv) = (realsK kv 0))) rfl))) ?_
    refine A.sv 3 (vS none (realsK kv 0) 0) (congrArg (fun z_ : List Cv => some (Value.slice none z_.length 0)) (by rfl : ([] : List Cv) = (realsK kv 0))) ?_
    refine A.loop (fun (zz : Nat × (Option Addr) × Nat) => match zz with | (k, ar, cr) => [(0, p_ bt), (7, vS ao (keysF kv (fun v_ => decide ((ofC v_.ra v_.rb v_.rc) > 1))) co), (8, i_ ((keysF kv (fun v_ => decide ((ofC v_.ra v_.rb v_.rc) > 1))).length : Int)), (9, c_ k), (3, vS ar (realsK kv k) cr)]) (fun (zz : Nat × (Option Addr) × Nat) => match zz with | (k, ar, cr) => [sCv ar (realsK kv k) cr, sI ao (keysF kv (fun v_ => decide ((ofC v_.ra v_.rb v_.rc) > 1))) co, iterI b2 mb es1 cl1 seen]) (fun (zz : Nat × (Option Addr) × Nat) => match zz with | (k, ar, cr) => (k ≤ (keysF kv (fun v_ => decide ((ofC v_.ra v_.rb v_.rc) > 1))).length)) (fun (zz : Nat × (Option Addr) × Nat) => match zz with | (k, ar, cr) => (keysF kv (fun v_ => decide ((ofC v_.ra v_.rb v_.rc) > 1))).length - k) (0, none, 0) (by omega) ?_ ?_
    · exact A.hK [2, 0, 0]
    rintro ⟨k, ar, cr⟩ hk
    have hk : k ≤ (keysF kv (fun v_ => decide ((ofC v_.ra v_.rb v_.rc) > 1))).length := hk
    have hrl := realsK_len kv k
    refine A.sr (A.g [.p] [] [(10, b_ (decide ((k : Int) < ((keysF kv (fun v_ => decide ((ofC v_.ra v_.rb v_.rc) > 1))).length : Int))))] ?_)
    refine A.tn (A.seq (A.cn (decide ((k : Int) < ((keysF kv (fun v_ => decide ((ofC v_.ra v_.rb v_.rc) > 1))).length : Int))) (fun e2 => ?_) (fun e2 => ?_)))
    · have p2 := of_decide_eq_true e2
      refine A.skip (A.tn (A.seq (A.block (A.sr (A.gpk [.ix] [10] [(11, (.pointer (some ((at0 ao).add (k * 1)))))] [] (fun κ => κ.ix ao ((keysF kv (fun v_ => decide ((ofC v_.ra v_.rb v_.rc) > 1))).length) (k : Int) ∧ True) ⟨(ixOf encI_len (by decide) (rd_sl (i := 1) rfl) (by omega)), trivial⟩ ?_)))))
      obtain ⟨x7, hx7⟩ : ∃ x, ((keysF kv (fun v_ => decide ((ofC v_.ra v_.rb v_.rc) > 1))))[k]? = some x := ⟨_, List.getElem?_eq_getElem (by omega)⟩
      refine A.gk [.rd [i_ x7], .p] [11] [(5, i_ x7)] [] (fun κ => κ.rd ((at0 ao).add (k * 1)) [i_ x7] ∧ True) ⟨(reads_at0 (vs := [i_ x7]) encI_len (rd_sl (i := 1) rfl) hx7 (Nat.le_of_ble_eq_true rfl) rfl), trivial⟩ ?_
      refine tr (A.gpk [.p, .p, .p, .p, .rd [(.map (some mb))], .p] [5] [(13, vS ar (realsK kv k) cr), (17, (.map (some mb))), (18, i_ x7)] [] (fun κ => κ.rd ⟨bt, 0, none⟩ [(.map (some mb))] ∧ True) ⟨(reads_oldblk r0 rfl), trivial⟩ ?_)
      refine A.cons (A.q (some 19) (.agg (encCl ((mget kv x7).getD cl0)).toArray) (by kernel_rfl) (qt_lookup (kt := 3) (et := 98) (enck := (fun k : Int => i_ k)) (encv := (fun v_ : Cl => (.agg (encCl v_).toArray))) (b := mb) (kv := kv) (k := x7) (d0 := cl0) (fun ww ss => old_item ss r1) rfl rfl rfl (by kernel_rfl) keyOk_I (by kernel_rfl) rfl) ?_)
      refine A.gp [.p] [17, 18, 19] [(20, (.agg #[u_ (((mget kv x7).getD cl0).ra), u_ (((mget kv x7).getD cl0).rb), u_ (((mget kv x7).getD cl0).rc)]))] ?_
      refine A.cons (A.buildSlice 21 (e := 43) [u_ (((mget kv x7).getD cl0).ra), u_ (((mget kv x7).getD cl0).rb), u_ (((mget kv x7).getD cl0).rc)] (by kernel_rfl) rfl (fun _ => by kernel_rfl) (fun b8 => [sCv ar (realsK kv k) cr, sI ao (keysF kv (fun v_ => decide ((ofC v_.ra v_.rb v_.rc) > 1))) co, iterI b2 mb es1 cl1 seen, blk b8 [u_ (((mget kv x7).getD cl0).ra), u_ (((mget kv x7).getD cl0).rb), u_ (((mget kv x7).getD cl0).rc)] 43]) (fun _ => rfl) ?_)
      intro b8
      refine A.cons (A.appendC (enc := encCv) (xs := (realsK kv k)) ([(⟨((mget kv x7).getD cl0).ra, ((mget kv x7).getD cl0).rb, ((mget kv x7).getD cl0).rc⟩ : Cv)]) 0 22 (e := 43) (z := (.agg #[u_ 0, u_ 0, u_ 0])) (sz := 3) (by_ := 24) (by kernel_rfl) rfl rfl rfl (by kernel_rfl) (by kernel_rfl) (by rfl) (by decide) encCv_len encCv_one rfl (rd_blk (i := 3) rfl) (by (simp only [List.length_append, List.length_cons, List.length_nil]; omega)) (fun A9 c9 => [sCv A9 ((realsK kv k) ++ ([(⟨((mget kv x7).getD cl0).ra, ((mget kv x7).getD cl0).rb, ((mget kv x7).getD cl0).rc⟩ : Cv)])) c9, sI ao (keysF kv (fun v_ => decide ((ofC v_.ra v_.rb v_.rc) > 1))) co, iterI b2 mb es1 cl1 seen, blk b8 [u_ (((mget kv x7).getD cl0).ra), u_ (((mget kv x7).getD cl0).rb), u_ (((mget kv x7).getD cl0).rc)] 43]) (fun _ _ => rfl) ?_)
      intro A9 c9
      refine A.goA [.p] [(0, p_ bt), (7, vS ao (keysF kv (fun v_ => decide ((ofC v_.ra v_.rb v_.rc) > 1))) co), (8, i_ ((keysF kv (fun v_ => decide ((ofC v_.ra v_.rb v_.rc) > 1))).length : Int)), (9, c_ k), (3, vS A9 ((realsK kv k) ++ ([(⟨((mget kv x7).getD cl0).ra, ((mget kv x7).getD cl0).rb, ((mget kv x7).getD cl0).rc⟩ : Cv)])) c9)] [] T0 (by kernel_rfl) trivial ?_
      refine A.bn (tr (A.gk [.w ((k : Int) + 1), .p] [] [(9, i_ ((k : Int) + 1))] [] (fun κ => (IntKind.i64.wrap ((k : Int) + 1) = ((k : Int) + 1)) ∧ True) ⟨(wrap_i64 (e := (k : Int) + 1) (by constructor <;> omega)), trivial⟩ ?_))
      refine A.tn (A.setH [sCv A9 (realsK kv (k + 1)) c9, sI ao (keysF kv (fun v_ => decide ((ofC v_.ra v_.rb v_.rc) > 1))) co, iterI b2 mb es1 cl1 seen, blk b8 [u_ (((mget kv x7).getD cl0).ra), u_ (((mget kv x7).getD cl0).rb), u_ (((mget kv x7).getD cl0).rc)] 43] (cc (slC (by exact realsK_snoc (by assumption) : (realsK kv k) ++ ([(⟨((mget kv x7).getD cl0).ra, ((mget kv x7).getD cl0).rb, ((mget kv x7).getD cl0).rc⟩ : Cv)]) = (realsK kv (k + 1)))) rfl) ?_)
      refine A.sv 3 (vS A9 (realsK kv (k + 1)) c9) (cgL (by exact realsK_snoc (by assumption))) ?_
      refine A.next (k + 1, A9, c9) (by omega) (by (simp_all; omega)) ?_
      exact A.hK [0, 0, 0]
    have p2 := of_decide_eq_false e2
    refine A.exit (A.te (A.te (A.bh (tsr (A.g [.p, .p] [0, 7, 8, 9, 3, 10] [(2, vS ar (realsK kv k) cr)] ?_)))))
    refine A.tn (A.ret (A.setH [sCv ar (realsL kv) cr, sI ao (keysF kv (fun v_ => decide ((ofC v_.ra v_.rb v_.rc) > 1))) co, iterI b2 mb es1 cl1 seen] (cc (slC (by exact realsK_all (by omega) : (realsK kv k) = (realsL kv))) rfl) ?_))
    refine A.pK [0] [vS ar (realsK kv k) cr] (ar, cr) ?_ ?_
    · show ((vS ar (realsK kv k) cr) : Value) = (vS ar (realsL kv) cr)
      rw [realsK_all (by omega)]
    trivial
  refine A.goA [.p] [(1, (.func (.func 82) #[] #[])), (14, p_ b2), (5, vS ao (selK kv (fun v_ => decide ((ofC v_.ra v_.rb v_.rc) > 1)) seen) co), (16, b_ true)] [] T0 (by kernel_rfl) trivial ?_
  refine A.tn (A.seq (A.ct (A.skip (A.tn (A.block (A.sr (A.cons (A.q (some 17) (.tuple #[i_ mk4, (.agg (encCl mv4).toArray)]) (by kernel_rfl) (qt_entry (enck := (fun k : Int => i_ k)) (encv := (fun v_ : Cl => (.agg (encCl v_).toArray))) (kv := kv) (k := mk4) (v := mv4) 0 j4 rfl rfl rfl (fun ww ss => old_heap ss hhp1 (by simp [feet])) hEn1 hnd1 hj4) ?_))))))))
  refine A.goA1 [.p, .p, .al, .p, .st 2] [1, 14, 5, 7, 6] (fun b10 => [(1, (.func (.func 82) #[] #[])), (14, p_ b2), (5, vS ao (selK kv (fun v_ => decide ((ofC v_.ra v_.rb v_.rc) > 1)) seen) co), (7, p_ b10), (6, i_ mk4)]) (fun b10 => [iterI b2 mb es1 cl1 (seen ++ [j4]), sI ao (selK kv (fun v_ => decide ((ofC v_.ra v_.rb v_.rc) > 1)) seen) co, blk b10 (encCl mv4) 98]) (fun b10 => [b10]) (fun _ => T0) (fun _ => by kernel_rfl) (fun b10 => trivial) ?_
  intro b10
  refine tsr (A.gk [.p, .ld 2, .cq (b_ (decide ((ofC mv4.ra mv4.rb mv4.rc) > 1)))] [7] [(22, b_ (decide ((ofC mv4.ra mv4.rb mv4.rc) > 1)))] [b10] (fun κ => κ.call 82 [(.agg (encCl mv4).toArray)] (b_ (decide ((ofC mv4.ra mv4.rb mv4.rc) > 1))) ∧ True) ⟨(fun ww ss => real_spec mv4 ww), trivial⟩ ?_)
  refine A.tn (A.cn (decide ((ofC mv4.ra mv4.rb mv4.rc) > 1)) (fun e3 => ?_) (fun e3 => ?_))
  · have p3 := of_decide_eq_true e3
    refine A.region (A.gp [.p, .p] [6, 22] [(23, vS ao (selK kv (fun v_ => decide ((ofC v_.ra v_.rb v_.rc) > 1)) seen) co), (24, i_ mk4)] ?_)
    refine A.cons (A.buildSlice 25 (e := 3) [i_ mk4] (by kernel_rfl) rfl (fun _ => by kernel_rfl) (fun b11 => [iterI b2 mb es1 cl1 (seen ++ [j4]), sI ao (selK kv (fun v_ => decide ((ofC v_.ra v_.rb v_.rc) > 1)) seen) co, blk b10 (encCl mv4) 98, blk b11 [i_ mk4] 3]) (fun _ => rfl) ?_)
    intro b11
    refine A.cons (A.appendC (enc := encI) (xs := (selK kv (fun v_ => decide ((ofC v_.ra v_.rb v_.rc) > 1)) seen)) ([mk4]) 1 26 (e := 3) (z := (i_ 0)) (sz := 1) (by_ := 8) (by kernel_rfl) rfl rfl rfl (by kernel_rfl) (by kernel_rfl) (by rfl) (by decide) encI_len encI_one rfl (rd_blk (i := 3) rfl) (by (simp only [List.length_append, List.length_cons, List.length_nil]; omega)) (fun A12 c12 => [iterI b2 mb es1 cl1 (seen ++ [j4]), sI A12 ((selK kv (fun v_ => decide ((ofC v_.ra v_.rb v_.rc) > 1)) seen) ++ ([mk4])) c12, blk b10 (encCl mv4) 98, blk b11 [i_ mk4] 3]) (fun _ _ => rfl) ?_)
    intro A12 c12
    refine A.goA [.p] [(1, (.func (.func 82) #[] #[])), (14, p_ b2), (5, vS A12 ((selK kv (fun v_ => decide ((ofC v_.ra v_.rb v_.rc) > 1)) seen) ++ ([mk4])) c12)] [] T0 (by kernel_rfl) trivial ?_
    refine A.bn (A.tn (A.setH [iterI b2 mb es1 cl1 (seen ++ [j4]), sI A12 (selK kv (fun v_ => decide ((ofC v_.ra v_.rb v_.rc) > 1)) (seen ++ [j4])) c12, blk b10 (encCl mv4) 98, blk b11 [i_ mk4] 3] (cc rfl (cc (slC (by exact selK_t (by assumption) (by assumption) : (selK kv (fun v_ => decide ((ofC v_.ra v_.rb v_.rc) > 1)) seen) ++ ([mk4]) = (selK kv (fun v_ => decide ((ofC v_.ra v_.rb v_.rc) > 1)) (seen ++ [j4])))) rfl)) ?_))
    refine A.sv 5 (vS A12 (selK kv (fun v_ => decide ((ofC v_.ra v_.rb v_.rc) > 1)) (seen ++ [j4])) c12) (cgL (by exact selK_t (by assumption) (by assumption))) ?_
    refine A.next ((seen ++ [j4]), A12, c12) ⟨(by exact (walk_lt hn hb (by assumption) (by assumption)).1), (by exact (walk_lt hn hb (by assumption) (by assumption)).2.1)⟩ (by ((have h_ := (walk_lt hn hb (by assumption) (by assumption)).2.2); simp; omega)) ?_
    exact A.hK [0, 0]
  have p3 := of_decide_eq_false e3
  refine A.skip (A.bn (A.tn (A.setH [iterI b2 mb es1 cl1 (seen ++ [j4]), sI ao (selK kv (fun v_ => decide ((ofC v_.ra v_.rb v_.rc) > 1)) (seen ++ [j4])) co, blk b10 (encCl mv4) 98] (cc rfl (cc (slC (by exact selK_f (by assumption) (by assumption) : (selK kv (fun v_ => decide ((ofC v_.ra v_.rb v_.rc) > 1)) seen) = (selK kv (fun v_ => decide ((ofC v_.ra v_.rb v_.rc) > 1)) (seen ++ [j4])))) rfl)) ?_)))
  refine A.sv 5 (vS ao (selK kv (fun v_ => decide ((ofC v_.ra v_.rb v_.rc) > 1)) (seen ++ [j4])) co) (cgL (by exact selK_f (by assumption) (by assumption))) ?_
  refine A.next ((seen ++ [j4]), ao, co) ⟨(by exact (walk_lt hn hb (by assumption) (by assumption)).1), (by exact (walk_lt hn hb (by assumption) (by assumption)).2.1)⟩ (by ((have h_ := (walk_lt hn hb (by assumption) (by assumption)).2.2); simp; omega)) ?_
  exact A.hK [0, 0]
end Go.Proofs.Ytinnnoimmioaiaa
