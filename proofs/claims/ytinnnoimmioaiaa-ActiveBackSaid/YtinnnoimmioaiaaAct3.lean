/- What the functions of this layer do, proved operation by operation, for all arguments, under the conditions that each theorem states. -/
import Derived.Test.YtinnnoimmioaiaaProg
import Derived.Test.YtinnnoimmioaiaaAct1
namespace Go.Proofs.Ytinnnoimmioaiaa
open Go V
set_option linter.unusedVariables false
set_option linter.unusedSimpArgs false

set_option maxHeartbeats 4000000 in
set_option maxRecDepth 100000 in
theorem off_nil (ci : Int) (w : World) :
    Calls Try.prog 20 #[n_, i_ ci] w fun e w' => e = .returned (.tuple #[e_, i_ 7]) ∧ Fr [] w w' := by
  refine calls_of (args := [n_, i_ ci]) (penv [n_, i_ ci]) [] [] Try.func20 rfl rfl (look_penv _) (HS.nil w) ?_
  refine A.norm [(0, n_), (1, i_ ci)] [] (by exact ⟨rfl, rfl, trivial⟩) rfl ?_
  refine A.seq (A.region (A.goA [.p, .p] [(0, n_), (1, i_ ci)] [] T0 (by kernel_rfl) trivial ?_))
  refine A.tn (A.seq (A.block (A.seq (A.region (A.goA [.p, .p, .p] [(0, n_), (1, i_ ci), (9, b_ true)] [] T0 (by kernel_rfl) trivial ?_)))))
  refine A.tn (A.cond_t rfl (A.seq (A.region (A.goA [.p, .p] [(4, e_), (5, i_ 7)] [] T0 (by kernel_rfl) trivial ?_))))
  refine A.tn (A.ret (A.br (A.tr (A.postQ [e_, i_ 7] (fun aa ww rr ss => ⟨rv_tmp rr rfl, rv_tmp rr rfl, trivial⟩) ?_))))
  rfl

set_option maxHeartbeats 4000000 in
set_option maxRecDepth 100000 in
theorem off_none (bs mb mo mk : Nat) (ym : List (Int × Pl)) (on : List (Int × Int)) (kv : List (Int × MB)) (ci : Int) (hno : lfA ym ci = false ∨ isA on kv ci = false) (w : World) (r0 : (blk bs [(.map (some mb)), (.map (some mo)), (.map (some mk))] 96).holds w) (r1 : (mYI mb ym).holds w) (r2 : (mNI mo on).holds w) (r3 : (mDI mk kv).holds w) (r4 : (kidI kv).holds w) :
    Calls Try.prog 20 #[p_ bs, i_ ci] w fun e w' => e = .returned (.tuple #[e_, i_ 6]) ∧ Fr [] w w' := by
  refine calls_of (args := [p_ bs, i_ ci]) (penv [p_ bs, i_ ci]) [] [] Try.func20 rfl rfl (look_penv _) (HS.nil w) ?_
  refine A.norm [(0, p_ bs), (1, i_ ci)] [] (by exact ⟨rfl, rfl, trivial⟩) rfl ?_
  refine A.seq (A.region (A.goA [.p, .p] [(0, p_ bs), (1, i_ ci)] [] T0 (by kernel_rfl) trivial ?_))
  refine A.tn (A.seq (A.block (A.seq (A.region (A.goA [.p, .p, .p] [(0, p_ bs), (1, i_ ci), (9, b_ false)] [] T0 (by kernel_rfl) trivial ?_)))))
  refine A.tn (A.cond_f rfl (A.seq (A.region (A.goP [.p, .p, .p, .rd [(.map (some mb))], .p] [(0, p_ bs), (1, i_ ci), (16, (.map (some mb))), (17, i_ ci)] [] (fun κ => κ.rd ⟨bs, 0, none⟩ [(.map (some mb))] ∧ True) (by kernel_rfl) ⟨(reads_oldblk r0 rfl), trivial⟩ ?_))))
  refine A.cons (A.q (some 18) (.agg (encPl ((mget ym ci).getD pl0)).toArray) (by kernel_rfl) (qt_lookup (kt := 3) (et := 91) (enck := (fun k : Int => i_ k)) (encv := (fun v_ : Pl => (.agg (encPl v_).toArray))) (b := mb) (kv := ym) (k := ci) (d0 := pl0) (fun ww ss => old_item ss r1) rfl rfl rfl (by kernel_rfl) (keyOk_int (by kernel_rfl)) (by kernel_rfl) rfl) ?_)
  refine A.goA [.p, .p, .p, .o, .p, .p, .cq (b_ (isA on kv ci)), .p, .cl, .p] [(0, p_ bs), (1, i_ ci), (12, b_ (((((mget ym ci).getD pl0).pf) == 0) || (!(isA on kv ci))))] [] (fun κ => ((true && (((((mget ym ci).getD pl0).pf) == 0) == false)) = true → κ.call 22 [p_ bs, i_ ci] (b_ (isA on kv ci))) ∧ True) (by kernel_rfl) ⟨(fun h_ => (fun ww ss => is_ok bs mb mo mk ym on kv ci ww (old_item ss r0) (old_item ss r1) (old_item ss r2) (old_item ss r3) (old_item ss r4))), trivial⟩ ?_
  refine A.tn (A.cond (E := ((((mget ym ci).getD pl0).pf) == 0) || (!(isA on kv ci))) rfl (fun e1 => ?_) (fun e1 => ?_))
  · skip
    have p1 := e1; try simp only [nrm] at p1
    refine A.seq (A.region (A.goA [.p, .p] [(4, e_), (5, i_ 6)] [] T0 (by kernel_rfl) trivial ?_))
    refine A.tn (A.ret (A.br (A.tr (A.postQ [e_, i_ 6] (fun aa ww rr ss => ⟨rv_tmp rr rfl, rv_tmp rr rfl, trivial⟩) ?_))))
    rfl
  · exact absurd e1 (by (intro h_; unfold lfA at hno; simp at h_; rcases hno with hno | hno; exact h_.1 (by simpa using hno); exact absurd h_.2 (by rw [hno]; decide)))

set_option maxHeartbeats 4000000 in
set_option maxRecDepth 100000 in
theorem off_ok (bs mb mo mk : Nat) (ym : List (Int × Pl)) (on : List (Int × Int)) (kv : List (Int × MB)) (ci : Int) (hlf : lfA ym ci = true) (his : isA on kv ci = true) (hd0 : depA ym 40 ci) (w : World) (hs : HS w (feet [blk bs [(.map (some mb)), (.map (some mo)), (.map (some mk))] 96, mYI mb ym, mNI mo on, mDI mk kv, kidI kv]) [blk bs [(.map (some mb)), (.map (some mo)), (.map (some mk))] 96, mYI mb ym, mNI mo on, mDI mk kv, kidI kv] w) :
    Calls Try.prog 20 #[p_ bs, i_ ci] w fun e w' => ∃ zz, e = .returned ((fun (zz : (List (Int × MB)) × (Option Addr) × Nat) => match zz with | (kv', al', cl') => (.tuple #[vS al' ((offC ym (kx kv) 40 ci).1) cl', i_ 0])) zz) ∧ (fun (zz : (List (Int × MB)) × (Option Addr) × Nat) => match zz with | (kv', al', cl') => kx kv' = (offC ym (kx kv) 40 ci).2) zz ∧ Turn [blk bs [(.map (some mb)), (.map (some mo)), (.map (some mk))] 96, mYI mb ym, mNI mo on, mDI mk kv, kidI kv] ((fun (zz : (List (Int × MB)) × (Option Addr) × Nat) => match zz with | (kv', al', cl') => [blk bs [(.map (some mb)), (.map (some mo)), (.map (some mk))] 96, mYI mb ym, mNI mo (mdel on ci), mDI mk kv', kidI kv', sI al' ((offC ym (kx kv) 40 ci).1) cl']) zz) w w' := by
  refine calls_of (args := [p_ bs, i_ ci]) (penv [p_ bs, i_ ci]) (feet [blk bs [(.map (some mb)), (.map (some mo)), (.map (some mk))] 96, mYI mb ym, mNI mo on, mDI mk kv, kidI kv]) [blk bs [(.map (some mb)), (.map (some mo)), (.map (some mk))] 96, mYI mb ym, mNI mo on, mDI mk kv, kidI kv] Try.func20 rfl rfl (look_penv _) hs ?_
  refine A.norm [(0, p_ bs), (1, i_ ci)] [blk bs [(.map (some mb)), (.map (some mo)), (.map (some mk))] 96, mYI mb ym, mNI mo on, mDI mk kv, kidI kv] (by exact ⟨rfl, rfl, trivial⟩) rfl ?_
  refine A.seq (A.region (A.goA [.p, .p] [(0, p_ bs), (1, i_ ci)] [] T0 (by kernel_rfl) trivial ?_))
  refine A.tn (A.seq (A.block (A.seq (A.region (A.goA [.p, .p, .p] [(0, p_ bs), (1, i_ ci), (9, b_ false)] [] T0 (by kernel_rfl) trivial ?_)))))
  refine A.tn (A.cond_f rfl (A.seq (A.region (A.goP [.p, .p, .p, .ld 0, .p] [(0, p_ bs), (1, i_ ci), (16, (.map (some mb))), (17, i_ ci)] [bs] T0 (by kernel_rfl) trivial ?_))))
  refine A.cons (A.q (some 18) (.agg (encPl ((mget ym ci).getD pl0)).toArray) (by kernel_rfl) (qt_lookup (kt := 3) (et := 91) (enck := (fun k : Int => i_ k)) (encv := (fun v_ : Pl => (.agg (encPl v_).toArray))) (b := mb) (kv := ym) (k := ci) (d0 := pl0) (fun ww ss => ss.mem (i := 1) rfl) rfl rfl rfl (by kernel_rfl) (keyOk_int (by kernel_rfl)) (by kernel_rfl) rfl) ?_)
  refine A.goA [.p, .p, .p, .o, .p, .p, .cq (b_ (isA on kv ci)), .p, .cl, .p] [(0, p_ bs), (1, i_ ci), (12, b_ (((((mget ym ci).getD pl0).pf) == 0) || (!(isA on kv ci))))] [] (fun κ => ((true && (((((mget ym ci).getD pl0).pf) == 0) == false)) = true → κ.call 22 [p_ bs, i_ ci] (b_ (isA on kv ci))) ∧ True) (by kernel_rfl) ⟨(fun h_ => (fun ww ss => is_ok bs mb mo mk ym on kv ci ww (ss.mem (i := 0) rfl) (ss.mem (i := 1) rfl) (ss.mem (i := 2) rfl) (ss.mem (i := 3) rfl) (ss.mem (i := 4) rfl))), trivial⟩ ?_
  refine A.tn (A.cond (E := ((((mget ym ci).getD pl0).pf) == 0) || (!(isA on kv ci))) rfl (fun e1 => ?_) (fun e1 => ?_))
  · exact absurd e1 (by (intro h_; unfold lfA at hlf; simp at h_ hlf; simp_all))
  · skip
    have p1 := e1; try simp only [nrm] at p1
    refine A.skip (A.bn (A.tn (A.seq (A.region (A.goP [.p, .p, .p, .ld 0, .p] [(0, p_ bs), (1, i_ ci), (30, (.map (some mo))), (31, i_ ci)] [bs] T0 (by kernel_rfl) trivial ?_)))))
    refine A.cons (A.mapDel (kt := 3) (et := 3) (enck := (fun k : Int => i_ k)) (encv := (fun x : Int => i_ x)) (kv := on) (k := ci) 2 [blk bs [(.map (some mb)), (.map (some mo)), (.map (some mk))] 96, mYI mb ym, mNI mo (mdel on ci), mDI mk kv, kidI kv] (by kernel_rfl) rfl rfl rfl (by kernel_rfl) (keyOk_int (by kernel_rfl)) rfl rfl ?_)
    refine A.done ?_
    refine A.tn (A.seq (A.region (A.goP [.p] [(0, p_ bs), (1, i_ ci), (32, i_ ci)] [] T0 (by kernel_rfl) trivial ?_)))
    refine A.cons (A.buildSlice 33 (e := 3) [i_ ci] (by kernel_rfl) rfl (fun _ => by kernel_rfl) (fun b1 => [blk bs [(.map (some mb)), (.map (some mo)), (.map (some mk))] 96, mYI mb ym, mNI mo (mdel on ci), mDI mk kv, kidI kv, blk b1 [i_ ci] 3]) (fun _ => rfl) ?_)
    intro b1
    refine A.goA [.p] [(0, p_ bs), (1, i_ ci), (6, (.slice (some ⟨b1, 0, none⟩) 1 1))] [] T0 (by kernel_rfl) trivial ?_
    refine A.tn (A.seq (A.ownBlk 5 (b := b1) 1 1 [blk bs [(.map (some mb)), (.map (some mo)), (.map (some mk))] 96, mYI mb ym, mNI mo (mdel on ci), mDI mk kv, kidI kv, sI (some ⟨b1, 0, none⟩) ([ci]) 1] rfl rfl (by decide) rfl ?_))
    refine A.region (A.goA [.p, .p] [(0, p_ bs), (6, vS (some ⟨b1, 0, none⟩) ([ci]) 1), (7, i_ ci)] [] T0 (by kernel_rfl) trivial ?_)
    refine A.tn (A.block (A.setH [blk bs [(.map (some mb)), (.map (some mo)), (.map (some mk))] 96, mYI mb ym, mNI mo (mdel on ci), mDI mk kv, kidI kv, sI (some ⟨b1, 0, none⟩) (([] : List Int) ++ [ci]) 1] (cc rfl (cc rfl (cc rfl (cc rfl (cc rfl (cc (slC (by first | rfl | (simp; done) | (rw [← hp, off_stop hs_]) : [ci] = (([] : List Int) ++ [ci]))) rfl)))))) ?_))
    refine A.sub [(0, p_ bs), (6, vS (some ⟨b1, 0, none⟩) (([] : List Int) ++ [ci]) 1), (7, i_ ci)] (by exact ⟨rfl, congrArg (fun z_ : List Int => some (Value.slice (some ⟨b1, 0, none⟩) z_.length 1)) (by first | rfl | (simp; done) | (rw [← hp, off_stop hs_]) : [ci] = (([] : List Int) ++ [ci])), rfl, trivial⟩) ?_
    refine A.loop (fun (zz : Int × Nat × (List Int) × (List (Int × MB)) × (Option Addr) × Nat) => match zz with | (i, n, pre, kvk, ao, co) => [(0, p_ bs), (7, i_ i), (6, vS ao (pre ++ [i]) co)]) (fun (zz : Int × Nat × (List Int) × (List (Int × MB)) × (Option Addr) × Nat) => match zz with | (i, n, pre, kvk, ao, co) => [blk bs [(.map (some mb)), (.map (some mo)), (.map (some mk))] 96, mYI mb ym, mNI mo (mdel on ci), mDI mk kvk, kidI kvk, sI ao (pre ++ [i]) co]) (fun (zz : Int × Nat × (List Int) × (List (Int × MB)) × (Option Addr) × Nat) => match zz with | (i, n, pre, kvk, ao, co) => ((pre ++ (offC ym (kx kvk) n i).1, (offC ym (kx kvk) n i).2) = offC ym (kx kv) 40 ci) ∧ (depA ym n i) ∧ (pre.length + n ≤ 40)) (fun (zz : Int × Nat × (List Int) × (List (Int × MB)) × (Option Addr) × Nat) => match zz with | (i, n, pre, kvk, ao, co) => n) (ci, 40, ([] : List Int), kv, some ⟨b1, 0, none⟩, 1) ⟨(by rfl), (by assumption), (by simp)⟩ ?_ ?_
    · exact A.hereK [0, 0, 0, 0, 0, 0] (by exact ⟨rfl, rfl, rfl, trivial⟩) (by kernel_rfl)
    · rintro ⟨i, n, pre, kvk, ao, co⟩ ⟨hp, hd, hl⟩
      obtain ⟨n, rfl⟩ : ∃ m, n = m + 1 := by cases n with | zero => exact hd.elim | succ m => exact ⟨m, rfl⟩
      refine A.norm [(0, p_ bs), (7, i_ i), (6, vS ao (pre ++ [i]) co)] [blk bs [(.map (some mb)), (.map (some mo)), (.map (some mk))] 96, mYI mb ym, mNI mo (mdel on ci), mDI mk kvk, kidI kvk, sI ao (pre ++ [i]) co] (by exact ⟨rfl, rfl, rfl, trivial⟩) rfl ?_
      refine A.block (A.seq (A.region (A.goP [.p, .p, .p, .ld 0, .p] [(0, p_ bs), (7, i_ i), (6, vS ao (pre ++ [i]) co), (38, (.map (some mb))), (39, i_ i)] [bs] T0 (by kernel_rfl) trivial ?_)))
      refine A.cons (A.q (some 40) (.agg (encPl ((mget ym i).getD pl0)).toArray) (by kernel_rfl) (qt_lookup (kt := 3) (et := 91) (enck := (fun k : Int => i_ k)) (encv := (fun v_ : Pl => (.agg (encPl v_).toArray))) (b := mb) (kv := ym) (k := i) (d0 := pl0) (fun ww ss => ss.mem (i := 1) rfl) rfl rfl rfl (by kernel_rfl) (keyOk_int (by kernel_rfl)) (by kernel_rfl) rfl) ?_)
      refine A.goA [.p, .p] [(0, p_ bs), (7, i_ i), (6, vS ao (pre ++ [i]) co), (8, i_ (((mget ym i).getD pl0).pp))] [] T0 (by kernel_rfl) trivial ?_
      refine A.tn (A.seq (A.region (A.goP [.p, .p, .p, .ld 0, .p] [(0, p_ bs), (7, i_ i), (6, vS ao (pre ++ [i]) co), (8, i_ (((mget ym i).getD pl0).pp)), (45, (.map (some mk))), (46, i_ (((mget ym i).getD pl0).pp))] [bs] T0 (by kernel_rfl) trivial ?_)))
      rcases hk2 : mget kvk (((mget ym i).getD pl0).pp) with _ | m2
      · have hx2 := kx_none hk2
        refine A.cons (A.q (some 47) (.map none) (by kernel_rfl) (qt_as (mb_none hk2) (qt_lookup (kt := 3) (et := 93) (enck := (fun k : Int => i_ k)) (encv := encMB) (b := mk) (kv := kvk) (k := ((mget ym i).getD pl0).pp) (d0 := m0) (fun ww ss => ss.mem (i := 3) rfl) rfl rfl rfl (by kernel_rfl) (keyOk_int (by kernel_rfl)) (by kernel_rfl) rfl)) ?_)
        refine A.goP [.p] [(0, p_ bs), (6, vS ao (pre ++ [i]) co), (8, i_ (((mget ym i).getD pl0).pp)), (47, (.map none)), (48, i_ i)] [] T0 (by kernel_rfl) trivial ?_
        refine A.cons (A.q none (.tuple #[]) (by kernel_rfl) (qt_delNo (kt := 3) (et := 3) (enck := (fun k : Int => i_ k)) rfl rfl rfl (by kernel_rfl) (keyOk_int (by kernel_rfl))) ?_)
        refine A.done ?_
        refine A.tn (A.seq (A.seq (A.region (A.goP [.p, .p, .p, .ld 0, .p] [(0, p_ bs), (6, vS ao (pre ++ [i]) co), (8, i_ (((mget ym i).getD pl0).pp)), (52, (.map (some mk))), (53, i_ (((mget ym i).getD pl0).pp))] [bs] T0 (by kernel_rfl) trivial ?_))))
        refine A.cons (A.q (some 54) (.map none) (by kernel_rfl) (qt_as (mb_none hk2) (qt_lookup (kt := 3) (et := 93) (enck := (fun k : Int => i_ k)) (encv := encMB) (b := mk) (kv := kvk) (k := ((mget ym i).getD pl0).pp) (d0 := m0) (fun ww ss => ss.mem (i := 3) rfl) rfl rfl rfl (by kernel_rfl) (keyOk_int (by kernel_rfl)) (by kernel_rfl) rfl)) ?_)
        refine A.cons (A.q (some 55) (i_ 0) (by kernel_rfl) (qt_lenNo (kt := 3) (et := 3) rfl rfl (by kernel_rfl)) ?_)
        refine A.goA [.p, .p, .p, .p, .p] [(0, p_ bs), (6, vS ao (pre ++ [i]) co), (8, i_ (((mget ym i).getD pl0).pp)), (58, i_ (((mget ym i).getD pl0).pp)), (59, b_ ((((mget ym i).getD pl0).pp) == 0)), (60, b_ ((((mget ym i).getD pl0).pp) == 0))] [] T0 (by kernel_rfl) trivial ?_
        refine A.tn (A.cond (E := (((mget ym i).getD pl0).pp) == 0) rfl (fun e2 => ?_) (fun e2 => ?_))
        · skip
          have p2 := e2; try simp only [nrm] at p2
          refine A.seq ?_
          have hq : kx kvk = delF (kx kvk) (parA ym i) i := (delF_none (by unfold parA; exact hx2)).symm
          have hs_ : delF (kx kvk) (parA ym i) i (parA ym i) ≠ [] ∨ parA ym i = 0 := by unfold delF parA; rw [if_pos rfl, hx2]; first | (right; assumption) | (left; intro h_; simp [h_] at *; done) | (simp_all [mdel]; done) | grind
          refine A.region (A.goA [.p, .p, .p] [(4, vS ao (pre ++ [i]) co), (5, i_ 0)] [] T0 (by kernel_rfl) trivial ?_)
          refine A.tn (A.ret (A.tr (A.br (A.tr (A.br (A.setH [blk bs [(.map (some mb)), (.map (some mo)), (.map (some mk))] 96, mYI mb ym, mNI mo (mdel on ci), mDI mk kvk, kidI kvk, sI ao ((offC ym (kx kv) 40 ci).1) co] (cc rfl (cc rfl (cc rfl (cc rfl (cc rfl (cc (slC (by first | rfl | (simp; done) | (rw [← hp, off_stop hs_]) : (pre ++ [i]) = ((offC ym (kx kv) 40 ci).1))) rfl)))))) ?_))))))
          refine A.postK [0, 0, 0, 0, 0, 0] [vS ao (pre ++ [i]) co, i_ 0] (fun aa ww rr ss => ⟨rv_tmp rr rfl, rv_tmp rr rfl, trivial⟩) (kvk, ao, co) ?_ ?_ (by kernel_rfl)
          · show ((.tuple #[vS ao (pre ++ [i]) co, i_ 0]) : Value) = (.tuple #[vS ao ((offC ym (kx kv) 40 ci).1) co, i_ 0])
            first | rfl | (rw [← hp, off_stop hs_])
          · show kx kvk = (offC ym (kx kv) 40 ci).2
            first | assumption | (rw [hq, ← hp, off_stop hs_])
        · skip
          have p2 := e2; try simp only [nrm] at p2
          refine A.skip (A.tn (A.seq ?_))
          have hq : kx kvk = delF (kx kvk) (parA ym i) i := (delF_none (by unfold parA; exact hx2)).symm
          have hg_ : ¬(delF (kx kvk) (parA ym i) i (parA ym i) ≠ [] ∨ parA ym i = 0) := by unfold delF parA; rw [if_pos rfl, hx2]; rintro (h_ | h_) <;> first | exact h_ rfl | contradiction | exact h_ (List.eq_nil_of_length_eq_zero (by omega)) | (simp_all; done)
          refine A.region (A.goP [.p, .p] [(0, p_ bs), (6, vS ao (pre ++ [i]) co), (8, i_ (((mget ym i).getD pl0).pp)), (58, i_ (((mget ym i).getD pl0).pp)), (59, b_ ((((mget ym i).getD pl0).pp) == 0)), (62, vS ao (pre ++ [i]) co), (63, i_ (((mget ym i).getD pl0).pp))] [] T0 (by kernel_rfl) trivial ?_)
          refine A.cons (A.buildSlice 64 (e := 3) [i_ (((mget ym i).getD pl0).pp)] (by kernel_rfl) rfl (fun _ => by kernel_rfl) (fun b3 => [blk bs [(.map (some mb)), (.map (some mo)), (.map (some mk))] 96, mYI mb ym, mNI mo (mdel on ci), mDI mk kvk, kidI kvk, sI ao (pre ++ [i]) co, blk b3 [i_ (((mget ym i).getD pl0).pp)] 3]) (fun _ => rfl) ?_)
          intro b3
          refine A.cons (A.appendC (enc := encI) (xs := (pre ++ [i])) ([((mget ym i).getD pl0).pp]) 5 65 (e := 3) (z := (i_ 0)) (sz := 1) (by_ := 8) (by kernel_rfl) rfl rfl rfl (by kernel_rfl) (by kernel_rfl) (by rfl) (by decide) encI_len encI_one rfl (rd_blk (i := 6) rfl) (by (simp; omega)) (fun A4 c4 => [blk bs [(.map (some mb)), (.map (some mo)), (.map (some mk))] 96, mYI mb ym, mNI mo (mdel on ci), mDI mk kvk, kidI kvk, sI A4 ((pre ++ [i]) ++ ([((mget ym i).getD pl0).pp])) c4, blk b3 [i_ (((mget ym i).getD pl0).pp)] 3]) (fun _ _ => rfl) ?_)
          intro A4 c4
          refine A.goA [.p] [(0, p_ bs), (6, vS A4 ((pre ++ [i]) ++ ([((mget ym i).getD pl0).pp])) c4), (8, i_ (((mget ym i).getD pl0).pp)), (58, i_ (((mget ym i).getD pl0).pp)), (59, b_ ((((mget ym i).getD pl0).pp) == 0))] [] T0 (by kernel_rfl) trivial ?_
          refine A.tn (A.region (A.goA [.p, .p] [(0, p_ bs), (6, vS A4 ((pre ++ [i]) ++ ([((mget ym i).getD pl0).pp])) c4), (58, i_ (((mget ym i).getD pl0).pp)), (59, b_ ((((mget ym i).getD pl0).pp) == 0)), (7, i_ (((mget ym i).getD pl0).pp))] [] T0 (by kernel_rfl) trivial ?_))
          refine A.bn (A.tn ?_)
          have hnx : ((pre ++ [i]) ++ (offC ym (kx kvk) n (parA ym i)).1, (offC ym (kx kvk) n (parA ym i)).2) = offC ym (kx kv) 40 ci ∧ depA ym n (parA ym i) := by rw [hq, ← hp, off_go hg_]; exact ⟨by simp, hd.resolve_left fun h_ => hg_ (.inr h_)⟩
          refine A.setH [blk bs [(.map (some mb)), (.map (some mo)), (.map (some mk))] 96, mYI mb ym, mNI mo (mdel on ci), mDI mk kvk, kidI kvk, sI A4 ((pre ++ [i]) ++ [((mget ym i).getD pl0).pp]) c4, blk b3 [i_ (((mget ym i).getD pl0).pp)] 3] (cc rfl (cc rfl (cc rfl (cc rfl (cc rfl (cc (slC (by first | rfl | (simp; done) | (rw [← hp, off_stop hs_]) : (pre ++ [i]) ++ ([((mget ym i).getD pl0).pp]) = ((pre ++ [i]) ++ [((mget ym i).getD pl0).pp]))) rfl)))))) ?_
          refine A.sub [(0, p_ bs), (6, vS A4 ((pre ++ [i]) ++ [((mget ym i).getD pl0).pp]) c4), (58, i_ (((mget ym i).getD pl0).pp)), (59, b_ ((((mget ym i).getD pl0).pp) == 0)), (7, i_ (((mget ym i).getD pl0).pp))] (by exact ⟨rfl, congrArg (fun z_ : List Int => some (Value.slice A4 z_.length c4)) (by first | rfl | (simp; done) | (rw [← hp, off_stop hs_]) : (pre ++ [i]) ++ ([((mget ym i).getD pl0).pp]) = ((pre ++ [i]) ++ [((mget ym i).getD pl0).pp])), rfl, rfl, rfl, trivial⟩) ?_
          refine A.next (((mget ym i).getD pl0).pp, n, pre ++ [i], kvk, A4, c4) ⟨(by exact hnx.1), (by exact hnx.2), (by (simp; omega))⟩ (by (simp; done)) ?_
          exact A.hereK [0, 0, 0, 0, 0, 0] (by exact ⟨rfl, rfl, rfl, trivial⟩) (by kernel_rfl)
      · have hx2 := kx_some hk2
        refine A.reshape [4] (fun b2 : Nat => m2.mb = some b2) (fun b2 => [kidI (mdel kvk (((mget ym i).getD pl0).pp)), mNI b2 m2.mx]) (fun b2 => [kidI (mdel kvk (((mget ym i).getD pl0).pp)), mNI b2 m2.mx, blk bs [(.map (some mb)), (.map (some mo)), (.map (some mk))] 96, mYI mb ym, mNI mo (mdel on ci), mDI mk kvk, sI ao (pre ++ [i]) co]) rfl (fun w hs => kid_open kvk (((mget ym i).getD pl0).pp) hk2 hs) (fun _ => rfl) (fun b2 hm2 => ?_)
        refine A.cons (A.q (some 47) (.map (some b2)) (by kernel_rfl) (qt_as (mb_some hk2 hm2) (qt_lookup (kt := 3) (et := 93) (enck := (fun k : Int => i_ k)) (encv := encMB) (b := mk) (kv := kvk) (k := ((mget ym i).getD pl0).pp) (d0 := m0) (fun ww ss => ss.mem (i := 5) rfl) rfl rfl rfl (by kernel_rfl) (keyOk_int (by kernel_rfl)) (by kernel_rfl) rfl)) ?_)
        refine A.goP [.p] [(0, p_ bs), (6, vS ao (pre ++ [i]) co), (8, i_ (((mget ym i).getD pl0).pp)), (47, (.map (some b2))), (48, i_ i)] [] T0 (by kernel_rfl) trivial ?_
        refine A.cons (A.mapDel (kt := 3) (et := 3) (enck := (fun k : Int => i_ k)) (encv := (fun x : Int => i_ x)) (kv := m2.mx) (k := i) 1 [kidI (mdel kvk (((mget ym i).getD pl0).pp)), mNI b2 (mdel m2.mx i), blk bs [(.map (some mb)), (.map (some mo)), (.map (some mk))] 96, mYI mb ym, mNI mo (mdel on ci), mDI mk kvk, sI ao (pre ++ [i]) co] (by kernel_rfl) rfl rfl rfl (by kernel_rfl) (keyOk_int (by kernel_rfl)) rfl rfl ?_)
        refine A.done ?_
        refine A.tn (A.seq (A.seq (A.region (A.goP [.p, .p, .p, .ld 2, .p] [(0, p_ bs), (6, vS ao (pre ++ [i]) co), (8, i_ (((mget ym i).getD pl0).pp)), (52, (.map (some mk))), (53, i_ (((mget ym i).getD pl0).pp))] [bs] T0 (by kernel_rfl) trivial ?_))))
        refine A.cons (A.q (some 54) (.map (some b2)) (by kernel_rfl) (qt_as (mb_some hk2 hm2) (qt_lookup (kt := 3) (et := 93) (enck := (fun k : Int => i_ k)) (encv := encMB) (b := mk) (kv := kvk) (k := ((mget ym i).getD pl0).pp) (d0 := m0) (fun ww ss => ss.mem (i := 5) rfl) rfl rfl rfl (by kernel_rfl) (keyOk_int (by kernel_rfl)) (by kernel_rfl) rfl)) ?_)
        refine A.cons (A.q (some 55) (i_ ((mdel m2.mx i).length : Int)) (by kernel_rfl) (qt_lenMap (kt := 3) (et := 3) (enck := (fun k : Int => i_ k)) (encv := (fun x : Int => i_ x)) (b := b2) (kv := mdel m2.mx i) (fun ww ss => ss.mem (i := 1) rfl) rfl rfl (by kernel_rfl)) ?_)
        refine A.goA [.p, .p, .o, .p, .p, .cl] [(0, p_ bs), (6, vS ao (pre ++ [i]) co), (8, i_ (((mget ym i).getD pl0).pp)), (60, b_ ((decide (((mdel m2.mx i).length : Int) > 0)) || ((((mget ym i).getD pl0).pp) == 0)))] [] T0 (by kernel_rfl) trivial ?_
        refine A.tn (A.cond (E := (decide (((mdel m2.mx i).length : Int) > 0)) || ((((mget ym i).getD pl0).pp) == 0)) rfl (fun e3 => ?_) (fun e3 => ?_))
        · skip
          have p3 := e3; try simp only [nrm] at p3
          refine A.seq (A.reshape [5, 0, 0] (fun _ : Unit => True) (fun _ => [mDI mk (mput kvk (((mget ym i).getD pl0).pp) (⟨some b2, mdel m2.mx i⟩ : MB)), kidI (mput kvk (((mget ym i).getD pl0).pp) (⟨some b2, mdel m2.mx i⟩ : MB))]) (fun _ => [mDI mk (mput kvk (((mget ym i).getD pl0).pp) (⟨some b2, mdel m2.mx i⟩ : MB)), kidI (mput kvk (((mget ym i).getD pl0).pp) (⟨some b2, mdel m2.mx i⟩ : MB)), blk bs [(.map (some mb)), (.map (some mo)), (.map (some mk))] 96, mYI mb ym, mNI mo (mdel on ci), sI ao (pre ++ [i]) co]) rfl (fun w hs => kid_fold mk kvk kvk (((mget ym i).getD pl0).pp) b2 (mdel m2.mx i) _ (by rfl) (hk2.trans (congrArg some (mb_eta hm2))) hs) (fun _ => rfl) (fun _ _ => ?_))
          have hq : kx (mput kvk (((mget ym i).getD pl0).pp) (⟨some b2, mdel m2.mx i⟩ : MB)) = delF (kx kvk) (parA ym i) i := by funext q; rw [kx_put]; unfold delF; simp only []; split <;> simp_all [parA]
          have hs_ : delF (kx kvk) (parA ym i) i (parA ym i) ≠ [] ∨ parA ym i = 0 := by unfold delF parA; rw [if_pos rfl, hx2]; first | (right; assumption) | (left; intro h_; simp [h_] at *; done) | (simp_all [mdel]; done) | grind
          refine A.region (A.goA [.p, .p, .p] [(4, vS ao (pre ++ [i]) co), (5, i_ 0)] [] T0 (by kernel_rfl) trivial ?_)
          refine A.tn (A.ret (A.tr (A.br (A.tr (A.br (A.setH [mDI mk (mput kvk (((mget ym i).getD pl0).pp) (⟨some b2, mdel m2.mx i⟩ : MB)), kidI (mput kvk (((mget ym i).getD pl0).pp) (⟨some b2, mdel m2.mx i⟩ : MB)), blk bs [(.map (some mb)), (.map (some mo)), (.map (some mk))] 96, mYI mb ym, mNI mo (mdel on ci), sI ao ((offC ym (kx kv) 40 ci).1) co] (cc rfl (cc rfl (cc rfl (cc rfl (cc rfl (cc (slC (by first | rfl | (simp; done) | (rw [← hp, off_stop hs_]) : (pre ++ [i]) = ((offC ym (kx kv) 40 ci).1))) rfl)))))) ?_))))))
          refine A.postK [2, 2, 2, 0, 0, 0] [vS ao (pre ++ [i]) co, i_ 0] (fun aa ww rr ss => ⟨rv_tmp rr rfl, rv_tmp rr rfl, trivial⟩) ((mput kvk (((mget ym i).getD pl0).pp) (⟨some b2, mdel m2.mx i⟩ : MB)), ao, co) ?_ ?_ (by kernel_rfl)
          · show ((.tuple #[vS ao (pre ++ [i]) co, i_ 0]) : Value) = (.tuple #[vS ao ((offC ym (kx kv) 40 ci).1) co, i_ 0])
            first | rfl | (rw [← hp, off_stop hs_])
          · show kx (mput kvk (((mget ym i).getD pl0).pp) (⟨some b2, mdel m2.mx i⟩ : MB)) = (offC ym (kx kv) 40 ci).2
            first | assumption | (rw [hq, ← hp, off_stop hs_])
        · skip
          have p3 := e3; try simp only [nrm] at p3
          refine A.skip (A.tn (A.seq (A.reshape [5, 0, 0] (fun _ : Unit => True) (fun _ => [mDI mk (mput kvk (((mget ym i).getD pl0).pp) (⟨some b2, mdel m2.mx i⟩ : MB)), kidI (mput kvk (((mget ym i).getD pl0).pp) (⟨some b2, mdel m2.mx i⟩ : MB))]) (fun _ => [mDI mk (mput kvk (((mget ym i).getD pl0).pp) (⟨some b2, mdel m2.mx i⟩ : MB)), kidI (mput kvk (((mget ym i).getD pl0).pp) (⟨some b2, mdel m2.mx i⟩ : MB)), blk bs [(.map (some mb)), (.map (some mo)), (.map (some mk))] 96, mYI mb ym, mNI mo (mdel on ci), sI ao (pre ++ [i]) co]) rfl (fun w hs => kid_fold mk kvk kvk (((mget ym i).getD pl0).pp) b2 (mdel m2.mx i) _ (by rfl) (hk2.trans (congrArg some (mb_eta hm2))) hs) (fun _ => rfl) (fun _ _ => ?_))))
          have hq : kx (mput kvk (((mget ym i).getD pl0).pp) (⟨some b2, mdel m2.mx i⟩ : MB)) = delF (kx kvk) (parA ym i) i := by funext q; rw [kx_put]; unfold delF; simp only []; split <;> simp_all [parA]
          have hg_ : ¬(delF (kx kvk) (parA ym i) i (parA ym i) ≠ [] ∨ parA ym i = 0) := by unfold delF parA; rw [if_pos rfl, hx2]; rintro (h_ | h_) <;> first | exact h_ rfl | contradiction | exact h_ (List.eq_nil_of_length_eq_zero (by omega)) | (simp_all; done)
          refine A.region (A.goP [.p, .p] [(0, p_ bs), (6, vS ao (pre ++ [i]) co), (8, i_ (((mget ym i).getD pl0).pp)), (62, vS ao (pre ++ [i]) co), (63, i_ (((mget ym i).getD pl0).pp))] [] T0 (by kernel_rfl) trivial ?_)
          refine A.cons (A.buildSlice 64 (e := 3) [i_ (((mget ym i).getD pl0).pp)] (by kernel_rfl) rfl (fun _ => by kernel_rfl) (fun b5 => [mDI mk (mput kvk (((mget ym i).getD pl0).pp) (⟨some b2, mdel m2.mx i⟩ : MB)), kidI (mput kvk (((mget ym i).getD pl0).pp) (⟨some b2, mdel m2.mx i⟩ : MB)), blk bs [(.map (some mb)), (.map (some mo)), (.map (some mk))] 96, mYI mb ym, mNI mo (mdel on ci), sI ao (pre ++ [i]) co, blk b5 [i_ (((mget ym i).getD pl0).pp)] 3]) (fun _ => rfl) ?_)
          intro b5
          refine A.cons (A.appendC (enc := encI) (xs := (pre ++ [i])) ([((mget ym i).getD pl0).pp]) 5 65 (e := 3) (z := (i_ 0)) (sz := 1) (by_ := 8) (by kernel_rfl) rfl rfl rfl (by kernel_rfl) (by kernel_rfl) (by rfl) (by decide) encI_len encI_one rfl (rd_blk (i := 6) rfl) (by (simp; omega)) (fun A6 c6 => [mDI mk (mput kvk (((mget ym i).getD pl0).pp) (⟨some b2, mdel m2.mx i⟩ : MB)), kidI (mput kvk (((mget ym i).getD pl0).pp) (⟨some b2, mdel m2.mx i⟩ : MB)), blk bs [(.map (some mb)), (.map (some mo)), (.map (some mk))] 96, mYI mb ym, mNI mo (mdel on ci), sI A6 ((pre ++ [i]) ++ ([((mget ym i).getD pl0).pp])) c6, blk b5 [i_ (((mget ym i).getD pl0).pp)] 3]) (fun _ _ => rfl) ?_)
          intro A6 c6
          refine A.goA [.p] [(0, p_ bs), (6, vS A6 ((pre ++ [i]) ++ ([((mget ym i).getD pl0).pp])) c6), (8, i_ (((mget ym i).getD pl0).pp))] [] T0 (by kernel_rfl) trivial ?_
          refine A.tn (A.region (A.goA [.p, .p] [(0, p_ bs), (6, vS A6 ((pre ++ [i]) ++ ([((mget ym i).getD pl0).pp])) c6), (7, i_ (((mget ym i).getD pl0).pp))] [] T0 (by kernel_rfl) trivial ?_))
          refine A.bn (A.tn ?_)
          have hnx : ((pre ++ [i]) ++ (offC ym (kx (mput kvk (((mget ym i).getD pl0).pp) (⟨some b2, mdel m2.mx i⟩ : MB))) n (parA ym i)).1, (offC ym (kx (mput kvk (((mget ym i).getD pl0).pp) (⟨some b2, mdel m2.mx i⟩ : MB))) n (parA ym i)).2) = offC ym (kx kv) 40 ci ∧ depA ym n (parA ym i) := by rw [hq, ← hp, off_go hg_]; exact ⟨by simp, hd.resolve_left fun h_ => hg_ (.inr h_)⟩
          refine A.setH [mDI mk (mput kvk (((mget ym i).getD pl0).pp) (⟨some b2, mdel m2.mx i⟩ : MB)), kidI (mput kvk (((mget ym i).getD pl0).pp) (⟨some b2, mdel m2.mx i⟩ : MB)), blk bs [(.map (some mb)), (.map (some mo)), (.map (some mk))] 96, mYI mb ym, mNI mo (mdel on ci), sI A6 ((pre ++ [i]) ++ [((mget ym i).getD pl0).pp]) c6, blk b5 [i_ (((mget ym i).getD pl0).pp)] 3] (cc rfl (cc rfl (cc rfl (cc rfl (cc rfl (cc (slC (by first | rfl | (simp; done) | (rw [← hp, off_stop hs_]) : (pre ++ [i]) ++ ([((mget ym i).getD pl0).pp]) = ((pre ++ [i]) ++ [((mget ym i).getD pl0).pp]))) rfl)))))) ?_
          refine A.sub [(0, p_ bs), (6, vS A6 ((pre ++ [i]) ++ [((mget ym i).getD pl0).pp]) c6), (7, i_ (((mget ym i).getD pl0).pp))] (by exact ⟨rfl, congrArg (fun z_ : List Int => some (Value.slice A6 z_.length c6)) (by first | rfl | (simp; done) | (rw [← hp, off_stop hs_]) : (pre ++ [i]) ++ ([((mget ym i).getD pl0).pp]) = ((pre ++ [i]) ++ [((mget ym i).getD pl0).pp])), rfl, trivial⟩) ?_
          refine A.next (((mget ym i).getD pl0).pp, n, pre ++ [i], mput kvk (((mget ym i).getD pl0).pp) (⟨some b2, mdel m2.mx i⟩ : MB), A6, c6) ⟨(by exact hnx.1), (by exact hnx.2), (by (simp; omega))⟩ (by (simp; done)) ?_
          exact A.hereK [2, 2, 2, 0, 0, 0] (by exact ⟨rfl, rfl, rfl, trivial⟩) (by kernel_rfl)
end Go.Proofs.Ytinnnoimmioaiaa
