/- What the functions of this layer do, proved operation by operation, for all arguments, under the conditions that each theorem states. -/
import Derived.Test.YtinnnoimmioaiaaProg
import Derived.Test.YtinnnoimmioaiaaHier2
import Derived.Test.YtinnnoimmioaiaaL2
namespace Go.Proofs.Ytinnnoimmioaiaa
open Go V
set_option linter.unusedVariables false
set_option linter.unusedSimpArgs false
set_option maxHeartbeats 4000000
set_option maxRecDepth 100000
def gcl (kv : List (Int × Cl)) (k : Int) : Cl := (mget kv k).getD cl0
def gce (kv : List (Int × Cl)) (k : Int) : Int := if (mget kv k).isSome = true then 0 else 6
theorem gce_t {kv : List (Int × Cl)} {k : Int} (h : gce kv k = 0) : mget kv k ≠ none := by unfold gce at h; cases hm : mget kv k with | none => simp [hm] at h | some v => simp
theorem gce_f {kv : List (Int × Cl)} {k : Int} (h : gce kv k ≠ 0) : mget kv k = none := by unfold gce at h; cases hm : mget kv k with | none => rfl | some v => simp [hm] at h
def sharesH (kv : List (Int × Cl)) (k : Int) : Bool := k == 0 || decide ((ofC (gcl kv k).la (gcl kv k).lb (gcl kv k).lc) > 1)
/-- the class so far above -/
def upA (kv : List (Int × Cl)) (ci : Int) : Nat → Int
  | 0 => ci
  | k + 1 => (gcl kv (upA kv ci k)).hp
def upL (kv : List (Int × Cl)) (ci : Int) (k : Nat) : List Int := (List.range k).map (upA kv ci)
theorem upL_snoc (kv : List (Int × Cl)) (ci : Int) (k : Nat) : upL kv ci k ++ [upA kv ci k] = upL kv ci (k + 1) := by unfold upL; rw [List.range_succ]; simp
theorem up_end {kv : List (Int × Cl)} {ci : Int} {d k : Nat} (hd : ∀ j, j < d → mget kv (upA kv ci j) ≠ none) (hk : k ≤ d) (h : ¬gce kv (upA kv ci k) = 0) : k = d := by
  rcases Nat.lt_or_ge k d with h1 | h1
  · exact absurd (gce_f h) (hd k h1)
  · omega
theorem up_lt {kv : List (Int × Cl)} {ci : Int} {d k : Nat} (he : mget kv (upA kv ci d) = none) (hk : k ≤ d) (h : gce kv (upA kv ci k) = 0) : k < d := by
  rcases Nat.lt_or_ge k d with h1 | h1
  · exact h1
  · have : k = d := by omega
    subst this; exact absurd he (gce_t h)
theorem upL_len (kv : List (Int × Cl)) (ci : Int) (k : Nat) : (upL kv ci k).length = k := by simp [upL]

theorem get_nil (ci : Int) (w : World) :
    Calls Try.prog 57 #[n_, i_ ci] w fun e w' => e = .returned (.tuple #[(.agg #[i_ 0, i_ 0, b_ false, u_ 0, u_ 0, u_ 0, u_ 0, u_ 0, u_ 0, u_ 0, u_ 0, u_ 0, i_ 0, i_ 0]), i_ 7]) ∧ Fr [] w w' := by
  refine calls_of (args := [n_, i_ ci]) (penv [n_, i_ ci]) [] [] Try.func57 rfl rfl (look_penv _) (HS.nil w) ?_
  refine A.sr (A.n1 [.al, .p] [] (fun b1 => [(4, p_ b1)]) (fun b1 => blk b1 [i_ 0, i_ 0, b_ false, u_ 0, u_ 0, u_ 0, u_ 0, u_ 0, u_ 0, u_ 0, u_ 0, u_ 0, i_ 0, i_ 0] 98) ?_)
  intro b1
  refine A.tn (A.seq (A.sr (A.g [.p, .p] [] [(9, b_ true)] ?_)))
  refine A.tn (A.ct (A.sr (A.gs [.p, .st 0, .p] [0, 1, 9] [(5, i_ 7)] [] [b1] ?_)))
  refine A.tn (A.ret (A.tr (A.postQ [(.agg #[i_ 0, i_ 0, b_ false, u_ 0, u_ 0, u_ 0, u_ 0, u_ 0, u_ 0, u_ 0, u_ 0, u_ 0, i_ 0, i_ 0]), i_ 7] (fun aa ww rr ss => ⟨rv_cellN (vs := [i_ 0, i_ 0, b_ false, u_ 0, u_ 0, u_ 0, u_ 0, u_ 0, u_ 0, u_ 0, u_ 0, u_ 0, i_ 0, i_ 0]) rr ss rfl (by kernel_rfl) (reads_blk (i := 0) rfl rfl), rv_tmp rr rfl, trivial⟩) ?_)))
  rfl

theorem get_ok (bt mb : Nat) (kv : List (Int × Cl)) (ci : Int) (w : World) (r0 : (blk bt [(.map (some mb))] 124).holds w) (r1 : (mHI mb kv).holds w) :
    Calls Try.prog 57 #[p_ bt, i_ ci] w fun e w' => e = .returned (.tuple #[(.agg (encCl (gcl kv ci)).toArray), i_ (gce kv ci)]) ∧ Fr [] w w' := by
  refine calls_of (args := [p_ bt, i_ ci]) (penv [p_ bt, i_ ci]) [] [] Try.func57 rfl rfl (look_penv _) (HS.nil w) ?_
  refine A.sr (A.n1 [.al, .p] [] (fun b1 => [(4, p_ b1)]) (fun b1 => blk b1 [i_ 0, i_ 0, b_ false, u_ 0, u_ 0, u_ 0, u_ 0, u_ 0, u_ 0, u_ 0, u_ 0, u_ 0, i_ 0, i_ 0] 98) ?_)
  intro b1
  refine A.tn (A.seq (A.sr (A.g [.p, .p] [] [(9, b_ false)] ?_)))
  refine A.tn (A.cf (A.skip (tsr (A.gpk [.p, .p, .p, .rd [(.map (some mb))], .p] [0, 1, 9] [(15, (.map (some mb))), (16, i_ ci)] [] (fun κ => κ.rd ⟨bt, 0, none⟩ [(.map (some mb))] ∧ True) ⟨(reads_oldblk r0 rfl), trivial⟩ ?_))))
  refine A.cons (A.q (some 17) (.tuple #[(.agg (encCl ((mget kv ci).getD cl0)).toArray), b_ ((mget kv ci).isSome)]) (by kernel_rfl) (qt_lookupOk (kt := 3) (et := 98) (enck := (fun k : Int => i_ k)) (encv := (fun v_ : Cl => (.agg (encCl v_).toArray))) (b := mb) (kv := kv) (k := ci) (d0 := cl0) (fun ww ss => old_item ss r1) rfl rfl rfl (by kernel_rfl) keyOk_I (by kernel_rfl) rfl) ?_)
  refine A.g1 [.p, .p, .p, .al, .st 1, .p] [15, 16, 17] (fun b2 => [(6, p_ b2), (7, b_ ((mget kv ci).isSome))]) (fun b2 => []) (fun b2 => blk b2 (encCl ((mget kv ci).getD cl0)) 98) (fun b2 => [b2]) ?_
  intro b2
  refine A.tn (A.seq (A.sr (A.g [.p, .p] [7] [(21, b_ (!((mget kv ci).isSome)))] ?_)))
  refine A.tn (A.cn (!((mget kv ci).isSome)) (fun e1 => ?_) (fun e1 => ?_))
  · have p1 := e1; try simp only [nrm] at p1
    refine A.sr (A.gs [.p, .st 0, .p] [6, 21] [(5, i_ 6)] [] [b1] ?_)
    refine A.tn (A.ret (A.tr (A.postQ [(.agg #[i_ 0, i_ 0, b_ false, u_ 0, u_ 0, u_ 0, u_ 0, u_ 0, u_ 0, u_ 0, u_ 0, u_ 0, i_ 0, i_ 0]), i_ 6] (fun aa ww rr ss => ⟨rv_cellN (vs := [i_ 0, i_ 0, b_ false, u_ 0, u_ 0, u_ 0, u_ 0, u_ 0, u_ 0, u_ 0, u_ 0, u_ 0, i_ 0, i_ 0]) rr ss rfl (by kernel_rfl) (reads_blk (i := 0) rfl rfl), rv_tmp rr rfl, trivial⟩) ?_)))
    show ((.tuple #[(.agg #[i_ 0, i_ 0, b_ false, u_ 0, u_ 0, u_ 0, u_ 0, u_ 0, u_ 0, u_ 0, u_ 0, u_ 0, i_ 0, i_ 0]), i_ 6]) : Value) = (.tuple #[(.agg (encCl (gcl kv ci)).toArray), i_ (gce kv ci)])
    ((have hn_ : mget kv ci = none := by simp_all); simp [gcl, gce, hn_]; rfl)
  have p1 := e1; try simp only [nrm] at p1
  refine A.skip (tsr (A.gs [.ld 1, .st 0, .p] [6, 21] [(5, i_ 0)] [(0, blk b1 (encCl ((mget kv ci).getD cl0)) 98)] [b2, b1] ?_))
  refine A.tn (A.ret (A.postQ [(.agg (encCl ((mget kv ci).getD cl0)).toArray), i_ 0] (fun aa ww rr ss => ⟨rv_cellN (vs := (encCl ((mget kv ci).getD cl0))) rr ss rfl (by kernel_rfl) (reads_blk (i := 0) rfl rfl), rv_tmp rr rfl, trivial⟩) ?_))
  show ((.tuple #[(.agg (encCl ((mget kv ci).getD cl0)).toArray), i_ 0]) : Value) = (.tuple #[(.agg (encCl (gcl kv ci)).toArray), i_ (gce kv ci)])
  ((simp_all [gcl, gce]; done))

theorem hshares_spec (bt mb : Nat) (kv : List (Int × Cl)) (ci : Int) (w : World) (r0 : (blk bt [(.map (some mb))] 124).holds w) (r1 : (mHI mb kv).holds w) :
    Calls Try.prog 112 #[p_ bt, i_ ci] w fun e w' => e = .returned (b_ (sharesH kv ci)) ∧ Fr [] w w' := by
  refine calls_of (args := [p_ bt, i_ ci]) (penv [p_ bt, i_ ci]) [] [] Try.func112 rfl rfl (look_penv _) (HS.nil w) ?_
  refine A.sr (A.g [.p] [] [] ?_)
  refine tsr (A.gp [.p, .p, .p] [] [(7, b_ (ci == 0))] ?_)
  refine A.bool (ci == 0) (fun e1 => ?_) (fun e1 => ?_)
  · refine A.sv 7 (b_ true) (cgB e1) ?_
    refine A.g [.sk, .sk, .sk, .sk, .sk, .sk, .sk, .p, .p] [0, 1, 7] [(4, b_ true)] ?_
    refine A.tn (A.ret (A.pQ [b_ true] ?_))
    show ((b_ true) : Value) = (b_ (sharesH kv ci))
    simp_all [sharesH, gcl]
  refine A.sv 7 (b_ false) (cgB e1) ?_
  refine A.gpk [.p, .p, .p, .rd [(.map (some mb))], .p] [0, 1] [(11, (.map (some mb))), (12, i_ ci)] [] (fun κ => κ.rd ⟨bt, 0, none⟩ [(.map (some mb))] ∧ True) ⟨(reads_oldblk r0 rfl), trivial⟩ ?_
  refine A.cons (A.q (some 13) (.agg (encCl ((mget kv ci).getD cl0)).toArray) (by kernel_rfl) (qt_lookup (kt := 3) (et := 98) (enck := (fun k : Int => i_ k)) (encv := (fun v_ : Cl => (.agg (encCl v_).toArray))) (b := mb) (kv := kv) (k := ci) (d0 := cl0) (fun ww ss => old_item ss r1) rfl rfl rfl (by kernel_rfl) keyOk_I (by kernel_rfl) rfl) ?_)
  refine A.gk [.cq (b_ (decide ((ofC ((mget kv ci).getD cl0).la ((mget kv ci).getD cl0).lb ((mget kv ci).getD cl0).lc) > 1))), .p, .p] [7, 11, 12, 13] [(4, b_ (decide ((ofC ((mget kv ci).getD cl0).la ((mget kv ci).getD cl0).lb ((mget kv ci).getD cl0).lc) > 1)))] [] (fun κ => κ.call 58 [(.agg (encCl ((mget kv ci).getD cl0)).toArray)] (b_ (decide ((ofC ((mget kv ci).getD cl0).la ((mget kv ci).getD cl0).lb ((mget kv ci).getD cl0).lc) > 1))) ∧ True) ⟨(fun ww ss => shares_spec ((mget kv ci).getD cl0) ww), trivial⟩ ?_
  refine A.tn (A.ret (A.pQ [b_ (decide ((ofC ((mget kv ci).getD cl0).la ((mget kv ci).getD cl0).lb ((mget kv ci).getD cl0).lc) > 1))] ?_))
  show ((b_ (decide ((ofC ((mget kv ci).getD cl0).la ((mget kv ci).getD cl0).lb ((mget kv ci).getD cl0).lc) > 1))) : Value) = (b_ (sharesH kv ci))
  simp_all [sharesH, gcl]

theorem up_nil (ci : Int) (w : World) :
    Calls Try.prog 143 #[n_, i_ ci] w fun e w' => e = .returned e_ ∧ Fr [] w w' := by
  refine calls_of (args := [n_, i_ ci]) (penv [n_, i_ ci]) [] [] Try.func143 rfl rfl (look_penv _) (HS.nil w) ?_
  refine A.sr (A.g [.p] [] [] ?_)
  refine tsr (A.g [.p] [] [(5, e_)] ?_)
  refine A.tn (A.block (A.unroll 400 ?_))
  refine A.turnk (m := 399) ?_
  refine A.block (A.sr (A.goA1 [.p, .p, .cq (.tuple #[(.agg #[i_ 0, i_ 0, b_ false, u_ 0, u_ 0, u_ 0, u_ 0, u_ 0, u_ 0, u_ 0, u_ 0, u_ 0, i_ 0, i_ 0]), i_ 7]), .p, .p, .p, .al, .st 0, .p] [0, 1, 5, 6, 7] (fun b1 => [(0, n_), (1, i_ ci), (5, e_), (6, p_ b1), (7, i_ 7)]) (fun b1 => [blk b1 [i_ 0, i_ 0, b_ false, u_ 0, u_ 0, u_ 0, u_ 0, u_ 0, u_ 0, u_ 0, u_ 0, u_ 0, i_ 0, i_ 0] 98]) (fun b1 => [b1]) (fun _ => (fun κ => κ.call 57 [n_, i_ ci] (.tuple #[(.agg #[i_ 0, i_ 0, b_ false, u_ 0, u_ 0, u_ 0, u_ 0, u_ 0, u_ 0, u_ 0, u_ 0, u_ 0, i_ 0, i_ 0]), i_ 7]) ∧ True)) (fun _ => by kernel_rfl) (fun b1 => ⟨(fun ww ss => get_nil ci ww), trivial⟩) ?_))
  intro b1
  refine A.tn (A.seq (A.sr (A.g [.p, .p] [7] [(15, b_ true)] ?_)))
  refine A.tn (A.ct (A.sr (A.g [.p, .p] [0, 1, 5, 6, 15] [(4, e_)] ?_)))
  refine A.tn (A.ret (A.tr (A.br (A.tr (A.br (A.pQ [e_] ?_))))))
  rfl

theorem up_ok (bt mb : Nat) (kv : List (Int × Cl)) (ci : Int) (d : Nat) (hd : ∀ j, j < d → mget kv (upA kv ci j) ≠ none) (he : mget kv (upA kv ci d) = none) (hd7 : d ≤ 1000) (w : World) (r0 : (blk bt [(.map (some mb))] 124).holds w) (r1 : (mHI mb kv).holds w) (hs : HS w (feet []) [] w) :
    Calls Try.prog 143 #[p_ bt, i_ ci] w fun e w' => ∃ zz, e = .returned ((fun (zz : (Option Addr) × Nat) => match zz with | (al', cl') => (vS al' (upL kv ci d) cl')) zz) ∧ (fun (zz : (Option Addr) × Nat) => match zz with | (al', cl') => True) zz ∧ Turn [] ((fun (zz : (Option Addr) × Nat) => match zz with | (al', cl') => [sI al' (upL kv ci d) cl']) zz) w w' := by
  refine calls_of (args := [p_ bt, i_ ci]) (penv [p_ bt, i_ ci]) (feet []) [] Try.func143 rfl rfl (look_penv _) hs ?_
  refine A.sr (A.g [.p] [] [] ?_)
  refine tsr (A.g [.p] [] [(5, e_)] ?_)
  refine A.tn (A.block (A.ownNil 3 1 [sI none ([] : List Int) 0] rfl ?_))
  refine A.sv 1 (i_ (upA kv ci 0)) (cgI (by rfl)) ?_
  refine A.setH [sI none (upL kv ci 0) 0] (cc (slC (by rfl : ([] : List Int) = (upL kv ci 0))) rfl) ?_
  refine A.sv 5 (vS none (upL kv ci 0) 0) (congrArg (fun z_ : List Int => some (Value.slice none z_.length 0)) (by rfl : ([] : List Int) = (upL kv ci 0))) ?_
  refine A.loop (fun (zz : Nat × (Option Addr) × Nat) => match zz with | (k, ao, co) => [(0, p_ bt), (5, vS ao (upL kv ci k) co), (1, i_ (upA kv ci k))]) (fun (zz : Nat × (Option Addr) × Nat) => match zz with | (k, ao, co) => [sI ao (upL kv ci k) co]) (fun (zz : Nat × (Option Addr) × Nat) => match zz with | (k, ao, co) => (k ≤ d)) (fun (zz : Nat × (Option Addr) × Nat) => match zz with | (k, ao, co) => d + 1 - k) (0, none, 0) (by omega) ?_ ?_
  · exact A.hK [0]
  rintro ⟨k, ao, co⟩ hk
  have hk : k ≤ d := hk
  refine A.block (A.sr (A.goA1 [.p, .p, .cq (.tuple #[(.agg (encCl (gcl kv (upA kv ci k))).toArray), i_ (gce kv (upA kv ci k))]), .p, .p, .p, .al, .st 1, .p] [0, 5, 1, 6, 7] (fun b2 => [(0, p_ bt), (5, vS ao (upL kv ci k) co), (1, i_ (upA kv ci k)), (6, p_ b2), (7, i_ (gce kv (upA kv ci k)))]) (fun b2 => [sI ao (upL kv ci k) co, blk b2 (encCl (gcl kv (upA kv ci k))) 98]) (fun b2 => [b2]) (fun _ => (fun κ => κ.call 57 [p_ bt, i_ (upA kv ci k)] (.tuple #[(.agg (encCl (gcl kv (upA kv ci k))).toArray), i_ (gce kv (upA kv ci k))]) ∧ True)) (fun _ => by kernel_rfl) (fun b2 => ⟨(fun ww ss => get_ok bt mb kv (upA kv ci k) ww (old_item ss r0) (old_item ss r1)), trivial⟩) ?_))
  intro b2
  refine A.tn (A.seq (A.sr (A.g [.p, .p] [7] [(15, b_ ((gce kv (upA kv ci k)) != 0))] ?_)))
  refine A.tn (A.cn ((gce kv (upA kv ci k)) != 0) (fun e1 => ?_) (fun e1 => ?_))
  · have p1 := e1; try simp only [nrm] at p1
    refine A.sr (A.g [.p, .p] [0, 5, 1, 6, 15] [(4, vS ao (upL kv ci k) co)] ?_)
    refine A.tn (A.ret (A.tr (A.br (A.tr (A.br (A.setH [sI ao (upL kv ci d) co, blk b2 (encCl (gcl kv (upA kv ci k))) 98] (cc (slC (by rw [up_end hd hk (by assumption)] : (upL kv ci k) = (upL kv ci d))) rfl) ?_))))))
    refine A.pK [0] [vS ao (upL kv ci k) co] (ao, co) ?_ ?_
    · show ((vS ao (upL kv ci k) co) : Value) = (vS ao (upL kv ci d) co)
      rw [up_end hd hk (by assumption)]
    trivial
  have p1 := e1; try simp only [nrm] at p1
  refine A.skip (tsr (A.gp [.p, .p] [1, 15] [(17, vS ao (upL kv ci k) co), (18, i_ (upA kv ci k))] ?_))
  refine A.cons (A.buildSlice 19 (e := 3) [i_ (upA kv ci k)] (by kernel_rfl) rfl (fun _ => by kernel_rfl) (fun b3 => [sI ao (upL kv ci k) co, blk b2 (encCl (gcl kv (upA kv ci k))) 98, blk b3 [i_ (upA kv ci k)] 3]) (fun _ => rfl) ?_)
  intro b3
  refine A.cons (A.appendC (enc := encI) (xs := (upL kv ci k)) ([upA kv ci k]) 0 20 (e := 3) (z := (i_ 0)) (sz := 1) (by_ := 8) (by kernel_rfl) rfl rfl rfl (by kernel_rfl) (by kernel_rfl) (by rfl) (by decide) encI_len encI_one rfl (rd_blk (i := 2) rfl) (by simp [upL_len]; omega) (fun A4 c4 => [sI A4 ((upL kv ci k) ++ ([upA kv ci k])) c4, blk b2 (encCl (gcl kv (upA kv ci k))) 98, blk b3 [i_ (upA kv ci k)] 3]) (fun _ _ => rfl) ?_)
  intro A4 c4
  refine A.goA [.p] [(0, p_ bt), (5, vS A4 ((upL kv ci k) ++ ([upA kv ci k])) c4), (6, p_ b2)] [] T0 (by kernel_rfl) trivial ?_
  refine tr (A.gk [.p, .ld 1, .p] [6] [(1, i_ ((gcl kv (upA kv ci k)).hp))] [b2] T0 trivial ?_)
  refine A.bn (A.tn (A.sv 1 (i_ (upA kv ci (k + 1))) (cgI (by rfl)) ?_))
  refine A.setH [sI A4 (upL kv ci (k + 1)) c4, blk b2 (encCl (gcl kv (upA kv ci k))) 98, blk b3 [i_ (upA kv ci k)] 3] (cc (slC (by exact upL_snoc _ _ _ : (upL kv ci k) ++ ([upA kv ci k]) = (upL kv ci (k + 1)))) rfl) ?_
  refine A.sv 5 (vS A4 (upL kv ci (k + 1)) c4) (cgL (by exact upL_snoc _ _ _)) ?_
  refine A.next (k + 1, A4, c4) (by exact up_lt he hk (by assumption)) (by (show d + 1 - (k + 1) < d + 1 - k; omega)) ?_
  exact A.hK [0]

theorem depth_nil (ci : Int) (w : World) :
    Calls Try.prog 113 #[n_, i_ ci] w fun e w' => e = .returned (i_ 0) ∧ Fr [] w w' := by
  refine calls_of (args := [n_, i_ ci]) (penv [n_, i_ ci]) [] [] Try.func113 rfl rfl (look_penv _) (HS.nil w) ?_
  refine A.sr (A.g [.p] [] [] ?_)
  refine tsr (A.gk [.p, .p, .cq e_, .p, .p] [0, 1] [(4, i_ 0)] [] (fun κ => κ.call 143 [n_, i_ ci] e_ ∧ True) ⟨(fun ww ss => up_nil ci ww), trivial⟩ ?_)
  refine A.tn (A.ret (A.pQ [i_ 0] ?_))
  rfl

theorem depth_ok (bt mb : Nat) (kv : List (Int × Cl)) (ci : Int) (d : Nat) (hd : ∀ j, j < d → mget kv (upA kv ci j) ≠ none) (he : mget kv (upA kv ci d) = none) (hd7 : d ≤ 1000) (w : World) (r0 : (blk bt [(.map (some mb))] 124).holds w) (r1 : (mHI mb kv).holds w) :
    Calls Try.prog 113 #[p_ bt, i_ ci] w fun e w' => e = .returned (c_ d) ∧ Fr [] w w' := by
  refine calls_of (args := [p_ bt, i_ ci]) (penv [p_ bt, i_ ci]) [] [] Try.func113 rfl rfl (look_penv _) (HS.nil w) ?_
  refine A.sr (A.g [.p] [] [] ?_)
  refine tsr (A.gp [.p, .p] [0, 1] [(5, p_ bt), (6, i_ ci)] ?_)
  refine A.cons (A.cT (some 7) [p_ bt, i_ ci] [] ((fun zz => match zz with | (al'1, cl'2) => (vS al'1 (upL kv ci d) cl'2))) ((fun zz => match zz with | (al'1, cl'2) => True)) ((fun zz => match zz with | (al'1, cl'2) => [sI al'1 (upL kv ci d) cl'2])) (fun ww ss hh => up_ok bt mb kv ci d (by assumption) (by assumption) (by assumption) ww (old_item ss r0) (old_item ss r1) hh) ?_)
  rintro ⟨al'1, cl'2⟩ -
  refine A.g [.p, .p] [5, 6, 7] [(4, i_ ((upL kv ci d).length : Int))] ?_
  refine A.tn (A.ret (A.pQ [i_ ((upL kv ci d).length : Int)] ?_))
  show ((i_ ((upL kv ci d).length : Int)) : Value) = (c_ d)
  rw [upL_len]
end Go.Proofs.Ytinnnoimmioaiaa
