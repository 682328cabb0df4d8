/- What the functions of this layer do, proved operation by operation, for all arguments, under the conditions that each theorem states. -/
import Derived.Test.YtinnnoimmioaiaaProg
import Derived.Test.YtinnnoimmioaiaaTra3
import Derived.Test.YtinnnoimmioaiaaL2
namespace Go.Proofs.Ytinnnoimmioaiaa
open Go V
set_option linter.unusedVariables false
set_option linter.unusedSimpArgs false
set_option maxHeartbeats 4000000
set_option maxRecDepth 100000
theorem idsK_nil : idsK [] = [] := by unfold idsK keysF; simp [sort_nil]
theorem tchF_tn {kw : List (Int × Cl)} {k : Nat} {i : Int} (h : (([] : List Int) ++ idsK kw)[k]? = some i) (hd : difB [] kw i = true) : tchF [] kw k ++ [i] = tchF [] kw (k + 1) := tchF_t (by rw [idsK_nil]; exact h) hd
theorem tchF_fn {kw : List (Int × Cl)} {k : Nat} {i : Int} (h : (([] : List Int) ++ idsK kw)[k]? = some i) (hd : difB [] kw i = false) : tchF [] kw k = tchF [] kw (k + 1) := tchF_f (by rw [idsK_nil]; exact h) hd
theorem tchF_alln {kw : List (Int × Cl)} {k : Nat} (h : (([] : List Int) ++ idsK kw).length ≤ k) : tchF [] kw k = (idsK [] ++ idsK kw).filter (difB [] kw) := tchF_all (by rw [idsK_nil]; exact h)
def relB (kv kw : List (Int × Cl)) (i : Int) : Bool := decide ((ofC (gcl kv i).ra (gcl kv i).rb (gcl kv i).rc) > 1) || decide ((ofC (gcl kw i).ra (gcl kw i).rb (gcl kw i).rc) > 1)
theorem anyR_t {l : List Int} {f : Int → Bool} {k : Nat} {i : Int} (h : l[k]? = some i) (hf : f i = true) : l.any f = true := List.any_eq_true.2 ⟨i, List.mem_of_getElem? h, hf⟩
theorem anyR_f {l : List Int} {f : Int → Bool} {k : Nat} (hn : ∀ x ∈ l.take k, f x = false) (hk : l.length ≤ k) : l.any f = false := by
  rw [List.take_of_length_le hk] at hn; rw [List.any_eq_false]; intro x hx; simp [hn x hx]
theorem anyR_s {l : List Int} {f : Int → Bool} {k : Nat} {i : Int} (hn : ∀ x ∈ l.take k, f x = false) (h : l[k]? = some i) (hf : f i = false) : ∀ x ∈ l.take (k + 1), f x = false := by
  rw [List.take_add_one, h]; intro x hx
  rcases List.mem_append.1 hx with hx | hx
  · exact hn x hx
  · simp at hx; subst hx; exact hf
theorem tch_len (kv kw : List (Int × Cl)) : (tchL kv kw).length ≤ kv.length + kw.length := by
  unfold tchL
  refine Nat.le_trans (compact_len _) ?_
  rw [sortI_len]
  refine Nat.le_trans (List.length_filter_le _ _) ?_
  rw [List.length_append]; have h1 := idsK_len kv; have h2 := idsK_len kw; omega

theorem tch_nilL (bu mc : Nat) (kw : List (Int × Cl)) (hm : kw.length ≤ 64) (w : World) (r0 : (blk bu [(.map (some mc))] 124).holds w) (r1 : (mHI mc kw).holds w) (hs : HS w (feet []) [] w) :
    Calls Try.prog 37 #[n_, p_ bu] w fun e w' => ∃ zz, e = .returned ((fun (zz : (Option Addr) × Nat) => match zz with | (al', cl') => (vS al' (tchL [] kw) cl')) zz) ∧ (fun (zz : (Option Addr) × Nat) => match zz with | (al', cl') => True) zz ∧ Turn [] ((fun (zz : (Option Addr) × Nat) => match zz with | (al', cl') => [sI al' (tchL [] kw) cl']) zz) w w' := by
  have hk2 := idsK_len kw; unfold idsK at hk2; have hk3 : (([] : List Int) ++ (keysF kw (fun v_ => true))).length ≤ 128 := by show (keysF kw (fun v_ => true)).length ≤ 128; omega
  refine calls_of (args := [n_, p_ bu]) (penv [n_, p_ bu]) (feet []) [] Try.func37 rfl rfl (look_penv _) hs ?_
  refine A.sr (A.g [.p] [] [] ?_)
  refine tsr (A.g [.p] [] [(5, e_)] ?_)
  refine A.tn (A.seq (A.sr (A.gpk [.p, .cq e_, .p] [] [(13, e_), (14, p_ bu)] [] (fun κ => κ.call 56 [n_] e_ ∧ True) ⟨(fun ww ss => ids_nil ww), trivial⟩ ?_)))
  refine A.cons (A.cT (some 15) [p_ bu] [] ((fun zz => match zz with | (al'1, cl'2) => (vS al'1 (keysF kw (fun v_ => true)) cl'2))) ((fun zz => match zz with | (al'1, cl'2) => True)) ((fun zz => match zz with | (al'1, cl'2) => [sI al'1 (keysF kw (fun v_ => true)) cl'2])) (fun ww ss hh => ids_ok bu mc kw (by omega) ww (old_item ss r0) (old_item ss r1) hh) ?_)
  rintro ⟨al'1, cl'2⟩ -
  refine A.cons (A.buildSlice 16 (e := 45) [e_, vS al'1 (keysF kw (fun v_ => true)) cl'2] (by kernel_rfl) rfl (fun _ => by kernel_rfl) (fun b4 => [sI al'1 (keysF kw (fun v_ => true)) cl'2, blk b4 [e_, vS al'1 (keysF kw (fun v_ => true)) cl'2] 45]) (fun _ => rfl) ?_)
  intro b4
  refine A.cons (A.cT (some 17) [(.slice (some ⟨b4, 0, none⟩) 2 2)] [] ((fun zz => match zz with | (al'5, cl'6) => (vS al'5 (([] : List Int) ++ (keysF kw (fun v_ => true))) cl'6))) ((fun zz => match zz with | (al'5, cl'6) => True)) ((fun zz => match zz with | (al'5, cl'6) => [sI al'5 (([] : List Int) ++ (keysF kw (fun v_ => true))) cl'6])) (fun ww ss hh => concat_spec b4 none ([] : List Int) 0 al'1 (keysF kw (fun v_ => true)) cl'2 (by (simp; done)) (by omega) ww (ss.mem (i := 1) rfl) (arr_nil _ _) ((rd_sl (i := 0) rfl) ww ss) hh) ?_)
  rintro ⟨al'5, cl'6⟩ -
  refine A.g [.p, .p] [13, 14, 15, 16] [(17, vS al'5 (([] : List Int) ++ (keysF kw (fun v_ => true))) cl'6), (18, i_ ((([] : List Int) ++ (keysF kw (fun v_ => true))).length : Int)), (19, i_ 0)] ?_
  refine A.tn (A.block (A.ownNil 3 1 [sI al'5 (([] : List Int) ++ (keysF kw (fun v_ => true))) cl'6, sI al'1 (keysF kw (fun v_ => true)) cl'2, blk b4 [e_, vS al'1 (keysF kw (fun v_ => true)) cl'2] 45, sI none ([] : List Int) 0] rfl ?_))
  refine A.setH [sI al'5 (([] : List Int) ++ (keysF kw (fun v_ => true))) cl'6, sI al'1 (keysF kw (fun v_ => true)) cl'2, blk b4 [e_, vS al'1 (keysF kw (fun v_ => true)) cl'2] 45, sI none (tchF [] kw 0) 0] (cc rfl (cc rfl (cc rfl (cc (slC (by rfl : ([] : List Int) = (tchF [] kw 0))) rfl)))) ?_
  refine A.sv 5 (vS none (tchF [] kw 0) 0) (congrArg (fun z_ : List Int => some (Value.slice none z_.length 0)) (by rfl : ([] : List Int) = (tchF [] kw 0))) ?_
  refine A.loop (fun (zz : Nat × (Option Addr) × Nat) => match zz with | (k, ao, co) => [(0, n_), (1, p_ bu), (17, vS al'5 (([] : List Int) ++ (keysF kw (fun v_ => true))) cl'6), (18, i_ ((([] : List Int) ++ (keysF kw (fun v_ => true))).length : Int)), (19, c_ k), (5, vS ao (tchF [] kw k) co)]) (fun (zz : Nat × (Option Addr) × Nat) => match zz with | (k, ao, co) => [sI ao (tchF [] kw k) co, sI al'5 (([] : List Int) ++ (keysF kw (fun v_ => true))) cl'6, sI al'1 (keysF kw (fun v_ => true)) cl'2, blk b4 [e_, vS al'1 (keysF kw (fun v_ => true)) cl'2] 45]) (fun (zz : Nat × (Option Addr) × Nat) => match zz with | (k, ao, co) => (k ≤ (([] : List Int) ++ (keysF kw (fun v_ => true))).length)) (fun (zz : Nat × (Option Addr) × Nat) => match zz with | (k, ao, co) => (([] : List Int) ++ (keysF kw (fun v_ => true))).length - k) (0, none, 0) (by omega) ?_ ?_
  · exact A.hK [3, 0, 0, 0]
  rintro ⟨k, ao, co⟩ hk
  have hk : k ≤ (([] : List Int) ++ (keysF kw (fun v_ => true))).length := hk
  have htl := tchF_len [] kw k
  refine A.sr (A.g [.p] [] [(20, b_ (decide ((k : Int) < ((([] : List Int) ++ (keysF kw (fun v_ => true))).length : Int))))] ?_)
  refine A.tn (A.seq (A.cn (decide ((k : Int) < ((([] : List Int) ++ (keysF kw (fun v_ => true))).length : Int))) (fun e3 => ?_) (fun e3 => ?_)))
  · have p3 := of_decide_eq_true e3
    refine A.skip (A.tn (A.seq (A.block (A.sr (A.gpk [.ix] [20] [(21, (.pointer (some ((at0 al'5).add (k * 1)))))] [] (fun κ => κ.ix al'5 ((([] : List Int) ++ (keysF kw (fun v_ => true))).length) (k : Int) ∧ True) ⟨(ixOf encI_len (by decide) (rd_sl (i := 1) rfl) (by omega)), trivial⟩ ?_)))))
    obtain ⟨x9, hx9⟩ : ∃ x, ((([] : List Int) ++ (keysF kw (fun v_ => true))))[k]? = some x := ⟨_, List.getElem?_eq_getElem (by omega)⟩
    refine A.gk [.rd [i_ x9], .p] [21] [(7, i_ x9)] [] (fun κ => κ.rd ((at0 al'5).add (k * 1)) [i_ x9] ∧ True) ⟨(reads_at0 (vs := [i_ x9]) encI_len (rd_sl (i := 1) rfl) hx9 (Nat.le_of_ble_eq_true rfl) rfl), trivial⟩ ?_
    refine tsr (A.goA1 [.p, .p, .cq (.tuple #[(.agg #[i_ 0, i_ 0, b_ false, u_ 0, u_ 0, u_ 0, u_ 0, u_ 0, u_ 0, u_ 0, u_ 0, u_ 0, i_ 0, i_ 0]), i_ 7]), .p, .p, .p, .al, .st 4, .p] [0, 1, 17, 18, 19, 5, 7, 8, 9] (fun b10 => [(0, n_), (1, p_ bu), (17, vS al'5 (([] : List Int) ++ (keysF kw (fun v_ => true))) cl'6), (18, i_ ((([] : List Int) ++ (keysF kw (fun v_ => true))).length : Int)), (19, c_ k), (5, vS ao (tchF [] kw k) co), (7, i_ x9), (8, p_ b10), (9, i_ 7)]) (fun b10 => [sI ao (tchF [] kw k) co, sI al'5 (([] : List Int) ++ (keysF kw (fun v_ => true))) cl'6, sI al'1 (keysF kw (fun v_ => true)) cl'2, blk b4 [e_, vS al'1 (keysF kw (fun v_ => true)) cl'2] 45, blk b10 [i_ 0, i_ 0, b_ false, u_ 0, u_ 0, u_ 0, u_ 0, u_ 0, u_ 0, u_ 0, u_ 0, u_ 0, i_ 0, i_ 0] 98]) (fun b10 => [b10]) (fun _ => (fun κ => κ.call 57 [n_, i_ x9] (.tuple #[(.agg #[i_ 0, i_ 0, b_ false, u_ 0, u_ 0, u_ 0, u_ 0, u_ 0, u_ 0, u_ 0, u_ 0, u_ 0, i_ 0, i_ 0]), i_ 7]) ∧ True)) (fun _ => by kernel_rfl) (fun b10 => ⟨(fun ww ss => get_nil x9 ww), trivial⟩) ?_)
    intro b10
    refine tsr (A.goA1 [.p, .p, .cq (.tuple #[(.agg (encCl (gcl kw x9)).toArray), i_ (gce kw x9)]), .p, .p, .p, .al, .st 5, .p] [0, 1, 17, 18, 19, 5, 7, 8, 9, 10, 11] (fun b11 => [(0, n_), (1, p_ bu), (17, vS al'5 (([] : List Int) ++ (keysF kw (fun v_ => true))) cl'6), (18, i_ ((([] : List Int) ++ (keysF kw (fun v_ => true))).length : Int)), (19, c_ k), (5, vS ao (tchF [] kw k) co), (7, i_ x9), (8, p_ b10), (9, i_ 7), (10, p_ b11), (11, i_ (gce kw x9))]) (fun b11 => [sI ao (tchF [] kw k) co, sI al'5 (([] : List Int) ++ (keysF kw (fun v_ => true))) cl'6, sI al'1 (keysF kw (fun v_ => true)) cl'2, blk b4 [e_, vS al'1 (keysF kw (fun v_ => true)) cl'2] 45, blk b10 [i_ 0, i_ 0, b_ false, u_ 0, u_ 0, u_ 0, u_ 0, u_ 0, u_ 0, u_ 0, u_ 0, u_ 0, i_ 0, i_ 0] 98, blk b11 (encCl (gcl kw x9)) 98]) (fun b11 => [b11]) (fun _ => (fun κ => κ.call 57 [p_ bu, i_ x9] (.tuple #[(.agg (encCl (gcl kw x9)).toArray), i_ (gce kw x9)]) ∧ True)) (fun _ => by kernel_rfl) (fun b11 => ⟨(fun ww ss => get_ok bu mc kw x9 ww (old_item ss r0) (old_item ss r1)), trivial⟩) ?_)
    intro b11
    refine tsr (A.gk [.p, .p, .p, .p, .eq, .p, .o, .ld 4, .ld 5, .eq, .cl] [8, 9, 10, 11] [(44, b_ ((!(false == ((gce kw x9) == 0))) || (!(((0 : Int) == ((gcl kw x9).hi)) && (((0 : Int) == ((gcl kw x9).hp)) && ((false == ((gcl kw x9).hl)) && ((((0 : Int) == ((gcl kw x9).ra)) && (((0 : Int) == ((gcl kw x9).rb)) && ((0 : Int) == ((gcl kw x9).rc)))) && ((((0 : Int) == ((gcl kw x9).la)) && (((0 : Int) == ((gcl kw x9).lb)) && ((0 : Int) == ((gcl kw x9).lc)))) && ((((0 : Int) == ((gcl kw x9).ua)) && (((0 : Int) == ((gcl kw x9).ub)) && ((0 : Int) == ((gcl kw x9).uc)))) && (((0 : Int) == ((gcl kw x9).hk)) && ((0 : Int) == ((gcl kw x9).hq))))))))))))] [b10, b11] T0 trivial ?_)
    refine A.tn (A.cn ((!(false == ((gce kw x9) == 0))) || (!(((0 : Int) == ((gcl kw x9).hi)) && (((0 : Int) == ((gcl kw x9).hp)) && ((false == ((gcl kw x9).hl)) && ((((0 : Int) == ((gcl kw x9).ra)) && (((0 : Int) == ((gcl kw x9).rb)) && ((0 : Int) == ((gcl kw x9).rc)))) && ((((0 : Int) == ((gcl kw x9).la)) && (((0 : Int) == ((gcl kw x9).lb)) && ((0 : Int) == ((gcl kw x9).lc)))) && ((((0 : Int) == ((gcl kw x9).ua)) && (((0 : Int) == ((gcl kw x9).ub)) && ((0 : Int) == ((gcl kw x9).uc)))) && (((0 : Int) == ((gcl kw x9).hk)) && ((0 : Int) == ((gcl kw x9).hq))))))))))) (fun e4 => ?_) (fun e4 => ?_))
    · have p4 := e4; try simp only [nrm] at p4
      have hdf : difB [] kw x9 = true := by
        revert e4; unfold difB; cases h2_ : mget kw x9 with
        | none => simp [mget, gce, gcl, h2_, cl0]
        | some v_ => simp [mget, gce, gcl, h2_, cl0]
      refine A.region (A.gp [.p, .p] [7, 44] [(45, vS ao (tchF [] kw k) co), (46, i_ x9)] ?_)
      refine A.cons (A.buildSlice 47 (e := 3) [i_ x9] (by kernel_rfl) rfl (fun _ => by kernel_rfl) (fun b12 => [sI ao (tchF [] kw k) co, sI al'5 (([] : List Int) ++ (keysF kw (fun v_ => true))) cl'6, sI al'1 (keysF kw (fun v_ => true)) cl'2, blk b4 [e_, vS al'1 (keysF kw (fun v_ => true)) cl'2] 45, blk b10 [i_ 0, i_ 0, b_ false, u_ 0, u_ 0, u_ 0, u_ 0, u_ 0, u_ 0, u_ 0, u_ 0, u_ 0, i_ 0, i_ 0] 98, blk b11 (encCl (gcl kw x9)) 98, blk b12 [i_ x9] 3]) (fun _ => rfl) ?_)
      intro b12
      refine A.cons (A.appendC (enc := encI) (xs := (tchF [] kw k)) ([x9]) 0 48 (e := 3) (z := (i_ 0)) (sz := 1) (by_ := 8) (by kernel_rfl) rfl rfl rfl (by kernel_rfl) (by kernel_rfl) (by rfl) (by decide) encI_len encI_one rfl (rd_blk (i := 6) rfl) (by ((simp; omega))) (fun A13 c13 => [sI A13 ((tchF [] kw k) ++ ([x9])) c13, sI al'5 (([] : List Int) ++ (keysF kw (fun v_ => true))) cl'6, sI al'1 (keysF kw (fun v_ => true)) cl'2, blk b4 [e_, vS al'1 (keysF kw (fun v_ => true)) cl'2] 45, blk b10 [i_ 0, i_ 0, b_ false, u_ 0, u_ 0, u_ 0, u_ 0, u_ 0, u_ 0, u_ 0, u_ 0, u_ 0, i_ 0, i_ 0] 98, blk b11 (encCl (gcl kw x9)) 98, blk b12 [i_ x9] 3]) (fun _ _ => rfl) ?_)
      intro A13 c13
      refine A.goA [.p] [(0, n_), (1, p_ bu), (17, vS al'5 (([] : List Int) ++ (keysF kw (fun v_ => true))) cl'6), (18, i_ ((([] : List Int) ++ (keysF kw (fun v_ => true))).length : Int)), (19, c_ k), (5, vS A13 ((tchF [] kw k) ++ ([x9])) c13)] [] T0 (by kernel_rfl) trivial ?_
      refine A.bn (tr (A.gk [.w ((k : Int) + 1), .p] [] [(19, i_ ((k : Int) + 1))] [] (fun κ => (IntKind.i64.wrap ((k : Int) + 1) = ((k : Int) + 1)) ∧ True) ⟨(wrap_i64 (e := (k : Int) + 1) (by constructor <;> omega)), trivial⟩ ?_))
      refine A.tn (A.setH [sI A13 (tchF [] kw (k + 1)) c13, sI al'5 (([] : List Int) ++ (keysF kw (fun v_ => true))) cl'6, sI al'1 (keysF kw (fun v_ => true)) cl'2, blk b4 [e_, vS al'1 (keysF kw (fun v_ => true)) cl'2] 45, blk b10 [i_ 0, i_ 0, b_ false, u_ 0, u_ 0, u_ 0, u_ 0, u_ 0, u_ 0, u_ 0, u_ 0, u_ 0, i_ 0, i_ 0] 98, blk b11 (encCl (gcl kw x9)) 98, blk b12 [i_ x9] 3] (cc (slC (by exact tchF_tn (by assumption) hdf : (tchF [] kw k) ++ ([x9]) = (tchF [] kw (k + 1)))) rfl) ?_)
      refine A.sv 5 (vS A13 (tchF [] kw (k + 1)) c13) (cgL (by exact tchF_tn (by assumption) hdf)) ?_
      refine A.next (k + 1, A13, c13) (by omega) (by (have h_ := (List.getElem?_eq_some_iff.1 (by assumption : (([] : List Int) ++ (keysF kw (fun v_ => true)))[k]? = some _)).1; show (([] : List Int) ++ (keysF kw (fun v_ => true))).length - (k + 1) < (([] : List Int) ++ (keysF kw (fun v_ => true))).length - k; omega)) ?_
      exact A.hK [0, 0, 0, 0]
    have p4 := e4; try simp only [nrm] at p4
    have hdf : difB [] kw x9 = false := by
      revert e4; unfold difB; cases h2_ : mget kw x9 with
      | none => simp [mget, gce, gcl, h2_, cl0]
      | some v_ => simp [mget, gce, gcl, h2_, cl0]
    refine A.skip (A.bn (tr (A.gk [.w ((k : Int) + 1), .p] [7, 44] [(19, i_ ((k : Int) + 1))] [] (fun κ => (IntKind.i64.wrap ((k : Int) + 1) = ((k : Int) + 1)) ∧ True) ⟨(wrap_i64 (e := (k : Int) + 1) (by constructor <;> omega)), trivial⟩ ?_)))
    refine A.tn (A.setH [sI ao (tchF [] kw (k + 1)) co, sI al'5 (([] : List Int) ++ (keysF kw (fun v_ => true))) cl'6, sI al'1 (keysF kw (fun v_ => true)) cl'2, blk b4 [e_, vS al'1 (keysF kw (fun v_ => true)) cl'2] 45, blk b10 [i_ 0, i_ 0, b_ false, u_ 0, u_ 0, u_ 0, u_ 0, u_ 0, u_ 0, u_ 0, u_ 0, u_ 0, i_ 0, i_ 0] 98, blk b11 (encCl (gcl kw x9)) 98] (cc (slC (by exact tchF_fn (by assumption) hdf : (tchF [] kw k) = (tchF [] kw (k + 1)))) rfl) ?_)
    refine A.sv 5 (vS ao (tchF [] kw (k + 1)) co) (cgL (by exact tchF_fn (by assumption) hdf)) ?_
    refine A.next (k + 1, ao, co) (by omega) (by (have h_ := (List.getElem?_eq_some_iff.1 (by assumption : (([] : List Int) ++ (keysF kw (fun v_ => true)))[k]? = some _)).1; show (([] : List Int) ++ (keysF kw (fun v_ => true))).length - (k + 1) < (([] : List Int) ++ (keysF kw (fun v_ => true))).length - k; omega)) ?_
    exact A.hK [0, 0, 0, 0]
  have p3 := of_decide_eq_false e3
  refine A.exit (A.te (A.te (A.bh (tsr (A.gp [.p] [0, 1, 17, 18, 19, 20] [(50, vS ao (tchF [] kw k) co)] ?_)))))
  refine A.cons (A.cT (some 51) [vS ao (tchF [] kw k) co] [0] ((fun _ => (.tuple #[]))) ((fun _ => True)) ((fun _ => [sI ao (sortI (tchF [] kw k)) co])) (fun ww ss hh => sort_spec ao (tchF [] kw k) co (by omega) ww hh) ?_)
  rintro ⟨⟩ -
  refine A.done ?_
  refine A.tn (A.seq (A.sv 5 (vS ao (sortI (tchF [] kw k)) co) (cgN (by rw [sortI_len])) (A.sv 50 (vS ao (sortI (tchF [] kw k)) co) (cgN (by rw [sortI_len])) ?_)))
  refine A.region (A.gp [.p] [5, 50, 51] [(52, vS ao (sortI (tchF [] kw k)) co)] ?_)
  refine A.cons (A.cT (some 53) [vS ao (sortI (tchF [] kw k)) co] [0] ((fun _ => (vS ao (Go.Lib.compact (sortI (tchF [] kw k))) co))) ((fun _ => True)) ((fun _ => [sI ao (Go.Lib.compact (sortI (tchF [] kw k))) co])) (fun ww ss hh => cmpct_spec ao (sortI (tchF [] kw k)) co (by (rw [sortI_len]; omega)) ww hh) ?_)
  rintro ⟨⟩ -
  refine A.g [.p] [52, 53] [(4, vS ao (Go.Lib.compact (sortI (tchF [] kw k))) co)] ?_
  refine A.tn (A.ret (A.setH [sI ao (tchL [] kw) co, sI al'5 (([] : List Int) ++ (keysF kw (fun v_ => true))) cl'6, sI al'1 (keysF kw (fun v_ => true)) cl'2, blk b4 [e_, vS al'1 (keysF kw (fun v_ => true)) cl'2] 45] (cc (slC (by (unfold tchL; rw [tchF_alln (show (([] : List Int) ++ (keysF kw (fun v_ => true))).length ≤ k from by omega)]; done) : (Go.Lib.compact (sortI (tchF [] kw k))) = (tchL [] kw))) rfl) ?_))
  refine A.pK [0] [vS ao (Go.Lib.compact (sortI (tchF [] kw k))) co] (ao, co) ?_ ?_
  · show ((vS ao (Go.Lib.compact (sortI (tchF [] kw k))) co) : Value) = (vS ao (tchL [] kw) co)
    unfold tchL; rw [tchF_alln (show (([] : List Int) ++ (keysF kw (fun v_ => true))).length ≤ k from by omega)]
  trivial

theorem tch_nil (w : World) :
    Calls Try.prog 37 #[n_, n_] w fun e w' => e = .returned e_ ∧ Fr [] w w' := by
  refine calls_of (args := [n_, n_]) (penv [n_, n_]) [] [] Try.func37 rfl rfl (look_penv _) (HS.nil w) ?_
  refine A.sr (A.g [.p] [] [] ?_)
  refine tsr (A.g [.p] [] [(5, e_)] ?_)
  refine A.tn (A.seq (A.sr (A.gpk [.p, .cq e_, .p, .cq e_] [] [(13, e_), (15, e_)] [] (fun κ => κ.call 56 [n_] e_ ∧ κ.call 56 [n_] e_ ∧ True) ⟨(fun ww ss => ids_nil ww), (fun ww ss => ids_nil ww), trivial⟩ ?_)))
  refine A.cons (A.buildSlice 16 (e := 45) [e_, e_] (by kernel_rfl) rfl (fun _ => by kernel_rfl) (fun b1 => [blk b1 [e_, e_] 45]) (fun _ => rfl) ?_)
  intro b1
  refine A.cons (A.cT (some 17) [(.slice (some ⟨b1, 0, none⟩) 2 2)] [] ((fun zz => match zz with | (al'2, cl'3) => (vS al'2 (([] : List Int) ++ ([] : List Int)) cl'3))) ((fun zz => match zz with | (al'2, cl'3) => True)) ((fun zz => match zz with | (al'2, cl'3) => [sI al'2 (([] : List Int) ++ ([] : List Int)) cl'3])) (fun ww ss hh => concat_spec b1 none ([] : List Int) 0 none ([] : List Int) 0 (by (simp; done)) (by (simp; done)) ww (ss.mem (i := 0) rfl) (arr_nil _ _) (arr_nil _ _) hh) ?_)
  rintro ⟨al'2, cl'3⟩ -
  refine A.g [.p, .p] [13, 15, 16] [(17, vS al'2 (([] : List Int) ++ ([] : List Int)) cl'3), (18, i_ ((([] : List Int) ++ ([] : List Int)).length : Int)), (19, i_ 0)] ?_
  refine A.tn (A.block (A.unroll 400 ?_))
  refine A.turnk (m := 399) ?_
  refine A.sr (A.g [.p] [] [(20, b_ (decide ((0 : Int) < ((([] : List Int) ++ ([] : List Int)).length : Int))))] ?_)
  refine A.tn (A.seq (A.cn (decide ((0 : Int) < ((([] : List Int) ++ ([] : List Int)).length : Int))) (fun e2 => ?_) (fun e2 => ?_)))
  · exact absurd e2 (by (intro h_; simp at h_))
  have p2 := of_decide_eq_false e2
  refine A.exit (A.te (A.te (A.bh (tsr (A.gp [.p] [0, 1, 17, 18, 19, 20] [(50, e_)] ?_)))))
  refine A.ownNil 3 1 [sI al'2 (([] : List Int) ++ ([] : List Int)) cl'3, blk b1 [e_, e_] 45, sI none ([] : List Int) 0] rfl ?_
  refine A.cons (A.cT (some 51) [e_] [2] ((fun _ => (.tuple #[]))) ((fun _ => True)) ((fun _ => [sI none (sortI ([] : List Int)) 0])) (fun ww ss hh => sort_spec none ([] : List Int) 0 (by (simp; done)) ww hh) ?_)
  rintro ⟨⟩ -
  refine A.done ?_
  refine tsr (A.gp [.p] [5, 50, 51] [(52, e_)] ?_)
  refine A.ownNil 3 1 [sI none (sortI ([] : List Int)) 0, sI al'2 (([] : List Int) ++ ([] : List Int)) cl'3, blk b1 [e_, e_] 45, sI none ([] : List Int) 0] rfl ?_
  refine A.cons (A.cT (some 53) [e_] [3] ((fun _ => (vS none (Go.Lib.compact ([] : List Int)) 0))) ((fun _ => True)) ((fun _ => [sI none (Go.Lib.compact ([] : List Int)) 0])) (fun ww ss hh => cmpct_spec none ([] : List Int) 0 (by (simp; done)) ww hh) ?_)
  rintro ⟨⟩ -
  refine A.g [.p] [52, 53] [(4, vS none (Go.Lib.compact ([] : List Int)) 0)] ?_
  refine A.tn (A.ret (A.pQ [vS none (Go.Lib.compact ([] : List Int)) 0] ?_))
  show ((vS none (Go.Lib.compact ([] : List Int)) 0) : Value) = e_
  rfl

theorem rel1_spec (ci : Int) (ba bb : Nat) (bt mb : Nat) (kv : List (Int × Cl)) (bu mc : Nat) (kw : List (Int × Cl)) (w : World) (r0 : (blk ba [p_ bt] 54).holds w) (r1 : (blk bb [p_ bu] 54).holds w) (r2 : (blk bt [(.map (some mb))] 124).holds w) (r3 : (mHI mb kv).holds w) (r4 : (blk bu [(.map (some mc))] 124).holds w) (r5 : (mHI mc kw).holds w) :
    Calls Try.prog 81 #[i_ ci, p_ ba, p_ bb] w fun e w' => e = .returned (b_ (relB kv kw ci)) ∧ Fr [] w w' := by
  refine calls_of (args := [i_ ci, p_ ba, p_ bb]) (penv [i_ ci, p_ ba, p_ bb]) [] [] Try.func81 rfl rfl (look_penv _) (HS.nil w) ?_
  refine A.sr (A.g [.p] [] [] ?_)
  refine tsr (A.goA1 [.rd [p_ bt], .p, .cq (.tuple #[(.agg (encCl (gcl kv ci)).toArray), i_ (gce kv ci)]), .p, .p, .p, .al, .st 0, .p] [0, 2, 5] (fun b1 => [(0, i_ ci), (2, p_ bb), (5, p_ b1)]) (fun b1 => [blk b1 (encCl (gcl kv ci)) 98]) (fun b1 => [b1]) (fun _ => (fun κ => κ.rd ⟨ba, 0, none⟩ [p_ bt] ∧ κ.call 57 [p_ bt, i_ ci] (.tuple #[(.agg (encCl (gcl kv ci)).toArray), i_ (gce kv ci)]) ∧ True)) (fun _ => by kernel_rfl) (fun b1 => ⟨(reads_oldblk r0 rfl), (fun ww ss => get_ok bt mb kv ci ww (old_item ss r2) (old_item ss r3)), trivial⟩) ?_)
  intro b1
  refine tsr (A.goA1 [.rd [p_ bu], .p, .cq (.tuple #[(.agg (encCl (gcl kw ci)).toArray), i_ (gce kw ci)]), .p, .p, .p, .al, .st 1, .p] [5, 7] (fun b2 => [(5, p_ b1), (7, p_ b2)]) (fun b2 => [blk b1 (encCl (gcl kv ci)) 98, blk b2 (encCl (gcl kw ci)) 98]) (fun b2 => [b2]) (fun _ => (fun κ => κ.rd ⟨bb, 0, none⟩ [p_ bu] ∧ κ.call 57 [p_ bu, i_ ci] (.tuple #[(.agg (encCl (gcl kw ci)).toArray), i_ (gce kw ci)]) ∧ True)) (fun _ => by kernel_rfl) (fun b2 => ⟨(reads_oldblk r1 rfl), (fun ww ss => get_ok bu mc kw ci ww (old_item ss r4) (old_item ss r5)), trivial⟩) ?_)
  intro b2
  refine tsr (A.gk [.ld 0, .cq (b_ (decide ((ofC (gcl kv ci).ra (gcl kv ci).rb (gcl kv ci).rc) > 1))), .p, .o, .ld 1, .cq (b_ (decide ((ofC (gcl kw ci).ra (gcl kw ci).rb (gcl kw ci).rc) > 1))), .cl, .p] [5, 7] [(4, b_ ((decide ((ofC (gcl kv ci).ra (gcl kv ci).rb (gcl kv ci).rc) > 1)) || (decide ((ofC (gcl kw ci).ra (gcl kw ci).rb (gcl kw ci).rc) > 1))))] [b1, b2] (fun κ => κ.call 82 [(.agg (encCl (gcl kv ci)).toArray)] (b_ (decide ((ofC (gcl kv ci).ra (gcl kv ci).rb (gcl kv ci).rc) > 1))) ∧ ((true && ((decide ((ofC (gcl kv ci).ra (gcl kv ci).rb (gcl kv ci).rc) > 1)) == false)) = true → κ.call 82 [(.agg (encCl (gcl kw ci)).toArray)] (b_ (decide ((ofC (gcl kw ci).ra (gcl kw ci).rb (gcl kw ci).rc) > 1)))) ∧ True) ⟨(fun ww ss => real_spec (gcl kv ci) ww), (fun h_ => (fun ww ss => real_spec (gcl kw ci) ww)), trivial⟩ ?_)
  refine A.tn (A.ret (A.pQ [b_ ((decide ((ofC (gcl kv ci).ra (gcl kv ci).rb (gcl kv ci).rc) > 1)) || (decide ((ofC (gcl kw ci).ra (gcl kw ci).rb (gcl kw ci).rc) > 1)))] ?_))
  show ((b_ ((decide ((ofC (gcl kv ci).ra (gcl kv ci).rb (gcl kv ci).rc) > 1)) || (decide ((ofC (gcl kw ci).ra (gcl kw ci).rb (gcl kw ci).rc) > 1)))) : Value) = (b_ (relB kv kw ci))
  rfl

theorem rel_ok (bt mb : Nat) (kv : List (Int × Cl)) (bu mc : Nat) (kw : List (Int × Cl)) (hl : kv.length ≤ 64) (hm : kw.length ≤ 64) (w : World) (r0 : (blk bt [(.map (some mb))] 124).holds w) (r1 : (mHI mb kv).holds w) (r2 : (blk bu [(.map (some mc))] 124).holds w) (r3 : (mHI mc kw).holds w) :
    Calls Try.prog 38 #[p_ bt, p_ bu] w fun e w' => e = .returned (b_ ((tchL kv kw).any (relB kv kw))) ∧ Fr [] w w' := by
  have htl0 := tch_len kv kw
  refine calls_of (args := [p_ bt, p_ bu]) (penv [p_ bt, p_ bu]) [] [] Try.func38 rfl rfl (look_penv _) (HS.nil w) ?_
  refine A.sr (A.n2 [.al, .al, .p] [0, 1] (fun b1 b2 => [(2, p_ b1), (3, p_ b2)]) (fun b1 b2 => [blk b1 [p_ bt] 54, blk b2 [p_ bu] 54]) ?_)
  intro b1 b2
  refine tsr (A.gpk [.ld 0, .ld 1] [] [(5, p_ bt), (6, p_ bu)] [b1, b2] T0 trivial ?_)
  refine A.cons (A.cT (some 7) [p_ bt, p_ bu] [] ((fun zz => match zz with | (al'3, cl'4) => (vS al'3 (tchL kv kw) cl'4))) ((fun zz => match zz with | (al'3, cl'4) => True)) ((fun zz => match zz with | (al'3, cl'4) => [sI al'3 (tchL kv kw) cl'4])) (fun ww ss hh => tch_ok bt mb kv bu mc kw (by assumption) (by assumption) ww (old_item ss r0) (old_item ss r1) (old_item ss r2) (old_item ss r3) hh) ?_)
  rintro ⟨al'3, cl'4⟩ -
  refine A.gp [.p] [2, 3, 5, 6] [(7, vS al'3 (tchL kv kw) cl'4), (8, (.func (.func 81) #[] #[p_ b1, p_ b2]))] ?_
  refine A.cons (A.inlX (some 9) [vS al'3 (tchL kv kw) cl'4, (.func (.func 81) #[] #[p_ b1, p_ b2])] [(0, vS al'3 (tchL kv kw) cl'4), (1, (.func (.func 81) #[] #[p_ b1, p_ b2]))] (by kernel_rfl) rfl Try.func80 rfl rfl ?_)
  refine A.sr (A.g [.p] [] [] ?_)
  refine tsr (A.gp [.p, .p] [0, 1] [(5, vS al'3 (tchL kv kw) cl'4), (6, (.func (.func 81) #[] #[p_ b1, p_ b2]))] ?_)
  refine A.cons (A.inlX (some 7) [vS al'3 (tchL kv kw) cl'4, (.func (.func 81) #[] #[p_ b1, p_ b2])] [(0, vS al'3 (tchL kv kw) cl'4), (1, (.func (.func 81) #[] #[p_ b1, p_ b2]))] (by kernel_rfl) rfl Try.func122 rfl rfl ?_)
  refine A.sr (A.g [.p] [] [] ?_)
  refine A.tn (A.seq (A.sr (A.g [.p, .p, .p] [] [(7, i_ ((tchL kv kw).length : Int)), (8, i_ 0)] ?_)))
  refine A.tn (A.block (A.loop (fun (zz : Nat) => match zz with | k => [(0, vS al'3 (tchL kv kw) cl'4), (1, (.func (.func 81) #[] #[p_ b1, p_ b2])), (7, i_ ((tchL kv kw).length : Int)), (8, c_ k)]) (fun (zz : Nat) => match zz with | k => [sI al'3 (tchL kv kw) cl'4, blk b1 [p_ bt] 54, blk b2 [p_ bu] 54]) (fun (zz : Nat) => match zz with | k => (k ≤ (tchL kv kw).length) ∧ (∀ x ∈ (tchL kv kw).take k, relB kv kw x = false)) (fun (zz : Nat) => match zz with | k => (tchL kv kw).length - k) (0 : Nat) ⟨(by omega), (by simp)⟩ ?_ ?_))
  · exact A.hK [0, 0, 0]
  rintro k ⟨hk, hn⟩
  have htl := tch_len kv kw
  refine A.sr (A.g [.p] [] [(9, b_ (decide ((k : Int) < ((tchL kv kw).length : Int))))] ?_)
  refine A.tn (A.seq (A.cn (decide ((k : Int) < ((tchL kv kw).length : Int))) (fun e2 => ?_) (fun e2 => ?_)))
  · have p2 := of_decide_eq_true e2
    refine A.skip (A.tn (A.seq (A.block (A.sr (A.g [.p, .p] [9] [(5, c_ k)] ?_)))))
    refine tsr (A.gpk [.p, .p, .p, .ix] [] [(11, (.func (.func 81) #[] #[p_ b1, p_ b2])), (14, (.pointer (some ((at0 al'3).add (k * 1)))))] [] (fun κ => κ.ix al'3 ((tchL kv kw).length) (k : Int) ∧ True) ⟨(ixOf encI_len (by decide) (rd_sl (i := 0) rfl) (by omega)), trivial⟩ ?_)
    obtain ⟨x6, hx6⟩ : ∃ x, ((tchL kv kw))[k]? = some x := ⟨_, List.getElem?_eq_getElem (by omega)⟩
    refine A.gk [.rd [i_ x6], .cq (b_ (relB kv kw x6))] [11, 14] [(16, b_ (relB kv kw x6))] [] (fun κ => κ.rd ((at0 al'3).add (k * 1)) [i_ x6] ∧ κ.call 81 [i_ x6, p_ b1, p_ b2] (b_ (relB kv kw x6)) ∧ True) ⟨(reads_at0 (vs := [i_ x6]) encI_len (rd_sl (i := 0) rfl) hx6 (Nat.le_of_ble_eq_true rfl) rfl), (fun ww ss => rel1_spec x6 b1 b2 bt mb kv bu mc kw ww (ss.mem (i := 1) rfl) (ss.mem (i := 2) rfl) (old_item ss r0) (old_item ss r1) (old_item ss r2) (old_item ss r3)), trivial⟩ ?_
    refine A.tn (A.cn ((relB kv kw x6)) (fun e3 => ?_) (fun e3 => ?_))
    · have p3 := e3; try simp only [nrm] at p3
      refine A.sr (A.g [.p, .p] [0, 1, 7, 8, 5, 16] [(4, c_ k)] ?_)
      refine A.tn (A.ret (A.br (A.tr (A.tr (A.br (A.tr (A.post [c_ k] (fun aa ww rr ss => ⟨rv_tmp rr rfl, trivial⟩) (A.back (by kernel_rfl) ?_))))))))
      refine A.goA [.p, .p] [(4, b_ (decide ((k : Int) ≥ 0)))] [] T0 (by kernel_rfl) trivial ?_
      refine A.tn (A.ret (A.post [b_ (decide ((k : Int) ≥ 0))] (fun aa ww rr ss => ⟨rv_tmp rr rfl, trivial⟩) (A.back (by kernel_rfl) ?_)))
      refine A.goA [.p] [(4, b_ (decide ((k : Int) ≥ 0)))] [] T0 (by kernel_rfl) trivial ?_
      refine A.tn (A.ret (A.pQ [b_ (decide ((k : Int) ≥ 0))] ?_))
      show ((b_ (decide ((k : Int) ≥ 0))) : Value) = (b_ ((tchL kv kw).any (relB kv kw)))
      refine congrArg Value.bool ?_; (rw [anyR_t (by assumption) (by assumption)]; rfl)
    have p3 := e3; try simp only [nrm] at p3
    refine A.skip (A.bn (tr (A.gk [.w ((k : Int) + 1), .p] [5, 16] [(8, i_ ((k : Int) + 1))] [] (fun κ => (IntKind.i64.wrap ((k : Int) + 1) = ((k : Int) + 1)) ∧ True) ⟨(wrap_i64 (e := (k : Int) + 1) (by constructor <;> omega)), trivial⟩ ?_)))
    refine A.tn (A.next (k + 1) ⟨(by omega), (by exact anyR_s hn (by assumption) (by assumption))⟩ (by (show (tchL kv kw).length - (k + 1) < (tchL kv kw).length - k; omega)) ?_)
    exact A.hK [0, 0, 0]
  have p2 := of_decide_eq_false e2
  refine A.exit (A.te (A.te (A.bh (tsr (A.g [.p] [0, 1, 7, 8, 9] [(4, i_ (-1))] ?_)))))
  refine A.tn (A.ret (A.post [i_ (-1)] (fun aa ww rr ss => ⟨rv_tmp rr rfl, trivial⟩) (A.back (by kernel_rfl) ?_)))
  refine A.goA [.p, .p] [(4, b_ false)] [] T0 (by kernel_rfl) trivial ?_
  refine A.tn (A.ret (A.post [b_ false] (fun aa ww rr ss => ⟨rv_tmp rr rfl, trivial⟩) (A.back (by kernel_rfl) ?_)))
  refine A.goA [.p] [(4, b_ false)] [] T0 (by kernel_rfl) trivial ?_
  refine A.tn (A.ret (A.pQ [b_ false] ?_))
  show ((b_ false) : Value) = (b_ ((tchL kv kw).any (relB kv kw)))
  refine congrArg Value.bool ?_; (rw [anyR_f hn (by omega)]; done)

theorem rel_nil (w : World) :
    Calls Try.prog 38 #[n_, n_] w fun e w' => e = .returned (b_ false) ∧ Fr [] w w' := by
  refine calls_of (args := [n_, n_]) (penv [n_, n_]) [] [] Try.func38 rfl rfl (look_penv _) (HS.nil w) ?_
  refine A.sr (A.n2 [.al, .al, .p] [0, 1] (fun b1 b2 => [(2, p_ b1), (3, p_ b2)]) (fun b1 b2 => [blk b1 [n_] 54, blk b2 [n_] 54]) ?_)
  intro b1 b2
  refine tsr (A.gpk [.ld 0, .ld 1, .cq e_, .p] [2, 3] [(7, e_), (8, (.func (.func 81) #[] #[p_ b1, p_ b2]))] [b1, b2] (fun κ => κ.call 37 [n_, n_] e_ ∧ True) ⟨(fun ww ss => tch_nil ww), trivial⟩ ?_)
  refine A.cons (A.inlX (some 9) [e_, (.func (.func 81) #[] #[p_ b1, p_ b2])] [(0, e_), (1, (.func (.func 81) #[] #[p_ b1, p_ b2]))] (by kernel_rfl) rfl Try.func80 rfl rfl ?_)
  refine A.sr (A.g [.p] [] [] ?_)
  refine tsr (A.gp [.p, .p] [0, 1] [(5, e_), (6, (.func (.func 81) #[] #[p_ b1, p_ b2]))] ?_)
  refine A.cons (A.inlX (some 7) [e_, (.func (.func 81) #[] #[p_ b1, p_ b2])] [(0, e_), (1, (.func (.func 81) #[] #[p_ b1, p_ b2]))] (by kernel_rfl) rfl Try.func122 rfl rfl ?_)
  refine A.sr (A.g [.p] [] [] ?_)
  refine A.tn (A.seq (A.sr (A.g [.p, .p, .p] [] [(7, i_ 0), (8, i_ 0)] ?_)))
  refine A.tn (A.block (A.unroll 400 ?_))
  refine A.turnk (m := 399) ?_
  refine A.sr (A.g [.p] [] [(9, b_ false)] ?_)
  refine A.tn (A.seq (A.cf (A.exit (A.te (A.te (A.bh (tsr (A.g [.p] [0, 1, 7, 8, 9] [(4, i_ (-1))] ?_))))))))
  refine A.tn (A.ret (A.post [i_ (-1)] (fun aa ww rr ss => ⟨rv_tmp rr rfl, trivial⟩) (A.back (by kernel_rfl) ?_)))
  refine A.goA [.p, .p] [(4, b_ false)] [] T0 (by kernel_rfl) trivial ?_
  refine A.tn (A.ret (A.post [b_ false] (fun aa ww rr ss => ⟨rv_tmp rr rfl, trivial⟩) (A.back (by kernel_rfl) ?_)))
  refine A.goA [.p] [(4, b_ false)] [] T0 (by kernel_rfl) trivial ?_
  refine A.tn (A.ret (A.pQ [b_ false] ?_))
  rfl
end Go.Proofs.Ytinnnoimmioaiaa
