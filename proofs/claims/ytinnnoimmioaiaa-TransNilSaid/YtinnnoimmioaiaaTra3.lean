/- What the functions of this layer do, proved operation by operation, for all arguments, under the conditions that each theorem states. -/
import Derived.Shelf.Slices.CompactI
import Derived.Test.YtinnnoimmioaiaaProg
import Derived.Test.YtinnnoimmioaiaaTra2
import Derived.Test.YtinnnoimmioaiaaL2
namespace Go.Proofs.Ytinnnoimmioaiaa
open Go V
set_option linter.unusedVariables false
set_option linter.unusedSimpArgs false
set_option maxHeartbeats 4000000
set_option maxRecDepth 100000
/-- is a class another one in two trees? -/
def difB (kv kw : List (Int × Cl)) (i : Int) : Bool := decide (mget kv i ≠ mget kw i)
abbrev idsK (kv : List (Int × Cl)) : List Int := keysF kv (fun v_ => true)
def tchF (kv kw : List (Int × Cl)) (k : Nat) : List Int := ((idsK kv ++ idsK kw).take k).filter (difB kv kw)
def tchL (kv kw : List (Int × Cl)) : List Int := Go.Lib.compact (sortI ((idsK kv ++ idsK kw).filter (difB kv kw)))
theorem tchF_t {kv kw : List (Int × Cl)} {k : Nat} {i : Int} (h : (idsK kv ++ idsK kw)[k]? = some i) (hd : difB kv kw i = true) : tchF kv kw k ++ [i] = tchF kv kw (k + 1) := by
  unfold tchF; rw [List.take_add_one, h, List.filter_append]; simp [hd]
theorem tchF_f {kv kw : List (Int × Cl)} {k : Nat} {i : Int} (h : (idsK kv ++ idsK kw)[k]? = some i) (hd : difB kv kw i = false) : tchF kv kw k = tchF kv kw (k + 1) := by
  unfold tchF; rw [List.take_add_one, h, List.filter_append]; simp [hd]
theorem tchF_len (kv kw : List (Int × Cl)) (k : Nat) : (tchF kv kw k).length ≤ k := Nat.le_trans (List.length_filter_le _ _) (by simp; omega)
theorem tchF_all {kv kw : List (Int × Cl)} {k : Nat} (h : (idsK kv ++ idsK kw).length ≤ k) : tchF kv kw k = (idsK kv ++ idsK kw).filter (difB kv kw) := by unfold tchF; rw [List.take_of_length_le h]
theorem idsK_len (kv : List (Int × Cl)) : (idsK kv).length ≤ kv.length := keysF_len _ _
theorem compact_len (l : List Int) : (Go.Lib.compact l).length ≤ l.length := by
  unfold Go.Lib.compact Go.Lib.compactUpTo; rw [List.length_map]; exact Nat.le_trans (List.length_filter_le _ _) (by simp)

open Go.RowKit Go.Sort Go.Shelf Go.Proofs
def Try.laysNm220_ren : Go.Shelf.Ren := ⟨fun | 20 => 79 | n => n, fun | 22 => 45 | 3 => 3 | 4 => 4 | 0 => 0 | n => n, fun | n => n⟩
theorem Try.laysNm220 : Go.Proofs.Lays2.n20 Try.prog Try.laysNm220_ren := {
  mixed := by kernel_rfl
  f20 := Try.func79.trans (congrArg some (by kernel_rfl))
  t0 := Try.underlying0
  a0 := Try.isAgg0
  z0 := Try.sizeOf0
  v0 := Try.zeroValue0
  t3 := Try.underlying3
  a3 := Try.isAgg3
  z3 := Try.sizeOf3
  v3 := Try.zeroValue3
  t4 := Try.underlying4
  a4 := Try.isAgg4
  z4 := Try.sizeOf4
  v4 := Try.zeroValue4
  t22 := Try.underlying45
  a22 := Try.isAgg45
  z22 := Try.sizeOf45
  v22 := Try.zeroValue45
  i3 := by kernel_rfl }


theorem cmpct_spec (A : Option Addr) (l : List Int) (c : Nat) (hl : l.length ≤ 100000) (w : World) (hs : HS w (feet [sI A l c]) [sI A l c] w) :
    Calls Try.prog 79 #[vS A l c] w fun e w' => ∃ zz, e = .returned ((fun (zz : Unit) => (vS A (Go.Lib.compact l) c)) zz) ∧ (fun (zz : Unit) => True) zz ∧ Turn [sI A l c] ((fun (zz : Unit) => [sI A (Go.Lib.compact l) c]) zz) w w' := by
  have h0 : (sI A l c).holds w := hs.all _ (by simp)
  cases A with
  | none =>
    have hl0 : l = [] := by
      obtain ⟨_, h2, _, ⟨_, h4⟩ | ⟨_, _, _, h4, _⟩⟩ := h0
      · exact List.eq_nil_of_length_eq_zero (by omega)
      · cases h4
    subst hl0
    refine (Any.slices_Compact_int_empty Try.laysNm220 none c w).mono ?_
    rintro e w' ⟨rfl, rfl⟩
    exact ⟨(), rfl, trivial, Turn.of hs (List.Sublist.refl _)⟩
  | some a =>
    obtain ⟨g, off, rfl⟩ : ∃ g off, a = ⟨g, off, none⟩ := by
      obtain ⟨_, _, _, ⟨h4, _⟩ | ⟨g, off, _, h4, _⟩⟩ := id h0
      · cases h4
      · cases h4; exact ⟨g, off, rfl⟩
    obtain ⟨hH, hlt⟩ := sl_HoldsK (fun _ => rfl) h0
    refine (Any.slices_Compact_int Try.laysNm220 g off c l w hH (by omega) h0.2.1).mono ?_
    rintro e w' ⟨rfl, q, rfl⟩
    exact ⟨(), rfl, trivial, sl_row (fun _ => rfl) (by have := compact_len l; simp; omega) h0⟩

theorem tch_ok (bt mb : Nat) (kv : List (Int × Cl)) (bu mc : Nat) (kw : List (Int × Cl)) (hl : kv.length ≤ 64) (hm : kw.length ≤ 64) (w : World) (r0 : (blk bt [(.map (some mb))] 124).holds w) (r1 : (mHI mb kv).holds w) (r2 : (blk bu [(.map (some mc))] 124).holds w) (r3 : (mHI mc kw).holds w) (hs : HS w (feet []) [] w) :
    Calls Try.prog 37 #[p_ bt, p_ bu] w fun e w' => ∃ zz, e = .returned ((fun (zz : (Option Addr) × Nat) => match zz with | (al', cl') => (vS al' (tchL kv kw) cl')) zz) ∧ (fun (zz : (Option Addr) × Nat) => match zz with | (al', cl') => True) zz ∧ Turn [] ((fun (zz : (Option Addr) × Nat) => match zz with | (al', cl') => [sI al' (tchL kv kw) cl']) zz) w w' := by
  have hk1 := idsK_len kv; have hk2 := idsK_len kw; unfold idsK at hk1 hk2; have hk3 : ((keysF kv (fun v_ => true)) ++ (keysF kw (fun v_ => true))).length ≤ 128 := by rw [List.length_append]; omega
  refine calls_of (args := [p_ bt, p_ bu]) (penv [p_ bt, p_ bu]) (feet []) [] Try.func37 rfl rfl (look_penv _) hs ?_
  refine A.sr (A.g [.p] [] [] ?_)
  refine tsr (A.g [.p] [] [(5, e_)] ?_)
  refine A.tn (A.seq (A.sr (A.gp [.p] [] [(12, p_ bt)] ?_)))
  refine A.cons (A.cT (some 13) [p_ bt] [] ((fun zz => match zz with | (al'1, cl'2) => (vS al'1 (keysF kv (fun v_ => true)) cl'2))) ((fun zz => match zz with | (al'1, cl'2) => True)) ((fun zz => match zz with | (al'1, cl'2) => [sI al'1 (keysF kv (fun v_ => true)) cl'2])) (fun ww ss hh => ids_ok bt mb kv (by omega) ww (old_item ss r0) (old_item ss r1) hh) ?_)
  rintro ⟨al'1, cl'2⟩ -
  refine A.gp [.p] [12] [(13, vS al'1 (keysF kv (fun v_ => true)) cl'2), (14, p_ bu)] ?_
  refine A.cons (A.cT (some 15) [p_ bu] [] ((fun zz => match zz with | (al'4, cl'5) => (vS al'4 (keysF kw (fun v_ => true)) cl'5))) ((fun zz => match zz with | (al'4, cl'5) => True)) ((fun zz => match zz with | (al'4, cl'5) => [sI al'4 (keysF kw (fun v_ => true)) cl'5])) (fun ww ss hh => ids_ok bu mc kw (by omega) ww (old_item ss r2) (old_item ss r3) hh) ?_)
  rintro ⟨al'4, cl'5⟩ -
  refine A.cons (A.buildSlice 16 (e := 45) [vS al'1 (keysF kv (fun v_ => true)) cl'2, vS al'4 (keysF kw (fun v_ => true)) cl'5] (by kernel_rfl) rfl (fun _ => by kernel_rfl) (fun b7 => [sI al'4 (keysF kw (fun v_ => true)) cl'5, sI al'1 (keysF kv (fun v_ => true)) cl'2, blk b7 [vS al'1 (keysF kv (fun v_ => true)) cl'2, vS al'4 (keysF kw (fun v_ => true)) cl'5] 45]) (fun _ => rfl) ?_)
  intro b7
  refine A.cons (A.cT (some 17) [(.slice (some ⟨b7, 0, none⟩) 2 2)] [] ((fun zz => match zz with | (al'8, cl'9) => (vS al'8 ((keysF kv (fun v_ => true)) ++ (keysF kw (fun v_ => true))) cl'9))) ((fun zz => match zz with | (al'8, cl'9) => True)) ((fun zz => match zz with | (al'8, cl'9) => [sI al'8 ((keysF kv (fun v_ => true)) ++ (keysF kw (fun v_ => true))) cl'9])) (fun ww ss hh => concat_spec b7 al'1 (keysF kv (fun v_ => true)) cl'2 al'4 (keysF kw (fun v_ => true)) cl'5 (by omega) (by omega) ww (ss.mem (i := 2) rfl) ((rd_sl (i := 1) rfl) ww ss) ((rd_sl (i := 0) rfl) ww ss) hh) ?_)
  rintro ⟨al'8, cl'9⟩ -
  refine A.g [.p, .p] [13, 14, 15, 16] [(17, vS al'8 ((keysF kv (fun v_ => true)) ++ (keysF kw (fun v_ => true))) cl'9), (18, i_ (((keysF kv (fun v_ => true)) ++ (keysF kw (fun v_ => true))).length : Int)), (19, i_ 0)] ?_
  refine A.tn (A.block (A.ownNil 3 1 [sI al'8 ((keysF kv (fun v_ => true)) ++ (keysF kw (fun v_ => true))) cl'9, sI al'4 (keysF kw (fun v_ => true)) cl'5, sI al'1 (keysF kv (fun v_ => true)) cl'2, blk b7 [vS al'1 (keysF kv (fun v_ => true)) cl'2, vS al'4 (keysF kw (fun v_ => true)) cl'5] 45, sI none ([] : List Int) 0] rfl ?_))
  refine A.setH [sI al'8 ((keysF kv (fun v_ => true)) ++ (keysF kw (fun v_ => true))) cl'9, sI al'4 (keysF kw (fun v_ => true)) cl'5, sI al'1 (keysF kv (fun v_ => true)) cl'2, blk b7 [vS al'1 (keysF kv (fun v_ => true)) cl'2, vS al'4 (keysF kw (fun v_ => true)) cl'5] 45, sI none (tchF kv kw 0) 0] (cc rfl (cc rfl (cc rfl (cc rfl (cc (slC (by rfl : ([] : List Int) = (tchF kv kw 0))) rfl))))) ?_
  refine A.sv 5 (vS none (tchF kv kw 0) 0) (congrArg (fun z_ : List Int => some (Value.slice none z_.length 0)) (by rfl : ([] : List Int) = (tchF kv kw 0))) ?_
  refine A.loop (fun (zz : Nat × (Option Addr) × Nat) => match zz with | (k, ao, co) => [(0, p_ bt), (1, p_ bu), (17, vS al'8 ((keysF kv (fun v_ => true)) ++ (keysF kw (fun v_ => true))) cl'9), (18, i_ (((keysF kv (fun v_ => true)) ++ (keysF kw (fun v_ => true))).length : Int)), (19, c_ k), (5, vS ao (tchF kv kw k) co)]) (fun (zz : Nat × (Option Addr) × Nat) => match zz with | (k, ao, co) => [sI ao (tchF kv kw k) co, sI al'8 ((keysF kv (fun v_ => true)) ++ (keysF kw (fun v_ => true))) cl'9, sI al'4 (keysF kw (fun v_ => true)) cl'5, sI al'1 (keysF kv (fun v_ => true)) cl'2, blk b7 [vS al'1 (keysF kv (fun v_ => true)) cl'2, vS al'4 (keysF kw (fun v_ => true)) cl'5] 45]) (fun (zz : Nat × (Option Addr) × Nat) => match zz with | (k, ao, co) => (k ≤ ((keysF kv (fun v_ => true)) ++ (keysF kw (fun v_ => true))).length)) (fun (zz : Nat × (Option Addr) × Nat) => match zz with | (k, ao, co) => ((keysF kv (fun v_ => true)) ++ (keysF kw (fun v_ => true))).length - k) (0, none, 0) (by omega) ?_ ?_
  · exact A.hK [4, 0, 0, 0, 0]
  rintro ⟨k, ao, co⟩ hk
  have hk : k ≤ ((keysF kv (fun v_ => true)) ++ (keysF kw (fun v_ => true))).length := hk
  have htl := tchF_len kv kw k
  refine A.sr (A.g [.p] [] [(20, b_ (decide ((k : Int) < (((keysF kv (fun v_ => true)) ++ (keysF kw (fun v_ => true))).length : Int))))] ?_)
  refine A.tn (A.seq (A.cn (decide ((k : Int) < (((keysF kv (fun v_ => true)) ++ (keysF kw (fun v_ => true))).length : Int))) (fun e4 => ?_) (fun e4 => ?_)))
  · have p4 := of_decide_eq_true e4
    refine A.skip (A.tn (A.seq (A.block (A.sr (A.gpk [.ix] [20] [(21, (.pointer (some ((at0 al'8).add (k * 1)))))] [] (fun κ => κ.ix al'8 (((keysF kv (fun v_ => true)) ++ (keysF kw (fun v_ => true))).length) (k : Int) ∧ True) ⟨(ixOf encI_len (by decide) (rd_sl (i := 1) rfl) (by omega)), trivial⟩ ?_)))))
    obtain ⟨x12, hx12⟩ : ∃ x, (((keysF kv (fun v_ => true)) ++ (keysF kw (fun v_ => true))))[k]? = some x := ⟨_, List.getElem?_eq_getElem (by omega)⟩
    refine A.gk [.rd [i_ x12], .p] [21] [(7, i_ x12)] [] (fun κ => κ.rd ((at0 al'8).add (k * 1)) [i_ x12] ∧ True) ⟨(reads_at0 (vs := [i_ x12]) encI_len (rd_sl (i := 1) rfl) hx12 (Nat.le_of_ble_eq_true rfl) rfl), trivial⟩ ?_
    refine tsr (A.goA1 [.p, .p, .cq (.tuple #[(.agg (encCl (gcl kv x12)).toArray), i_ (gce kv x12)]), .p, .p, .p, .al, .st 5, .p] [0, 1, 17, 18, 19, 5, 7, 8, 9] (fun b13 => [(0, p_ bt), (1, p_ bu), (17, vS al'8 ((keysF kv (fun v_ => true)) ++ (keysF kw (fun v_ => true))) cl'9), (18, i_ (((keysF kv (fun v_ => true)) ++ (keysF kw (fun v_ => true))).length : Int)), (19, c_ k), (5, vS ao (tchF kv kw k) co), (7, i_ x12), (8, p_ b13), (9, i_ (gce kv x12))]) (fun b13 => [sI ao (tchF kv kw k) co, sI al'8 ((keysF kv (fun v_ => true)) ++ (keysF kw (fun v_ => true))) cl'9, sI al'4 (keysF kw (fun v_ => true)) cl'5, sI al'1 (keysF kv (fun v_ => true)) cl'2, blk b7 [vS al'1 (keysF kv (fun v_ => true)) cl'2, vS al'4 (keysF kw (fun v_ => true)) cl'5] 45, blk b13 (encCl (gcl kv x12)) 98]) (fun b13 => [b13]) (fun _ => (fun κ => κ.call 57 [p_ bt, i_ x12] (.tuple #[(.agg (encCl (gcl kv x12)).toArray), i_ (gce kv x12)]) ∧ True)) (fun _ => by kernel_rfl) (fun b13 => ⟨(fun ww ss => get_ok bt mb kv x12 ww (old_item ss r0) (old_item ss r1)), trivial⟩) ?_)
    intro b13
    refine tsr (A.goA1 [.p, .p, .cq (.tuple #[(.agg (encCl (gcl kw x12)).toArray), i_ (gce kw x12)]), .p, .p, .p, .al, .st 6, .p] [0, 1, 17, 18, 19, 5, 7, 8, 9, 10, 11] (fun b14 => [(0, p_ bt), (1, p_ bu), (17, vS al'8 ((keysF kv (fun v_ => true)) ++ (keysF kw (fun v_ => true))) cl'9), (18, i_ (((keysF kv (fun v_ => true)) ++ (keysF kw (fun v_ => true))).length : Int)), (19, c_ k), (5, vS ao (tchF kv kw k) co), (7, i_ x12), (8, p_ b13), (9, i_ (gce kv x12)), (10, p_ b14), (11, i_ (gce kw x12))]) (fun b14 => [sI ao (tchF kv kw k) co, sI al'8 ((keysF kv (fun v_ => true)) ++ (keysF kw (fun v_ => true))) cl'9, sI al'4 (keysF kw (fun v_ => true)) cl'5, sI al'1 (keysF kv (fun v_ => true)) cl'2, blk b7 [vS al'1 (keysF kv (fun v_ => true)) cl'2, vS al'4 (keysF kw (fun v_ => true)) cl'5] 45, blk b13 (encCl (gcl kv x12)) 98, blk b14 (encCl (gcl kw x12)) 98]) (fun b14 => [b14]) (fun _ => (fun κ => κ.call 57 [p_ bu, i_ x12] (.tuple #[(.agg (encCl (gcl kw x12)).toArray), i_ (gce kw x12)]) ∧ True)) (fun _ => by kernel_rfl) (fun b14 => ⟨(fun ww ss => get_ok bu mc kw x12 ww (old_item ss r2) (old_item ss r3)), trivial⟩) ?_)
    intro b14
    refine tsr (A.gk [.p, .p, .p, .p, .eq, .p, .o, .ld 5, .ld 6, .eq, .cl] [8, 9, 10, 11] [(44, b_ ((!(((gce kv x12) == 0) == ((gce kw x12) == 0))) || (!((((gcl kv x12).hi) == ((gcl kw x12).hi)) && ((((gcl kv x12).hp) == ((gcl kw x12).hp)) && ((((gcl kv x12).hl) == ((gcl kw x12).hl)) && (((((gcl kv x12).ra) == ((gcl kw x12).ra)) && ((((gcl kv x12).rb) == ((gcl kw x12).rb)) && (((gcl kv x12).rc) == ((gcl kw x12).rc)))) && (((((gcl kv x12).la) == ((gcl kw x12).la)) && ((((gcl kv x12).lb) == ((gcl kw x12).lb)) && (((gcl kv x12).lc) == ((gcl kw x12).lc)))) && (((((gcl kv x12).ua) == ((gcl kw x12).ua)) && ((((gcl kv x12).ub) == ((gcl kw x12).ub)) && (((gcl kv x12).uc) == ((gcl kw x12).uc)))) && ((((gcl kv x12).hk) == ((gcl kw x12).hk)) && (((gcl kv x12).hq) == ((gcl kw x12).hq))))))))))))] [b13, b14] T0 trivial ?_)
    refine A.tn (A.cn ((!(((gce kv x12) == 0) == ((gce kw x12) == 0))) || (!((((gcl kv x12).hi) == ((gcl kw x12).hi)) && ((((gcl kv x12).hp) == ((gcl kw x12).hp)) && ((((gcl kv x12).hl) == ((gcl kw x12).hl)) && (((((gcl kv x12).ra) == ((gcl kw x12).ra)) && ((((gcl kv x12).rb) == ((gcl kw x12).rb)) && (((gcl kv x12).rc) == ((gcl kw x12).rc)))) && (((((gcl kv x12).la) == ((gcl kw x12).la)) && ((((gcl kv x12).lb) == ((gcl kw x12).lb)) && (((gcl kv x12).lc) == ((gcl kw x12).lc)))) && (((((gcl kv x12).ua) == ((gcl kw x12).ua)) && ((((gcl kv x12).ub) == ((gcl kw x12).ub)) && (((gcl kv x12).uc) == ((gcl kw x12).uc)))) && ((((gcl kv x12).hk) == ((gcl kw x12).hk)) && (((gcl kv x12).hq) == ((gcl kw x12).hq))))))))))) (fun e5 => ?_) (fun e5 => ?_))
    · have p5 := e5; try simp only [nrm] at p5
      have hdf : difB kv kw x12 = true := by
        revert e5; unfold difB; cases h1_ : mget kv x12 with
        | none => cases h2_ : mget kw x12 with
          | none => simp [gce, gcl, h1_, h2_, cl0]
          | some v_ => simp [gce, gcl, h1_, h2_, cl0]
        | some u_ => cases h2_ : mget kw x12 with
          | none => simp [gce, gcl, h1_, h2_, cl0]
          | some v_ => obtain ⟨_, _, _, _, _, _, _, _, _, _, _, _, _, _⟩ := u_; obtain ⟨_, _, _, _, _, _, _, _, _, _, _, _, _, _⟩ := v_; simp [gce, gcl, h1_, h2_]; try (grind)
      refine A.region (A.gp [.p, .p] [7, 44] [(45, vS ao (tchF kv kw k) co), (46, i_ x12)] ?_)
      refine A.cons (A.buildSlice 47 (e := 3) [i_ x12] (by kernel_rfl) rfl (fun _ => by kernel_rfl) (fun b15 => [sI ao (tchF kv kw k) co, sI al'8 ((keysF kv (fun v_ => true)) ++ (keysF kw (fun v_ => true))) cl'9, sI al'4 (keysF kw (fun v_ => true)) cl'5, sI al'1 (keysF kv (fun v_ => true)) cl'2, blk b7 [vS al'1 (keysF kv (fun v_ => true)) cl'2, vS al'4 (keysF kw (fun v_ => true)) cl'5] 45, blk b13 (encCl (gcl kv x12)) 98, blk b14 (encCl (gcl kw x12)) 98, blk b15 [i_ x12] 3]) (fun _ => rfl) ?_)
      intro b15
      refine A.cons (A.appendC (enc := encI) (xs := (tchF kv kw k)) ([x12]) 0 48 (e := 3) (z := (i_ 0)) (sz := 1) (by_ := 8) (by kernel_rfl) rfl rfl rfl (by kernel_rfl) (by kernel_rfl) (by rfl) (by decide) encI_len encI_one rfl (rd_blk (i := 7) rfl) (by ((simp; omega))) (fun A16 c16 => [sI A16 ((tchF kv kw k) ++ ([x12])) c16, sI al'8 ((keysF kv (fun v_ => true)) ++ (keysF kw (fun v_ => true))) cl'9, sI al'4 (keysF kw (fun v_ => true)) cl'5, sI al'1 (keysF kv (fun v_ => true)) cl'2, blk b7 [vS al'1 (keysF kv (fun v_ => true)) cl'2, vS al'4 (keysF kw (fun v_ => true)) cl'5] 45, blk b13 (encCl (gcl kv x12)) 98, blk b14 (encCl (gcl kw x12)) 98, blk b15 [i_ x12] 3]) (fun _ _ => rfl) ?_)
      intro A16 c16
      refine A.goA [.p] [(0, p_ bt), (1, p_ bu), (17, vS al'8 ((keysF kv (fun v_ => true)) ++ (keysF kw (fun v_ => true))) cl'9), (18, i_ (((keysF kv (fun v_ => true)) ++ (keysF kw (fun v_ => true))).length : Int)), (19, c_ k), (5, vS A16 ((tchF kv kw k) ++ ([x12])) c16)] [] T0 (by kernel_rfl) trivial ?_
      refine A.bn (tr (A.gk [.w ((k : Int) + 1), .p] [] [(19, i_ ((k : Int) + 1))] [] (fun κ => (IntKind.i64.wrap ((k : Int) + 1) = ((k : Int) + 1)) ∧ True) ⟨(wrap_i64 (e := (k : Int) + 1) (by constructor <;> omega)), trivial⟩ ?_))
      refine A.tn (A.setH [sI A16 (tchF kv kw (k + 1)) c16, sI al'8 ((keysF kv (fun v_ => true)) ++ (keysF kw (fun v_ => true))) cl'9, sI al'4 (keysF kw (fun v_ => true)) cl'5, sI al'1 (keysF kv (fun v_ => true)) cl'2, blk b7 [vS al'1 (keysF kv (fun v_ => true)) cl'2, vS al'4 (keysF kw (fun v_ => true)) cl'5] 45, blk b13 (encCl (gcl kv x12)) 98, blk b14 (encCl (gcl kw x12)) 98, blk b15 [i_ x12] 3] (cc (slC (by exact tchF_t (by assumption) hdf : (tchF kv kw k) ++ ([x12]) = (tchF kv kw (k + 1)))) rfl) ?_)
      refine A.sv 5 (vS A16 (tchF kv kw (k + 1)) c16) (cgL (by exact tchF_t (by assumption) hdf)) ?_
      refine A.next (k + 1, A16, c16) (by omega) (by (have h_ := (List.getElem?_eq_some_iff.1 (by assumption : ((keysF kv (fun v_ => true)) ++ (keysF kw (fun v_ => true)))[k]? = some _)).1; show ((keysF kv (fun v_ => true)) ++ (keysF kw (fun v_ => true))).length - (k + 1) < ((keysF kv (fun v_ => true)) ++ (keysF kw (fun v_ => true))).length - k; omega)) ?_
      exact A.hK [0, 0, 0, 0, 0]
    have p5 := e5; try simp only [nrm] at p5
    have hdf : difB kv kw x12 = false := by
      revert e5; unfold difB; cases h1_ : mget kv x12 with
      | none => cases h2_ : mget kw x12 with
        | none => simp [gce, gcl, h1_, h2_, cl0]
        | some v_ => simp [gce, gcl, h1_, h2_, cl0]
      | some u_ => cases h2_ : mget kw x12 with
        | none => simp [gce, gcl, h1_, h2_, cl0]
        | some v_ => obtain ⟨_, _, _, _, _, _, _, _, _, _, _, _, _, _⟩ := u_; obtain ⟨_, _, _, _, _, _, _, _, _, _, _, _, _, _⟩ := v_; simp [gce, gcl, h1_, h2_]; try (grind)
    refine A.skip (A.bn (tr (A.gk [.w ((k : Int) + 1), .p] [7, 44] [(19, i_ ((k : Int) + 1))] [] (fun κ => (IntKind.i64.wrap ((k : Int) + 1) = ((k : Int) + 1)) ∧ True) ⟨(wrap_i64 (e := (k : Int) + 1) (by constructor <;> omega)), trivial⟩ ?_)))
    refine A.tn (A.setH [sI ao (tchF kv kw (k + 1)) co, sI al'8 ((keysF kv (fun v_ => true)) ++ (keysF kw (fun v_ => true))) cl'9, sI al'4 (keysF kw (fun v_ => true)) cl'5, sI al'1 (keysF kv (fun v_ => true)) cl'2, blk b7 [vS al'1 (keysF kv (fun v_ => true)) cl'2, vS al'4 (keysF kw (fun v_ => true)) cl'5] 45, blk b13 (encCl (gcl kv x12)) 98, blk b14 (encCl (gcl kw x12)) 98] (cc (slC (by exact tchF_f (by assumption) hdf : (tchF kv kw k) = (tchF kv kw (k + 1)))) rfl) ?_)
    refine A.sv 5 (vS ao (tchF kv kw (k + 1)) co) (cgL (by exact tchF_f (by assumption) hdf)) ?_
    refine A.next (k + 1, ao, co) (by omega) (by (have h_ := (List.getElem?_eq_some_iff.1 (by assumption : ((keysF kv (fun v_ => true)) ++ (keysF kw (fun v_ => true)))[k]? = some _)).1; show ((keysF kv (fun v_ => true)) ++ (keysF kw (fun v_ => true))).length - (k + 1) < ((keysF kv (fun v_ => true)) ++ (keysF kw (fun v_ => true))).length - k; omega)) ?_
    exact A.hK [0, 0, 0, 0, 0]
  have p4 := of_decide_eq_false e4
  refine A.exit (A.te (A.te (A.bh (tsr (A.gp [.p] [0, 1, 17, 18, 19, 20] [(50, vS ao (tchF kv kw k) co)] ?_)))))
  refine A.cons (A.cT (some 51) [vS ao (tchF kv kw k) co] [0] ((fun _ => (.tuple #[]))) ((fun _ => True)) ((fun _ => [sI ao (sortI (tchF kv kw k)) co])) (fun ww ss hh => sort_spec ao (tchF kv kw k) co (by omega) ww hh) ?_)
  rintro ⟨⟩ -
  refine A.done ?_
  refine A.tn (A.seq (A.sv 5 (vS ao (sortI (tchF kv kw k)) co) (cgN (by rw [sortI_len])) (A.sv 50 (vS ao (sortI (tchF kv kw k)) co) (cgN (by rw [sortI_len])) ?_)))
  refine A.region (A.gp [.p] [5, 50, 51] [(52, vS ao (sortI (tchF kv kw k)) co)] ?_)
  refine A.cons (A.cT (some 53) [vS ao (sortI (tchF kv kw k)) co] [0] ((fun _ => (vS ao (Go.Lib.compact (sortI (tchF kv kw k))) co))) ((fun _ => True)) ((fun _ => [sI ao (Go.Lib.compact (sortI (tchF kv kw k))) co])) (fun ww ss hh => cmpct_spec ao (sortI (tchF kv kw k)) co (by (rw [sortI_len]; omega)) ww hh) ?_)
  rintro ⟨⟩ -
  refine A.g [.p] [52, 53] [(4, vS ao (Go.Lib.compact (sortI (tchF kv kw k))) co)] ?_
  refine A.tn (A.ret (A.setH [sI ao (tchL kv kw) co, sI al'8 ((keysF kv (fun v_ => true)) ++ (keysF kw (fun v_ => true))) cl'9, sI al'4 (keysF kw (fun v_ => true)) cl'5, sI al'1 (keysF kv (fun v_ => true)) cl'2, blk b7 [vS al'1 (keysF kv (fun v_ => true)) cl'2, vS al'4 (keysF kw (fun v_ => true)) cl'5] 45] (cc (slC (by (unfold tchL; rw [tchF_all (show ((keysF kv (fun v_ => true)) ++ (keysF kw (fun v_ => true))).length ≤ k from by omega)]; done) : (Go.Lib.compact (sortI (tchF kv kw k))) = (tchL kv kw))) rfl) ?_))
  refine A.pK [0] [vS ao (Go.Lib.compact (sortI (tchF kv kw k))) co] (ao, co) ?_ ?_
  · show ((vS ao (Go.Lib.compact (sortI (tchF kv kw k))) co) : Value) = (vS ao (tchL kv kw) co)
    unfold tchL; rw [tchF_all (show ((keysF kv (fun v_ => true)) ++ (keysF kw (fun v_ => true))).length ≤ k from by omega)]
  trivial
end Go.Proofs.Ytinnnoimmioaiaa
