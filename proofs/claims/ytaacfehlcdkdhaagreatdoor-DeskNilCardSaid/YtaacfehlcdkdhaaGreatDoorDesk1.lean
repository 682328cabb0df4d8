/- The example at a desk, and what a nil desk answers: each run is reckoned. -/
import Derived.Test.YtaacfehlcdkdhaaGreatDoorInsE
import Derived.Test.YtaacfehlcdkdhaaGreatDoorR2
namespace Go.Proofs.YtaacfehlcdkdhaaGreatDoor
open Go V R Go.Shelf
set_option maxRecDepth 100000
theorem cloneLaw : ExtOk Tryz.prog (cloneX 196) := clone_ok (fun args w => run_callFunc_extern Tryz.func196 (by kernel_rfl) (by kernel_rfl) (by kernel_rfl) (by kernel_rfl) args w)
theorem splitLaw : SplitLaw Tryz.prog 20 9 := fun l c w hl => (split_one Tryz.lays146 (by kernel_rfl) (bs l) c w (by show l.length < _; omega)).mono fun e w' ⟨h1, h2⟩ => by
  have hw : (Lib.splitB ⟨#[c]⟩ 0 (Lib.countB (bs l) ⟨#[c]⟩) (bs l)).map (fun s => s.data.toList) = words c l := by
    rw [Lib.splitB_data]
    show Lib.splitK [c] 0 (Lib.count l [c]) l = _
    rw [Lib.count_one, splitK_words]
  have hmap : (Lib.splitB ⟨#[c]⟩ 0 (Lib.countB (bs l) ⟨#[c]⟩) (bs l)).map Value.string = (words c l).map fun x => Value.string (bs x) := by
    rw [← hw, List.map_map]
    refine List.map_congr_left fun s _ => ?_
    show Value.string s = Value.string (bs s.data.toList); rw [bs_of]
  have hlen : (words c l).length = Lib.countB (bs l) ⟨#[c]⟩ + 1 := by
    rw [← hw, List.length_map]; exact Lib.splitB_all ⟨#[c]⟩ (Nat.le_refl 1) 0 _ _ rfl
  rw [hmap] at h2
  exact ⟨by rw [h1, hlen], h2⟩
theorem joinLaw : JoinLaw Tryz.prog 16 := fun g off c xs sp w hc hg h0 h1 h2 h3 => by
  have hb := bs_map xs
  have := Any.strings_Join Tryz.lays156 Tryz.Builder_Extra_156 g off c (xs.map bs) (bs sp) w (fun j x hx => by
    rw [List.getElem?_map] at hx
    obtain ⟨y, hy, rfl⟩ := Option.map_eq_some_iff.1 hx
    exact hc j y hy) hg (by simp; omega) (by simpa using h2) (by rw [hb]; show (Lib.join xs sp).length ≤ _; omega)
  rw [hb, List.length_map] at this
  exact this.mono fun e w' ⟨h1, h2⟩ => ⟨h1, Fr.of_below h2⟩
noncomputable def clV : AV := .tup [.agg [.sc (.int .i64 1), .sc (.int .i64 0), .sc (.bool true), .sc (.int .u64 0), .sc (.int .u64 0), .sc (.int .u64 0), .sc (.int .u64 65536), .sc (.int .u64 0), .sc (.int .u64 65536), .sc (.int .u64 0), .sc (.int .u64 0), .sc (.int .u64 0), .sc (.int .i64 9), .sc (.int .i64 900)], .sc (.int .i64 0)]
theorem textLaw : TextLaw Tryz.prog 15 sT clV := fun w => (icp_key sT w).mono fun e w' ⟨h1, h2⟩ => by
  refine ⟨icR sT, h1, fun ρ => ?_, h2⟩
  unfold icR
  rw [cp_T.1, cp_T.2]
  exact ⟨_, rfl, _, _, rfl, ⟨_, rfl, _, _, rfl, rfl, _, _, rfl, rfl, _, _, rfl, rfl, _, _, rfl, rfl, _, _, rfl, rfl, _, _, rfl, rfl, _, _, rfl, rfl, _, _, rfl, rfl, _, _, rfl, rfl, _, _, rfl, rfl, _, _, rfl, rfl, _, _, rfl, rfl, _, _, rfl, rfl, _, _, rfl, rfl, rfl⟩, _, _, rfl, rfl, rfl⟩
theorem primLaw : PrimOk Tryz.prog (primX 20 16 15 9 sT clV) := prim_ok splitLaw joinLaw textLaw
theorem tabLaw : tabT Tryz.prog = natTab Tryz.prog := tabT_eq (by kernel_rfl) (by kernel_rfl)
end Go.Proofs.YtaacfehlcdkdhaaGreatDoor
