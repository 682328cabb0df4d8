/- What the functions of this layer do, proved operation by operation, for all arguments, under the conditions that each theorem states. -/
import Derived.Shelf.SlMaps.Clone
import Derived.Ground.SlmcProg
import Derived.Test.YtinnnoimmioaiaaProg
import Derived.Test.YtinnnoimmioaiaaL2
import Derived.Test.YtinnnoimmioaiaaHierC
namespace Go.Proofs.Ytinnnoimmioaiaa
open Go V
set_option linter.unusedVariables false
set_option linter.unusedSimpArgs false
set_option maxHeartbeats 4000000
set_option maxRecDepth 100000
theorem dn_len {l : List Cl} {k : Nat} : ((l.take k).map Cl.hi).length ≤ k := by simp; omega
def lvR (l : List Cl) : List Int := (l.filter (·.hl)).map (·.hi)
theorem lvR_snoc {l : List Cl} {x : Cl} : lvR (l ++ [x]) = lvR l ++ (if x.hl = true then [x.hi] else []) := by
  unfold lvR; rw [List.filter_append, List.map_append]; by_cases h : x.hl = true <;> simp [h]
theorem lvR_len (l : List Cl) : (lvR l).length ≤ l.length := by unfold lvR; rw [List.length_map]; exact List.length_filter_le _ _
/-- what a tree tells of a class that is there -/
theorem same_at {kv : List (Int × Cl)} {R : List Cl} (h : KR kv R) (hL : Laid kv) {k : Nat} {x : Cl} (hx : R[k]? = some x) : gce kv x.hi = 0 ∧ gcl kv x.hi = x ∧ dep kv x.hi = upD R x.hi ∧ upL kv x.hi (upD R x.hi) = upL (kvl R) x.hi (upD R x.hi) ∧ keysF kv (fun v_ => v_.hp == x.hi) = chR R x.hi := by
  have hm := kr_at h (List.mem_of_getElem? hx)
  refine ⟨by unfold gce; rw [hm]; rfl, gcl_of hm, (kr_upD h hL.dep x.hi).symm, ?_, kr_ch h x.hi⟩
  rw [kr_upL h]
theorem kr_ids {kv : List (Int × Cl)} {R : List Cl} (h : KR kv R) : keysF kv (fun v_ => true) = R.map Cl.hi := by
  rw [kr_keys h]; congr 1; exact List.filter_eq_self.2 fun _ _ => rfl
theorem kr_lv {kv : List (Int × Cl)} {R : List Cl} (h : KR kv R) : keysF kv (fun v_ => v_.hl) = lvR R := kr_keys h _
theorem gce_0 {kv : List (Int × Cl)} (h : Laid kv) : gce kv 0 = 6 := by unfold gce; rw [laid_0 h]; rfl

open Go.RowKit Go.Maps Go.Shelf
def Try.cloneA_ren : Go.Shelf.Ren := ⟨fun | 5 => 119 | 7 => 148 | n => n, fun | 23 => 122 | 25 => 3 | 3 => 98 | 4 => 4 | 20 => 20 | n => n, fun | n => n⟩
theorem Try.cloneA : Go.Proofs.SlLaysW.n5 Try.prog Try.cloneA_ren := {
  mixed := by kernel_rfl,
  f5 := ⟨Try.f119.name, by decide, Try.func119.trans (congrArg some (by kernel_rfl))⟩,
  f7 := Try.func148.trans (congrArg some (by kernel_rfl)),
  t4 := Try.underlying4,
  a4 := Try.isAgg4,
  z4 := Try.sizeOf4,
  v4 := Try.zeroValue4,
  t20 := Try.underlying20,
  a20 := Try.isAgg20,
  z20 := Try.sizeOf20,
  v20 := Try.zeroValue20,
  t23 := Try.underlying122,
  a23 := Try.isAgg122,
  z23 := Try.sizeOf122,
  v23 := Try.zeroValue122 }


theorem clone_spec (mb : Nat) (kv : List (Int × Cl)) (w : World) (r0 : (mHI mb kv).holds w) (hs : HS w (feet []) [] w) :
    Calls Try.prog 119 #[(.map (some mb))] w fun e w' => ∃ zz, e = .returned ((fun (mc : Nat) => (.map (some mc))) zz) ∧ (fun (mc : Nat) => True) zz ∧ Turn [] ((fun (mc : Nat) => [mHI mc kv]) zz) w w' := by
  obtain ⟨⟨es, clock, hp, hr⟩, hk⟩ := id r0
  refine (AnyW.maps_Clone Try.cloneA mb es clock w hp).mono ?_
  rintro e w' ⟨rfl, rfl⟩
  refine ⟨w.heap.size, rfl, trivial, ⟨Fr.alloc _ _ _, ?_, by simp [feet, mapI], by simp [feet, mapI]⟩⟩
  intro it hi; simp only [List.mem_singleton] at hi; subst hi
  exact ⟨⟨es, clock, (MapKept.heap_alloc w _).1, hr⟩, hk⟩

theorem copy_ok (bt mb : Nat) (kv : List (Int × Cl)) (w : World) (r0 : (blk bt [(.map (some mb))] 124).holds w) (r1 : (mHI mb kv).holds w) (hs : HS w (feet []) [] w) :
    Calls Try.prog 75 #[p_ bt] w fun e w' => ∃ zz, e = .returned ((fun (zz : Nat × Nat) => match zz with | (bc, mc) => (p_ bc)) zz) ∧ (fun (zz : Nat × Nat) => match zz with | (bc, mc) => True) zz ∧ Turn [] ((fun (zz : Nat × Nat) => match zz with | (bc, mc) => [blk bc [(.map (some mc))] 124, mHI mc kv]) zz) w w' := by
  refine calls_of (args := [p_ bt]) (penv [p_ bt]) (feet []) [] Try.func75 rfl rfl (look_penv _) hs ?_
  refine A.sr (A.g [.p] [] [] ?_)
  refine A.tn (A.seq (A.sr (A.g [.p, .p] [] [(4, b_ false)] ?_)))
  refine A.tn (A.cf (A.skip (tsr (A.gpk [.p, .p, .p, .rd [(.map (some mb))]] [0, 4] [(8, (.map (some mb)))] [] (fun κ => κ.rd ⟨bt, 0, none⟩ [(.map (some mb))] ∧ True) ⟨(reads_oldblk r0 rfl), trivial⟩ ?_))))
  refine A.cons (A.cT (some 9) [(.map (some mb))] [] ((fun mc1 => (.map (some mc1)))) ((fun mc1 => True)) ((fun mc1 => [mHI mc1 kv])) (fun ww ss hh => clone_spec mb kv ww (old_item ss r1) hh) ?_)
  rintro mc1 -
  refine A.n1 [.p, .al, .p] [8, 9] (fun b2 => [(2, p_ b2)]) (fun b2 => blk b2 [(.map (some mc1))] 124) ?_
  intro b2
  refine A.tn (A.ret (A.pK [1, 0] [p_ b2] (b2, mc1) ?_ ?_))
  · rfl
  trivial
end Go.Proofs.Ytinnnoimmioaiaa
