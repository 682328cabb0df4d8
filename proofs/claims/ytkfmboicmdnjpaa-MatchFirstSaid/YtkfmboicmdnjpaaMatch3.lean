/- What the functions of this layer do, proved operation by operation, for all arguments, under the conditions that each theorem states. -/
import Derived.Test.YtkfmboicmdnjpaaProg
import Derived.Test.YtkfmboicmdnjpaaMatch2
namespace Go.Proofs.Ytkfmboicmdnjpaa
open Go V
set_option linter.unusedVariables false
set_option linter.unusedSimpArgs false
def encI (x : Int) : List Value := [(i_ x)]
theorem encI_len (x : Int) : (encI x).length = 1 := rfl
theorem encI_one (x : Int) : (encI x).all Value.oneCell' = true := rfl

set_option maxHeartbeats 4000000 in
set_option maxRecDepth 100000 in
theorem clone_some (p : Addr) (l : List Rl) (cl : Nat) (hl : l.length ≤ 100000) (w : World) (r0 : arrAt w (some p) (V.flat encRl l)) (hs : HS w (feet []) [] w) :
    Calls Try.prog 57 #[(.slice (some p) l.length cl)] w fun e w' => ∃ zz, e = .returned ((fun (zz : (Option Addr) × Nat) => match zz with | (al', cl') => (.slice al' l.length cl')) zz) ∧ (fun (zz : (Option Addr) × Nat) => match zz with | (al', cl') => True) zz ∧ Turn [] ((fun (zz : (Option Addr) × Nat) => match zz with | (al', cl') => [sl al' (l.length) cl' 65 9 (V.flat encRl l)]) zz) w w' := by
  refine calls_of (args := [(.slice (some p) l.length cl)]) (penv [(.slice (some p) l.length cl)]) (feet []) [] Try.func57 rfl rfl (look_penv _) hs ?_
  refine A.norm [(0, (.slice (some p) l.length cl))] [] (by exact ⟨rfl, trivial⟩) rfl ?_
  refine A.seq ?_
  refine A.region (A.goA [.p] [(0, (.slice (some p) l.length cl)), (2, e_)] [] T0 (by kernel_rfl) trivial ?_)
  refine A.tn ?_
  refine A.seq ?_
  refine A.seq ?_
  refine A.region (A.goA [.p, .p] [(0, (.slice (some p) l.length cl)), (2, e_), (4, (b_ false))] [] T0 (by kernel_rfl) trivial ?_)
  refine A.tn ?_
  refine A.cond_f rfl ?_
  refine A.skip ?_
  refine A.tn ?_
  refine A.seq ?_
  refine A.region ?_
  refine A.cons (A.buildSlice 5 (e := 65) [] (by kernel_rfl) rfl (fun _ => by kernel_rfl) (fun b1 => [blk b1 [] 65]) (fun _ => rfl) ?_)
  intro b1
  refine A.goP [.p] [(0, (.slice (some p) l.length cl)), (2, e_), (4, (b_ false)), (5, (.slice (some ⟨b1, 0, none⟩) 0 0)), (6, (.slice (some p) l.length cl))] [] T0 (by kernel_rfl) trivial ?_
  refine A.cons (A.ownBlk 0 (b := b1) 0 9 [sl (some ⟨b1, 0, none⟩) (([] : List Rl).length) 0 65 9 (V.flat encRl ([] : List Rl))] rfl rfl (by decide) rfl (A.appendC (enc := encRl) (xs := ([] : List Rl)) l 0 7 (e := 65) (z := (.agg #[(w_ 0), (w_ 0), (w_ 0), (w_ 0), (w_ 0), (w_ 0), (w_ 0), (w_ 0), (i_ 0)])) (sz := 9) (by_ := 24) (by kernel_rfl) rfl rfl rfl (by kernel_rfl) (by kernel_rfl) (by rfl) (by decide) encRl_len encRl_one rfl (rd_old r0 (by simp [feet])) (by simp; omega) (fun A3 c3 => [sl A3 (l.length) c3 65 9 (V.flat encRl l)]) (fun _ _ => rfl) ?_))
  intro A3 c3
  refine A.goA [.p] [(0, (.slice (some p) l.length cl)), (2, (.slice A3 l.length c3)), (4, (b_ false))] [] T0 (by kernel_rfl) trivial ?_
  refine A.tn ?_
  refine A.ret ?_
  refine A.postK [0] [(.slice A3 l.length c3)] (fun aa ww rr ss => ⟨rv_tmp rr rfl, trivial⟩) (A3, c3) ?_ ?_ (by kernel_rfl)
  · rfl
  · trivial

set_option maxHeartbeats 4000000 in
set_option maxRecDepth 100000 in
theorem clone_none (l : List Rl) (cl : Nat) (w : World) :
    Calls Try.prog 57 #[(.slice none l.length cl)] w fun e w' => e = .returned e_ ∧ Fr [] w w' := by
  refine calls_of (args := [(.slice none l.length cl)]) (penv [(.slice none l.length cl)]) [] [] Try.func57 rfl rfl (look_penv _) (HS.nil w) ?_
  refine A.norm [(0, (.slice none l.length cl))] [] (by exact ⟨rfl, trivial⟩) rfl ?_
  refine A.seq ?_
  refine A.region (A.goA [.p] [(0, (.slice none l.length cl)), (2, e_)] [] T0 (by kernel_rfl) trivial ?_)
  refine A.tn ?_
  refine A.seq ?_
  refine A.seq ?_
  refine A.region (A.goA [.p, .p] [(0, (.slice none l.length cl)), (2, e_), (4, (b_ true))] [] T0 (by kernel_rfl) trivial ?_)
  refine A.tn ?_
  refine A.cond_t rfl ?_
  refine A.seq ?_
  refine A.region (A.goA [.p] [(0, (.slice none l.length cl)), (2, e_), (4, (b_ true))] [] T0 (by kernel_rfl) trivial ?_)
  refine A.tn ?_
  refine A.ret ?_
  refine A.tr ?_
  refine A.postQ [e_] (fun aa ww rr ss => ⟨rv_tmp rr rfl, trivial⟩) ?_
  rfl

theorem clone_spec (al : Option Addr) (l : List Rl) (cl : Nat) (hl : l.length ≤ 100000) (w : World) (r0 : arrAt w al (V.flat encRl l)) (hs : HS w (feet []) [] w) :
    Calls Try.prog 57 #[(.slice al l.length cl)] w fun e w' => ∃ zz, e = .returned ((fun (zz : (Option Addr) × Nat) => match zz with | (al', cl') => (.slice al' l.length cl')) zz) ∧ (fun (zz : (Option Addr) × Nat) => match zz with | (al', cl') => True) zz ∧ Turn [] ((fun (zz : (Option Addr) × Nat) => match zz with | (al', cl') => [sl al' (l.length) cl' 65 9 (V.flat encRl l)]) zz) w w' := by
  cases al with
  | some p => exact clone_some p l cl hl w r0 hs
  | none =>
    have hn : l = [] := by
      cases l with
      | nil => rfl
      | cons x xs => have h := (r0 0 _ rfl).1; simp at h
    subst hn
    exact Calls.mono (clone_none [] cl w) fun e w' h => ⟨(none, 0), h.1, trivial, ⟨h.2, by intro it hi; simp at hi; subst hi; exact sl_nil _ _ _, by simp [feet, sl, slFoot], by simp [feet, sl, slFoot]⟩⟩end Go.Proofs.Ytkfmboicmdnjpaa
