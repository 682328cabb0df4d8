/- The law of a nil desk, reckoned at any text. -/
import Derived.Test.YtaacfehlcdkdhaaGreatDoorDesk1
namespace Go.Proofs.YtaacfehlcdkdhaaGreatDoor
open Go V R
theorem deskRun : ∀ l : List UInt8, isT (runF (tabT Tryz.prog) (cloneX 196) (primX 20 16 15 9 sT clV) 200 3 [.str l] ⟨.nil, 0, 0, 0⟩) = true := by intro l; kernel_rfl
theorem deskNil_w (l : List UInt8) (w : World) : Calls Tryz.prog 3 #[.string (bs l)] w fun e w' => e = .returned (.bool true) ∧ Fr [] w w' :=
  run_nothing (args := [.str l]) (xs := #[.string (bs l)]) cloneLaw (by kernel_rfl) primLaw (fun ρ => ⟨_, _, rfl, rfl, rfl⟩) (tabLaw ▸ deskRun l) w
end Go.Proofs.YtaacfehlcdkdhaaGreatDoor
