/- My own verifier: the room of a slice that came in. Generic: nothing of the dump. -/
import Derived.Test.YtinnnoimmioaiaaVh
namespace Go.Proofs.Ytinnnoimmioaiaa.V
open Go
variable {H : Type} {enc : TypeId × Value → H} {P : Program} {w : World} {base : Nat} {spare : Nat → Bool} {held : Bool}
theorem slice_cap {t e : TypeId} {v : Value} {dd : DataW H} {ps : List MemPlace} (ht : P.underlying t = some (.slice e)) {A0 : Option Addr} {len cap : Nat} (hv : v = .slice A0 len cap)
    (h : DataW.Trod enc P w base spare held t v dd ps) : len ≤ cap := by
  subst hv
  obtain ⟨fu, hf⟩ := h
  rcases Go.Deep.open_slice ht hf with ⟨h0, -⟩ | ⟨a, len', cap', m, n, D, Pl, h0, hb, h1, h2, h3, -, hx⟩
  · simp [Value.cells] at h0
    obtain ⟨rfl, rfl, rfl⟩ := h0
    omega
  · simp [Value.cells] at h0
    obtain ⟨rfl, rfl, rfl⟩ := h0
    exact h1
end Go.Proofs.Ytinnnoimmioaiaa.V
