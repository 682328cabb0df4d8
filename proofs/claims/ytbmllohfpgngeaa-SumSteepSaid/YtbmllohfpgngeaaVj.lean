/- My own verifier: a shift to the left by a number of bits that is not written out. Generic: nothing of the dump. -/
import Derived.Test.YtbmllohfpgngeaaVp
namespace Go.Proofs.Ytbmllohfpgngeaa.V
open Go
section
variable {P : Program} {n : Nat} {env : Env} {w0 : World} {S : List Nat} {H : List Item} {o : Oper}
theorem qt_shl {x y : Operand} {t ty : TypeId} {k k' : IntKind} {e : Int} {m : Nat} (ho : o.op = .binOp .shl t x y ty) (hx : ev env x = some (.int k e)) (hy : ev env y = some (.int k' (m : Int))) (hm : m ≤ k.bits) : Qt P n env w0 S H o (.int k (k.wrap (e * 2 ^ m))) :=
  qt_same fun a w r _ => by
    have h1 : ¬ ((m : Int) < 0) := by omega
    have h2 : min m k.bits = m := Nat.min_eq_left hm
    simp [execOp, ho, r.ev hx, r.ev hy, eqGuard, binOp, Op.shift, h1, h2]
end
end Go.Proofs.Ytbmllohfpgngeaa.V
