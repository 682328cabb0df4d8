/- What the functions of this layer do, proved operation by operation, for all arguments, under the conditions that each theorem states. -/
import Derived.Test.YtinnnoimmioaiaaProg
import Derived.Test.YtinnnoimmioaiaaHierC
namespace Go.Proofs.Ytinnnoimmioaiaa
open Go V
set_option linter.unusedVariables false
set_option linter.unusedSimpArgs false
structure Zc where
  zk : Int
  zi : Int
  zp : Int
  zl : Bool
  ya : Int
  yb : Int
  yc : Int
  va : Int
  vb : Int
  vc : Int
  wa : Int
  wb : Int
  wc : Int
  zn : Int
  zq : Int
  deriving Inhabited, DecidableEq
def encZc (x : Zc) : List Value := [(i_ x.zk), (i_ x.zi), (i_ x.zp), (b_ x.zl), (u_ x.ya), (u_ x.yb), (u_ x.yc), (u_ x.va), (u_ x.vb), (u_ x.vc), (u_ x.wa), (u_ x.wb), (u_ x.wc), (i_ x.zn), (i_ x.zq)]
theorem encZc_len (x : Zc) : (encZc x).length = 15 := rfl
theorem encZc_one (x : Zc) : (encZc x).all Value.oneCell' = true := rfl
abbrev sZc (A : Option Addr) (xs : List Zc) (c : Nat) : V.Item := sl A xs.length c 111 15 (V.flat encZc xs)
def ZcOk (x : Zc) : Prop := ((-9223372036854775808) ≤ x.zk ∧ x.zk ≤ 9223372036854775807) ∧ ((-9223372036854775808) ≤ x.zi ∧ x.zi ≤ 9223372036854775807) ∧ ((-9223372036854775808) ≤ x.zp ∧ x.zp ≤ 9223372036854775807) ∧ True ∧ (0 ≤ x.ya ∧ x.ya ≤ 18446744073709551615) ∧ (0 ≤ x.yb ∧ x.yb ≤ 18446744073709551615) ∧ (0 ≤ x.yc ∧ x.yc ≤ 18446744073709551615) ∧ (0 ≤ x.va ∧ x.va ≤ 18446744073709551615) ∧ (0 ≤ x.vb ∧ x.vb ≤ 18446744073709551615) ∧ (0 ≤ x.vc ∧ x.vc ≤ 18446744073709551615) ∧ (0 ≤ x.wa ∧ x.wa ≤ 18446744073709551615) ∧ (0 ≤ x.wb ∧ x.wb ≤ 18446744073709551615) ∧ (0 ≤ x.wc ∧ x.wc ≤ 18446744073709551615) ∧ ((-9223372036854775808) ≤ x.zn ∧ x.zn ≤ 9223372036854775807) ∧ ((-9223372036854775808) ≤ x.zq ∧ x.zq ≤ 9223372036854775807)
def ksZc : List FK := [.int .i64, .int .i64, .int .i64, .bool, .int .u64, .int .u64, .int .u64, .int .u64, .int .u64, .int .u64, .int .u64, .int .u64, .int .u64, .int .i64, .int .i64]
theorem openZc (cs : List Value) (h : FitsL ksZc cs) : ∃ x, cs = encZc x ∧ ZcOk x := by
  unfold ksZc at h
  obtain ⟨v0, cs0, rfl, h0, g0⟩ := fitsL_cons h
  obtain ⟨a0, rfl, r0⟩ := fit_i64 h0
  obtain ⟨v1, cs1, rfl, h1, g1⟩ := fitsL_cons g0
  obtain ⟨a1, rfl, r1⟩ := fit_i64 h1
  obtain ⟨v2, cs2, rfl, h2, g2⟩ := fitsL_cons g1
  obtain ⟨a2, rfl, r2⟩ := fit_i64 h2
  obtain ⟨v3, cs3, rfl, h3, g3⟩ := fitsL_cons g2
  obtain ⟨a3, rfl⟩ := fit_bool h3
  obtain ⟨v4, cs4, rfl, h4, g4⟩ := fitsL_cons g3
  obtain ⟨a4, rfl, r4⟩ := fit_u64 h4
  obtain ⟨v5, cs5, rfl, h5, g5⟩ := fitsL_cons g4
  obtain ⟨a5, rfl, r5⟩ := fit_u64 h5
  obtain ⟨v6, cs6, rfl, h6, g6⟩ := fitsL_cons g5
  obtain ⟨a6, rfl, r6⟩ := fit_u64 h6
  obtain ⟨v7, cs7, rfl, h7, g7⟩ := fitsL_cons g6
  obtain ⟨a7, rfl, r7⟩ := fit_u64 h7
  obtain ⟨v8, cs8, rfl, h8, g8⟩ := fitsL_cons g7
  obtain ⟨a8, rfl, r8⟩ := fit_u64 h8
  obtain ⟨v9, cs9, rfl, h9, g9⟩ := fitsL_cons g8
  obtain ⟨a9, rfl, r9⟩ := fit_u64 h9
  obtain ⟨v10, cs10, rfl, h10, g10⟩ := fitsL_cons g9
  obtain ⟨a10, rfl, r10⟩ := fit_u64 h10
  obtain ⟨v11, cs11, rfl, h11, g11⟩ := fitsL_cons g10
  obtain ⟨a11, rfl, r11⟩ := fit_u64 h11
  obtain ⟨v12, cs12, rfl, h12, g12⟩ := fitsL_cons g11
  obtain ⟨a12, rfl, r12⟩ := fit_u64 h12
  obtain ⟨v13, cs13, rfl, h13, g13⟩ := fitsL_cons g12
  obtain ⟨a13, rfl, r13⟩ := fit_i64 h13
  obtain ⟨v14, cs14, rfl, h14, g14⟩ := fitsL_cons g13
  obtain ⟨a14, rfl, r14⟩ := fit_i64 h14
  obtain rfl := fitsL_nil g14
  exact ⟨⟨a0, a1, a2, a3, a4, a5, a6, a7, a8, a9, a10, a11, a12, a13, a14⟩, rfl, r0, r1, r2, trivial, r4, r5, r6, r7, r8, r9, r10, r11, r12, r13, r14⟩
def clZ (z : Zc) : Cl := ⟨z.zi, z.zp, z.zl, z.ya, z.yb, z.yc, z.va, z.vb, z.vc, z.wa, z.wb, z.wc, z.zn, z.zq⟩
def stE (kv : List (Int × Cl)) (z : Zc) : Int := if z.zk = 1 then addE kv (clZ z) else if z.zk = 3 then setE kv (clZ z) else if z.zk = 2 then delE kv z.zi else 1
def stK (kv : List (Int × Cl)) (z : Zc) : List (Int × Cl) := if z.zk = 1 then addK kv (clZ z) else if z.zk = 3 then setK kv (clZ z) else if z.zk = 2 then delK kv z.zi else kv
def apK (kv : List (Int × Cl)) : List Zc → List (Int × Cl)
  | [] => kv
  | z :: l => apK (stK kv z) l
theorem apK_snoc (z : Zc) : ∀ (l : List Zc) (kv : List (Int × Cl)), apK kv (l ++ [z]) = stK (apK kv l) z
  | [], kv => rfl
  | y :: l, kv => apK_snoc z l (stK kv y)
theorem laid_st {kv : List (Int × Cl)} (h : Laid kv) (z : Zc) : Laid (stK kv z) := by
  unfold stK; split
  · exact laid_addK h _
  · split
    · exact laid_setK h _
    · split
      · exact laid_delK h _
      · exact h
theorem clZ_ok {z : Zc} (h : ZcOk z) : ClOk (clZ z) := h.2
theorem laid_ap : ∀ {l : List Zc} {kv : List (Int × Cl)}, Laid kv → Laid (apK kv l)
  | [], kv, h => h
  | z :: l, kv, h => laid_ap (l := l) (laid_st h z)

end Go.Proofs.Ytinnnoimmioaiaa
