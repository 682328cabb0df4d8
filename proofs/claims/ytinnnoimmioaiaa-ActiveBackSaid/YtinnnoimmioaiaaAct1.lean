/- What the functions of this layer do, proved operation by operation, for all arguments, under the conditions that each theorem states. -/
import Derived.Test.YtinnnoimmioaiaaProg
import Derived.Test.YtinnnoimmioaiaaHierC
import Derived.Test.YtinnnoimmioaiaaL2
namespace Go.Proofs.Ytinnnoimmioaiaa
open Go V
set_option linter.unusedVariables false
set_option linter.unusedSimpArgs false
structure Pl where
  pp : Int
  pf : Int
  deriving Inhabited, DecidableEq
def encPl (x : Pl) : List Value := [(i_ x.pp), (i_ x.pf)]
theorem encPl_len (x : Pl) : (encPl x).length = 2 := rfl
theorem encPl_one (x : Pl) : (encPl x).all Value.oneCell' = true := rfl
abbrev sPl (A : Option Addr) (xs : List Pl) (c : Nat) : V.Item := sl A xs.length c 91 2 (V.flat encPl xs)
def pl0 : Pl := ⟨0, 0⟩
/-- is a class active? -/
def isA (on : List (Int × Int)) (kv : List (Int × MB)) (i : Int) : Bool := (mget on i).isSome || decide ((kx kv i).length > 0)
def parA (ym : List (Int × Pl)) (i : Int) : Int := ((mget ym i).getD pl0).pp
def lfA (ym : List (Int × Pl)) (i : Int) : Bool := decide (((mget ym i).getD pl0).pf ≠ 0)
def addF (F : Int → List (Int × Int)) (p i : Int) : Int → List (Int × Int) := fun q => if p = q then mput (F p) i 1 else F q
def delF (F : Int → List (Int × Int)) (p i : Int) : Int → List (Int × Int) := fun q => if p = q then mdel (F p) i else F q
/-- the root is so near -/
def depA (ym : List (Int × Pl)) : Nat → Int → Prop
  | 0, _ => False
  | n + 1, i => parA ym i = 0 ∨ depA ym n (parA ym i)
/-- a class becomes active, and those above it -/
def onC (ym : List (Int × Pl)) (F : Int → List (Int × Int)) : Nat → Int → List Int × (Int → List (Int × Int))
  | 0, i => ([i], F)
  | n + 1, i => if F (parA ym i) ≠ [] ∨ parA ym i = 0 then ([i], addF F (parA ym i) i) else
    (i :: (onC ym (addF F (parA ym i) i) n (parA ym i)).1, (onC ym (addF F (parA ym i) i) n (parA ym i)).2)
/-- .. passive -/
def offC (ym : List (Int × Pl)) (F : Int → List (Int × Int)) : Nat → Int → List Int × (Int → List (Int × Int))
  | 0, i => ([i], F)
  | n + 1, i => if delF F (parA ym i) i (parA ym i) ≠ [] ∨ parA ym i = 0 then ([i], delF F (parA ym i) i) else
    (i :: (offC ym (delF F (parA ym i) i) n (parA ym i)).1, (offC ym (delF F (parA ym i) i) n (parA ym i)).2)
theorem on_stop {ym : List (Int × Pl)} {F : Int → List (Int × Int)} {n : Nat} {i : Int} (h : F (parA ym i) ≠ [] ∨ parA ym i = 0) : onC ym F (n + 1) i = ([i], addF F (parA ym i) i) := by rw [onC, if_pos h]
theorem on_go {ym : List (Int × Pl)} {F : Int → List (Int × Int)} {n : Nat} {i : Int} (h : ¬(F (parA ym i) ≠ [] ∨ parA ym i = 0)) : onC ym F (n + 1) i = (i :: (onC ym (addF F (parA ym i) i) n (parA ym i)).1, (onC ym (addF F (parA ym i) i) n (parA ym i)).2) := by rw [onC, if_neg h]
theorem off_stop {ym : List (Int × Pl)} {F : Int → List (Int × Int)} {n : Nat} {i : Int} (h : delF F (parA ym i) i (parA ym i) ≠ [] ∨ parA ym i = 0) : offC ym F (n + 1) i = ([i], delF F (parA ym i) i) := by rw [offC, if_pos h]
theorem off_go {ym : List (Int × Pl)} {F : Int → List (Int × Int)} {n : Nat} {i : Int} (h : ¬(delF F (parA ym i) i (parA ym i) ≠ [] ∨ parA ym i = 0)) : offC ym F (n + 1) i = (i :: (offC ym (delF F (parA ym i) i) n (parA ym i)).1, (offC ym (delF F (parA ym i) i) n (parA ym i)).2) := by rw [offC, if_neg h]
theorem delF_none {F : Int → List (Int × Int)} {p i : Int} (h : F p = []) : delF F p i = F := by
  funext q; unfold delF; split
  · rename_i e; subst e; rw [h]; rfl
  · rfl
abbrev mYI (b : Nat) (kv : List (Int × Pl)) : V.Item := mapI (fun k : Int => i_ k) (fun v_ : Pl => (.agg (encPl v_).toArray)) b kv
abbrev mNI (b : Nat) (kv : List (Int × Int)) : V.Item := mapI (fun k : Int => i_ k) (fun x : Int => i_ x) b kv
abbrev mDI (b : Nat) (kv : List (Int × MB)) : V.Item := mapI (fun k : Int => i_ k) encMB b kv

set_option maxHeartbeats 4000000 in
set_option maxRecDepth 100000 in
theorem is_nil (ci : Int) (w : World) :
    Calls Try.prog 22 #[n_, i_ ci] w fun e w' => e = .returned (b_ false) ∧ Fr [] w w' := by
  refine calls_of (args := [n_, i_ ci]) (penv [n_, i_ ci]) [] [] Try.func22 rfl rfl (look_penv _) (HS.nil w) ?_
  refine A.norm [(0, n_), (1, i_ ci)] [] (by exact ⟨rfl, rfl, trivial⟩) rfl ?_
  refine A.seq (A.region (A.goA [.p] [(0, n_), (1, i_ ci)] [] T0 (by kernel_rfl) trivial ?_))
  refine A.tn (A.seq (A.seq (A.region (A.goA [.p, .p] [(0, n_), (1, i_ ci), (8, b_ true)] [] T0 (by kernel_rfl) trivial ?_))))
  refine A.tn (A.cond_t rfl (A.seq (A.region (A.goA [.p] [(4, b_ false)] [] T0 (by kernel_rfl) trivial ?_))))
  refine A.tn (A.ret (A.tr (A.postQ [b_ false] (fun aa ww rr ss => ⟨rv_tmp rr rfl, trivial⟩) ?_)))
  rfl

set_option maxHeartbeats 4000000 in
set_option maxRecDepth 100000 in
theorem is_ok (bs mb mo mk : Nat) (ym : List (Int × Pl)) (on : List (Int × Int)) (kv : List (Int × MB)) (ci : Int) (w : World) (r0 : (blk bs [(.map (some mb)), (.map (some mo)), (.map (some mk))] 96).holds w) (r1 : (mYI mb ym).holds w) (r2 : (mNI mo on).holds w) (r3 : (mDI mk kv).holds w) (r4 : (kidI kv).holds w) :
    Calls Try.prog 22 #[p_ bs, i_ ci] w fun e w' => e = .returned (b_ (isA on kv ci)) ∧ Fr [] w w' := by
  refine calls_of (args := [p_ bs, i_ ci]) (penv [p_ bs, i_ ci]) [] [] Try.func22 rfl rfl (look_penv _) (HS.nil w) ?_
  refine A.norm [(0, p_ bs), (1, i_ ci)] [] (by exact ⟨rfl, rfl, trivial⟩) rfl ?_
  refine A.seq (A.region (A.goA [.p] [(0, p_ bs), (1, i_ ci)] [] T0 (by kernel_rfl) trivial ?_))
  refine A.tn (A.seq (A.seq (A.region (A.goA [.p, .p] [(0, p_ bs), (1, i_ ci), (8, b_ false)] [] T0 (by kernel_rfl) trivial ?_))))
  refine A.tn (A.cond_f rfl (A.skip (A.tn (A.seq (A.region (A.goP [.p, .p, .p, .rd [(.map (some mo))], .p] [(0, p_ bs), (1, i_ ci), (13, (.map (some mo))), (14, i_ ci)] [] (fun κ => κ.rd ⟨bs, 1, none⟩ [(.map (some mo))] ∧ True) (by kernel_rfl) ⟨(reads_oldblk r0 rfl), trivial⟩ ?_))))))
  refine A.cons (A.q (some 15) (.tuple #[i_ ((mget on ci).getD 0), b_ ((mget on ci).isSome)]) (by kernel_rfl) (qt_lookupOk (kt := 3) (et := 3) (enck := (fun k : Int => i_ k)) (encv := (fun x : Int => i_ x)) (b := mo) (kv := on) (k := ci) (d0 := 0) (fun ww ss => old_item ss r2) rfl rfl rfl (by kernel_rfl) (keyOk_int (by kernel_rfl)) (by kernel_rfl) rfl) ?_)
  refine A.goA [.p, .p, .p, .p, .p] [(0, p_ bs), (1, i_ ci), (6, b_ ((mget on ci).isSome))] [] T0 (by kernel_rfl) trivial ?_
  refine A.tn (A.seq (A.bool ((mget on ci).isSome) (fun e1 => ?_) (fun e1 => ?_)))
  · skip
    refine A.sub [(0, p_ bs), (1, i_ ci), (6, b_ true)] (by exact ⟨rfl, rfl, congrArg (fun z => some (Value.bool z)) e1, trivial⟩) ?_
    refine A.region (A.goA [.p, .p, .sk, .sk, .sk, .sk, .sk, .sk, .sk, .sk, .p, .p] [(4, b_ true)] [] T0 (by kernel_rfl) trivial ?_)
    refine A.tn (A.ret (A.postQ [b_ true] (fun aa ww rr ss => ⟨rv_tmp rr rfl, trivial⟩) ?_))
    show ((b_ true) : Value) = (b_ (isA on kv ci))
    refine congrArg Value.bool ?_; unfold isA; simp_all
  · skip
    refine A.sub [(0, p_ bs), (1, i_ ci), (6, b_ false)] (by exact ⟨rfl, rfl, congrArg (fun z => some (Value.bool z)) e1, trivial⟩) ?_
    refine A.region (A.goP [.p, .p, .p, .p, .p, .rd [(.map (some mk))], .p] [(19, b_ false), (23, (.map (some mk))), (24, i_ ci)] [] (fun κ => κ.rd ⟨bs, 2, none⟩ [(.map (some mk))] ∧ True) (by kernel_rfl) ⟨(reads_oldblk r0 rfl), trivial⟩ ?_)
    rcases hk1 : mget kv ci with _ | m1
    · have hx1 := kx_none hk1
      refine A.cons (A.q (some 25) (.map none) (by kernel_rfl) (qt_as (mb_none hk1) (qt_lookup (kt := 3) (et := 93) (enck := (fun k : Int => i_ k)) (encv := encMB) (b := mk) (kv := kv) (k := ci) (d0 := m0) (fun ww ss => old_item ss r3) rfl rfl rfl (by kernel_rfl) (keyOk_int (by kernel_rfl)) (by kernel_rfl) rfl)) ?_)
      refine A.cons (A.q (some 26) (i_ 0) (by kernel_rfl) (qt_lenNo (kt := 3) (et := 3) rfl rfl (by kernel_rfl)) ?_)
      refine A.goA [.p, .p, .p] [(4, b_ false)] [] T0 (by kernel_rfl) trivial ?_
      refine A.tn (A.ret (A.postQ [b_ false] (fun aa ww rr ss => ⟨rv_tmp rr rfl, trivial⟩) ?_))
      show ((b_ false) : Value) = (b_ (isA on kv ci))
      refine congrArg Value.bool ?_; unfold isA; simp_all
    · have hx1 := kx_some hk1
      obtain ⟨b1, hm1, hb1⟩ := kid_at r4 hk1
      refine A.cons (A.q (some 25) (.map (some b1)) (by kernel_rfl) (qt_as (mb_some hk1 hm1) (qt_lookup (kt := 3) (et := 93) (enck := (fun k : Int => i_ k)) (encv := encMB) (b := mk) (kv := kv) (k := ci) (d0 := m0) (fun ww ss => old_item ss r3) rfl rfl rfl (by kernel_rfl) (keyOk_int (by kernel_rfl)) (by kernel_rfl) rfl)) ?_)
      refine A.cons (A.q (some 26) (c_ m1.mx.length) (by kernel_rfl) (qt_lenMap (kt := 3) (et := 3) (enck := (fun k : Int => i_ k)) (encv := (fun x : Int => i_ x)) (b := b1) (kv := m1.mx) (fun ww ss => old_item ss hb1) rfl rfl (by kernel_rfl)) ?_)
      refine A.goA [.p, .p, .p] [(4, b_ (decide ((m1.mx.length : Int) > 0)))] [] T0 (by kernel_rfl) trivial ?_
      refine A.tn (A.ret (A.postQ [b_ (decide ((m1.mx.length : Int) > 0))] (fun aa ww rr ss => ⟨rv_tmp rr rfl, trivial⟩) ?_))
      show ((b_ (decide ((m1.mx.length : Int) > 0))) : Value) = (b_ (isA on kv ci))
      refine congrArg Value.bool ?_; unfold isA; simp_all
end Go.Proofs.Ytinnnoimmioaiaa
