/- My own verifier: many operations at one step: a run by hints, reckoned by the kernel. Generic: nothing of the dump. -/
import Derived.Test.YtaacfehlcdkdhaaGreatDoorVg
namespace Go.Proofs.YtaacfehlcdkdhaaGreatDoor.V
open Go

/-- a computation that asks the program alone -/
def pureRun (P : Program) {α : Type} : Sem α → Option α
  | .pure a => some a
  | .program k => pureRun P (k P)
  | .mark _ k => pureRun P k
  | _ => none
theorem pureRun_run {P : Program} {α : Type} : ∀ (s : Sem α) (a : α), pureRun P s = some a → ∀ w, s.run P w = .ok a w
  | .pure b, a, h, w => by simp [pureRun] at h; subst h; rfl
  | .program k, a, h, w => by simp only [pureRun] at h; exact pureRun_run (k P) a h w
  | .mark m k, a, h, w => by simp only [pureRun] at h; exact pureRun_run k a h w
  | .load .., a, h, w => by simp [pureRun] at h
  | .store .., a, h, w => by simp [pureRun] at h
  | .new .., a, h, w => by simp [pureRun] at h
  | .shape .., a, h, w => by simp [pureRun] at h
  | .freeze .., a, h, w => by simp [pureRun] at h
  | .frozen .., a, h, w => by simp [pureRun] at h
  | .getObj .., a, h, w => by simp [pureRun] at h
  | .setObj .., a, h, w => by simp [pureRun] at h
  | .choose .., a, h, w => by simp [pureRun] at h
  | .sys .., a, h, w => by simp [pureRun] at h
  | .halt .., a, h, w => by simp [pureRun] at h
def pureV (P : Program) (env : Env) (o : Oper) : Option Value :=
  match pureRun P (execOp (evD env) o) with | some (.value v) => some v | _ => none

/-- what holds where a batch begins -/
structure Cx where
  P : Program
  w0 : World
  S : List Nat
  H : List Item
abbrev Cx.call (κ : Cx) (f : FuncId) (args : List Value) (v : Value) : Prop := ∀ w, HS κ.w0 κ.S κ.H w → Calls κ.P f args.toArray w fun e w' => e = .returned v ∧ Fr [] w w'
abbrev Cx.rd (κ : Cx) (p : Addr) (vs : List Value) : Prop := Reads κ.w0 κ.S κ.H p vs
abbrev Cx.ix (κ : Cx) (A : Option Addr) (len : Nat) (e : Int) : Prop := (0 ≤ e ∧ e < (len : Int)) ∧ ∀ w, HS κ.w0 κ.S κ.H w → A.isSome = true

/-- the hints: one an operation, but for 'o', which opens a frame ahead of the next one -/
inductive Hn where
  | p | w (e : Int) | eq | es | ld (i : Nat) | rd (vs : List Value) | ix | cq (v : Value) | sk | o | cl | st (i : Nat) | al | ct | si (u : UInt8) | ss

structure Fm where
  dg : Nat
  pol : Bool
  E : Bool
  seg : Env
structure Out where
  env : Env
  H : List Item
  eqs : List (Nat × Nat)
  C : Cx → Prop

def full (base : Env) : List Fm → Env
  | [] => base
  | f :: fs => f.seg ++ full base fs
def top (base : Env) : List Fm → Env
  | [] => base
  | f :: _ => f.seg
def cur : List Fm → Bool
  | [] => true
  | f :: fs => cur fs && (f.E == f.pol)
/-- the slot is not there -/
def freshE : Env → Nat → Bool
  | [], _ => true
  | p :: l, d => !(Nat.beq p.1 d) && freshE l d
def below (base : Env) : List Fm → Env
  | [] => []
  | _ :: fs => full base fs
def putB (base : Env) : List Fm → Option Nat → Value → Env
  | [], d, v => putE base d v
  | _ :: _, _, _ => base
def putF : List Fm → Option Nat → Value → List Fm
  | [], _, _ => []
  | f :: fs, d, v => ⟨f.dg, f.pol, f.E, putE f.seg d v⟩ :: fs
def slotOk (n : Nat) (base : Env) (fs : List Fm) : Option Nat → Bool
  | none => true
  | some d => Nat.blt d n && freshE (below base fs) d
/-- is the operation asked for, if all that is open holds? -/
def guardOk (ops : Array Oper) (base : Env) (fs : List Fm) (o : Oper) : Bool :=
  match fs with
  | [] => (match wantedE ops base o with | some b => b | none => false)
  | f :: _ => (match o.guard with
    | some (j, pol) => (match (ops[j]?).bind (·.dst) with | some d => Nat.beq d f.dg && (pol == f.pol) | none => false)
    | none => false)
def keepE (env : Env) : List Nat → Option Env
  | [] => some []
  | i :: l => match look env i with
    | some v => (match keepE env l with | some r => some ((i, v) :: r) | none => none)
    | none => none
def rowOf (H : List Item) (i : Nat) : Option (Nat × List Value × TypeId) := match H[i]? with | some it => it.row | none => none
def addC (c : Cx → Prop) (fs : List Fm) (r : Cx → Prop) : Cx → Prop :=
  match fs with
  | [] => fun κ => c κ ∧ r κ
  | f :: fs => fun κ => (cur (f :: fs) = true → c κ) ∧ r κ
def argsV (env : Env) : List Operand → Option (List Value)
  | [] => some []
  | x :: l => match ev env x, argsV env l with | some v, some vs => some (v :: vs) | _, _ => none
/-- whom an operation calls, with which arguments -/
def callArgs (env : Env) (o : Oper) : Option (FuncId × List Value) := match o.op with
  | .call c => (match c.callee with
    | .value y => (match ev env y with
      | some (.func (.func f) fs cs) => (match argsV env c.args.toList with | some vs => some (f, fs.toList ++ vs ++ cs.toList) | none => none)
      | _ => none)
    | _ => none)
  | _ => none
/-- a bound of a slicing -/
def bndE (env : Env) (d : Int) : Option Operand → Option Int
  | none => some d
  | some x => match ev env x with | some (.int _ e) => some e | _ => none
/-- a quiet operation that is asked for: its value, an equality of blocks, a condition -/
structure Qv where
  v : Value
  eq : Option (Nat × Nat)
  c : Option (Cx → Prop)
def quietEq (P : Program) (env : Env) (neg : Bool) (t : TypeId) (x y : Operand) : Option Value :=
  match ev env x, ev env y with
  | some (.agg xs), some (.agg ys) => (match P.eqGuardType P.depth t, eqV P 10000 t (.agg xs) (.agg ys) with | false, some b => some (.bool (bif neg then !b else b)) | _, _ => none)
  | some (.bool b), some (.bool c) => (match P.underlying t with | some .bool => some (.bool (bif neg then !(b == c) else (b == c))) | _ => none)
  | some (.string b), some (.string c) => some (.bool (bif neg then b != c else b == c))
  | _, _ => none
def quietV (P : Program) (H : List Item) (clean : Bool) (env : Env) (o : Oper) : Hn → Option Qv
  | .p => match okOps env o with | true => (match pureV P env o with | some v => some ⟨v, none, none⟩ | none => none) | false => none
  | .w e' => match okOps env o with | true => (match pureV P env o with | some (.int k e) => some ⟨.int k e', none, some fun _ => e = e'⟩ | _ => none) | false => none
  | .eq => match o.op with
    | .binOp .eql t x y _ => (match quietEq P env false t x y with | some v => some ⟨v, none, none⟩ | none => none)
    | .binOp .neq t x y _ => (match quietEq P env true t x y with | some v => some ⟨v, none, none⟩ | none => none)
    | _ => none
  | .ld i => match o.op with
    | .load t x => (match ev env x with
      | some (.pointer (some ⟨b', off, none⟩)) => (match rowOf H i with
        | some (b, cs, _) => (match aggOf P t with
          | some k => (match Nat.ble (off + k) cs.length with | true => some ⟨.agg ((cs.drop off).take k).toArray, some (b', b), none⟩ | false => none)
          | none => (match isScalar P t with | true => (match cs[off]? with | some v => some ⟨v, some (b', b), none⟩ | none => none) | false => none))
        | none => none)
      | _ => none)
    | _ => none
  | .rd vs => match clean with
    | true => (match o.op with
      | .load t x => (match ev env x with
        | some (.pointer (some p)) => (match aggOf P t with
          | some k => (match Nat.beq k vs.length with | true => some ⟨.agg vs.toArray, none, some fun κ => κ.rd p vs⟩ | false => none)
          | none => (match isScalar P t, vs with | true, [v] => some ⟨v, none, some fun κ => κ.rd p [v]⟩ | _, _ => none))
        | _ => none)
      | _ => none)
    | false => none
  | .ix => match clean with
    | true => (match o.op with
      | .indexAddr t x y => (match ev env x with
        | some (.slice A len _) => (match ev env y with
          | some (.int _ e) => (match P.underlying t with
            | some (.slice el) => (match P.info? el with
              | some i => some ⟨.pointer (some ((at0 A).add (e.toNat * i.size))), none, some fun κ => κ.ix A len e⟩
              | none => none)
            | _ => none)
          | _ => none)
        | _ => none)
      | _ => none)
    | false => none
  | .cq v => match clean with
    | true => (match callArgs env o with
      | some (f, args) => (match callOk P f with
        | true => some ⟨v, none, some fun κ => κ.call f args v⟩
        | false => none)
      | none => none)
    | false => none
  | .ct => match o.op with
    | .binOp .add _ x y _ => (match ev env x, ev env y with
      | some (.string b), some (.string c) => some ⟨.string ⟨(b.data.toList ++ c.data.toList).toArray⟩, none, some fun _ => b.data.toList.length + c.data.toList.length ≤ 9223372036854775807⟩
      | _, _ => none)
    | _ => none
  | .si u => match o.op with
    | .index t x y => (match ev env x, ev env y, P.underlying t with
      | some (.string s), some (.int _ e), some .string => some ⟨.int .u8 (u.toNat : Int), none, some fun _ => 0 ≤ e ∧ s.data.toList[e.toNat]? = some u⟩
      | _, _, _ => none)
    | _ => none
  | .ss => match o.op with
    | .slice t x lo hi none => (match ev env x, P.underlying t, bndE env 0 lo with
      | some (.string s), some .string, some l => (match bndE env (s.data.toList.length : Int) hi with
        | some h => some ⟨.string ⟨((s.data.toList.take h.toNat).drop l.toNat).toArray⟩, none, some fun _ => (0 ≤ l ∧ l ≤ h) ∧ h ≤ (s.data.toList.length : Int)⟩
        | none => none)
      | _, _, _ => none)
    | _ => none
  | _ => none
def Out.add (o : Out) (fs : List Fm) (q : Qv) : Out :=
  ⟨o.env, o.H, (match q.eq with | some p => p :: o.eqs | none => o.eqs), (match q.c with | some c => addC c fs o.C | none => o.C)⟩
def pickV (f : Fm) (x y : Option Value) : Option Value := match x, y with
  | some (.bool a), some (.bool b) => some (.bool (bif f.E then a else b))
  | _, _ => none
/-- the value of the pick that closes frame f over base and fs -/
def closeV (base : Env) (f : Fm) (fs : List Fm) (o : Oper) : Option Value :=
  match o.op with
  | .pick (.tmp c) x y => (match Nat.beq c f.dg with
    | true => (match f.pol with
      | true => pickV f (ev (f.seg ++ full base fs) x) (ev (full base fs) y)
      | false => pickV f (ev (full base fs) x) (ev (f.seg ++ full base fs) y))
    | false => none)
  | _ => none
def nb : List Hn → Nat
  | [] => 0
  | .al :: l => nb l + 1
  | _ :: l => nb l
def nops : List Hn → Nat
  | [] => 0
  | .o :: l => nops l
  | _ :: l => nops l + 1
/-- the run -/
def X (P : Program) (ops : Array Oper) (n : Nat) (ids : List Nat) : List Hn → List Oper → List Nat → Env → List Fm → List Item → Bool → Option Out
  | [], [], _, base, fs, H, _ => (match fs with | [] => (match keepE base ids with | some e => some ⟨e, H, [], fun _ => True⟩ | none => none) | _ => none)
  | h :: hs, o :: ol, bs, base, fs, H, clean =>
    (match h with
    | .o => (match o.guard with
      | some (j, pol) => (match (ops[j]?).bind (·.dst) with
        | some d => (match look (top base fs) d with
          | some (.bool E) => X P ops n ids hs (o :: ol) bs base (⟨d, pol, E, []⟩ :: fs) H clean
          | _ => none)
        | none => none)
      | none => none)
    | .cl => (match fs with
      | f :: fs => (match guardOk ops base fs o && slotOk n base fs o.dst with
        | true => (match closeV base f fs o with
          | some v => X P ops n ids hs ol bs (putB base fs o.dst v) (putF fs o.dst v) H clean
          | none => none)
        | false => none)
      | [] => none)
    | .sk => (match fs, wantedE ops base o, slotOk n base [] o.dst with
      | [], some false, true => X P ops n ids hs ol bs (putE base o.dst undef) [] H clean
      | _, _, _ => none)
    | .st i => (match fs, guardOk ops base [] o, o.op with
      | [], true, .store t x y => (match ev base x, ev base y, rowOf H i, o.dst with
        | some (.pointer (some ⟨b', off, none⟩)), some u, some (b, cs, ty), none =>
          (match (P.info? t).map (·.size) with
          | some k => (match Nat.beq k u.cells.toList.length && u.cells.toList.all Value.oneCell' && Nat.ble (off + u.cells.toList.length) cs.length with
            | true => (match X P ops n ids hs ol bs base [] (H.set i (blk b (cs.take off ++ u.cells.toList ++ cs.drop (off + u.cells.toList.length)) ty)) false with
              | some r => some ⟨r.env, r.H, (b', b) :: r.eqs, r.C⟩
              | none => none)
            | false => none)
          | none => none)
        | _, _, _, _ => none)
      | _, _, _ => none)
    | .al => (match fs, guardOk ops base [] o, o.dst, bs with
      | [], true, some d, b :: bs => (match Nat.blt d n, o.op with
        | true, .box t x => (match ev base x with
          | some u => X P ops n ids hs ol bs ((d, .pointer (some ⟨b, 0, none⟩)) :: base) [] (H ++ [blk b u.cells.toList t]) false
          | none => none)
        | true, .alloc t => (match (P.info? t).bind (·.zero) with
          | some z => X P ops n ids hs ol bs ((d, .pointer (some ⟨b, 0, none⟩)) :: base) [] (H ++ [blk b z.cells.toList t]) false
          | none => none)
        | _, _ => none)
      | _, _, _, _ => none)
    | h => (match guardOk ops base fs o && slotOk n base fs o.dst with
      | true => (match quietV P H clean (full base fs) o h with
        | some q => (match X P ops n ids hs ol bs (putB base fs o.dst q.v) (putF fs o.dst q.v) H clean with
          | some r => some (r.add fs q)
          | none => none)
        | none => none)
      | false => none))
  | _, _, _, _, _, _, _ => none
end Go.Proofs.YtaacfehlcdkdhaaGreatDoor.V
