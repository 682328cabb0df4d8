/- My own verifier: '==' between flat values, reckoned by the program's types. Generic: nothing of the dump. -/
import Derived.Test.YtaacfehlcdkdhaaGreatDoorVc
import Derived.Laws.StructEq
namespace Go.Proofs.YtaacfehlcdkdhaaGreatDoor.V
open Go
def partV (P : Program) (t : TypeId) (cs : Array Value) (off : Nat) : Option Value :=
  match aggOf P t with
  | some k => some (.agg (cs.extract off (off + k)))
  | none => if isScalar P t then cs[off]? else none
def eqFs (eq : TypeId → Value → Value → Option Bool) (P : Program) (xs ys : Array Value) : List Field → Option Bool
  | [] => some true
  | f :: fs => if f.name = "_" then none else
    match partV P f.type xs f.offset, partV P f.type ys f.offset with
    | some a, some b => match eq f.type a b with
      | some r => match fs with
        | [] => some r
        | g :: gs => match eqFs eq P xs ys (g :: gs) with
          | some q => some (r && q)
          | none => none
      | none => none
    | _, _ => none
def eqAs (eq : TypeId → Value → Value → Option Bool) (P : Program) (e : TypeId) (k : Nat) (xs ys : Array Value) : Nat → Nat → Option Bool
  | 0, _ => some true
  | n + 1, i =>
    match partV P e xs (i * k), partV P e ys (i * k) with
    | some a, some b => match eq e a b with
      | some r => match n with
        | 0 => some r
        | m + 1 => match eqAs eq P e k xs ys (m + 1) (i + 1) with
          | some q => some (r && q)
          | none => none
      | none => none
    | _, _ => none
def eqV (P : Program) : Nat → TypeId → Value → Value → Option Bool
  | 0, _, _, _ => none
  | d + 1, t, x, y => match P.underlying t, x, y with
    | some .bool, .bool a, .bool b => some (a == b)
    | some (.int _), .int k a, .int k' b => if k = k' then some (a == b) else none
    | some .string, .string a, .string b => some (a == b)
    | some (.struct fs), .agg xs, .agg ys => if P.stoodInHeld t then none else eqFs (eqV P d) P xs ys fs.toList
    | some (.array n e), .agg xs, .agg ys => match P.info? e with
      | some i => eqAs (eqV P d) P e i.size xs ys n 0
      | none => none
    | _, _, _ => none

section
variable {P : Program} (w : World)
theorem run_part {t : TypeId} {cs : Array Value} {off : Nat} {v : Value} (h : partV P t cs off = some v) : (part t cs off).run P w = .ok v w := by
  unfold partV at h
  cases ha : aggOf P t with
  | some k =>
    rw [ha] at h
    obtain ⟨h1, h2⟩ := run_isAgg_agg ha w
    simp at h; subst h
    simp [part, h1, h2]
  | none =>
    rw [ha] at h
    simp only at h
    split at h
    · rename_i hs
      simp [part, run_isAgg_scalar hs, h]
    · cases h
theorem run_eqFs {d : Nat} {xs ys : Array Value} (ih : ∀ t x y b, eqV P d t x y = some b → (Op.equalIn d t x y).run P w = .ok b w) :
    ∀ (fs : List Field) (b : Bool), eqFs (eqV P d) P xs ys fs = some b → (Op.eqFields d xs ys fs).run P w = .ok b w
  | [], b, h => by simp [eqFs] at h; subst h; simp [Op.eqFields]
  | f :: fs, b, h => by
    unfold eqFs at h
    split at h
    · cases h
    · rename_i hn
      cases ha : partV P f.type xs f.offset with
      | none => rw [ha] at h; simp at h
      | some u =>
        cases hb : partV P f.type ys f.offset with
        | none => rw [ha, hb] at h; simp at h
        | some v =>
          rw [ha, hb] at h
          simp only at h
          cases he : eqV P d f.type u v with
          | none => rw [he] at h; simp at h
          | some r =>
            rw [he] at h
            simp only at h
            have hr := ih _ _ _ _ he
            simp only [Op.eqFields, if_pos hn, Sem.run_bind, run_part w ha, run_part w hb, Result.andThen_ok, hr]
            cases fs with
            | nil =>
              simp at h; subst h
              cases r <;> simp [Op.eqFields]
            | cons g gs =>
              simp only at h
              cases hq : eqFs (eqV P d) P xs ys (g :: gs) with
              | none => rw [hq] at h; simp at h
              | some q =>
                rw [hq] at h
                simp at h; subst h
                have := run_eqFs ih (g :: gs) q hq
                cases r <;> simp [this]
/-- the loop over an array's elements, as the model has it -/
def arrLoop (d : Nat) (e : TypeId) (k : Nat) (xs ys : Array Value) : List Nat → Sem Bool
  | [] => Pure.pure true
  | i :: l => do if !(← Op.equalIn d e (← part e xs (i * k)) (← part e ys (i * k))) then return false else arrLoop d e k xs ys l
theorem run_equalIn_array (d : Nat) (t e : TypeId) (n : Nat) (i : TypeInfo) (xs ys : Array Value) (ht : P.underlying t = some (.array n e)) (hi : P.info? e = some i) :
    (Op.equalIn (d + 1) t (.agg xs) (.agg ys)).run P w = (arrLoop d e i.size xs ys (List.range' 0 n)).run P w := by
  simp only [Op.equalIn, Sem.run_bind, run_underlying ht, Result.andThen_ok, sizeOf, typeInfo, run_program, hi, Sem.run_pure]
  rw [Std.Legacy.Range.forIn_eq_forIn_range']
  simp only [Std.Legacy.Range.size, Nat.sub_zero, Nat.add_sub_cancel, Nat.div_one]
  generalize List.range' 0 n = l
  induction l generalizing w with
  | nil => simp [arrLoop]
  | cons j l ih =>
    simp only [List.forIn_cons, arrLoop, Sem.run_bind, Sem.run_ite]
    generalize (part e xs (j * i.size)).run P w = r1
    cases r1 with
    | ok a w1 =>
      simp only [Result.andThen_ok]
      generalize (part e ys (j * i.size)).run P w1 = r2
      cases r2 with
      | ok b w2 =>
        simp only [Result.andThen_ok]
        generalize (Op.equalIn d e a b).run P w2 = r3
        cases r3 with
        | ok r w3 =>
          cases r
          · simp
          · simp only [Result.andThen_ok, Bool.not_true, Bool.false_eq_true, if_false, Sem.run_pure]
            exact ih w3
        | halt x w3 => simp [Result.andThen]
      | halt x w2 => simp [Result.andThen]
    | halt x w1 => simp [Result.andThen]
theorem run_eqAs {d : Nat} {e : TypeId} {k : Nat} {xs ys : Array Value} (ih : ∀ t x y b, eqV P d t x y = some b → (Op.equalIn d t x y).run P w = .ok b w) :
    ∀ (n i : Nat) (b : Bool), eqAs (eqV P d) P e k xs ys n i = some b → (arrLoop d e k xs ys (List.range' i n)).run P w = .ok b w
  | 0, i, b, h => by simp [eqAs] at h; subst h; simp [arrLoop]
  | n + 1, i, b, h => by
    unfold eqAs at h
    cases ha : partV P e xs (i * k) with
    | none => rw [ha] at h; simp at h
    | some u =>
      cases hb : partV P e ys (i * k) with
      | none => rw [ha, hb] at h; simp at h
      | some v =>
        rw [ha, hb] at h
        simp only at h
        cases he : eqV P d e u v with
        | none => rw [he] at h; simp at h
        | some r =>
          rw [he] at h
          simp only at h
          have hr := ih _ _ _ _ he
          rw [List.range'_succ]
          simp only [arrLoop, Sem.run_bind, run_part w ha, run_part w hb, Result.andThen_ok, hr]
          cases n with
          | zero =>
            simp at h; subst h
            cases r <;> simp [arrLoop]
          | succ m =>
            simp only at h
            cases hq : eqAs (eqV P d) P e k xs ys (m + 1) (i + 1) with
            | none => rw [hq] at h; simp at h
            | some q =>
              rw [hq] at h
              simp at h; subst h
              have := run_eqAs ih (m + 1) (i + 1) q hq
              cases r <;> simp [this]
theorem run_eqV : ∀ (d : Nat) (t : TypeId) (x y : Value) (b : Bool), eqV P d t x y = some b → (Op.equalIn d t x y).run P w = .ok b w
  | 0, _, _, _, _, h => by simp [eqV] at h
  | d + 1, t, x, y, b, h => by
    have ih := run_eqV d
    simp only [eqV] at h
    cases hu : P.underlying t with
    | none => rw [hu] at h; simp at h
    | some u =>
      rw [hu] at h
      cases u <;> cases x <;> cases y <;> simp at h <;> (try (exact h.elim))
      case int.int.int k k1 a k2 c =>
        obtain ⟨rfl, rfl⟩ := h
        simp [Op.equalIn, run_underlying hu]
      case bool.bool.bool a c =>
        subst h
        simp [Op.equalIn, run_underlying hu]
      case string.string.string a c =>
        subst h
        simp [Op.equalIn, run_underlying hu]
      case struct.agg.agg fs xs ys =>
        obtain ⟨hp, h⟩ := h
        have hf : P.fieldsOf t = fs := by simp [Program.fieldsOf, hu]
        rw [run_equalIn_struct w d t xs ys (by rw [hf]; exact hu) hp, hf]
        exact run_eqFs w ih _ _ h
      case array.agg.agg n e xs ys =>
        cases hi : P.info? e with
        | none => rw [hi] at h; simp at h
        | some i =>
          rw [hi] at h
          rw [run_equalIn_array w d t e n i xs ys hu hi]
          exact run_eqAs w ih n 0 b h
end
section
variable {P : Program} {n : Nat} {env : Env} {w0 : World} {S : List Nat} {H : List Item} {o : Oper}
/-- '==' and '!=' of two structs or arrays -/
theorem qt_eqlA {t ty : TypeId} {x y : Operand} {xs ys : Array Value} {b : Bool} (ho : o.op = .binOp .eql t x y ty) (hx : ev env x = some (.agg xs)) (hy : ev env y = some (.agg ys)) (hg : P.eqGuardType P.depth t = false)
    (h : eqV P 10000 t (.agg xs) (.agg ys) = some b) : Qt P n env w0 S H o (.bool b) :=
  qt_same fun a w r _ => by
    have h1 := run_eqV (P := P) w _ _ _ _ _ h
    simp [execOp, ho, r.ev hx, r.ev hy, run_eqGuard_agg w _ t x y xs ys hg, run_eql_struct, h1]
theorem qt_neqA {t ty : TypeId} {x y : Operand} {xs ys : Array Value} {b : Bool} (ho : o.op = .binOp .neq t x y ty) (hx : ev env x = some (.agg xs)) (hy : ev env y = some (.agg ys)) (hg : P.eqGuardType P.depth t = false)
    (h : eqV P 10000 t (.agg xs) (.agg ys) = some b) : Qt P n env w0 S H o (.bool (!b)) :=
  qt_same fun a w r _ => by
    have h1 := run_eqV (P := P) w _ _ _ _ _ h
    simp [execOp, ho, r.ev hx, r.ev hy, run_eqGuard_agg w _ t x y xs ys hg, run_neq_struct, h1]
theorem qt_eqlB {t ty : TypeId} {x y : Operand} {b c : Bool} (ho : o.op = .binOp .eql t x y ty) (hx : ev env x = some (.bool b)) (hy : ev env y = some (.bool c)) (ht : P.underlying t = some .bool) : Qt P n env w0 S H o (.bool (b == c)) :=
  qt_same fun a w r _ => by simp [execOp, ho, r.ev hx, r.ev hy, eqGuard, binOp, run_equal_bool w t b c ht]
theorem qt_neqB {t ty : TypeId} {x y : Operand} {b c : Bool} (ho : o.op = .binOp .neq t x y ty) (hx : ev env x = some (.bool b)) (hy : ev env y = some (.bool c)) (ht : P.underlying t = some .bool) : Qt P n env w0 S H o (.bool (!(b == c))) :=
  qt_same fun a w r _ => by simp [execOp, ho, r.ev hx, r.ev hy, eqGuard, binOp, run_equal_bool w t b c ht]
end
end Go.Proofs.YtaacfehlcdkdhaaGreatDoor.V
