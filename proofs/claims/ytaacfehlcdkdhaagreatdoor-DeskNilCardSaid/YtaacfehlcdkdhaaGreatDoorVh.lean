/- My own verifier: what came in, of any flat type (structs and arrays of numbers, truths and texts), alone or in a slice. Generic: nothing of the dump. -/
import Derived.Test.YtaacfehlcdkdhaaGreatDoorVg
import Derived.OpenShut
import Derived.Deep.Slices
namespace Go.Proofs.YtaacfehlcdkdhaaGreatDoor.V
set_option linter.unusedVariables false
set_option linter.unusedSimpArgs false
open Go Go.ChangeShapes Go.WideShapes
inductive FK where
  | int (k : IntKind) | bool | str
  deriving DecidableEq
def Fits : FK → Value → Prop
  | .int k, v => ∃ n, v = .int k n ∧ k.min ≤ n ∧ n ≤ k.max
  | .bool, v => ∃ b, v = .bool b
  | .str, v => ∃ s : ByteArray, v = .string s ∧ s.size ≤ maxLen
theorem fit_i8 {v : Value} (h : Fits (.int .i8) v) : ∃ n, v = .int .i8 n ∧ (-128 : Int) ≤ n ∧ n ≤ 127 := by
  obtain ⟨n, rfl, h1, h2⟩ := h; exact ⟨n, rfl, by simpa [IntKind.min, IntKind.signed, IntKind.bits] using h1, by simpa [IntKind.max, IntKind.signed, IntKind.bits] using h2⟩
theorem fit_i16 {v : Value} (h : Fits (.int .i16) v) : ∃ n, v = .int .i16 n ∧ (-32768 : Int) ≤ n ∧ n ≤ 32767 := by
  obtain ⟨n, rfl, h1, h2⟩ := h; exact ⟨n, rfl, by simpa [IntKind.min, IntKind.signed, IntKind.bits] using h1, by simpa [IntKind.max, IntKind.signed, IntKind.bits] using h2⟩
theorem fit_i32 {v : Value} (h : Fits (.int .i32) v) : ∃ n, v = .int .i32 n ∧ (-2147483648 : Int) ≤ n ∧ n ≤ 2147483647 := by
  obtain ⟨n, rfl, h1, h2⟩ := h; exact ⟨n, rfl, by simpa [IntKind.min, IntKind.signed, IntKind.bits] using h1, by simpa [IntKind.max, IntKind.signed, IntKind.bits] using h2⟩
theorem fit_i64 {v : Value} (h : Fits (.int .i64) v) : ∃ n, v = .int .i64 n ∧ (-9223372036854775808 : Int) ≤ n ∧ n ≤ 9223372036854775807 := by
  obtain ⟨n, rfl, h1, h2⟩ := h; exact ⟨n, rfl, by simpa [IntKind.min, IntKind.signed, IntKind.bits] using h1, by simpa [IntKind.max, IntKind.signed, IntKind.bits] using h2⟩
theorem fit_u8 {v : Value} (h : Fits (.int .u8) v) : ∃ n, v = .int .u8 n ∧ (0 : Int) ≤ n ∧ n ≤ 255 := by
  obtain ⟨n, rfl, h1, h2⟩ := h; exact ⟨n, rfl, by simpa [IntKind.min, IntKind.signed, IntKind.bits] using h1, by simpa [IntKind.max, IntKind.signed, IntKind.bits] using h2⟩
theorem fit_u16 {v : Value} (h : Fits (.int .u16) v) : ∃ n, v = .int .u16 n ∧ (0 : Int) ≤ n ∧ n ≤ 65535 := by
  obtain ⟨n, rfl, h1, h2⟩ := h; exact ⟨n, rfl, by simpa [IntKind.min, IntKind.signed, IntKind.bits] using h1, by simpa [IntKind.max, IntKind.signed, IntKind.bits] using h2⟩
theorem fit_u32 {v : Value} (h : Fits (.int .u32) v) : ∃ n, v = .int .u32 n ∧ (0 : Int) ≤ n ∧ n ≤ 4294967295 := by
  obtain ⟨n, rfl, h1, h2⟩ := h; exact ⟨n, rfl, by simpa [IntKind.min, IntKind.signed, IntKind.bits] using h1, by simpa [IntKind.max, IntKind.signed, IntKind.bits] using h2⟩
theorem fit_u64 {v : Value} (h : Fits (.int .u64) v) : ∃ n, v = .int .u64 n ∧ (0 : Int) ≤ n ∧ n ≤ 18446744073709551615 := by
  obtain ⟨n, rfl, h1, h2⟩ := h; exact ⟨n, rfl, by simpa [IntKind.min, IntKind.signed, IntKind.bits] using h1, by simpa [IntKind.max, IntKind.signed, IntKind.bits] using h2⟩
theorem fit_bool {v : Value} (h : Fits .bool v) : ∃ b, v = .bool b := h
theorem fit_str {v : Value} (h : Fits .str v) : ∃ s : ByteArray, v = .string s ∧ s.size ≤ 9223372036854775807 := by
  obtain ⟨s, rfl, h⟩ := h; exact ⟨s, rfl, by simpa [maxLen, IntKind.max, IntKind.signed, IntKind.bits] using h⟩
def FitsL : List FK → List Value → Prop
  | [], [] => True
  | k :: ks, v :: vs => Fits k v ∧ FitsL ks vs
  | _, _ => False
theorem fitsL_cons {k : FK} {ks : List FK} {cs : List Value} (h : FitsL (k :: ks) cs) : ∃ v cs', cs = v :: cs' ∧ Fits k v ∧ FitsL ks cs' := by
  cases cs with
  | nil => exact h.elim
  | cons v cs => exact ⟨v, cs, rfl, h.1, h.2⟩
theorem fitsL_nil {cs : List Value} (h : FitsL [] cs) : cs = [] := by cases cs with | nil => rfl | cons v cs => exact h.elim
def sizeOkB (P : Program) (t : TypeId) (n : Nat) : Bool := Nat.beq (P.cellsOf t) n
/-- the kinds of a type's cells, if it is flat and lies without gaps -/
def flatK (P : Program) : Nat → TypeId → Option (List FK)
  | 0, _ => none
  | d + 1, t =>
    match P.underlying t with
    | some .bool => some [.bool]
    | some (.int k) => some [.int k]
    | some .string => some [.str]
    | some (.struct fs) => (fs.toList.foldr (fun f r => r.bind fun (acc : List FK) => (flatK P d f.type).bind fun ks => if ks.length = P.cellsOf f.type ∧ f.offset + ks.length + acc.length = P.cellsOf t then some (ks ++ acc) else none) (some [])).bind fun ks => if ks.length = P.cellsOf t then some ks else none
    | some (.array n e) => (flatK P d e).bind fun ks => if ks.length = P.cellsOf e ∧ n * ks.length = P.cellsOf t then some (List.replicate n ks).flatten else none
    | _ => none
section
variable {H : Type} {enc : TypeId × Value → H} {P : Program} {w : World} {base : Nat} {spare : Nat → Bool} {held : Bool}
theorem fitsL_append : ∀ {a c : List FK} {b d : List Value}, FitsL a b → FitsL c d → FitsL (a ++ c) (b ++ d)
  | [], _, [], _, _, k => k
  | _ :: _, _, _ :: _, _, h, k => ⟨h.1, fitsL_append h.2 k⟩
  | [], _, _ :: _, _, h, _ => h.elim
  | _ :: _, _, [], _, h, _ => h.elim
theorem trod_flat : ∀ (d fuel : Nat) (t : TypeId) (ks : List FK) (cs : List Value) (x : DataW H × List MemPlace), flatK P d t = some ks → DataW.trod enc P w base spare held fuel t cs = some x → FitsL ks cs := by
  intro d
  induction d with
  | zero => intro fuel t ks cs x h; simp [flatK] at h
  | succ d ih =>
    intro fuel t ks cs x h hx
    simp only [flatK] at h
    split at h
    case h_1 ht => cases h; obtain ⟨b, rfl, -⟩ := DataW.trod_bool ht hx; exact ⟨⟨b, rfl⟩, trivial⟩
    case h_2 k ht =>
      cases h; obtain ⟨n, rfl, -, hw⟩ := DataW.trod_int ht hx
      simp [Lit.wf] at hw
      exact ⟨⟨n, rfl, hw.1, hw.2⟩, trivial⟩
    case h_3 ht => cases h; obtain ⟨s, rfl, -, hs⟩ := DataW.trod_string ht hx; exact ⟨⟨s, rfl, hs⟩, trivial⟩
    case h_4 fs ht =>
      obtain ⟨xs, n, rfl, rfl, hl, hlen, hf⟩ := DataW.trod_struct ht hx
      simp only [Option.bind_eq_some_iff] at h
      obtain ⟨ks', h1, h2⟩ := h
      split at h2 <;> cases h2
      rename_i hkl
      have key : ∀ (l : List Field) (acc : List FK), (∀ f ∈ l, ∃ y, DataW.trod enc P w base spare held n f.type ((cs.drop f.offset).take (P.cellsOf f.type)) = some y) →
          (l.foldr (fun f r => r.bind fun (acc : List FK) => (flatK P d f.type).bind fun ks => if ks.length = P.cellsOf f.type ∧ f.offset + ks.length + acc.length = P.cellsOf t then some (ks ++ acc) else none) (some [])) = some acc →
          FitsL acc (cs.drop (P.cellsOf t - acc.length)) ∧ acc.length ≤ P.cellsOf t := by
        intro l
        induction l with
        | nil => intro acc _ hacc; simp at hacc; subst hacc; simp [← hl]; trivial
        | cons f l ihl =>
          intro acc hfs hacc
          simp only [List.foldr_cons, Option.bind_eq_some_iff] at hacc
          obtain ⟨acc', ha, kf, hk, hacc⟩ := hacc
          split at hacc <;> cases hacc
          rename_i hc
          obtain ⟨h3, h4⟩ := ihl acc' (fun f' hf' => hfs f' (List.mem_cons_of_mem _ hf')) ha
          obtain ⟨y, hy⟩ := hfs f (by simp)
          have h5 := ih _ _ _ _ _ hk hy
          refine ⟨?_, by simp; omega⟩
          have h6 : cs.drop (P.cellsOf t - (kf ++ acc').length) = (cs.drop f.offset).take (P.cellsOf f.type) ++ cs.drop (P.cellsOf t - acc'.length) := by
            have e1 : P.cellsOf t - (kf ++ acc').length = f.offset := by simp; omega
            have e2 : P.cellsOf t - acc'.length = f.offset + P.cellsOf f.type := by omega
            rw [e1, e2, ← List.drop_drop, List.take_append_drop]
          rw [h6]
          exact fitsL_append h5 h3
      have := (key fs.toList ks (fun f hf' => by
        obtain ⟨i, hi⟩ := List.getElem?_of_mem hf'
        have h7 := hf i f (by simpa using hi)
        have hlt : i < xs.length := by have := (List.getElem?_eq_some_iff.1 hi).1; simp at this; omega
        exact ⟨xs[i], by rw [h7, List.getElem?_eq_getElem hlt]⟩) h1).1
      simpa [hkl] using this
    case h_5 m e ht =>
      obtain ⟨xs, n, rfl, rfl, hl, hlen, hf⟩ := DataW.trod_array ht hx
      simp only [Option.bind_eq_some_iff] at h
      obtain ⟨ke, h1, h2⟩ := h
      split at h2 <;> cases h2
      rename_i hc
      have key : ∀ j, j ≤ m → FitsL (List.replicate j ke).flatten (cs.drop ((m - j) * P.cellsOf e)) := by
        intro j
        induction j with
        | zero =>
          intro _
          have : cs.drop ((m - 0) * P.cellsOf e) = [] := by
            apply List.drop_eq_nil_of_le
            rw [hl, ← hc.2, ← hc.1]; simp
          rw [this]; trivial
        | succ j ihj =>
          intro hj
          have hy := hf (m - (j + 1)) (by omega)
          have hlt : m - (j + 1) < xs.length := by omega
          rw [List.getElem?_eq_getElem hlt] at hy
          have h5 := ih _ _ _ _ _ h1 hy
          have h6 : cs.drop ((m - (j + 1)) * P.cellsOf e) = (cs.drop ((m - (j + 1)) * P.cellsOf e)).take (P.cellsOf e) ++ cs.drop ((m - j) * P.cellsOf e) := by
            have e2 : (m - j) * P.cellsOf e = (m - (j + 1)) * P.cellsOf e + P.cellsOf e := by
              rw [show m - j = (m - (j + 1)) + 1 by omega, Nat.add_mul, Nat.one_mul]
            rw [e2, ← List.drop_drop, List.take_append_drop]
          rw [h6, List.replicate_succ, List.flatten_cons]
          exact fitsL_append h5 (ihj (by omega))
      simpa using key m (Nat.le_refl m)
    case h_6 => cases h
/-- an argument of a flat type -/
theorem open_flat {α : Type} {ea : α → List Value} {ok : α → Prop} {d : Nat} {t : TypeId} {v : Value} {dd : DataW H} {ps : List MemPlace} {ks : List FK} (hk : flatK P d t = some ks) (ho : ∀ cs, FitsL ks cs → ∃ x, cs = ea x ∧ ok x)
    (h : DataW.Trod enc P w base spare held t v dd ps) : ∃ x, v.cells.toList = ea x ∧ ok x := by
  obtain ⟨fu, hf⟩ := h
  exact ho _ (trod_flat d fu t ks _ _ hk hf)
/-- a slice whose elements are of a flat type -/
theorem open_flats {α : Type} {ea : α → List Value} {ok : α → Prop} {d sz : Nat} {t e : TypeId} {ks : List FK} {v : Value} {dd : DataW H} {ps : List MemPlace} (ht : P.underlying t = some (.slice e)) (hk : flatK P d e = some ks) (hs : sizeOkB P e sz = true) (hlen : ∀ x, (ea x).length = sz)
    (hp : 0 < sz) (ho : ∀ cs, FitsL ks cs → ∃ x, cs = ea x ∧ ok x) {A0 : Option Addr} {len cap : Nat} (hv : v = .slice A0 len cap)
    (h : DataW.Trod enc P w base spare held t v dd ps) : ∃ xs : List α, xs.length = len ∧ arrAt w A0 (flat ea xs) ∧ ∀ x ∈ xs, ok x := by
  subst hv
  obtain ⟨fu, hf⟩ := h
  have hsz := Nat.eq_of_beq_eq_true hs
  rcases Go.Deep.open_slice ht hf with ⟨h0, -⟩ | ⟨a, len', cap', m, n, D, Pl, h0, hb, h1, h2, h3, -, hx⟩
  · simp [Value.cells] at h0
    obtain ⟨rfl, rfl, rfl⟩ := h0
    exact ⟨[], rfl, by intro j u hu; simp [flat] at hu, by simp⟩
  · simp [Value.cells] at h0
    obtain ⟨rfl, rfl, rfl⟩ := h0
    have hlm : len ≤ m := by rw [h3]; split <;> omega
    have key : ∀ j, j ≤ len → ∃ xs : List α, xs.length = j ∧ arrAt w (some a) (flat ea xs) ∧ ∀ x ∈ xs, ok x := by
      intro j
      induction j with
      | zero => intro _; exact ⟨[], rfl, by intro j u hu; simp [flat] at hu, by simp⟩
      | succ j ih =>
        intro hj
        obtain ⟨xs, hxl, hxa, hxo⟩ := ih (by omega)
        obtain ⟨cs', hc, htr⟩ := hx j (by omega)
        obtain ⟨y, rfl, hy⟩ := ho _ (trod_flat d n e ks _ _ hk htr)
        refine ⟨xs ++ [y], by simp [hxl], ?_, by intro z hz; simp at hz; rcases hz with hz | rfl; exact hxo z hz; exact hy⟩
        intro i u hu
        rw [flat_append] at hu
        by_cases hi : i < (flat ea xs).length
        · rw [List.getElem?_append_left hi] at hu; exact hxa i u hu
        · rw [List.getElem?_append_right (by omega)] at hu
          have hfl := flat_len hlen xs
          rw [hxl] at hfl
          rw [show flat ea [y] = ea y by simp [flat]] at hu
          obtain ⟨-, -, hcell⟩ := World.cells?_some hc
          have hlt : i - (flat ea xs).length < sz := by
            have := (List.getElem?_eq_some_iff.1 hu).1; rw [hlen y] at this; exact this
          have h8 := hcell (i - (flat ea xs).length) (by rw [hsz]; exact hlt)
          refine ⟨rfl, ?_⟩
          simp only [at0, Option.getD_some]
          rw [Addr.add_add, hsz] at h8
          rw [show j * sz + (i - (flat ea xs).length) = i by omega] at h8
          rw [h8, hu]
    exact key len (Nat.le_refl _)
end
end Go.Proofs.YtaacfehlcdkdhaaGreatDoor.V
