/- What the functions of this layer do, proved operation by operation, for all arguments, under the conditions that each theorem states. -/
import Derived.Test.YtaacfehlcdkdhaaGreatDoorProg
import Derived.Test.YtaacfehlcdkdhaaGreatDoorWc
import Derived.Test.YtaacfehlcdkdhaaGreatDoorStr1
namespace Go.Proofs.YtaacfehlcdkdhaaGreatDoor
open Go V Go.Shelf Go.Proofs
set_option linter.unusedVariables false
set_option linter.unusedSimpArgs false
def encS (x : List UInt8) : List Value := [(s_ (bs x))]
theorem encS_len (x : List UInt8) : (encS x).length = 1 := rfl
theorem encS_one (x : List UInt8) : (encS x).all Value.oneCell' = true := rfl
abbrev sS (A : Option Addr) (xs : List (List UInt8)) (c : Nat) : V.Item := sl A xs.length c 9 1 (V.flat encS xs)
def Tryz.lays156_ren : Go.Shelf.Ren := ⟨fun | 156 => 16 | 165 => 26 | 166 => 27 | 169 => 28 | 240 => 34 | 241 => 35 | 276 => 40 | 277 => 41 | n => n, fun | 31 => 23 | 9 => 9 | 3 => 3 | 4 => 4 | 0 => 0 | 20 => 20 | 72 => 90 | 76 => 94 | 70 => 88 | 37 => 80 | 75 => 93 | 127 => 109 | 164 => 114 | 5 => 5 | 80 => 96 | n => n, fun | n => n⟩
theorem Tryz.lays156 : Go.Proofs.Lays.n156 Tryz.prog Tryz.lays156_ren := {
  mixed := by kernel_rfl
  f156 := Tryz.func16.trans (congrArg some (by kernel_rfl))
  f165 := Tryz.func26.trans (congrArg some (by kernel_rfl))
  f166 := Tryz.func27.trans (congrArg some (by kernel_rfl))
  f169 := Tryz.func28.trans (congrArg some (by kernel_rfl))
  f240 := Tryz.func34.trans (congrArg some (by kernel_rfl))
  f241 := Tryz.func35.trans (congrArg some (by kernel_rfl))
  f276 := Tryz.func40.trans (congrArg some (by kernel_rfl))
  f277 := Tryz.func41.trans (congrArg some (by kernel_rfl))
  t0 := Tryz.underlying0
  a0 := Tryz.isAgg0
  z0 := Tryz.sizeOf0
  v0 := Tryz.zeroValue0
  t3 := Tryz.underlying3
  a3 := Tryz.isAgg3
  z3 := Tryz.sizeOf3
  v3 := Tryz.zeroValue3
  t4 := Tryz.underlying4
  a4 := Tryz.isAgg4
  z4 := Tryz.sizeOf4
  v4 := Tryz.zeroValue4
  t9 := Tryz.underlying9
  a9 := Tryz.isAgg9
  z9 := Tryz.sizeOf9
  v9 := Tryz.zeroValue9
  t20 := Tryz.underlying20
  a20 := Tryz.isAgg20
  z20 := Tryz.sizeOf20
  v20 := Tryz.zeroValue20
  t31 := Tryz.underlying23
  a31 := Tryz.isAgg23
  z31 := Tryz.sizeOf23
  v31 := Tryz.zeroValue23
  t37 := Tryz.underlying80
  a37 := Tryz.isAgg80
  z37 := Tryz.sizeOf80
  v37 := Tryz.zeroValue80
  t70 := Tryz.underlying88
  a70 := Tryz.isAgg88
  z70 := Tryz.sizeOf88
  v70 := Tryz.zeroValue88
  t72 := Tryz.underlying90
  a72 := Tryz.isAgg90
  z72 := Tryz.sizeOf90
  v72 := Tryz.zeroValue90
  t75 := Tryz.underlying93
  a75 := Tryz.isAgg93
  z75 := Tryz.sizeOf93
  v75 := Tryz.zeroValue93
  t76 := Tryz.underlying94
  a76 := Tryz.isAgg94
  z76 := Tryz.sizeOf94
  v76 := Tryz.zeroValue94
  t127 := Tryz.underlying109
  a127 := Tryz.isAgg109
  z127 := Tryz.sizeOf109
  v127 := Tryz.zeroValue109
  t164 := Tryz.underlying114
  a164 := Tryz.isAgg114
  z164 := Tryz.sizeOf114
  v164 := Tryz.zeroValue114 }
def Tryz.lays146_ren : Go.Shelf.Ren := ⟨fun | 146 => 20 | 221 => 29 | 268 => 36 | 138 => 37 | 143 => 38 | 195 => 42 | 197 => 43 | 218 => 44 | 219 => 45 | 260 => 46 | 217 => 47 | 225 => 48 | 224 => 49 | 267 => 50 | 266 => 51 | 314 => 52 | n => n, fun | 9 => 9 | 31 => 23 | 3 => 3 | 4 => 4 | 0 => 0 | 105 => 117 | 21 => 21 | 5 => 5 | 46 => 121 | 119 => 122 | 139 => 125 | 138 => 124 | 146 => 127 | 51 => 126 | n => n, fun | 1 => 0 | 3 => 1 | 4 => 2 | n => n⟩
theorem Tryz.lays146 : Go.Proofs.Lays.n146 Tryz.prog Tryz.lays146_ren := {
  mixed := by kernel_rfl
  f138 := Tryz.func37.trans (congrArg some (by kernel_rfl))
  f143 := Tryz.func38.trans (congrArg some (by kernel_rfl))
  f146 := Tryz.func20.trans (congrArg some (by kernel_rfl))
  f195 := Tryz.func42.trans (congrArg some (by kernel_rfl))
  f197 := Tryz.func43.trans (congrArg some (by kernel_rfl))
  f217 := Tryz.func47.trans (congrArg some (by kernel_rfl))
  f218 := Tryz.func44.trans (congrArg some (by kernel_rfl))
  f219 := Tryz.func45.trans (congrArg some (by kernel_rfl))
  f221 := Tryz.func29.trans (congrArg some (by kernel_rfl))
  f224 := Tryz.func49.trans (congrArg some (by kernel_rfl))
  f225 := Tryz.func48.trans (congrArg some (by kernel_rfl))
  f260 := Tryz.func46.trans (congrArg some (by kernel_rfl))
  f266 := Tryz.func51.trans (congrArg some (by kernel_rfl))
  f267 := Tryz.func50.trans (congrArg some (by kernel_rfl))
  f268 := Tryz.func36.trans (congrArg some (by kernel_rfl))
  f314 := Tryz.func52.trans (congrArg some (by kernel_rfl))
  t0 := Tryz.underlying0
  a0 := Tryz.isAgg0
  z0 := Tryz.sizeOf0
  v0 := Tryz.zeroValue0
  t3 := Tryz.underlying3
  a3 := Tryz.isAgg3
  z3 := Tryz.sizeOf3
  v3 := Tryz.zeroValue3
  t4 := Tryz.underlying4
  a4 := Tryz.isAgg4
  z4 := Tryz.sizeOf4
  v4 := Tryz.zeroValue4
  t5 := Tryz.underlying5
  a5 := Tryz.isAgg5
  z5 := Tryz.sizeOf5
  v5 := Tryz.zeroValue5
  t9 := Tryz.underlying9
  a9 := Tryz.isAgg9
  z9 := Tryz.sizeOf9
  v9 := Tryz.zeroValue9
  t21 := Tryz.underlying21
  a21 := Tryz.isAgg21
  z21 := Tryz.sizeOf21
  v21 := Tryz.zeroValue21
  t31 := Tryz.underlying23
  a31 := Tryz.isAgg23
  z31 := Tryz.sizeOf23
  v31 := Tryz.zeroValue23
  t46 := Tryz.underlying121
  a46 := Tryz.isAgg121
  z46 := Tryz.sizeOf121
  v46 := Tryz.zeroValue121
  t51 := Tryz.underlying126
  a51 := Tryz.isAgg126
  z51 := Tryz.sizeOf126
  v51 := Tryz.zeroValue126
  t105 := Tryz.underlying117
  a105 := Tryz.isAgg117
  z105 := Tryz.sizeOf117
  v105 := Tryz.zeroValue117
  t119 := Tryz.underlying122
  a119 := Tryz.isAgg122
  z119 := Tryz.sizeOf122
  t138 := Tryz.underlying124
  a138 := Tryz.isAgg124
  z138 := Tryz.sizeOf124
  v138 := Tryz.zeroValue124
  t139 := Tryz.underlying125
  a139 := Tryz.isAgg125
  z139 := Tryz.sizeOf125
  v139 := Tryz.zeroValue125
  t146 := Tryz.underlying127
  a146 := Tryz.isAgg127
  z146 := Tryz.sizeOf127
  v146 := Tryz.zeroValue127
  g1 := by kernel_rfl
  g3 := by kernel_rfl
  g4 := by kernel_rfl }
theorem Tryz.Builder_Extra_156 : Builder.Extra Tryz.prog Tryz.lays156_ren := {
  sizeBuilder := by kernel_rfl
  liesBuilder := by kernel_rfl
  t5 := Tryz.underlying5
  a5 := Tryz.isAgg5
  z5 := Tryz.sizeOf5
  v5 := Tryz.zeroValue5
  infoByte := by kernel_rfl
  cellsByte := by kernel_rfl
  sizeByte := by kernel_rfl
  neB5 := by decide }


theorem split_spec (l : List UInt8) (c : UInt8) (hl : l.length < 4294967281) (w : World) (hs : HS w (feet []) [] w) :
    Calls Tryz.prog 20 #[s_ (bs l), s_ (bs [c])] w fun e w' => ∃ zz, e = .returned ((fun (zz : (Option Addr) × Nat) => match zz with | (al', cl') => (vS al' (words c l) cl')) zz) ∧ (fun (zz : (Option Addr) × Nat) => match zz with | (al', cl') => True) zz ∧ Turn [] ((fun (zz : (Option Addr) × Nat) => match zz with | (al', cl') => [sS al' (words c l) cl']) zz) w w' := by
  refine (split_turn (enc := encS) Tryz.lays146 (by kernel_rfl) (fun _ => rfl) l c w hl).mono fun e w' ⟨zz, h1, h2, h3⟩ => ⟨zz, h1, h2, h3⟩

theorem join_spec (ak : Option Addr) (xs : List (List UInt8)) (ck : Nat) (sp : List UInt8) (hn : xs.length ≤ 1000000) (hl : (Lib.join xs sp).length ≤ 140737488355328) (w : World) (r0 : (sS ak xs ck).holds w) :
    Calls Tryz.prog 16 #[vS ak xs ck, s_ (bs sp)] w fun e w' => e = .returned (s_ (bs (Lib.join xs sp))) ∧ Fr [] w w' :=
  join_qt (enc := encS) Tryz.lays156 Tryz.Builder_Extra_156 (fun _ => rfl) xs sp w r0 hn hl
end Go.Proofs.YtaacfehlcdkdhaaGreatDoor
