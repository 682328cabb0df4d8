/- What the functions of the sort of numbers do, proved operation by operation, for all arguments, under the conditions that each theorem states. -/
import Derived.Shelf.SortM.Plain
import Derived.Ground.SlgmProg
import Derived.Sort.LotA
import Derived.Sort.LotB
import Derived.Sort.LotC
import Derived.Sort.LotD1
import Derived.Sort.LotD3
import Derived.Sort.LotD4
import Derived.Test.YtinnnoimmioaiaaProg
import Derived.Test.YtinnnoimmioaiaaL2
import Derived.Test.YtinnnoimmioaiaaSort3
namespace Go.Proofs.Ytinnnoimmioaiaa
open Go V Go.Sort
set_option linter.unusedVariables false
set_option linter.unusedSimpArgs false
set_option maxHeartbeats 4000000
set_option maxRecDepth 100000
theorem bitLen_le (x : Nat) (h : 1 ≤ x) (hx : x < 2 ^ 64) : 2 ^ Lib.bitLen x ≤ 2 * x := by
  induction x using Nat.strongRecOn with
  | ind x ih =>
    rw [Lib.bitLen_half x (by omega) hx]
    by_cases h2 : x / 2 = 0
    · have : x = 1 := by omega
      subst this; decide
    · have := ih (x / 2) (by omega) (by omega) (by omega)
      rw [Nat.pow_add, Nat.pow_one]; omega
theorem bitLen_64 (x : Nat) (h : 1 ≤ x) (hx : x ≤ 100000) : Lib.bitLen x ≤ 18 := by
  have h1 := bitLen_le x h (by omega)
  rcases Nat.lt_or_ge 18 (Lib.bitLen x) with g | g
  · exfalso
    have := Nat.pow_le_pow_right (show 0 < 2 by decide) (show 19 ≤ Lib.bitLen x from g)
    have e : 2 ^ 19 = 524288 := by decide
    omega
  · exact g
theorem bx_rng (op : BinOp) (a b : Int) (h : op = .xor ∨ op = .and) : 0 ≤ bitsV op .u64 a b ∧ bitsV op .u64 a b < 18446744073709551616 := by
  rcases h with rfl | rfl <;> (unfold bitsV; simp only [IntKind.wrap_u64]; omega)
theorem other_ok {x : Int} {m : Nat} (hx : 0 ≤ x ∧ x < 18446744073709551616) (hm : 1 ≤ m ∧ m ≤ 1000000) : ∃ o : Nat, bitsV .and .u64 x (((m : Int) - 1)) = (o : Int) ∧ o < m := by
  obtain ⟨X, rfl⟩ := Int.eq_ofNat_of_zero_le hx.1
  have h1 : ((m : Int) - 1) = ((m - 1 : Nat) : Int) := by omega
  rw [h1]
  have h2 : bitsV .and .u64 (X : Int) ((m - 1 : Nat) : Int) = ((X &&& (m - 1) : Nat) : Int) := u64_and_nat X (m - 1) (by omega) (by omega)
  exact ⟨_, h2, by have := Nat.and_le_right (n := X) (m := m - 1); omega⟩
theorem perm_swp {d d2 : Array Int} {a b i j : Nat} (h : PermIn a b d d2) (hi : a ≤ i ∧ i < b) (hj : a ≤ j ∧ j < b) (hb : b ≤ d.size) : PermIn a b d (swp d2 i j) :=
  permIn_trans _ _ _ a b h (swp_permIn d2 a b i j hi.1 hi.2 hj.1 hj.2 (by rw [h.1]; exact hb))
theorem peq_size {d d' : Array Int} {a b p m : Nat} (h : partitionEqual ltInt d a b p = (m, d')) : True := trivial

open Go.RowKit Go.Shelf
def Try.lenA_ren : Go.Shelf.Ren := ⟨fun | 8 => 110 | 19 => 139 | 20 => 140 | n => n, fun | 32 => 153 | 3 => 3 | 44 => 177 | 46 => 24 | 4 => 4 | 5 => 5 | 9 => 9 | n => n, fun | n => n⟩
theorem Try.lenA : Go.Proofs.SlLaysM.n8 Try.prog Try.lenA_ren := {
  mixed := by kernel_rfl,
  f8 := Try.func110.trans (congrArg some (by kernel_rfl)),
  f19 := Try.func139.trans (congrArg some (by kernel_rfl)),
  f20 := Try.func140.trans (congrArg some (by kernel_rfl)),
  t3 := Try.underlying3,
  a3 := Try.isAgg3,
  z3 := Try.sizeOf3,
  v3 := Try.zeroValue3,
  t4 := Try.underlying4,
  a4 := Try.isAgg4,
  z4 := Try.sizeOf4,
  v4 := Try.zeroValue4,
  t5 := Try.underlying5,
  a5 := Try.isAgg5,
  z5 := Try.sizeOf5,
  v5 := Try.zeroValue5,
  t9 := Try.underlying9,
  a9 := Try.isAgg9,
  z9 := Try.sizeOf9,
  v9 := Try.zeroValue9,
  t32 := Try.underlying153,
  a32 := Try.isAgg153,
  z32 := Try.sizeOf153,
  v32 := Try.zeroValue153,
  t44 := Try.underlying177,
  a44 := Try.isAgg177,
  z44 := Try.sizeOf177,
  v44 := Try.zeroValue177,
  t46 := Try.underlying24,
  a46 := Try.isAgg24,
  z46 := Try.sizeOf24,
  v46 := Try.zeroValue24 }


theorem len_spec (n : Nat) (hn : n < 18446744073709551616) (w : World) :
    Calls Try.prog 110 #[u_ (n : Int)] w fun e w' => e = .returned (i_ (Lib.bitLen n : Int)) ∧ Fr [] w w' := by
  refine (calls_of_every_depth fun D => AnySM.bits_LenIn Try.lenA D (n : Int) w (by omega) (by omega)).mono ?_
  rintro e w' ⟨rfl, rfl⟩
  exact ⟨by simp, Fr.refl _ _⟩

theorem np2_spec (n : Nat) (hn : 1 ≤ n ∧ n ≤ 100000) (w : World) :
    Calls Try.prog 160 #[c_ n] w fun e w' => e = .returned (u_ ((2 ^ Lib.bitLen n : Nat) : Int)) ∧ Fr [] w w' := by
  refine calls_of (args := [c_ n]) (penv [c_ n]) [] [] Try.func160 rfl rfl (look_penv _) (HS.nil w) ?_
  refine A.sr (A.g [.p] [] [] ?_)
  refine tsr (A.gpk [.p, .w (n : Int), .cq (i_ (Lib.bitLen n : Int))] [0] [(5, i_ (Lib.bitLen n : Int))] [] (fun κ => (IntKind.u64.wrap (n : Int) = (n : Int)) ∧ κ.call 110 [u_ (n : Int)] (i_ (Lib.bitLen n : Int)) ∧ True) ⟨(wrap_u64 (e := (n : Int)) (by constructor <;> omega)), (fun ww ss => len_spec n (by omega) ww), trivial⟩ ?_)
  refine A.cons (A.q (some 6) (u_ ((2 ^ Lib.bitLen n : Nat) : Int)) (by kernel_rfl) (qt_as (congrArg (Value.int .u64) (by rw [IntKind.wrap_u64, Int.one_mul]; have h_ := bitLen_le n (by omega) (by omega); have h2_ : ((2 : Int) ^ Lib.bitLen n) = ((2 ^ Lib.bitLen n : Nat) : Int) := (by simp); rw [h2_]; exact (fun (q_ : Nat) (hq_ : q_ ≤ 2 * n) => (by omega : ((q_ : Int)) % 18446744073709551616 = (q_ : Int))) _ h_)) (qt_shl (m := Lib.bitLen n) rfl rfl rfl (by show Lib.bitLen n ≤ 64; have h_ := bitLen_64 n (by omega) (by omega); omega))) ?_)
  refine A.g [.p] [5, 6] [(2, u_ ((2 ^ Lib.bitLen n : Nat) : Int))] ?_
  refine A.tn (A.ret (A.pQ [u_ ((2 ^ Lib.bitLen n : Nat) : Int)] ?_))
  rfl

theorem next_spec (br : Nat) (x : Int) (w : World) (hs : HS w (feet [blk br [u_ x] 190]) [blk br [u_ x] 190] w) :
    Calls Try.prog 161 #[p_ br] w fun e w' => ∃ zz, e = .returned ((fun (x' : Int) => (u_ x')) zz) ∧ (fun (x' : Int) => 0 ≤ x' ∧ x' < 18446744073709551616) zz ∧ Turn [blk br [u_ x] 190] ((fun (x' : Int) => [blk br [u_ x'] 190]) zz) w w' := by
  refine calls_of (args := [p_ br]) (penv [p_ br]) (feet [blk br [u_ x] 190]) [blk br [u_ x] 190] Try.func161 rfl rfl (look_penv _) hs ?_
  refine A.sr (A.g [.p] [] [] ?_)
  refine A.tn (A.seq (A.draw2 [9] 10 (by kernel_rfl) ?_))
  refine A.dP 1 [.p, .p, .ld 0, .p, .p, .ld 0, .p, .p, .p] [0, 1, 2, 3, 4, 5, 6, 7, 8] [] [(10, u_ (bitsV .xor .u64 x (IntKind.u64.wrap (x * 8192)))), (11, p_ br)] [br, br] T0 trivial ?_
  refine A.only2 9 rfl (by kernel_rfl) (A.store 0 (vs := [u_ (bitsV .xor .u64 x (IntKind.u64.wrap (x * 8192)))]) [blk br [u_ (bitsV .xor .u64 x (IntKind.u64.wrap (x * 8192)))] 190] (by kernel_rfl) rfl rfl rfl rfl (by kernel_rfl) rfl rfl (by kernel_rfl) rfl ?_)
  refine A.stage ?_
  refine A.fin2 (by kernel_rfl) ?_
  refine A.tn (A.seq (A.draw2 [9] 10 (by kernel_rfl) ?_))
  refine A.drawP 4 [.p, .p, .ld 0, .p, .p, .ld 0] [0, 1, 2, 3, 4, 5] [(0, p_ br), (12, p_ br), (14, u_ (bitsV .xor .u64 x (IntKind.u64.wrap (x * 8192)))), (17, u_ (bitsV .xor .u64 x (IntKind.u64.wrap (x * 8192))))] [br, br] T0 (by kernel_rfl) trivial ?_
  refine A.take2 6 (some 18) (u_ ((bitsV .xor .u64 x (IntKind.u64.wrap (x * 8192))) / 128)) rfl (by kernel_rfl) (by kernel_rfl) (qt_as (congrArg (Value.int .u64) (Int.fdiv_eq_ediv_of_nonneg (bitsV .xor .u64 x (IntKind.u64.wrap (x * 8192))) (by decide))) (qt_pure (v := .int .u64 ((bitsV .xor .u64 x (IntKind.u64.wrap (x * 8192))).fdiv 128)) (by kernel_rfl) fun _ => by kernel_rfl)) ?_
  refine A.drawP 1 [.p, .p] [7, 8] [(0, p_ br), (19, u_ (bitsV .xor .u64 (bitsV .xor .u64 x (IntKind.u64.wrap (x * 8192))) ((bitsV .xor .u64 x (IntKind.u64.wrap (x * 8192))) / 128))), (20, p_ br)] [] T0 (by kernel_rfl) trivial ?_
  refine A.only2 9 rfl (by kernel_rfl) (A.store 0 (vs := [u_ (bitsV .xor .u64 (bitsV .xor .u64 x (IntKind.u64.wrap (x * 8192))) ((bitsV .xor .u64 x (IntKind.u64.wrap (x * 8192))) / 128))]) [blk br [u_ (bitsV .xor .u64 (bitsV .xor .u64 x (IntKind.u64.wrap (x * 8192))) ((bitsV .xor .u64 x (IntKind.u64.wrap (x * 8192))) / 128))] 190] (by kernel_rfl) rfl rfl rfl rfl (by kernel_rfl) rfl rfl (by kernel_rfl) rfl ?_)
  refine A.stage ?_
  refine A.fin2 (by kernel_rfl) ?_
  refine A.tn (A.seq (A.draw2 [9] 10 (by kernel_rfl) ?_))
  refine A.drawP 1 [.p, .p, .ld 0, .p, .p, .ld 0, .p, .p, .p] [0, 1, 2, 3, 4, 5, 6, 7, 8] [(0, p_ br), (28, u_ (bitsV .xor .u64 (bitsV .xor .u64 (bitsV .xor .u64 x (IntKind.u64.wrap (x * 8192))) ((bitsV .xor .u64 x (IntKind.u64.wrap (x * 8192))) / 128)) (IntKind.u64.wrap ((bitsV .xor .u64 (bitsV .xor .u64 x (IntKind.u64.wrap (x * 8192))) ((bitsV .xor .u64 x (IntKind.u64.wrap (x * 8192))) / 128)) * 131072)))), (29, p_ br)] [br, br] T0 (by kernel_rfl) trivial ?_
  refine A.only2 9 rfl (by kernel_rfl) (A.store 0 (vs := [u_ (bitsV .xor .u64 (bitsV .xor .u64 (bitsV .xor .u64 x (IntKind.u64.wrap (x * 8192))) ((bitsV .xor .u64 x (IntKind.u64.wrap (x * 8192))) / 128)) (IntKind.u64.wrap ((bitsV .xor .u64 (bitsV .xor .u64 x (IntKind.u64.wrap (x * 8192))) ((bitsV .xor .u64 x (IntKind.u64.wrap (x * 8192))) / 128)) * 131072)))]) [blk br [u_ (bitsV .xor .u64 (bitsV .xor .u64 (bitsV .xor .u64 x (IntKind.u64.wrap (x * 8192))) ((bitsV .xor .u64 x (IntKind.u64.wrap (x * 8192))) / 128)) (IntKind.u64.wrap ((bitsV .xor .u64 (bitsV .xor .u64 x (IntKind.u64.wrap (x * 8192))) ((bitsV .xor .u64 x (IntKind.u64.wrap (x * 8192))) / 128)) * 131072)))] 190] (by kernel_rfl) rfl rfl rfl rfl (by kernel_rfl) rfl rfl (by kernel_rfl) rfl ?_)
  refine A.stage ?_
  refine A.fin2 (by kernel_rfl) ?_
  refine tsr (A.goA [.p, .p, .ld 0, .p] [(2, u_ (bitsV .xor .u64 (bitsV .xor .u64 (bitsV .xor .u64 x (IntKind.u64.wrap (x * 8192))) ((bitsV .xor .u64 x (IntKind.u64.wrap (x * 8192))) / 128)) (IntKind.u64.wrap ((bitsV .xor .u64 (bitsV .xor .u64 x (IntKind.u64.wrap (x * 8192))) ((bitsV .xor .u64 x (IntKind.u64.wrap (x * 8192))) / 128)) * 131072))))] [br] T0 (by kernel_rfl) trivial ?_)
  refine A.tn (A.ret (A.pK [0] [u_ (bitsV .xor .u64 (bitsV .xor .u64 (bitsV .xor .u64 x (IntKind.u64.wrap (x * 8192))) ((bitsV .xor .u64 x (IntKind.u64.wrap (x * 8192))) / 128)) (IntKind.u64.wrap ((bitsV .xor .u64 (bitsV .xor .u64 x (IntKind.u64.wrap (x * 8192))) ((bitsV .xor .u64 x (IntKind.u64.wrap (x * 8192))) / 128)) * 131072)))] (bitsV .xor .u64 (bitsV .xor .u64 (bitsV .xor .u64 x (IntKind.u64.wrap (x * 8192))) ((bitsV .xor .u64 x (IntKind.u64.wrap (x * 8192))) / 128)) (IntKind.u64.wrap ((bitsV .xor .u64 (bitsV .xor .u64 x (IntKind.u64.wrap (x * 8192))) ((bitsV .xor .u64 x (IntKind.u64.wrap (x * 8192))) / 128)) * 131072))) ?_ ?_))
  · rfl
  show 0 ≤ (bitsV .xor .u64 (bitsV .xor .u64 (bitsV .xor .u64 x (IntKind.u64.wrap (x * 8192))) ((bitsV .xor .u64 x (IntKind.u64.wrap (x * 8192))) / 128)) (IntKind.u64.wrap ((bitsV .xor .u64 (bitsV .xor .u64 x (IntKind.u64.wrap (x * 8192))) ((bitsV .xor .u64 x (IntKind.u64.wrap (x * 8192))) / 128)) * 131072))) ∧ (bitsV .xor .u64 (bitsV .xor .u64 (bitsV .xor .u64 x (IntKind.u64.wrap (x * 8192))) ((bitsV .xor .u64 x (IntKind.u64.wrap (x * 8192))) / 128)) (IntKind.u64.wrap ((bitsV .xor .u64 (bitsV .xor .u64 x (IntKind.u64.wrap (x * 8192))) ((bitsV .xor .u64 x (IntKind.u64.wrap (x * 8192))) / 128)) * 131072))) < 18446744073709551616
  exact bx_rng .xor _ _ (.inl rfl)

theorem brk_spec (al : Option Addr) (d : Array Int) (cl : Nat) (a b : Nat) (hb : a + 8 ≤ b ∧ b ≤ d.size) (hS : d.size ≤ 100000) (w : World) (hs : HS w (feet [sU al d.toList cl]) [sU al d.toList cl] w) :
    Calls Try.prog 151 #[vS al d.toList cl, c_ a, c_ b] w fun e w' => ∃ zz, e = .returned ((fun (d' : (Array Int)) => (.tuple #[])) zz) ∧ (fun (d' : (Array Int)) => PermIn a b d d' ∧ d'.size = d.size) zz ∧ Turn [sU al d.toList cl] ((fun (d' : (Array Int)) => [sU al d'.toList cl]) zz) w w' := by
  have hl1 := bitLen_le (b - a) (by omega) (by omega); have hl2 : 1 ≤ 2 ^ Lib.bitLen (b - a) := Nat.one_le_two_pow
  refine calls_of (args := [vS al d.toList cl, c_ a, c_ b]) (penv [vS al d.toList cl, c_ a, c_ b]) (feet [sU al d.toList cl]) [sU al d.toList cl] Try.func151 rfl rfl (look_penv _) hs ?_
  refine A.sr (A.gk [.p, .p, .w ((b - a : Nat) : Int), .p] [2] [(6, c_ (b - a : Nat))] [] (fun κ => (IntKind.i64.wrap ((b : Int) - (a : Int)) = ((b - a : Nat) : Int)) ∧ True) ⟨((wrap_i64 (e := (b : Int) - (a : Int)) (by (constructor <;> omega))).trans (by omega : ((b : Int) - (a : Int) : Int) = ((b - a : Nat) : Int))), trivial⟩ ?_)
  refine tsr (A.g [.p, .p] [] [(15, b_ (decide (((b - a : Nat) : Int) ≥ 8)))] ?_)
  refine A.tn (A.cn (decide (((b - a : Nat) : Int) ≥ 8)) (fun e1 => ?_) (fun e1 => ?_))
  · have p1 := of_decide_eq_true e1
    refine A.sr (A.goA1 [.p, .w ((b - a : Nat) : Int), .al, .st 1] [0, 1, 6, 7] (fun b1 => [(0, vS al d.toList cl), (1, c_ a), (6, c_ (b - a : Nat)), (7, p_ b1)]) (fun b1 => [sU al d.toList cl, blk b1 [u_ ((b - a : Nat) : Int)] 190]) (fun b1 => [b1]) (fun _ => (fun κ => (IntKind.u64.wrap ((b - a : Nat) : Int) = ((b - a : Nat) : Int)) ∧ True)) (fun _ => by kernel_rfl) (fun b1 => ⟨(wrap_u64 (e := ((b - a : Nat) : Int)) (by constructor <;> omega)), trivial⟩) ?_)
    intro b1
    refine tsr (A.gk [.p, .cq (u_ ((2 ^ Lib.bitLen (b - a : Nat) : Nat) : Int)), .p] [] [(8, u_ ((2 ^ Lib.bitLen (b - a : Nat) : Nat) : Int))] [] (fun κ => κ.call 160 [c_ (b - a : Nat)] (u_ ((2 ^ Lib.bitLen (b - a : Nat) : Nat) : Int)) ∧ True) ⟨(fun ww ss => np2_spec (b - a : Nat) (by omega) ww), trivial⟩ ?_)
    refine tsr (A.gk [.p, .p, .w (((b - a) / 4 : Nat) : Int), .w ((((b - a) / 4) * 2 : Nat) : Int), .w ((a + (((b - a) / 4) * 2) : Nat) : Int), .w (((a + (((b - a) / 4) * 2)) - 1 : Nat) : Int), .p] [] [(9, c_ ((a + (((b - a) / 4) * 2)) - 1 : Nat))] [] (fun κ => (IntKind.i64.wrap (((b - a : Nat) : Int).tdiv 4) = (((b - a) / 4 : Nat) : Int)) ∧ (IntKind.i64.wrap ((((b - a) / 4 : Nat) : Int) * 2) = ((((b - a) / 4) * 2 : Nat) : Int)) ∧ (IntKind.i64.wrap ((a : Int) + ((((b - a) / 4) * 2 : Nat) : Int)) = ((a + (((b - a) / 4) * 2) : Nat) : Int)) ∧ (IntKind.i64.wrap (((a + (((b - a) / 4) * 2) : Nat) : Int) - 1) = (((a + (((b - a) / 4) * 2)) - 1 : Nat) : Int)) ∧ True) ⟨((wrap_i64 (e := ((b - a : Nat) : Int).tdiv 4) (by (rw [tdivN4]; constructor <;> omega))).trans (by rfl : (((b - a : Nat) : Int).tdiv 4 : Int) = (((b - a) / 4 : Nat) : Int))), (wrap_i64 (e := (((b - a) / 4 : Nat) : Int) * 2) (by (constructor <;> omega))).trans (by rfl : ((((b - a) / 4 : Nat) : Int) * 2 : Int) = ((((b - a) / 4) * 2 : Nat) : Int)), (wrap_i64 (e := (a : Int) + ((((b - a) / 4) * 2 : Nat) : Int)) (by (constructor <;> omega))).trans (by rfl : ((a : Int) + ((((b - a) / 4) * 2 : Nat) : Int) : Int) = ((a + (((b - a) / 4) * 2) : Nat) : Int)), (wrap_i64 (e := ((a + (((b - a) / 4) * 2) : Nat) : Int) - 1) (by (constructor <;> omega))).trans (by omega : (((a + (((b - a) / 4) * 2) : Nat) : Int) - 1 : Int) = (((a + (((b - a) / 4) * 2)) - 1 : Nat) : Int)), trivial⟩ ?_)
    refine A.tn (A.block (A.loop (fun (zz : Nat × (Array Int) × Int) => match zz with | (i, d2, x2) => [(1, c_ a), (6, c_ (b - a : Nat)), (7, p_ b1), (8, u_ ((2 ^ Lib.bitLen (b - a : Nat) : Nat) : Int)), (9, c_ i), (0, vS al d2.toList cl)]) (fun (zz : Nat × (Array Int) × Int) => match zz with | (i, d2, x2) => [sU al d2.toList cl, blk b1 [u_ x2] 190]) (fun (zz : Nat × (Array Int) × Int) => match zz with | (i, d2, x2) => (PermIn a b d d2) ∧ (d2.size = d.size) ∧ (a ≤ i ∧ i ≤ a + (b - a) / 4 * 2 + 2)) (fun (zz : Nat × (Array Int) × Int) => match zz with | (i, d2, x2) => a + (b - a) / 4 * 2 + 2 - i) (((a + (((b - a) / 4) * 2)) - 1 : Nat), d, ((b - a : Nat) : Int)) ⟨(by exact permIn_refl _ _ _), (by rfl), (by omega)⟩ ?_ ?_))
    · exact A.hK [0, 0]
    rintro ⟨i, d2, x2⟩ ⟨hp, hz, hi⟩
    refine A.seq (A.sr (A.gk [.p, .p, .p, .w (((b - a) / 4 : Nat) : Int), .w ((((b - a) / 4) * 2 : Nat) : Int), .w ((a + (((b - a) / 4) * 2) : Nat) : Int), .w (((a + (((b - a) / 4) * 2)) + 1 : Nat) : Int), .p] [] [(33, b_ (decide ((i : Int) ≤ (((a + (((b - a) / 4) * 2)) + 1 : Nat) : Int))))] [] (fun κ => (IntKind.i64.wrap (((b - a : Nat) : Int).tdiv 4) = (((b - a) / 4 : Nat) : Int)) ∧ (IntKind.i64.wrap ((((b - a) / 4 : Nat) : Int) * 2) = ((((b - a) / 4) * 2 : Nat) : Int)) ∧ (IntKind.i64.wrap ((a : Int) + ((((b - a) / 4) * 2 : Nat) : Int)) = ((a + (((b - a) / 4) * 2) : Nat) : Int)) ∧ (IntKind.i64.wrap (((a + (((b - a) / 4) * 2) : Nat) : Int) + 1) = (((a + (((b - a) / 4) * 2)) + 1 : Nat) : Int)) ∧ True) ⟨((wrap_i64 (e := ((b - a : Nat) : Int).tdiv 4) (by (rw [tdivN4]; constructor <;> omega))).trans (by rfl : (((b - a : Nat) : Int).tdiv 4 : Int) = (((b - a) / 4 : Nat) : Int))), (wrap_i64 (e := (((b - a) / 4 : Nat) : Int) * 2) (by (constructor <;> omega))).trans (by rfl : ((((b - a) / 4 : Nat) : Int) * 2 : Int) = ((((b - a) / 4) * 2 : Nat) : Int)), (wrap_i64 (e := (a : Int) + ((((b - a) / 4) * 2 : Nat) : Int)) (by (constructor <;> omega))).trans (by rfl : ((a : Int) + ((((b - a) / 4) * 2 : Nat) : Int) : Int) = ((a + (((b - a) / 4) * 2) : Nat) : Int)), (wrap_i64 (e := ((a + (((b - a) / 4) * 2) : Nat) : Int) + 1) (by (constructor <;> omega))).trans (by rfl : (((a + (((b - a) / 4) * 2) : Nat) : Int) + 1 : Int) = (((a + (((b - a) / 4) * 2)) + 1 : Nat) : Int)), trivial⟩ ?_))
    refine A.tn (A.cn (decide ((i : Int) ≤ (((a + (((b - a) / 4) * 2)) + 1 : Nat) : Int))) (fun e2 => ?_) (fun e2 => ?_))
    · have p2 := of_decide_eq_true e2
      refine A.skip (A.tn (A.seq (A.block (A.sr (A.cons (A.cT (some 36) [p_ b1] [1] ((fun x'2 => (u_ x'2))) ((fun x'2 => 0 ≤ x'2 ∧ x'2 < 18446744073709551616)) ((fun x'2 => [blk b1 [u_ x'2] 190])) (fun ww ss hh => next_spec b1 x2 ww hh) ?_))))))
      rintro x'2 hz3
      refine A.gk [.p, .w (((2 ^ Lib.bitLen (b - a : Nat) : Nat) : Int) - 1), .p, .w (bitsV .and .u64 x'2 (((2 ^ Lib.bitLen (b - a : Nat) : Nat) : Int) - 1)), .p] [33, 36] [(10, i_ (bitsV .and .u64 x'2 (((2 ^ Lib.bitLen (b - a : Nat) : Nat) : Int) - 1)))] [] (fun κ => (IntKind.u64.wrap (((2 ^ Lib.bitLen (b - a : Nat) : Nat) : Int) - 1) = (((2 ^ Lib.bitLen (b - a : Nat) : Nat) : Int) - 1)) ∧ (IntKind.i64.wrap (bitsV .and .u64 x'2 (((2 ^ Lib.bitLen (b - a : Nat) : Nat) : Int) - 1)) = (bitsV .and .u64 x'2 (((2 ^ Lib.bitLen (b - a : Nat) : Nat) : Int) - 1))) ∧ True) ⟨(wrap_u64 (e := ((2 ^ Lib.bitLen (b - a : Nat) : Nat) : Int) - 1) (by constructor <;> omega)), wrap_i64 (e := bitsV .and .u64 x'2 (((2 ^ Lib.bitLen (b - a : Nat) : Nat) : Int) - 1)) (by (obtain ⟨o_, ho_, hb_⟩ := other_ok (by assumption) (m := 2 ^ Lib.bitLen (b - a)) ⟨by omega, by omega⟩; rw [ho_]; constructor <;> omega)), trivial⟩ ?_
      refine A.tn (A.seq (A.seq ?_))
      obtain ⟨o3, ho3, hbo3⟩ : ∃ o : Nat, bitsV .and .u64 x'2 (((2 ^ Lib.bitLen (b - a : Nat) : Nat) : Int) - 1) = (o : Int) ∧ o < 2 ^ Lib.bitLen (b - a) := by exact other_ok (by assumption) ⟨by omega, by omega⟩
      refine A.sv 10 (c_ o3) (cgI (by exact ho3)) ?_
      refine A.region (A.g [.p, .p, .p] [] [(43, b_ (decide ((o3 : Int) ≥ ((b - a : Nat) : Int))))] ?_)
      refine A.tn (A.cn (decide ((o3 : Int) ≥ ((b - a : Nat) : Int))) (fun e4 => ?_) (fun e4 => ?_))
      · have p4 := of_decide_eq_true e4
        refine A.region (A.gk [.p, .p, .w ((o3 - (b - a) : Nat) : Int), .p] [43] [(10, c_ (o3 - (b - a) : Nat))] [] (fun κ => (IntKind.i64.wrap ((o3 : Int) - ((b - a : Nat) : Int)) = ((o3 - (b - a) : Nat) : Int)) ∧ True) ⟨((wrap_i64 (e := (o3 : Int) - ((b - a : Nat) : Int)) (by (constructor <;> omega))).trans (by omega : ((o3 : Int) - ((b - a : Nat) : Int) : Int) = ((o3 - (b - a) : Nat) : Int))), trivial⟩ ?_)
        refine A.tn (A.draw2 [17, 19] 20 (by kernel_rfl) ?_)
        refine A.dP 3 [.p, .p, .p, .p, .p, .w ((a + (o3 - (b - a)) : Nat) : Int), .p, .p, .p, .w ((a + (o3 - (b - a)) : Nat) : Int), .ix, .rd [u_ (d2[(a + (o3 - (b - a)) : Nat)]!)], .p, .p, .ix, .rd [u_ (d2[i]!)], .ix] [0, 1, 2, 3, 4, 5, 6, 7, 8, 9, 10, 11, 12, 13, 14, 15, 16] [10] [(49, vS al d2.toList cl), (52, c_ (a + (o3 - (b - a)) : Nat)), (58, u_ (d2[(a + (o3 - (b - a)) : Nat)]!)), (62, u_ (d2[i]!)), (63, (.pointer (some ((at0 al).add (i * 1)))))] [] (fun κ => (IntKind.i64.wrap ((a : Int) + ((o3 - (b - a) : Nat) : Int)) = ((a + (o3 - (b - a)) : Nat) : Int)) ∧ (IntKind.i64.wrap ((a : Int) + ((o3 - (b - a) : Nat) : Int)) = ((a + (o3 - (b - a)) : Nat) : Int)) ∧ κ.ix al d2.toList.length ((a + (o3 - (b - a)) : Nat) : Int) ∧ κ.rd ((at0 al).add ((a + (o3 - (b - a)) : Nat) * 1)) [u_ (d2[(a + (o3 - (b - a)) : Nat)]!)] ∧ κ.ix al d2.toList.length (i : Int) ∧ κ.rd ((at0 al).add (i * 1)) [u_ (d2[i]!)] ∧ κ.ix al d2.toList.length (i : Int) ∧ True) ⟨((wrap_i64 (e := (a : Int) + ((o3 - (b - a) : Nat) : Int)) (by (constructor <;> omega))).trans (by rfl : ((a : Int) + ((o3 - (b - a) : Nat) : Int) : Int) = ((a + (o3 - (b - a)) : Nat) : Int))), (wrap_i64 (e := (a : Int) + ((o3 - (b - a) : Nat) : Int)) (by (constructor <;> omega))).trans (by rfl : ((a : Int) + ((o3 - (b - a) : Nat) : Int) : Int) = ((a + (o3 - (b - a)) : Nat) : Int)), ixOf encU_len (by decide) (rd_sl (i := 1) rfl) (by (simp; omega)), reads_at0 (vs := [u_ (d2[(a + (o3 - (b - a)) : Nat)]!)]) encU_len (rd_sl (i := 1) rfl) (getS (by omega)) (Nat.le_of_ble_eq_true rfl) rfl, ixOf encU_len (by decide) (rd_sl (i := 1) rfl) (by (simp; omega)), reads_at0 (vs := [u_ (d2[i]!)]) encU_len (rd_sl (i := 1) rfl) (getS (by omega)) (Nat.le_of_ble_eq_true rfl) rfl, ixOf encU_len (by decide) (rd_sl (i := 1) rfl) (by (simp; omega)), trivial⟩ ?_
        refine A.only2 17 rfl (by kernel_rfl) (A.storeSl (enc := encU) (xs := d2.toList) 1 i (d2[(a + (o3 - (b - a)) : Nat)]!) [blk b1 [u_ x'2] 190, sU al (d2.toList.set i (d2[(a + (o3 - (b - a)) : Nat)]!)) cl] (by kernel_rfl) rfl rfl rfl rfl (by kernel_rfl) (by kernel_rfl) encU_len (by decide) rfl (by (simp; omega)) rfl ?_)
        refine A.sv 0 (vS al (d2.toList.set i (d2[(a + (o3 - (b - a)) : Nat)]!)) cl) (cgN (by simp)) (A.sv 49 (vS al (d2.toList.set i (d2[(a + (o3 - (b - a)) : Nat)]!)) cl) (cgN (by simp)) ?_)
        refine A.stage ?_
        refine A.dP 1 [.ix] [18] [49, 52, 58, 63] [(64, (.pointer (some ((at0 al).add ((a + (o3 - (b - a)) : Nat) * 1)))))] [] (fun κ => κ.ix al ((d2.toList.set i (d2[(a + (o3 - (b - a)) : Nat)]!)).length) ((a + (o3 - (b - a)) : Nat) : Int) ∧ True) ⟨(ixOf encU_len (by decide) (rd_sl (i := 1) rfl) (by (simp; omega))), trivial⟩ ?_
        refine A.only2 19 rfl (by kernel_rfl) (A.storeSl (enc := encU) (xs := (d2.toList.set i (d2[(a + (o3 - (b - a)) : Nat)]!))) 1 (a + (o3 - (b - a)) : Nat) (d2[i]!) [blk b1 [u_ x'2] 190, sU al ((d2.toList.set i (d2[(a + (o3 - (b - a)) : Nat)]!)).set (a + (o3 - (b - a)) : Nat) (d2[i]!)) cl] (by kernel_rfl) rfl rfl rfl rfl (by kernel_rfl) (by kernel_rfl) encU_len (by decide) rfl (by (simp; omega)) rfl ?_)
        refine A.sv 0 (vS al ((d2.toList.set i (d2[(a + (o3 - (b - a)) : Nat)]!)).set (a + (o3 - (b - a)) : Nat) (d2[i]!)) cl) (cgN (by simp)) ?_
        refine A.stage ?_
        refine A.fin2 (by kernel_rfl) ?_
        obtain ⟨d104, hdd104⟩ : ∃ z, z = swp d2 i (a + (o3 - (b - a)) : Nat) := ⟨_, rfl⟩; have hszd104 : d104.size = d2.size := (by rw [hdd104]; exact swp_sz _ _ _)
        have hcv5 : ((d2.toList.set i (d2[(a + (o3 - (b - a)) : Nat)]!)).set (a + (o3 - (b - a)) : Nat) (d2[i]!)) = d104.toList := by rw [hdd104]; exact swp_list2 _ _ _
        refine A.setH [blk b1 [u_ x'2] 190, sU al d104.toList cl] (cc rfl (cc (slC hcv5) rfl)) ?_
        refine A.sv 0 (vS al d104.toList cl) (cgL hcv5) ?_
        refine A.bn (tr (A.gk [.p, .w ((i + 1 : Nat) : Int), .p] [62, 64] [(9, c_ (i + 1 : Nat))] [] (fun κ => (IntKind.i64.wrap ((i : Int) + 1) = ((i + 1 : Nat) : Int)) ∧ True) ⟨((wrap_i64 (e := (i : Int) + 1) (by (constructor <;> omega))).trans (by rfl : ((i : Int) + 1 : Int) = ((i + 1 : Nat) : Int))), trivial⟩ ?_))
        refine A.tn ?_
        have hp2 : PermIn a b d d104 := by rw [hdd104]; exact perm_swp hp (by omega) (by omega) (by omega)
        refine A.next ((i + 1 : Nat), d104, x'2) ⟨(by exact hp2), (by omega), (by omega)⟩ (by (simp; omega)) ?_
        exact A.hK [1, 0]
      have p4 := of_decide_eq_false e4
      refine A.skip (A.tn (A.draw2 [17, 19] 20 (by kernel_rfl) ?_))
      refine A.dP 3 [.p, .p, .p, .p, .p, .w ((a + o3 : Nat) : Int), .p, .p, .p, .w ((a + o3 : Nat) : Int), .ix, .rd [u_ (d2[(a + o3 : Nat)]!)], .p, .p, .ix, .rd [u_ (d2[i]!)], .ix] [0, 1, 2, 3, 4, 5, 6, 7, 8, 9, 10, 11, 12, 13, 14, 15, 16] [10, 43] [(49, vS al d2.toList cl), (52, c_ (a + o3 : Nat)), (58, u_ (d2[(a + o3 : Nat)]!)), (62, u_ (d2[i]!)), (63, (.pointer (some ((at0 al).add (i * 1)))))] [] (fun κ => (IntKind.i64.wrap ((a : Int) + (o3 : Int)) = ((a + o3 : Nat) : Int)) ∧ (IntKind.i64.wrap ((a : Int) + (o3 : Int)) = ((a + o3 : Nat) : Int)) ∧ κ.ix al d2.toList.length ((a + o3 : Nat) : Int) ∧ κ.rd ((at0 al).add ((a + o3 : Nat) * 1)) [u_ (d2[(a + o3 : Nat)]!)] ∧ κ.ix al d2.toList.length (i : Int) ∧ κ.rd ((at0 al).add (i * 1)) [u_ (d2[i]!)] ∧ κ.ix al d2.toList.length (i : Int) ∧ True) ⟨((wrap_i64 (e := (a : Int) + (o3 : Int)) (by (constructor <;> omega))).trans (by rfl : ((a : Int) + (o3 : Int) : Int) = ((a + o3 : Nat) : Int))), (wrap_i64 (e := (a : Int) + (o3 : Int)) (by (constructor <;> omega))).trans (by rfl : ((a : Int) + (o3 : Int) : Int) = ((a + o3 : Nat) : Int)), ixOf encU_len (by decide) (rd_sl (i := 1) rfl) (by (simp; omega)), reads_at0 (vs := [u_ (d2[(a + o3 : Nat)]!)]) encU_len (rd_sl (i := 1) rfl) (getS (by omega)) (Nat.le_of_ble_eq_true rfl) rfl, ixOf encU_len (by decide) (rd_sl (i := 1) rfl) (by (simp; omega)), reads_at0 (vs := [u_ (d2[i]!)]) encU_len (rd_sl (i := 1) rfl) (getS (by omega)) (Nat.le_of_ble_eq_true rfl) rfl, ixOf encU_len (by decide) (rd_sl (i := 1) rfl) (by (simp; omega)), trivial⟩ ?_
      refine A.only2 17 rfl (by kernel_rfl) (A.storeSl (enc := encU) (xs := d2.toList) 1 i (d2[(a + o3 : Nat)]!) [blk b1 [u_ x'2] 190, sU al (d2.toList.set i (d2[(a + o3 : Nat)]!)) cl] (by kernel_rfl) rfl rfl rfl rfl (by kernel_rfl) (by kernel_rfl) encU_len (by decide) rfl (by (simp; omega)) rfl ?_)
      refine A.sv 0 (vS al (d2.toList.set i (d2[(a + o3 : Nat)]!)) cl) (cgN (by simp)) (A.sv 49 (vS al (d2.toList.set i (d2[(a + o3 : Nat)]!)) cl) (cgN (by simp)) ?_)
      refine A.stage ?_
      refine A.dP 1 [.ix] [18] [49, 52, 58, 63] [(64, (.pointer (some ((at0 al).add ((a + o3 : Nat) * 1)))))] [] (fun κ => κ.ix al ((d2.toList.set i (d2[(a + o3 : Nat)]!)).length) ((a + o3 : Nat) : Int) ∧ True) ⟨(ixOf encU_len (by decide) (rd_sl (i := 1) rfl) (by (simp; omega))), trivial⟩ ?_
      refine A.only2 19 rfl (by kernel_rfl) (A.storeSl (enc := encU) (xs := (d2.toList.set i (d2[(a + o3 : Nat)]!))) 1 (a + o3 : Nat) (d2[i]!) [blk b1 [u_ x'2] 190, sU al ((d2.toList.set i (d2[(a + o3 : Nat)]!)).set (a + o3 : Nat) (d2[i]!)) cl] (by kernel_rfl) rfl rfl rfl rfl (by kernel_rfl) (by kernel_rfl) encU_len (by decide) rfl (by (simp; omega)) rfl ?_)
      refine A.sv 0 (vS al ((d2.toList.set i (d2[(a + o3 : Nat)]!)).set (a + o3 : Nat) (d2[i]!)) cl) (cgN (by simp)) ?_
      refine A.stage ?_
      refine A.fin2 (by kernel_rfl) ?_
      obtain ⟨d106, hdd106⟩ : ∃ z, z = swp d2 i (a + o3 : Nat) := ⟨_, rfl⟩; have hszd106 : d106.size = d2.size := (by rw [hdd106]; exact swp_sz _ _ _)
      have hcv7 : ((d2.toList.set i (d2[(a + o3 : Nat)]!)).set (a + o3 : Nat) (d2[i]!)) = d106.toList := by rw [hdd106]; exact swp_list2 _ _ _
      refine A.setH [blk b1 [u_ x'2] 190, sU al d106.toList cl] (cc rfl (cc (slC hcv7) rfl)) ?_
      refine A.sv 0 (vS al d106.toList cl) (cgL hcv7) ?_
      refine A.bn (tr (A.gk [.p, .w ((i + 1 : Nat) : Int), .p] [62, 64] [(9, c_ (i + 1 : Nat))] [] (fun κ => (IntKind.i64.wrap ((i : Int) + 1) = ((i + 1 : Nat) : Int)) ∧ True) ⟨((wrap_i64 (e := (i : Int) + 1) (by (constructor <;> omega))).trans (by rfl : ((i : Int) + 1 : Int) = ((i + 1 : Nat) : Int))), trivial⟩ ?_))
      refine A.tn ?_
      have hp2 : PermIn a b d d106 := by rw [hdd106]; exact perm_swp hp (by omega) (by omega) (by omega)
      refine A.next ((i + 1 : Nat), d106, x'2) ⟨(by exact hp2), (by omega), (by omega)⟩ (by (simp; omega)) ?_
      exact A.hK [1, 0]
    have p2 := of_decide_eq_false e2
    refine A.exit (A.te (A.te (A.bh (A.postKn [0] [] (fun aa ww rr ss => trivial) (d2) ?_ ?_ (by kernel_rfl)))))
    · rfl
    show PermIn a b d d2 ∧ d2.size = d.size
    exact ⟨hp, hz⟩
  exact absurd e1 (by (simp; omega))
end Go.Proofs.Ytinnnoimmioaiaa
