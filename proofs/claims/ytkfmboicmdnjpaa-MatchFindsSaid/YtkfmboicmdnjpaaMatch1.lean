/- What the functions of this layer do, proved operation by operation, for all arguments, under the conditions that each theorem states. -/
import Derived.Test.YtkfmboicmdnjpaaProg
import Derived.Test.YtkfmboicmdnjpaaVm
namespace Go.Proofs.Ytkfmboicmdnjpaa
open Go V
set_option linter.unusedVariables false
set_option linter.unusedSimpArgs false
structure Hd where
  ha : Int
  hb : Int
  hc : Int
  hd : Int
  deriving Inhabited, DecidableEq
def encHd (x : Hd) : List Value := [(w_ x.ha), (w_ x.hb), (w_ x.hc), (w_ x.hd)]
theorem encHd_len (x : Hd) : (encHd x).length = 4 := rfl
theorem encHd_one (x : Hd) : (encHd x).all Value.oneCell' = true := rfl
structure Rl where
  ma : Int
  mb : Int
  mc : Int
  md : Int
  wa : Int
  wb : Int
  wc : Int
  wd : Int
  cl : Int
  deriving Inhabited, DecidableEq
def encRl (x : Rl) : List Value := [(w_ x.ma), (w_ x.mb), (w_ x.mc), (w_ x.md), (w_ x.wa), (w_ x.wb), (w_ x.wc), (w_ x.wd), (i_ x.cl)]
theorem encRl_len (x : Rl) : (encRl x).length = 9 := rfl
theorem encRl_one (x : Rl) : (encRl x).all Value.oneCell' = true := rfl
def land (v m : Int) : Int := ((v.toNat &&& m.toNat : Nat) : Int)
def landP (v m : Int) (k : Nat) : Int := (((v.toNat &&& m.toNat) % 2 ^ k : Nat) : Int)
def pw (k : Nat) : Int := ((2 ^ k : Nat) : Int)
theorem pw_ne (k : Nat) : pw k ≠ 0 := by have := Nat.two_pow_pos k; unfold pw; omega
theorem pw_small {k : Nat} (h : k ≤ 15) : pw k ≤ 32768 := by
  have : 2 ^ k ≤ 2 ^ 15 := Nat.pow_le_pow_right (by decide) h
  unfold pw; simp at this; omega
theorem pw_wrap {k : Nat} (h : k < 15) : IntKind.u16.wrap (pw k * 2) = pw (k + 1) := by
  have h2 : 2 ^ k ≤ 2 ^ 14 := Nat.pow_le_pow_right (by decide) (by omega)
  have h3 : pw (k + 1) = pw k * 2 := by unfold pw; rw [Nat.pow_succ]; generalize 2 ^ k = n; omega
  rw [h3]; refine wrap_u16 ?_; unfold pw; generalize 2 ^ k = n at h2 ⊢; simp at h2; omega
theorem pw_wrap15 : IntKind.u16.wrap (pw 15 * 2) = 0 := by decide
theorem landP_lt (v m : Int) (k : Nat) : 0 ≤ landP v m k ∧ landP v m k < pw k := by
  have := Nat.mod_lt (v.toNat &&& m.toNat) (Nat.two_pow_pos k); unfold landP pw; omega
theorem landP_nw {v m : Int} {k : Nat} (h : k ≤ 15) : 0 ≤ landP v m k + pw k ∧ landP v m k + pw k < 65536 := by
  have := landP_lt v m k; have := pw_small h; omega
theorem bit_iff {v : Int} {k : Nat} (hv : 0 ≤ v) : (v.tdiv (pw k)).tmod 2 = 1 ↔ v.toNat.testBit k = true := by
  obtain ⟨n, rfl⟩ := Int.eq_ofNat_of_zero_le hv
  have e : ((n : Int).tdiv (pw k)).tmod 2 = ((n / 2 ^ k % 2 : Nat) : Int) := by
    unfold pw; rw [← Int.ofNat_tdiv]; exact (Int.ofNat_tmod _ 2).symm
  rw [e, Nat.testBit_eq_decide_div_mod_eq, show ((n : Int)).toNat = n from rfl, decide_eq_true_eq]; generalize n / 2 ^ k % 2 = q; omega
theorem div_nw {v b : Int} {k : Nat} (hv : 0 ≤ v ∧ v < 65536) (hb : b = pw k) : 0 ≤ v.tdiv b ∧ v.tdiv b < 65536 := by
  subst hb; obtain ⟨n, rfl⟩ := Int.eq_ofNat_of_zero_le hv.1
  have e : (n : Int).tdiv (pw k) = ((n / 2 ^ k : Nat) : Int) := by unfold pw; exact (Int.ofNat_tdiv _ _).symm
  have := Nat.div_le_self n (2 ^ k); rw [e]; generalize n / 2 ^ k = q at this ⊢; omega
theorem landP_t {v m : Int} {k : Nat} (hv : 0 ≤ v) (hm : 0 ≤ m) (h1 : (v.tdiv (pw k)).tmod 2 = 1) (h2 : (m.tdiv (pw k)).tmod 2 = 1) : landP v m k + pw k = landP v m (k + 1) := by
  rw [bit_iff hv] at h1; rw [bit_iff hm] at h2
  have : (v.toNat &&& m.toNat).testBit k = true := by rw [Nat.testBit_and, h1, h2]; rfl
  rw [Nat.testBit_eq_decide_div_mod_eq] at this; simp at this
  unfold landP pw; rw [Nat.mod_pow_succ, this]; omega
theorem landP_f {v m : Int} {k : Nat} (hv : 0 ≤ v) (hm : 0 ≤ m) (h : ¬ ((v.tdiv (pw k)).tmod 2 = 1 ∧ (m.tdiv (pw k)).tmod 2 = 1)) : landP v m k = landP v m (k + 1) := by
  rw [bit_iff hv, bit_iff hm] at h
  have : (v.toNat &&& m.toNat).testBit k = false := by rw [Nat.testBit_and]; revert h; cases v.toNat.testBit k <;> cases m.toNat.testBit k <;> simp
  rw [Nat.testBit_eq_decide_div_mod_eq] at this; simp at this
  unfold landP; rw [Nat.mod_pow_succ, this]; omega
theorem landP_0 (v m : Int) : landP v m 0 = 0 := by unfold landP; rw [Nat.pow_zero, Nat.mod_one]; rfl
theorem landP_16 {v m : Int} (hv : v < 65536) : landP v m 16 = land v m := by
  unfold landP land; rw [Nat.mod_eq_of_lt]; have := Nat.and_le_left (n := v.toNat) (m := m.toNat); omega
theorem bits_land {v m : Int} (hv : 0 ≤ v ∧ v < 65536) (hm : 0 ≤ m ∧ m < 65536) : bitsV .and .u16 v m = land v m := by
  obtain ⟨a, rfl⟩ := Int.eq_ofNat_of_zero_le hv.1
  obtain ⟨b, rfl⟩ := Int.eq_ofNat_of_zero_le hm.1
  have h := Nat.and_le_left (n := a) (m := b)
  have e : (BitVec.ofInt IntKind.u16.bits (a : Int) &&& BitVec.ofInt IntKind.u16.bits (b : Int)).toNat = a &&& b := by
    rw [BitVec.toNat_and, BitVec.toNat_ofInt, BitVec.toNat_ofInt]
    have h1 : ((a : Int) % (2 ^ IntKind.u16.bits : Nat)).toNat = a := by simp [IntKind.bits]; omega
    have h2 : ((b : Int) % (2 ^ IntKind.u16.bits : Nat)).toNat = b := by simp [IntKind.bits]; omega
    rw [h1, h2]
  unfold bitsV; simp only [e]; unfold land; rw [wrap_u16 (by omega)]; rfl
theorem lt15 {k : Nat} {b : Int} (hk : k ≤ 15) (hb : b = pw k) (h : ¬ IntKind.u16.wrap (b * 2) = 0) : k < 15 := by
  rcases Nat.lt_or_ge k 15 with g | g
  · exact g
  · have e : k = 15 := by omega
    subst e; subst hb; exact absurd pw_wrap15 h
theorem eq15 {k : Nat} {b : Int} (hk : k ≤ 15) (hb : b = pw k) (h : IntKind.u16.wrap (b * 2) = 0) : k = 15 := by
  rcases Nat.lt_or_ge k 15 with g | g
  · rw [hb, pw_wrap g] at h; exact absurd h (pw_ne _)
  · omega

set_option maxHeartbeats 4000000 in
set_option maxRecDepth 100000 in
theorem whole_spec (w : World) :
    Calls Try.prog 59 #[] w fun e w' => e = .returned (.agg #[(w_ 65535), (w_ 65535), (w_ 65535), (w_ 65535)]) ∧ Fr [] w w' := by
  refine calls_of (args := []) (penv []) [] [] Try.func59 rfl rfl (look_penv _) (HS.nil w) ?_
  refine A.norm [] [] trivial rfl ?_
  refine A.seq ?_
  refine A.region (A.goA1 [.al] [0] (fun b1 => [(0, (p_ b1))]) (fun b1 => [blk b1 [(w_ 0), (w_ 0), (w_ 0), (w_ 0)] 56]) (fun b1 => []) (fun _ => T0) (fun _ => by kernel_rfl) (fun b1 => trivial) ?_)
  intro b1
  refine A.tn ?_
  refine A.seq ?_
  refine A.region (A.goAS [.p, .st 0] [(0, (p_ b1))] [blk b1 [(w_ 65535), (w_ 65535), (w_ 65535), (w_ 65535)] 56] [b1] T0 (by kernel_rfl) trivial ?_)
  refine A.tn ?_
  refine A.ret ?_
  refine A.postQ [(.agg #[(w_ 65535), (w_ 65535), (w_ 65535), (w_ 65535)])] (fun aa ww rr ss => ⟨rv_cellN (vs := [(w_ 65535), (w_ 65535), (w_ 65535), (w_ 65535)]) rr ss rfl (by kernel_rfl) (reads_blk (i := 0) rfl rfl), trivial⟩) ?_
  rfl

set_option maxHeartbeats 4000000 in
set_option maxRecDepth 100000 in
theorem under_spec (x0 x1 x2 x3 y0 y1 y2 y3 : Int) (w : World) :
    Calls Try.prog 58 #[(.agg #[(w_ x0), (w_ x1), (w_ x2), (w_ x3)]), (.agg #[(w_ y0), (w_ y1), (w_ y2), (w_ y3)])] w fun e w' => e = .returned (.agg #[(w_ (bitsV .and .u16 x0 y0)), (w_ (bitsV .and .u16 x1 y1)), (w_ (bitsV .and .u16 x2 y2)), (w_ (bitsV .and .u16 x3 y3))]) ∧ Fr [] w w' := by
  refine calls_of (args := [(.agg #[(w_ x0), (w_ x1), (w_ x2), (w_ x3)]), (.agg #[(w_ y0), (w_ y1), (w_ y2), (w_ y3)])]) (penv [(.agg #[(w_ x0), (w_ x1), (w_ x2), (w_ x3)]), (.agg #[(w_ y0), (w_ y1), (w_ y2), (w_ y3)])]) [] [] Try.func58 rfl rfl (look_penv _) (HS.nil w) ?_
  refine A.norm [(0, (.agg #[(w_ x0), (w_ x1), (w_ x2), (w_ x3)])), (1, (.agg #[(w_ y0), (w_ y1), (w_ y2), (w_ y3)]))] [] (by exact ⟨rfl, rfl, trivial⟩) rfl ?_
  refine A.seq ?_
  refine A.region (A.goA3 [.al, .al, .al] [0, 1, 2, 3, 4] (fun b1 b2 b3 => [(0, (.agg #[(w_ x0), (w_ x1), (w_ x2), (w_ x3)])), (1, (.agg #[(w_ y0), (w_ y1), (w_ y2), (w_ y3)])), (2, (p_ b1)), (3, (p_ b2)), (4, (p_ b3))]) (fun b1 b2 b3 => [blk b1 [(w_ x0), (w_ x1), (w_ x2), (w_ x3)] 56, blk b2 [(w_ y0), (w_ y1), (w_ y2), (w_ y3)] 56, blk b3 [(w_ 0), (w_ 0), (w_ 0), (w_ 0)] 56]) (fun b1 b2 b3 => []) (fun _ _ _ => T0) (fun _ _ _ => by kernel_rfl) (fun b1 b2 b3 => trivial) ?_)
  intro b1 b2 b3
  refine A.tn ?_
  refine A.seq ?_
  refine A.seq ?_
  refine A.region (A.goA [.p] [(0, (.agg #[(w_ x0), (w_ x1), (w_ x2), (w_ x3)])), (1, (.agg #[(w_ y0), (w_ y1), (w_ y2), (w_ y3)])), (2, (p_ b1)), (3, (p_ b2)), (4, (p_ b3)), (6, (i_ 0))] [] T0 (by kernel_rfl) trivial ?_)
  refine A.tn ?_
  refine A.block ?_
  refine A.unroll 400 ?_
  refine A.sub [(2, (p_ b1)), (3, (p_ b2)), (4, (p_ b3)), (6, (i_ 0))] (by exact ⟨rfl, rfl, rfl, rfl, trivial⟩) (A.turnk (m := 399) ?_)
  refine A.seq ?_
  refine A.region (A.goA [.p] [(2, (p_ b1)), (3, (p_ b2)), (4, (p_ b3)), (6, (i_ 0)), (7, (b_ true))] [] T0 (by kernel_rfl) trivial ?_)
  refine A.tn ?_
  refine A.seq ?_
  refine A.cond_t rfl ?_
  refine A.skip ?_
  refine A.tn ?_
  refine A.seq ?_
  refine A.block ?_
  refine A.seq ?_
  refine A.region (A.goA [.p, .p] [(2, (p_ b1)), (3, (p_ b2)), (4, (p_ b3)), (6, (i_ 0)), (7, (b_ true)), (5, (i_ 0))] [] T0 (by kernel_rfl) trivial ?_)
  refine A.tn ?_
  refine A.draw2 [8] 9 (by kernel_rfl) ?_
  refine A.drawP 1 [.p, .p, .ld 0, .p, .p, .ld 1, .p, .p] [0, 1, 2, 3, 4, 5, 6, 7] [(2, (p_ b1)), (3, (p_ b2)), (4, (p_ b3)), (6, (i_ 0)), (7, (b_ true)), (5, (i_ 0)), (15, (w_ (bitsV .and .u16 x0 y0))), (16, (p_ b1))] [b1, b2] T0 (by kernel_rfl) trivial ?_
  refine A.only2 8 rfl (by kernel_rfl) (A.store 0 (vs := [(w_ (bitsV .and .u16 x0 y0))]) [blk b1 [(w_ (bitsV .and .u16 x0 y0)), (w_ x1), (w_ x2), (w_ x3)] 56, blk b2 [(w_ y0), (w_ y1), (w_ y2), (w_ y3)] 56, blk b3 [(w_ 0), (w_ 0), (w_ 0), (w_ 0)] 56] (by kernel_rfl) rfl rfl rfl rfl (by kernel_rfl) rfl rfl (by kernel_rfl) rfl ?_)
  refine A.stage ?_
  refine A.fin2 (by kernel_rfl) ?_
  refine A.sub [(2, (p_ b1)), (3, (p_ b2)), (4, (p_ b3)), (6, (i_ 0)), (7, (b_ true)), (5, (i_ 0))] (by exact ⟨rfl, rfl, rfl, rfl, rfl, rfl, trivial⟩) ?_
  refine A.bn ?_
  refine A.tn ?_
  refine A.region (A.goA [.p, .p] [(2, (p_ b1)), (3, (p_ b2)), (4, (p_ b3)), (6, (i_ 1)), (7, (b_ true)), (5, (i_ 0))] [] T0 (by kernel_rfl) trivial ?_)
  refine A.tn ?_
  refine A.turnk (m := 398) ?_
  refine A.seq ?_
  refine A.region (A.goA [.p] [(2, (p_ b1)), (3, (p_ b2)), (4, (p_ b3)), (6, (i_ 1)), (7, (b_ true)), (5, (i_ 0))] [] T0 (by kernel_rfl) trivial ?_)
  refine A.tn ?_
  refine A.seq ?_
  refine A.cond_t rfl ?_
  refine A.skip ?_
  refine A.tn ?_
  refine A.seq ?_
  refine A.block ?_
  refine A.seq ?_
  refine A.region (A.goA [.p, .p] [(2, (p_ b1)), (3, (p_ b2)), (4, (p_ b3)), (6, (i_ 1)), (7, (b_ true)), (5, (i_ 1))] [] T0 (by kernel_rfl) trivial ?_)
  refine A.tn ?_
  refine A.draw2 [8] 9 (by kernel_rfl) ?_
  refine A.drawP 1 [.p, .p, .ld 0, .p, .p, .ld 1, .p, .p] [0, 1, 2, 3, 4, 5, 6, 7] [(2, (p_ b1)), (3, (p_ b2)), (4, (p_ b3)), (6, (i_ 1)), (7, (b_ true)), (5, (i_ 1)), (15, (w_ (bitsV .and .u16 x1 y1))), (16, (q_ b1 1))] [b1, b2] T0 (by kernel_rfl) trivial ?_
  refine A.only2 8 rfl (by kernel_rfl) (A.store 0 (vs := [(w_ (bitsV .and .u16 x1 y1))]) [blk b1 [(w_ (bitsV .and .u16 x0 y0)), (w_ (bitsV .and .u16 x1 y1)), (w_ x2), (w_ x3)] 56, blk b2 [(w_ y0), (w_ y1), (w_ y2), (w_ y3)] 56, blk b3 [(w_ 0), (w_ 0), (w_ 0), (w_ 0)] 56] (by kernel_rfl) rfl rfl rfl rfl (by kernel_rfl) rfl rfl (by kernel_rfl) rfl ?_)
  refine A.stage ?_
  refine A.fin2 (by kernel_rfl) ?_
  refine A.sub [(2, (p_ b1)), (3, (p_ b2)), (4, (p_ b3)), (6, (i_ 1)), (7, (b_ true)), (5, (i_ 1))] (by exact ⟨rfl, rfl, rfl, rfl, rfl, rfl, trivial⟩) ?_
  refine A.bn ?_
  refine A.tn ?_
  refine A.region (A.goA [.p, .p] [(2, (p_ b1)), (3, (p_ b2)), (4, (p_ b3)), (6, (i_ 2)), (7, (b_ true)), (5, (i_ 1))] [] T0 (by kernel_rfl) trivial ?_)
  refine A.tn ?_
  refine A.turnk (m := 397) ?_
  refine A.seq ?_
  refine A.region (A.goA [.p] [(2, (p_ b1)), (3, (p_ b2)), (4, (p_ b3)), (6, (i_ 2)), (7, (b_ true)), (5, (i_ 1))] [] T0 (by kernel_rfl) trivial ?_)
  refine A.tn ?_
  refine A.seq ?_
  refine A.cond_t rfl ?_
  refine A.skip ?_
  refine A.tn ?_
  refine A.seq ?_
  refine A.block ?_
  refine A.seq ?_
  refine A.region (A.goA [.p, .p] [(2, (p_ b1)), (3, (p_ b2)), (4, (p_ b3)), (6, (i_ 2)), (7, (b_ true)), (5, (i_ 2))] [] T0 (by kernel_rfl) trivial ?_)
  refine A.tn ?_
  refine A.draw2 [8] 9 (by kernel_rfl) ?_
  refine A.drawP 1 [.p, .p, .ld 0, .p, .p, .ld 1, .p, .p] [0, 1, 2, 3, 4, 5, 6, 7] [(2, (p_ b1)), (3, (p_ b2)), (4, (p_ b3)), (6, (i_ 2)), (7, (b_ true)), (5, (i_ 2)), (15, (w_ (bitsV .and .u16 x2 y2))), (16, (q_ b1 2))] [b1, b2] T0 (by kernel_rfl) trivial ?_
  refine A.only2 8 rfl (by kernel_rfl) (A.store 0 (vs := [(w_ (bitsV .and .u16 x2 y2))]) [blk b1 [(w_ (bitsV .and .u16 x0 y0)), (w_ (bitsV .and .u16 x1 y1)), (w_ (bitsV .and .u16 x2 y2)), (w_ x3)] 56, blk b2 [(w_ y0), (w_ y1), (w_ y2), (w_ y3)] 56, blk b3 [(w_ 0), (w_ 0), (w_ 0), (w_ 0)] 56] (by kernel_rfl) rfl rfl rfl rfl (by kernel_rfl) rfl rfl (by kernel_rfl) rfl ?_)
  refine A.stage ?_
  refine A.fin2 (by kernel_rfl) ?_
  refine A.sub [(2, (p_ b1)), (3, (p_ b2)), (4, (p_ b3)), (6, (i_ 2)), (7, (b_ true)), (5, (i_ 2))] (by exact ⟨rfl, rfl, rfl, rfl, rfl, rfl, trivial⟩) ?_
  refine A.bn ?_
  refine A.tn ?_
  refine A.region (A.goA [.p, .p] [(2, (p_ b1)), (3, (p_ b2)), (4, (p_ b3)), (6, (i_ 3)), (7, (b_ true)), (5, (i_ 2))] [] T0 (by kernel_rfl) trivial ?_)
  refine A.tn ?_
  refine A.turnk (m := 396) ?_
  refine A.seq ?_
  refine A.region (A.goA [.p] [(2, (p_ b1)), (3, (p_ b2)), (4, (p_ b3)), (6, (i_ 3)), (7, (b_ true)), (5, (i_ 2))] [] T0 (by kernel_rfl) trivial ?_)
  refine A.tn ?_
  refine A.seq ?_
  refine A.cond_t rfl ?_
  refine A.skip ?_
  refine A.tn ?_
  refine A.seq ?_
  refine A.block ?_
  refine A.seq ?_
  refine A.region (A.goA [.p, .p] [(2, (p_ b1)), (3, (p_ b2)), (4, (p_ b3)), (6, (i_ 3)), (7, (b_ true)), (5, (i_ 3))] [] T0 (by kernel_rfl) trivial ?_)
  refine A.tn ?_
  refine A.draw2 [8] 9 (by kernel_rfl) ?_
  refine A.drawP 1 [.p, .p, .ld 0, .p, .p, .ld 1, .p, .p] [0, 1, 2, 3, 4, 5, 6, 7] [(2, (p_ b1)), (3, (p_ b2)), (4, (p_ b3)), (6, (i_ 3)), (7, (b_ true)), (5, (i_ 3)), (15, (w_ (bitsV .and .u16 x3 y3))), (16, (q_ b1 3))] [b1, b2] T0 (by kernel_rfl) trivial ?_
  refine A.only2 8 rfl (by kernel_rfl) (A.store 0 (vs := [(w_ (bitsV .and .u16 x3 y3))]) [blk b1 [(w_ (bitsV .and .u16 x0 y0)), (w_ (bitsV .and .u16 x1 y1)), (w_ (bitsV .and .u16 x2 y2)), (w_ (bitsV .and .u16 x3 y3))] 56, blk b2 [(w_ y0), (w_ y1), (w_ y2), (w_ y3)] 56, blk b3 [(w_ 0), (w_ 0), (w_ 0), (w_ 0)] 56] (by kernel_rfl) rfl rfl rfl rfl (by kernel_rfl) rfl rfl (by kernel_rfl) rfl ?_)
  refine A.stage ?_
  refine A.fin2 (by kernel_rfl) ?_
  refine A.sub [(2, (p_ b1)), (3, (p_ b2)), (4, (p_ b3)), (6, (i_ 3)), (7, (b_ true)), (5, (i_ 3))] (by exact ⟨rfl, rfl, rfl, rfl, rfl, rfl, trivial⟩) ?_
  refine A.bn ?_
  refine A.tn ?_
  refine A.region (A.goA [.p, .p] [(2, (p_ b1)), (3, (p_ b2)), (4, (p_ b3)), (6, (i_ 4)), (7, (b_ true)), (5, (i_ 3))] [] T0 (by kernel_rfl) trivial ?_)
  refine A.tn ?_
  refine A.turnk (m := 395) ?_
  refine A.seq ?_
  refine A.region (A.goA [.p] [(2, (p_ b1)), (3, (p_ b2)), (4, (p_ b3)), (6, (i_ 4)), (7, (b_ false)), (5, (i_ 3))] [] T0 (by kernel_rfl) trivial ?_)
  refine A.tn ?_
  refine A.seq ?_
  refine A.cond_f rfl ?_
  refine A.exit ?_
  refine A.te ?_
  refine A.te ?_
  refine A.bh ?_
  refine A.tn ?_
  refine A.seq ?_
  refine A.region (A.goAS [.ld 0, .st 2] [(2, (p_ b1)), (3, (p_ b2)), (4, (p_ b3)), (6, (i_ 4)), (7, (b_ false)), (5, (i_ 3))] [blk b1 [(w_ (bitsV .and .u16 x0 y0)), (w_ (bitsV .and .u16 x1 y1)), (w_ (bitsV .and .u16 x2 y2)), (w_ (bitsV .and .u16 x3 y3))] 56, blk b2 [(w_ y0), (w_ y1), (w_ y2), (w_ y3)] 56, blk b3 [(w_ (bitsV .and .u16 x0 y0)), (w_ (bitsV .and .u16 x1 y1)), (w_ (bitsV .and .u16 x2 y2)), (w_ (bitsV .and .u16 x3 y3))] 56] [b1, b3] T0 (by kernel_rfl) trivial ?_)
  refine A.tn ?_
  refine A.ret ?_
  refine A.postQ [(.agg #[(w_ (bitsV .and .u16 x0 y0)), (w_ (bitsV .and .u16 x1 y1)), (w_ (bitsV .and .u16 x2 y2)), (w_ (bitsV .and .u16 x3 y3))])] (fun aa ww rr ss => ⟨rv_cellN (vs := [(w_ (bitsV .and .u16 x0 y0)), (w_ (bitsV .and .u16 x1 y1)), (w_ (bitsV .and .u16 x2 y2)), (w_ (bitsV .and .u16 x3 y3))]) rr ss rfl (by kernel_rfl) (reads_blk (i := 2) rfl rfl), trivial⟩) ?_
  rfl

set_option maxHeartbeats 4000000 in
set_option maxRecDepth 100000 in
theorem runder_spec (v m : Int) (hv : 0 ≤ v ∧ v < 65536) (hm : 0 ≤ m ∧ m < 65536) (w : World) :
    Calls Try.prog 60 #[(w_ v), (w_ m)] w fun e w' => e = .returned (w_ (land v m)) ∧ Fr [] w w' := by
  refine calls_of (args := [(w_ v), (w_ m)]) (penv [(w_ v), (w_ m)]) [] [] Try.func60 rfl rfl (look_penv _) (HS.nil w) ?_
  refine A.norm [(0, (w_ v)), (1, (w_ m))] [] (by exact ⟨rfl, rfl, trivial⟩) rfl ?_
  refine A.seq ?_
  refine A.region (A.goA [.p] [(0, (w_ v)), (1, (w_ m)), (4, (w_ 0))] [] T0 (by kernel_rfl) trivial ?_)
  refine A.tn ?_
  refine A.seq ?_
  refine A.region (A.goA [.p] [(0, (w_ v)), (1, (w_ m)), (4, (w_ 0)), (5, (w_ 0))] [] T0 (by kernel_rfl) trivial ?_)
  refine A.tn ?_
  refine A.seq ?_
  refine A.region (A.goA [.p] [(0, (w_ v)), (1, (w_ m)), (4, (w_ 0)), (5, (w_ 0)), (6, (w_ 1))] [] T0 (by kernel_rfl) trivial ?_)
  refine A.tn ?_
  refine A.seq ?_
  refine A.seq ?_
  refine A.region (A.goA [.p] [(0, (w_ v)), (1, (w_ m)), (4, (w_ 0)), (5, (w_ 0)), (6, (w_ 1)), (7, (i_ 0))] [] T0 (by kernel_rfl) trivial ?_)
  refine A.tn ?_
  refine A.block ?_
  refine A.loop (fun (zz : Nat × Int × Int) => match zz with | (k, o, b) => [(0, (w_ v)), (1, (w_ m)), (4, (w_ 0)), (7, (i_ (k : Int))), (5, (w_ o)), (6, (w_ b))]) (fun (zz : Nat × Int × Int) => match zz with | (k, o, b) => []) (fun (zz : Nat × Int × Int) => match zz with | (k, o, b) => (k ≤ 15) ∧ (b = pw k) ∧ (o = landP v m k)) (fun (zz : Nat × Int × Int) => match zz with | (k, o, b) => 16 - k) (0, 0, 1) ⟨(by omega), (by rfl), (by exact (landP_0 v m).symm)⟩ ?_ ?_
  · exact A.hereK [] (by exact ⟨rfl, rfl, rfl, rfl, rfl, rfl, trivial⟩) (by kernel_rfl)
  · rintro ⟨k, o, b⟩ ⟨hk, hb, ho⟩
    refine A.norm [(0, (w_ v)), (1, (w_ m)), (4, (w_ 0)), (7, (i_ (k : Int))), (5, (w_ o)), (6, (w_ b))] [] (by exact ⟨rfl, rfl, rfl, rfl, rfl, rfl, trivial⟩) rfl ?_
    refine A.seq ?_
    refine A.region (A.goA [.p] [(0, (w_ v)), (1, (w_ m)), (4, (w_ 0)), (7, (i_ (k : Int))), (5, (w_ o)), (6, (w_ b)), (8, (b_ (decide ((k : Int) < 16))))] [] T0 (by kernel_rfl) trivial ?_)
    refine A.tn ?_
    refine A.seq ?_
    refine A.cond (E := decide ((k : Int) < 16)) rfl (fun e1 => ?_) (fun e1 => ?_)
    · skip
      have p1 := of_decide_eq_true e1
      refine A.skip ?_
      refine A.tn ?_
      refine A.seq ?_
      refine A.block ?_
      refine A.seq ?_
      refine A.seq ?_
      refine A.region (A.goP [.p, .p] [(0, (w_ v)), (1, (w_ m)), (4, (w_ 0)), (7, (i_ (k : Int))), (5, (w_ o)), (6, (w_ b)), (8, (b_ (decide ((k : Int) < 16)))), (9, (w_ v)), (10, (w_ b))] [] T0 (by kernel_rfl) trivial ?_)
      refine A.cons (A.q (some 11) (w_ (IntKind.u16.wrap (v.tdiv b))) (by kernel_rfl) (qt_quo rfl rfl rfl (by subst hb; exact pw_ne _)) ?_)
      refine A.goP [.p, .p, .p] [(0, (w_ v)), (1, (w_ m)), (4, (w_ 0)), (7, (i_ (k : Int))), (5, (w_ o)), (6, (w_ b)), (8, (b_ (decide ((k : Int) < 16)))), (14, (b_ (((IntKind.u16.wrap (v.tdiv b)).tmod 2) == 1)))] [] T0 (by kernel_rfl) trivial ?_
      refine A.bool (((IntKind.u16.wrap (v.tdiv b)).tmod 2) == 1) (fun e2 => ?_) (fun e2 => ?_)
      · skip
        refine A.sub [(0, (w_ v)), (1, (w_ m)), (4, (w_ 0)), (7, (i_ (k : Int))), (5, (w_ o)), (6, (w_ b)), (8, (b_ (decide ((k : Int) < 16)))), (14, (b_ true))] (by exact ⟨rfl, rfl, rfl, rfl, rfl, rfl, rfl, (congrArg (fun z => some (Value.bool z)) e2), trivial⟩) ?_
        refine A.goP [.p, .p] [(0, (w_ v)), (1, (w_ m)), (4, (w_ 0)), (7, (i_ (k : Int))), (5, (w_ o)), (6, (w_ b)), (8, (b_ (decide ((k : Int) < 16)))), (14, (b_ true)), (15, (w_ m)), (16, (w_ b))] [] T0 (by kernel_rfl) trivial ?_
        refine A.cons (A.q (some 17) (w_ (IntKind.u16.wrap (m.tdiv b))) (by kernel_rfl) (qt_quo rfl rfl rfl (by subst hb; exact pw_ne _)) ?_)
        refine A.goA [.p, .p, .p] [(0, (w_ v)), (1, (w_ m)), (4, (w_ 0)), (7, (i_ (k : Int))), (5, (w_ o)), (6, (w_ b)), (8, (b_ (decide ((k : Int) < 16)))), (20, (b_ (((IntKind.u16.wrap (m.tdiv b)).tmod 2) == 1)))] [] T0 (by kernel_rfl) trivial ?_
        refine A.tn ?_
        refine A.cond (E := ((IntKind.u16.wrap (m.tdiv b)).tmod 2) == 1) rfl (fun e3 => ?_) (fun e3 => ?_)
        · skip
          have p3 := e3; try simp only [decide_eq_true_eq, decide_eq_false_iff_not, beq_iff_eq, beq_eq_false_iff_ne, bne_iff_ne, bne_eq_false_iff_eq, ne_eq, Bool.and_eq_true, Bool.or_eq_true, Bool.or_eq_false_iff, Bool.not_eq_true', Bool.not_eq_false', Int.not_lt, Int.not_le, gt_iff_lt, ge_iff_le, Classical.not_not] at p3
          refine A.region (A.goA [.p, .p, .w (o + b), .p] [(0, (w_ v)), (1, (w_ m)), (4, (w_ 0)), (7, (i_ (k : Int))), (5, (w_ (o + b))), (6, (w_ b)), (8, (b_ (decide ((k : Int) < 16)))), (20, (b_ (((IntKind.u16.wrap (m.tdiv b)).tmod 2) == 1)))] [] (fun κ => (IntKind.u16.wrap (o + b) = (o + b)) ∧ True) (by kernel_rfl) ⟨(wrap_u16 (e := o + b) (by subst hb ho; exact landP_nw hk)), trivial⟩ ?_)
          refine A.tn ?_
          refine A.seq ?_
          refine A.region (A.goA [.p, .p, .p] [(0, (w_ v)), (1, (w_ m)), (4, (w_ 0)), (7, (i_ (k : Int))), (5, (w_ (o + b))), (6, (w_ (IntKind.u16.wrap (b * 2)))), (8, (b_ (decide ((k : Int) < 16)))), (20, (b_ (((IntKind.u16.wrap (m.tdiv b)).tmod 2) == 1)))] [] T0 (by kernel_rfl) trivial ?_)
          refine A.tn ?_
          refine A.seq ?_
          refine A.region (A.goA [.p, .p] [(0, (w_ v)), (1, (w_ m)), (4, (w_ 0)), (7, (i_ (k : Int))), (5, (w_ (o + b))), (6, (w_ (IntKind.u16.wrap (b * 2)))), (8, (b_ (decide ((k : Int) < 16)))), (20, (b_ (((IntKind.u16.wrap (m.tdiv b)).tmod 2) == 1))), (27, (b_ ((IntKind.u16.wrap (b * 2)) == 0)))] [] T0 (by kernel_rfl) trivial ?_)
          refine A.tn ?_
          refine A.cond (E := (IntKind.u16.wrap (b * 2)) == 0) rfl (fun e4 => ?_) (fun e4 => ?_)
          · skip
            have p4 := e4; try simp only [decide_eq_true_eq, decide_eq_false_iff_not, beq_iff_eq, beq_eq_false_iff_ne, bne_iff_ne, bne_eq_false_iff_eq, ne_eq, Bool.and_eq_true, Bool.or_eq_true, Bool.or_eq_false_iff, Bool.not_eq_true', Bool.not_eq_false', Int.not_lt, Int.not_le, gt_iff_lt, ge_iff_le, Classical.not_not] at p4
            refine A.exit ?_
            refine A.bm rfl ?_
            refine A.te ?_
            refine A.te ?_
            refine A.bh ?_
            refine A.tn ?_
            refine A.seq ?_
            refine A.region (A.goA [.p, .p] [(0, (w_ v)), (1, (w_ m)), (4, (w_ (o + b))), (7, (i_ (k : Int))), (5, (w_ (o + b))), (6, (w_ (IntKind.u16.wrap (b * 2)))), (8, (b_ (decide ((k : Int) < 16)))), (20, (b_ (((IntKind.u16.wrap (m.tdiv b)).tmod 2) == 1))), (27, (b_ ((IntKind.u16.wrap (b * 2)) == 0)))] [] T0 (by kernel_rfl) trivial ?_)
            refine A.tn ?_
            refine A.ret ?_
            refine A.postQ [(w_ (o + b))] (fun aa ww rr ss => ⟨rv_tmp rr rfl, trivial⟩) ?_
            show ((w_ (o + b)) : Value) = (w_ (land v m))
            first | (exfalso; omega) | ((have hk1 : k = 15 := eq15 hk hb (by simp_all)); subst hk1; subst hb ho; refine congrArg (Value.int .u16) ?_; rw [← landP_16 hv.2]; have wv := wrap_u16 (div_nw hv (k := 15) rfl); have wm := wrap_u16 (div_nw hm (k := 15) rfl); first | exact landP_t hv.1 hm.1 (by simp_all) (by simp_all) | exact landP_f hv.1 hm.1 (by simp_all))
          · skip
            have p4 := e4; try simp only [decide_eq_true_eq, decide_eq_false_iff_not, beq_iff_eq, beq_eq_false_iff_ne, bne_iff_ne, bne_eq_false_iff_eq, ne_eq, Bool.and_eq_true, Bool.or_eq_true, Bool.or_eq_false_iff, Bool.not_eq_true', Bool.not_eq_false', Int.not_lt, Int.not_le, gt_iff_lt, ge_iff_le, Classical.not_not] at p4
            refine A.skip ?_
            refine A.bn ?_
            refine A.tn ?_
            refine A.region (A.goA [.w ((k : Int) + 1), .p] [(0, (w_ v)), (1, (w_ m)), (4, (w_ 0)), (7, (i_ ((k : Int) + 1))), (5, (w_ (o + b))), (6, (w_ (IntKind.u16.wrap (b * 2)))), (8, (b_ (decide ((k : Int) < 16)))), (20, (b_ (((IntKind.u16.wrap (m.tdiv b)).tmod 2) == 1))), (27, (b_ ((IntKind.u16.wrap (b * 2)) == 0)))] [] (fun κ => (IntKind.i64.wrap ((k : Int) + 1) = ((k : Int) + 1)) ∧ True) (by kernel_rfl) ⟨(wrap_i64 (e := (k : Int) + 1) (by constructor <;> omega)), trivial⟩ ?_)
            refine A.tn ?_
            refine A.next (k + 1, o + b, IntKind.u16.wrap (b * 2)) ⟨(by (have hk1 : k < 15 := lt15 hk hb (by simp_all)); omega), (by (have hk1 : k < 15 := lt15 hk hb (by simp_all)); subst hb; exact pw_wrap hk1), (by subst hb ho; have wv := wrap_u16 (div_nw hv (k := k) rfl); have wm := wrap_u16 (div_nw hm (k := k) rfl); first | exact landP_t hv.1 hm.1 (by simp_all) (by simp_all) | exact landP_f hv.1 hm.1 (by simp_all))⟩ (by first | omega | (simp; omega) | (simp_all; omega)) ?_
            exact A.hereK [] (by exact ⟨rfl, rfl, rfl, rfl, rfl, rfl, trivial⟩) (by kernel_rfl)
        · skip
          have p3 := e3; try simp only [decide_eq_true_eq, decide_eq_false_iff_not, beq_iff_eq, beq_eq_false_iff_ne, bne_iff_ne, bne_eq_false_iff_eq, ne_eq, Bool.and_eq_true, Bool.or_eq_true, Bool.or_eq_false_iff, Bool.not_eq_true', Bool.not_eq_false', Int.not_lt, Int.not_le, gt_iff_lt, ge_iff_le, Classical.not_not] at p3
          refine A.skip ?_
          refine A.tn ?_
          refine A.seq ?_
          refine A.region (A.goA [.p, .p, .p] [(0, (w_ v)), (1, (w_ m)), (4, (w_ 0)), (7, (i_ (k : Int))), (5, (w_ o)), (6, (w_ (IntKind.u16.wrap (b * 2)))), (8, (b_ (decide ((k : Int) < 16)))), (20, (b_ (((IntKind.u16.wrap (m.tdiv b)).tmod 2) == 1)))] [] T0 (by kernel_rfl) trivial ?_)
          refine A.tn ?_
          refine A.seq ?_
          refine A.region (A.goA [.p, .p] [(0, (w_ v)), (1, (w_ m)), (4, (w_ 0)), (7, (i_ (k : Int))), (5, (w_ o)), (6, (w_ (IntKind.u16.wrap (b * 2)))), (8, (b_ (decide ((k : Int) < 16)))), (20, (b_ (((IntKind.u16.wrap (m.tdiv b)).tmod 2) == 1))), (27, (b_ ((IntKind.u16.wrap (b * 2)) == 0)))] [] T0 (by kernel_rfl) trivial ?_)
          refine A.tn ?_
          refine A.cond (E := (IntKind.u16.wrap (b * 2)) == 0) rfl (fun e5 => ?_) (fun e5 => ?_)
          · skip
            have p5 := e5; try simp only [decide_eq_true_eq, decide_eq_false_iff_not, beq_iff_eq, beq_eq_false_iff_ne, bne_iff_ne, bne_eq_false_iff_eq, ne_eq, Bool.and_eq_true, Bool.or_eq_true, Bool.or_eq_false_iff, Bool.not_eq_true', Bool.not_eq_false', Int.not_lt, Int.not_le, gt_iff_lt, ge_iff_le, Classical.not_not] at p5
            refine A.exit ?_
            refine A.bm rfl ?_
            refine A.te ?_
            refine A.te ?_
            refine A.bh ?_
            refine A.tn ?_
            refine A.seq ?_
            refine A.region (A.goA [.p, .p] [(0, (w_ v)), (1, (w_ m)), (4, (w_ o)), (7, (i_ (k : Int))), (5, (w_ o)), (6, (w_ (IntKind.u16.wrap (b * 2)))), (8, (b_ (decide ((k : Int) < 16)))), (20, (b_ (((IntKind.u16.wrap (m.tdiv b)).tmod 2) == 1))), (27, (b_ ((IntKind.u16.wrap (b * 2)) == 0)))] [] T0 (by kernel_rfl) trivial ?_)
            refine A.tn ?_
            refine A.ret ?_
            refine A.postQ [(w_ o)] (fun aa ww rr ss => ⟨rv_tmp rr rfl, trivial⟩) ?_
            show ((w_ o) : Value) = (w_ (land v m))
            first | (exfalso; omega) | ((have hk1 : k = 15 := eq15 hk hb (by simp_all)); subst hk1; subst hb ho; refine congrArg (Value.int .u16) ?_; rw [← landP_16 hv.2]; have wv := wrap_u16 (div_nw hv (k := 15) rfl); have wm := wrap_u16 (div_nw hm (k := 15) rfl); first | exact landP_t hv.1 hm.1 (by simp_all) (by simp_all) | exact landP_f hv.1 hm.1 (by simp_all))
          · skip
            have p5 := e5; try simp only [decide_eq_true_eq, decide_eq_false_iff_not, beq_iff_eq, beq_eq_false_iff_ne, bne_iff_ne, bne_eq_false_iff_eq, ne_eq, Bool.and_eq_true, Bool.or_eq_true, Bool.or_eq_false_iff, Bool.not_eq_true', Bool.not_eq_false', Int.not_lt, Int.not_le, gt_iff_lt, ge_iff_le, Classical.not_not] at p5
            refine A.skip ?_
            refine A.bn ?_
            refine A.tn ?_
            refine A.region (A.goA [.w ((k : Int) + 1), .p] [(0, (w_ v)), (1, (w_ m)), (4, (w_ 0)), (7, (i_ ((k : Int) + 1))), (5, (w_ o)), (6, (w_ (IntKind.u16.wrap (b * 2)))), (8, (b_ (decide ((k : Int) < 16)))), (20, (b_ (((IntKind.u16.wrap (m.tdiv b)).tmod 2) == 1))), (27, (b_ ((IntKind.u16.wrap (b * 2)) == 0)))] [] (fun κ => (IntKind.i64.wrap ((k : Int) + 1) = ((k : Int) + 1)) ∧ True) (by kernel_rfl) ⟨(wrap_i64 (e := (k : Int) + 1) (by constructor <;> omega)), trivial⟩ ?_)
            refine A.tn ?_
            refine A.next (k + 1, o, IntKind.u16.wrap (b * 2)) ⟨(by (have hk1 : k < 15 := lt15 hk hb (by simp_all)); omega), (by (have hk1 : k < 15 := lt15 hk hb (by simp_all)); subst hb; exact pw_wrap hk1), (by subst hb ho; have wv := wrap_u16 (div_nw hv (k := k) rfl); have wm := wrap_u16 (div_nw hm (k := k) rfl); first | exact landP_t hv.1 hm.1 (by simp_all) (by simp_all) | exact landP_f hv.1 hm.1 (by simp_all))⟩ (by first | omega | (simp; omega) | (simp_all; omega)) ?_
            exact A.hereK [] (by exact ⟨rfl, rfl, rfl, rfl, rfl, rfl, trivial⟩) (by kernel_rfl)
      · skip
        refine A.sub [(0, (w_ v)), (1, (w_ m)), (4, (w_ 0)), (7, (i_ (k : Int))), (5, (w_ o)), (6, (w_ b)), (8, (b_ (decide ((k : Int) < 16)))), (14, (b_ false))] (by exact ⟨rfl, rfl, rfl, rfl, rfl, rfl, rfl, (congrArg (fun z => some (Value.bool z)) e2), trivial⟩) ?_
        refine A.goA [.sk, .sk, .sk, .sk, .sk, .p] [(0, (w_ v)), (1, (w_ m)), (4, (w_ 0)), (7, (i_ (k : Int))), (5, (w_ o)), (6, (w_ b)), (8, (b_ (decide ((k : Int) < 16)))), (20, (b_ false))] [] T0 (by kernel_rfl) trivial ?_
        refine A.tn ?_
        refine A.cond_f rfl ?_
        refine A.skip ?_
        refine A.tn ?_
        refine A.seq ?_
        refine A.region (A.goA [.p, .p, .p] [(0, (w_ v)), (1, (w_ m)), (4, (w_ 0)), (7, (i_ (k : Int))), (5, (w_ o)), (6, (w_ (IntKind.u16.wrap (b * 2)))), (8, (b_ (decide ((k : Int) < 16)))), (20, (b_ false))] [] T0 (by kernel_rfl) trivial ?_)
        refine A.tn ?_
        refine A.seq ?_
        refine A.region (A.goA [.p, .p] [(0, (w_ v)), (1, (w_ m)), (4, (w_ 0)), (7, (i_ (k : Int))), (5, (w_ o)), (6, (w_ (IntKind.u16.wrap (b * 2)))), (8, (b_ (decide ((k : Int) < 16)))), (20, (b_ false)), (27, (b_ ((IntKind.u16.wrap (b * 2)) == 0)))] [] T0 (by kernel_rfl) trivial ?_)
        refine A.tn ?_
        refine A.cond (E := (IntKind.u16.wrap (b * 2)) == 0) rfl (fun e6 => ?_) (fun e6 => ?_)
        · skip
          have p6 := e6; try simp only [decide_eq_true_eq, decide_eq_false_iff_not, beq_iff_eq, beq_eq_false_iff_ne, bne_iff_ne, bne_eq_false_iff_eq, ne_eq, Bool.and_eq_true, Bool.or_eq_true, Bool.or_eq_false_iff, Bool.not_eq_true', Bool.not_eq_false', Int.not_lt, Int.not_le, gt_iff_lt, ge_iff_le, Classical.not_not] at p6
          refine A.exit ?_
          refine A.bm rfl ?_
          refine A.te ?_
          refine A.te ?_
          refine A.bh ?_
          refine A.tn ?_
          refine A.seq ?_
          refine A.region (A.goA [.p, .p] [(0, (w_ v)), (1, (w_ m)), (4, (w_ o)), (7, (i_ (k : Int))), (5, (w_ o)), (6, (w_ (IntKind.u16.wrap (b * 2)))), (8, (b_ (decide ((k : Int) < 16)))), (20, (b_ false)), (27, (b_ ((IntKind.u16.wrap (b * 2)) == 0)))] [] T0 (by kernel_rfl) trivial ?_)
          refine A.tn ?_
          refine A.ret ?_
          refine A.postQ [(w_ o)] (fun aa ww rr ss => ⟨rv_tmp rr rfl, trivial⟩) ?_
          show ((w_ o) : Value) = (w_ (land v m))
          first | (exfalso; omega) | ((have hk1 : k = 15 := eq15 hk hb (by simp_all)); subst hk1; subst hb ho; refine congrArg (Value.int .u16) ?_; rw [← landP_16 hv.2]; have wv := wrap_u16 (div_nw hv (k := 15) rfl); have wm := wrap_u16 (div_nw hm (k := 15) rfl); first | exact landP_t hv.1 hm.1 (by simp_all) (by simp_all) | exact landP_f hv.1 hm.1 (by simp_all))
        · skip
          have p6 := e6; try simp only [decide_eq_true_eq, decide_eq_false_iff_not, beq_iff_eq, beq_eq_false_iff_ne, bne_iff_ne, bne_eq_false_iff_eq, ne_eq, Bool.and_eq_true, Bool.or_eq_true, Bool.or_eq_false_iff, Bool.not_eq_true', Bool.not_eq_false', Int.not_lt, Int.not_le, gt_iff_lt, ge_iff_le, Classical.not_not] at p6
          refine A.skip ?_
          refine A.bn ?_
          refine A.tn ?_
          refine A.region (A.goA [.w ((k : Int) + 1), .p] [(0, (w_ v)), (1, (w_ m)), (4, (w_ 0)), (7, (i_ ((k : Int) + 1))), (5, (w_ o)), (6, (w_ (IntKind.u16.wrap (b * 2)))), (8, (b_ (decide ((k : Int) < 16)))), (20, (b_ false)), (27, (b_ ((IntKind.u16.wrap (b * 2)) == 0)))] [] (fun κ => (IntKind.i64.wrap ((k : Int) + 1) = ((k : Int) + 1)) ∧ True) (by kernel_rfl) ⟨(wrap_i64 (e := (k : Int) + 1) (by constructor <;> omega)), trivial⟩ ?_)
          refine A.tn ?_
          refine A.next (k + 1, o, IntKind.u16.wrap (b * 2)) ⟨(by (have hk1 : k < 15 := lt15 hk hb (by simp_all)); omega), (by (have hk1 : k < 15 := lt15 hk hb (by simp_all)); subst hb; exact pw_wrap hk1), (by subst hb ho; have wv := wrap_u16 (div_nw hv (k := k) rfl); have wm := wrap_u16 (div_nw hm (k := k) rfl); first | exact landP_t hv.1 hm.1 (by simp_all) (by simp_all) | exact landP_f hv.1 hm.1 (by simp_all))⟩ (by first | omega | (simp; omega) | (simp_all; omega)) ?_
          exact A.hereK [] (by exact ⟨rfl, rfl, rfl, rfl, rfl, rfl, trivial⟩) (by kernel_rfl)
    · skip
      have p1 := of_decide_eq_false e1
      refine A.exit ?_
      refine A.te ?_
      refine A.te ?_
      refine A.bh ?_
      refine A.tn ?_
      refine A.seq ?_
      refine A.region (A.goA [.p, .p] [(0, (w_ v)), (1, (w_ m)), (4, (w_ o)), (7, (i_ (k : Int))), (5, (w_ o)), (6, (w_ b)), (8, (b_ (decide ((k : Int) < 16))))] [] T0 (by kernel_rfl) trivial ?_)
      refine A.tn ?_
      refine A.ret ?_
      refine A.postQ [(w_ o)] (fun aa ww rr ss => ⟨rv_tmp rr rfl, trivial⟩) ?_
      show ((w_ o) : Value) = (w_ (land v m))
      first | (exfalso; omega) | ((have hk1 : k = 15 := eq15 hk hb (by simp_all)); subst hk1; subst hb ho; refine congrArg (Value.int .u16) ?_; rw [← landP_16 hv.2]; have wv := wrap_u16 (div_nw hv (k := 15) rfl); have wm := wrap_u16 (div_nw hm (k := 15) rfl); first | exact landP_t hv.1 hm.1 (by simp_all) (by simp_all) | exact landP_f hv.1 hm.1 (by simp_all))
end Go.Proofs.Ytkfmboicmdnjpaa
