/- What the functions of this layer do, proved operation by operation, for all arguments, under the conditions that each theorem states. -/
import Derived.Test.YtpodcfadcdnllaaProg
import Derived.Test.YtpodcfadcdnllaaHier7
namespace Go.Proofs.Ytpodcfadcdnllaa
open Go V
set_option linter.unusedVariables false
set_option linter.unusedSimpArgs false
structure Ac where
  kd : Int
  chi : Int
  chp : Int
  chl : Bool
  cra : Int
  crb : Int
  crc : Int
  cla : Int
  clb : Int
  clc : Int
  cua : Int
  cub : Int
  cuc : Int
  chk : Int
  chq : Int
  deriving Inhabited, DecidableEq
def encAc (x : Ac) : List Value := [(i_ x.kd), (i_ x.chi), (i_ x.chp), (b_ x.chl), (u_ x.cra), (u_ x.crb), (u_ x.crc), (u_ x.cla), (u_ x.clb), (u_ x.clc), (u_ x.cua), (u_ x.cub), (u_ x.cuc), (i_ x.chk), (i_ x.chq)]
theorem encAc_len (x : Ac) : (encAc x).length = 15 := rfl
theorem encAc_one (x : Ac) : (encAc x).all Value.oneCell' = true := rfl
def AcOk (x : Ac) : Prop := ((-9223372036854775808) ≤ x.kd ∧ x.kd ≤ 9223372036854775807) ∧ ((-9223372036854775808) ≤ x.chi ∧ x.chi ≤ 9223372036854775807) ∧ ((-9223372036854775808) ≤ x.chp ∧ x.chp ≤ 9223372036854775807) ∧ True ∧ (0 ≤ x.cra ∧ x.cra ≤ 18446744073709551615) ∧ (0 ≤ x.crb ∧ x.crb ≤ 18446744073709551615) ∧ (0 ≤ x.crc ∧ x.crc ≤ 18446744073709551615) ∧ (0 ≤ x.cla ∧ x.cla ≤ 18446744073709551615) ∧ (0 ≤ x.clb ∧ x.clb ≤ 18446744073709551615) ∧ (0 ≤ x.clc ∧ x.clc ≤ 18446744073709551615) ∧ (0 ≤ x.cua ∧ x.cua ≤ 18446744073709551615) ∧ (0 ≤ x.cub ∧ x.cub ≤ 18446744073709551615) ∧ (0 ≤ x.cuc ∧ x.cuc ≤ 18446744073709551615) ∧ ((-9223372036854775808) ≤ x.chk ∧ x.chk ≤ 9223372036854775807) ∧ ((-9223372036854775808) ≤ x.chq ∧ x.chq ≤ 9223372036854775807)
def ksAc : List FK := [.int .i64, .int .i64, .int .i64, .bool, .int .u64, .int .u64, .int .u64, .int .u64, .int .u64, .int .u64, .int .u64, .int .u64, .int .u64, .int .i64, .int .i64]
theorem openAc (cs : List Value) (h : FitsL ksAc cs) : ∃ x, cs = encAc x ∧ AcOk x := by
  unfold ksAc at h
  obtain ⟨v0, cs0, rfl, h0, g0⟩ := fitsL_cons h
  obtain ⟨a0, rfl, r0⟩ := fit_i64 h0
  obtain ⟨v1, cs1, rfl, h1, g1⟩ := fitsL_cons g0
  obtain ⟨a1, rfl, r1⟩ := fit_i64 h1
  obtain ⟨v2, cs2, rfl, h2, g2⟩ := fitsL_cons g1
  obtain ⟨a2, rfl, r2⟩ := fit_i64 h2
  obtain ⟨v3, cs3, rfl, h3, g3⟩ := fitsL_cons g2
  obtain ⟨a3, rfl⟩ := fit_bool h3
  obtain ⟨v4, cs4, rfl, h4, g4⟩ := fitsL_cons g3
  obtain ⟨a4, rfl, r4⟩ := fit_u64 h4
  obtain ⟨v5, cs5, rfl, h5, g5⟩ := fitsL_cons g4
  obtain ⟨a5, rfl, r5⟩ := fit_u64 h5
  obtain ⟨v6, cs6, rfl, h6, g6⟩ := fitsL_cons g5
  obtain ⟨a6, rfl, r6⟩ := fit_u64 h6
  obtain ⟨v7, cs7, rfl, h7, g7⟩ := fitsL_cons g6
  obtain ⟨a7, rfl, r7⟩ := fit_u64 h7
  obtain ⟨v8, cs8, rfl, h8, g8⟩ := fitsL_cons g7
  obtain ⟨a8, rfl, r8⟩ := fit_u64 h8
  obtain ⟨v9, cs9, rfl, h9, g9⟩ := fitsL_cons g8
  obtain ⟨a9, rfl, r9⟩ := fit_u64 h9
  obtain ⟨v10, cs10, rfl, h10, g10⟩ := fitsL_cons g9
  obtain ⟨a10, rfl, r10⟩ := fit_u64 h10
  obtain ⟨v11, cs11, rfl, h11, g11⟩ := fitsL_cons g10
  obtain ⟨a11, rfl, r11⟩ := fit_u64 h11
  obtain ⟨v12, cs12, rfl, h12, g12⟩ := fitsL_cons g11
  obtain ⟨a12, rfl, r12⟩ := fit_u64 h12
  obtain ⟨v13, cs13, rfl, h13, g13⟩ := fitsL_cons g12
  obtain ⟨a13, rfl, r13⟩ := fit_i64 h13
  obtain ⟨v14, cs14, rfl, h14, g14⟩ := fitsL_cons g13
  obtain ⟨a14, rfl, r14⟩ := fit_i64 h14
  obtain rfl := fitsL_nil g14
  exact ⟨⟨a0, a1, a2, a3, a4, a5, a6, a7, a8, a9, a10, a11, a12, a13, a14⟩, rfl, r0, r1, r2, trivial, r4, r5, r6, r7, r8, r9, r10, r11, r12, r13, r14⟩

set_option maxHeartbeats 4000000 in
set_option maxRecDepth 100000 in
theorem del_nil (ci : Int) (w : World) :
    Calls Try.prog 16 #[n_, (i_ ci)] w fun e w' => e = .returned (i_ 7) ∧ Fr [] w w' := by
  refine calls_of (args := [n_, (i_ ci)]) (penv [n_, (i_ ci)]) [] [] Try.func16 rfl rfl (look_penv _) (HS.nil w) ?_
  refine A.norm [(0, n_), (1, (i_ ci))] [] (by exact ⟨rfl, rfl, trivial⟩) rfl ?_
  refine A.seq ?_
  refine A.region (A.goA [.p] [(0, n_), (1, (i_ ci)), (4, (i_ 0))] [] T0 (by kernel_rfl) trivial ?_)
  refine A.tn ?_
  refine A.seq ?_
  refine A.seq ?_
  refine A.region (A.goA [.p, .p] [(0, n_), (1, (i_ ci)), (4, (i_ 0)), (8, (b_ true))] [] T0 (by kernel_rfl) trivial ?_)
  refine A.tn ?_
  refine A.cond_t rfl ?_
  refine A.seq ?_
  refine A.region (A.goA [.p] [(0, n_), (1, (i_ ci)), (4, (i_ 7)), (8, (b_ true))] [] T0 (by kernel_rfl) trivial ?_)
  refine A.tn ?_
  refine A.ret ?_
  refine A.tr ?_
  refine A.postQ [(i_ 7)] (fun aa ww rr ss => ⟨rv_tmp rr rfl, trivial⟩) ?_
  rfl

set_option maxHeartbeats 4000000 in
set_option maxRecDepth 100000 in
theorem set_nil (y : Cl) (w : World) :
    Calls Try.prog 18 #[n_, (.agg #[(i_ y.hi), (i_ y.hp), (b_ y.hl), (u_ y.ra), (u_ y.rb), (u_ y.rc), (u_ y.la), (u_ y.lb), (u_ y.lc), (u_ y.ua), (u_ y.ub), (u_ y.uc), (i_ y.hk), (i_ y.hq)])] w fun e w' => e = .returned (i_ 7) ∧ Fr [] w w' := by
  refine calls_of (args := [n_, (.agg #[(i_ y.hi), (i_ y.hp), (b_ y.hl), (u_ y.ra), (u_ y.rb), (u_ y.rc), (u_ y.la), (u_ y.lb), (u_ y.lc), (u_ y.ua), (u_ y.ub), (u_ y.uc), (i_ y.hk), (i_ y.hq)])]) (penv [n_, (.agg #[(i_ y.hi), (i_ y.hp), (b_ y.hl), (u_ y.ra), (u_ y.rb), (u_ y.rc), (u_ y.la), (u_ y.lb), (u_ y.lc), (u_ y.ua), (u_ y.ub), (u_ y.uc), (i_ y.hk), (i_ y.hq)])]) [] [] Try.func18 rfl rfl (look_penv _) (HS.nil w) ?_
  refine A.norm [(0, n_), (1, (.agg #[(i_ y.hi), (i_ y.hp), (b_ y.hl), (u_ y.ra), (u_ y.rb), (u_ y.rc), (u_ y.la), (u_ y.lb), (u_ y.lc), (u_ y.ua), (u_ y.ub), (u_ y.uc), (i_ y.hk), (i_ y.hq)]))] [] (by exact ⟨rfl, rfl, trivial⟩) rfl ?_
  refine A.seq ?_
  refine A.region (A.goA2 [.al, .al, .p] [0, 1, 2, 3, 4] (fun b1 b2 => [(0, n_), (1, (.agg #[(i_ y.hi), (i_ y.hp), (b_ y.hl), (u_ y.ra), (u_ y.rb), (u_ y.rc), (u_ y.la), (u_ y.lb), (u_ y.lc), (u_ y.ua), (u_ y.ub), (u_ y.uc), (i_ y.hk), (i_ y.hq)])), (2, (p_ b1)), (3, (p_ b2)), (4, (i_ 0))]) (fun b1 b2 => [blk b1 [n_] 24, blk b2 [(i_ y.hi), (i_ y.hp), (b_ y.hl), (u_ y.ra), (u_ y.rb), (u_ y.rc), (u_ y.la), (u_ y.lb), (u_ y.lc), (u_ y.ua), (u_ y.ub), (u_ y.uc), (i_ y.hk), (i_ y.hq)] 30]) (fun b1 b2 => []) (fun _ _ => T0) (fun _ _ => by kernel_rfl) (fun b1 b2 => trivial) ?_)
  intro b1 b2
  refine A.tn ?_
  refine A.seq ?_
  refine A.seq ?_
  refine A.region (A.goA [.ld 0, .p] [(0, n_), (1, (.agg #[(i_ y.hi), (i_ y.hp), (b_ y.hl), (u_ y.ra), (u_ y.rb), (u_ y.rc), (u_ y.la), (u_ y.lb), (u_ y.lc), (u_ y.ua), (u_ y.ub), (u_ y.uc), (i_ y.hk), (i_ y.hq)])), (2, (p_ b1)), (3, (p_ b2)), (4, (i_ 0)), (10, (b_ true))] [b1] T0 (by kernel_rfl) trivial ?_)
  refine A.tn ?_
  refine A.cond_t rfl ?_
  refine A.seq ?_
  refine A.region (A.goA [.p] [(0, n_), (1, (.agg #[(i_ y.hi), (i_ y.hp), (b_ y.hl), (u_ y.ra), (u_ y.rb), (u_ y.rc), (u_ y.la), (u_ y.lb), (u_ y.lc), (u_ y.ua), (u_ y.ub), (u_ y.uc), (i_ y.hk), (i_ y.hq)])), (2, (p_ b1)), (3, (p_ b2)), (4, (i_ 7)), (10, (b_ true))] [] T0 (by kernel_rfl) trivial ?_)
  refine A.tn ?_
  refine A.ret ?_
  refine A.tr ?_
  refine A.postQ [(i_ 7)] (fun aa ww rr ss => ⟨rv_tmp rr rfl, trivial⟩) ?_
  rfl

set_option maxHeartbeats 4000000 in
set_option maxRecDepth 100000 in
theorem copy_nil (w : World) :
    Calls Try.prog 14 #[n_] w fun e w' => e = .returned n_ ∧ Fr [] w w' := by
  refine calls_of (args := [n_]) (penv [n_]) [] [] Try.func14 rfl rfl (look_penv _) (HS.nil w) ?_
  refine A.norm [(0, n_)] [] (by exact ⟨rfl, trivial⟩) rfl ?_
  refine A.seq ?_
  refine A.region (A.goA [.p] [(0, n_), (2, n_)] [] T0 (by kernel_rfl) trivial ?_)
  refine A.tn ?_
  refine A.seq ?_
  refine A.seq ?_
  refine A.region (A.goA [.p, .p] [(0, n_), (2, n_), (4, (b_ true))] [] T0 (by kernel_rfl) trivial ?_)
  refine A.tn ?_
  refine A.cond_t rfl ?_
  refine A.seq ?_
  refine A.region (A.goA [.p] [(0, n_), (2, n_), (4, (b_ true))] [] T0 (by kernel_rfl) trivial ?_)
  refine A.tn ?_
  refine A.ret ?_
  refine A.tr ?_
  refine A.postQ [n_] (fun aa ww rr ss => ⟨rv_tmp rr rfl, trivial⟩) ?_
  rfl

set_option maxHeartbeats 4000000 in
set_option maxRecDepth 100000 in
theorem hierNil_walk (z : Ac) (w : World) :
    Calls Try.prog 5 #[(.agg #[(i_ z.kd), (i_ z.chi), (i_ z.chp), (b_ z.chl), (u_ z.cra), (u_ z.crb), (u_ z.crc), (u_ z.cla), (u_ z.clb), (u_ z.clc), (u_ z.cua), (u_ z.cub), (u_ z.cuc), (i_ z.chk), (i_ z.chq)])] w fun e w' => e = .returned (b_ true) ∧ Fr [] w w' := by
  refine calls_of (args := [(.agg #[(i_ z.kd), (i_ z.chi), (i_ z.chp), (b_ z.chl), (u_ z.cra), (u_ z.crb), (u_ z.crc), (u_ z.cla), (u_ z.clb), (u_ z.clc), (u_ z.cua), (u_ z.cub), (u_ z.cuc), (i_ z.chk), (i_ z.chq)])]) (penv [(.agg #[(i_ z.kd), (i_ z.chi), (i_ z.chp), (b_ z.chl), (u_ z.cra), (u_ z.crb), (u_ z.crc), (u_ z.cla), (u_ z.clb), (u_ z.clc), (u_ z.cua), (u_ z.cub), (u_ z.cuc), (i_ z.chk), (i_ z.chq)])]) [] [] Try.func5 rfl rfl (look_penv _) (HS.nil w) ?_
  refine A.norm [(0, (.agg #[(i_ z.kd), (i_ z.chi), (i_ z.chp), (b_ z.chl), (u_ z.cra), (u_ z.crb), (u_ z.crc), (u_ z.cla), (u_ z.clb), (u_ z.clc), (u_ z.cua), (u_ z.cub), (u_ z.cuc), (i_ z.chk), (i_ z.chq)]))] [] (by exact ⟨rfl, trivial⟩) rfl ?_
  refine A.seq ?_
  refine A.region (A.goA1 [.al, .p] [0, 1, 2] (fun b1 => [(0, (.agg #[(i_ z.kd), (i_ z.chi), (i_ z.chp), (b_ z.chl), (u_ z.cra), (u_ z.crb), (u_ z.crc), (u_ z.cla), (u_ z.clb), (u_ z.clc), (u_ z.cua), (u_ z.cub), (u_ z.cuc), (i_ z.chk), (i_ z.chq)])), (1, (p_ b1)), (2, (b_ false))]) (fun b1 => [blk b1 [(i_ z.kd), (i_ z.chi), (i_ z.chp), (b_ z.chl), (u_ z.cra), (u_ z.crb), (u_ z.crc), (u_ z.cla), (u_ z.clb), (u_ z.clc), (u_ z.cua), (u_ z.cub), (u_ z.cuc), (i_ z.chk), (i_ z.chq)] 32]) (fun b1 => []) (fun _ => T0) (fun _ => by kernel_rfl) (fun b1 => trivial) ?_)
  intro b1
  refine A.tn ?_
  refine A.seq ?_
  refine A.region (A.goA [.p] [(0, (.agg #[(i_ z.kd), (i_ z.chi), (i_ z.chp), (b_ z.chl), (u_ z.cra), (u_ z.crb), (u_ z.crc), (u_ z.cla), (u_ z.clb), (u_ z.clc), (u_ z.cua), (u_ z.cub), (u_ z.cuc), (i_ z.chk), (i_ z.chq)])), (1, (p_ b1)), (2, (b_ false)), (3, n_)] [] T0 (by kernel_rfl) trivial ?_)
  refine A.tn ?_
  refine A.seq ?_
  refine A.region (A.goA1 [.p, .p, .p, .ld 0, .cq (.tuple #[(.agg #[(i_ 0), (i_ 0), (b_ false), (u_ 0), (u_ 0), (u_ 0), (u_ 0), (u_ 0), (u_ 0), (u_ 0), (u_ 0), (u_ 0), (i_ 0), (i_ 0)]), (i_ 7)]), .p, .p, .p, .al, .st 1, .p] [0, 1, 2, 3, 4, 5] (fun b2 => [(0, (.agg #[(i_ z.kd), (i_ z.chi), (i_ z.chp), (b_ z.chl), (u_ z.cra), (u_ z.crb), (u_ z.crc), (u_ z.cla), (u_ z.clb), (u_ z.clc), (u_ z.cua), (u_ z.cub), (u_ z.cuc), (i_ z.chk), (i_ z.chq)])), (1, (p_ b1)), (2, (b_ false)), (3, n_), (4, (p_ b2)), (5, (i_ 7))]) (fun b2 => [blk b1 [(i_ z.kd), (i_ z.chi), (i_ z.chp), (b_ z.chl), (u_ z.cra), (u_ z.crb), (u_ z.crc), (u_ z.cla), (u_ z.clb), (u_ z.clc), (u_ z.cua), (u_ z.cub), (u_ z.cuc), (i_ z.chk), (i_ z.chq)] 32, blk b2 [(i_ 0), (i_ 0), (b_ false), (u_ 0), (u_ 0), (u_ 0), (u_ 0), (u_ 0), (u_ 0), (u_ 0), (u_ 0), (u_ 0), (i_ 0), (i_ 0)] 30]) (fun b2 => [b1, b2]) (fun _ => (fun κ => κ.call 10 [n_, (i_ z.chi)] (.tuple #[(.agg #[(i_ 0), (i_ 0), (b_ false), (u_ 0), (u_ 0), (u_ 0), (u_ 0), (u_ 0), (u_ 0), (u_ 0), (u_ 0), (u_ 0), (i_ 0), (i_ 0)]), (i_ 7)]) ∧ True)) (fun _ => by kernel_rfl) (fun b2 => ⟨(fun ww ss => get_nil z.chi ww), trivial⟩) ?_)
  intro b2
  refine A.tn ?_
  refine A.seq ?_
  refine A.region (A.goA [.ld 1, .p, .eq, .p, .p, .p, .p, .p, .p, .p, .ld 0, .cq (i_ 7), .p, .p, .p, .p, .p, .p, .ld 0, .cq (i_ 7), .p, .p, .p, .p, .p, .ld 0, .cq (i_ 7), .p, .p, .p, .p, .cq e_, .p, .p, .p, .p, .p, .cq e_, .p, .p, .p, .p, .p, .cq e_, .p, .p, .p, .p, .p, .p, .p, .ld 0, .cq (i_ 0), .p, .p, .p, .p, .p, .p, .ld 0, .cq e_, .p, .p, .p, .p, .p, .cq e_, .p, .p, .p, .p, .p, .cq n_, .p, .p, .p, .cq (b_ true), .p, .p] [(0, (.agg #[(i_ z.kd), (i_ z.chi), (i_ z.chp), (b_ z.chl), (u_ z.cra), (u_ z.crb), (u_ z.crc), (u_ z.cla), (u_ z.clb), (u_ z.clc), (u_ z.cua), (u_ z.cub), (u_ z.cuc), (i_ z.chk), (i_ z.chq)])), (1, (p_ b1)), (2, (b_ true)), (3, n_), (4, (p_ b2)), (5, (i_ 7))] [b2, b1, b1, b1, b1, b1] (fun κ => κ.call 17 [n_, (.agg #[(i_ z.chi), (i_ z.chp), (b_ z.chl), (u_ z.cra), (u_ z.crb), (u_ z.crc), (u_ z.cla), (u_ z.clb), (u_ z.clc), (u_ z.cua), (u_ z.cub), (u_ z.cuc), (i_ z.chk), (i_ z.chq)])] (i_ 7) ∧ κ.call 16 [n_, (i_ z.chi)] (i_ 7) ∧ κ.call 18 [n_, (.agg #[(i_ z.chi), (i_ z.chp), (b_ z.chl), (u_ z.cra), (u_ z.crb), (u_ z.crc), (u_ z.cla), (u_ z.clb), (u_ z.clc), (u_ z.cua), (u_ z.cub), (u_ z.cuc), (i_ z.chk), (i_ z.chq)])] (i_ 7) ∧ κ.call 19 [n_, (i_ 0)] e_ ∧ κ.call 9 [n_] e_ ∧ κ.call 15 [n_] e_ ∧ κ.call 20 [n_, (i_ z.chi)] (i_ 0) ∧ κ.call 11 [n_, (i_ z.chi)] e_ ∧ κ.call 21 [n_] e_ ∧ κ.call 14 [n_] n_ ∧ κ.call 6 [] (b_ true) ∧ True) (by kernel_rfl) ⟨(fun ww ss => add_nil (⟨z.chi, z.chp, z.chl, z.cra, z.crb, z.crc, z.cla, z.clb, z.clc, z.cua, z.cub, z.cuc, z.chk, z.chq⟩ : Cl) ww), (fun ww ss => del_nil z.chi ww), (fun ww ss => set_nil (⟨z.chi, z.chp, z.chl, z.cra, z.crb, z.crc, z.cla, z.clb, z.clc, z.cua, z.cub, z.cuc, z.chk, z.chq⟩ : Cl) ww), (fun ww ss => children_nil 0 ww), (fun ww ss => ids_nil ww), (fun ww ss => leaves_nil ww), (fun ww ss => depth_nil z.chi ww), (fun ww ss => up_nil z.chi ww), (fun ww ss => reals_nil ww), (fun ww ss => copy_nil ww), (fun ww ss => two_spec ww), trivial⟩ ?_)
  refine A.tn ?_
  refine A.ret ?_
  refine A.postQ [(b_ true)] (fun aa ww rr ss => ⟨rv_tmp rr rfl, trivial⟩) ?_
  rfl
end Go.Proofs.Ytpodcfadcdnllaa
