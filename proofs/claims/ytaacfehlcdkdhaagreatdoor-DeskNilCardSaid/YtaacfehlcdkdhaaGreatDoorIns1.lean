/- What the functions of this layer do, proved operation by operation, for all arguments, under the conditions that each theorem states. -/
import Derived.Test.YtaacfehlcdkdhaaGreatDoorProg
import Derived.Test.YtaacfehlcdkdhaaGreatDoorStrL
import Derived.Test.YtaacfehlcdkdhaaGreatDoorVp
namespace Go.Proofs.YtaacfehlcdkdhaaGreatDoor
open Go V
set_option linter.unusedVariables false
set_option linter.unusedSimpArgs false
structure Ck where
  ni : Int
  np : Int
  nl : Bool
  ra : Int
  rb : Int
  rc : Int
  la : Int
  lb : Int
  lc : Int
  ua : Int
  ub : Int
  uc : Int
  nk : Int
  nb : Int
  deriving Inhabited, DecidableEq
def encCk (x : Ck) : List Value := [(i_ x.ni), (i_ x.np), (b_ x.nl), (u_ x.ra), (u_ x.rb), (u_ x.rc), (u_ x.la), (u_ x.lb), (u_ x.lc), (u_ x.ua), (u_ x.ub), (u_ x.uc), (i_ x.nk), (i_ x.nb)]
theorem encCk_len (x : Ck) : (encCk x).length = 14 := rfl
theorem encCk_one (x : Ck) : (encCk x).all Value.oneCell' = true := rfl
abbrev sCk (A : Option Addr) (xs : List Ck) (c : Nat) : V.Item := sl A xs.length c 47 14 (V.flat encCk xs)
def CkOk (x : Ck) : Prop := ((-9223372036854775808) ≤ x.ni ∧ x.ni ≤ 9223372036854775807) ∧ ((-9223372036854775808) ≤ x.np ∧ x.np ≤ 9223372036854775807) ∧ True ∧ (0 ≤ x.ra ∧ x.ra ≤ 18446744073709551615) ∧ (0 ≤ x.rb ∧ x.rb ≤ 18446744073709551615) ∧ (0 ≤ x.rc ∧ x.rc ≤ 18446744073709551615) ∧ (0 ≤ x.la ∧ x.la ≤ 18446744073709551615) ∧ (0 ≤ x.lb ∧ x.lb ≤ 18446744073709551615) ∧ (0 ≤ x.lc ∧ x.lc ≤ 18446744073709551615) ∧ (0 ≤ x.ua ∧ x.ua ≤ 18446744073709551615) ∧ (0 ≤ x.ub ∧ x.ub ≤ 18446744073709551615) ∧ (0 ≤ x.uc ∧ x.uc ≤ 18446744073709551615) ∧ ((-9223372036854775808) ≤ x.nk ∧ x.nk ≤ 9223372036854775807) ∧ ((-9223372036854775808) ≤ x.nb ∧ x.nb ≤ 9223372036854775807)
def ksCk : List FK := [.int .i64, .int .i64, .bool, .int .u64, .int .u64, .int .u64, .int .u64, .int .u64, .int .u64, .int .u64, .int .u64, .int .u64, .int .i64, .int .i64]
theorem openCk (cs : List Value) (h : FitsL ksCk cs) : ∃ x, cs = encCk x ∧ CkOk x := by
  unfold ksCk at h
  obtain ⟨v0, cs0, rfl, h0, g0⟩ := fitsL_cons h
  obtain ⟨a0, rfl, r0⟩ := fit_i64 h0
  obtain ⟨v1, cs1, rfl, h1, g1⟩ := fitsL_cons g0
  obtain ⟨a1, rfl, r1⟩ := fit_i64 h1
  obtain ⟨v2, cs2, rfl, h2, g2⟩ := fitsL_cons g1
  obtain ⟨a2, rfl⟩ := fit_bool h2
  obtain ⟨v3, cs3, rfl, h3, g3⟩ := fitsL_cons g2
  obtain ⟨a3, rfl, r3⟩ := fit_u64 h3
  obtain ⟨v4, cs4, rfl, h4, g4⟩ := fitsL_cons g3
  obtain ⟨a4, rfl, r4⟩ := fit_u64 h4
  obtain ⟨v5, cs5, rfl, h5, g5⟩ := fitsL_cons g4
  obtain ⟨a5, rfl, r5⟩ := fit_u64 h5
  obtain ⟨v6, cs6, rfl, h6, g6⟩ := fitsL_cons g5
  obtain ⟨a6, rfl, r6⟩ := fit_u64 h6
  obtain ⟨v7, cs7, rfl, h7, g7⟩ := fitsL_cons g6
  obtain ⟨a7, rfl, r7⟩ := fit_u64 h7
  obtain ⟨v8, cs8, rfl, h8, g8⟩ := fitsL_cons g7
  obtain ⟨a8, rfl, r8⟩ := fit_u64 h8
  obtain ⟨v9, cs9, rfl, h9, g9⟩ := fitsL_cons g8
  obtain ⟨a9, rfl, r9⟩ := fit_u64 h9
  obtain ⟨v10, cs10, rfl, h10, g10⟩ := fitsL_cons g9
  obtain ⟨a10, rfl, r10⟩ := fit_u64 h10
  obtain ⟨v11, cs11, rfl, h11, g11⟩ := fitsL_cons g10
  obtain ⟨a11, rfl, r11⟩ := fit_u64 h11
  obtain ⟨v12, cs12, rfl, h12, g12⟩ := fitsL_cons g11
  obtain ⟨a12, rfl, r12⟩ := fit_i64 h12
  obtain ⟨v13, cs13, rfl, h13, g13⟩ := fitsL_cons g12
  obtain ⟨a13, rfl, r13⟩ := fit_i64 h13
  obtain rfl := fitsL_nil g13
  exact ⟨⟨a0, a1, a2, a3, a4, a5, a6, a7, a8, a9, a10, a11, a12, a13⟩, rfl, r0, r1, trivial, r3, r4, r5, r6, r7, r8, r9, r10, r11, r12, r13⟩
def encU (x : Int) : List Value := [(u_ x)]
theorem encU_len (x : Int) : (encU x).length = 1 := rfl
theorem encU_one (x : Int) : (encU x).all Value.oneCell' = true := rfl
abbrev sU (A : Option Addr) (xs : List Int) (c : Nat) : V.Item := sl A xs.length c 38 1 (V.flat encU xs)
theorem gdL {α : Type} {l : List α} {i : Nat} {d : α} (h : i < l.length) : l[i]? = some (l.getD i d) := by simp [List.getD, List.getElem?_eq_getElem h]
/-- words behind the beginning of one -/
def glue (m : List UInt8) : List (List UInt8) → List (List UInt8)
  | [] => [m]
  | x :: xs => (m ++ x) :: xs
theorem glue_nil (c : UInt8) (l : List UInt8) : glue [] (words c l) = words c l := by
  cases h : words c l with
  | nil => exact absurd h (words_ne c l)
  | cons x xs => rfl
theorem cut1 {l : List UInt8} {k : Nat} (h : k < l.length) : (l.take (k + 1)).drop k = [l.getD k 0] := by
  rw [List.take_add_one, gdS h]; simp [List.drop_append, Nat.min_eq_left (Nat.le_of_lt h)]
theorem words_sp {c : UInt8} {l m : List UInt8} {k : Nat} (h : k < l.length) (hb : l.getD k 0 = c) : glue m (words c (l.drop k)) = m :: words c (l.drop (k + 1)) := by
  have e : l[k] = c := by have := gdS h; rw [List.getElem?_eq_getElem h] at this; rw [← hb]; exact Option.some.inj this
  rw [List.drop_eq_getElem_cons h, words, if_pos e]; simp [glue]
theorem words_no {c : UInt8} {l m : List UInt8} {k : Nat} (h : k < l.length) (hb : ¬ l.getD k 0 = c) : glue m (words c (l.drop k)) = glue (m ++ [l.getD k 0]) (words c (l.drop (k + 1))) := by
  have e : l[k] = l.getD k 0 := by have := gdS h; rw [List.getElem?_eq_getElem h] at this; exact Option.some.inj this
  rw [List.drop_eq_getElem_cons h, words, if_neg (by rw [e]; exact hb), e]
  cases hw : words c (l.drop (k + 1)) with
  | nil => exact absurd hw (words_ne _ _)
  | cons x xs => simp [glue]
theorem words_len (c : UInt8) : ∀ (l : List UInt8) (w : List UInt8), w ∈ words c l → w.length ≤ l.length
  | [], w, h => by simp [words] at h; subst h; simp
  | b :: l, w, h => by
    have ih := words_len c l
    unfold words at h; split at h
    · rcases List.mem_cons.1 h with rfl | h
      · simp
      · have := ih w h; simp; omega
    · split at h
      · simp at h; subst h; simp
      · rename_i x xs hx
        rcases List.mem_cons.1 h with rfl | h
        · have := ih x (by rw [hx]; simp); simp; omega
        · have := ih w (by rw [hx]; simp [h]); simp; omega
theorem words_gd (c : UInt8) (l : List UInt8) (i : Nat) : ((words c l).getD i []).length ≤ l.length := by
  by_cases h : i < (words c l).length
  · exact words_len c l _ (List.mem_of_getElem? (gdL h))
  · simp [List.getD, List.getElem?_eq_none (Nat.le_of_not_lt h)]
theorem is32 {b : UInt8} (h : (b.toNat : Int) = 32) : b = 32 := UInt8.toNat_inj.1 (by show b.toNat = 32; omega)
theorem words_cnt (c : UInt8) : ∀ l : List UInt8, (words c l).length ≤ l.length + 1
  | [] => by simp [words]
  | b :: l => by
    have ih := words_cnt c l
    unfold words; split
    · simp; omega
    · split
      · simp
      · rename_i x xs hx; rw [hx] at ih; simp at ih ⊢; omega
theorem join_one (x s : List UInt8) : Lib.join [x] s = x := by simp [Lib.join]
theorem join_cons (x y s : List UInt8) (r : List (List UInt8)) : Lib.join (x :: y :: r) s = x ++ (s ++ Lib.join (y :: r) s) := by simp [Lib.join, List.intercalate, List.intersperse]
/-- a curve as text -/
def cuL (a b c : Int) : List UInt8 := if b = 0 ∧ a = c then (if a = 0 then [45] else tens c) else tens a ++ [58] ++ tens b ++ [58] ++ tens c
theorem cuL_len {a b c : Int} (ha : a < 18446744073709551616) (hb : b < 18446744073709551616) (hc : c < 18446744073709551616) : (cuL a b c).length ≤ 62 := by
  have h1 := tens_len ha; have h2 := tens_len hb; have h3 := tens_len hc
  unfold cuL; split
  · split
    · simp
    · omega
  · simp; omega
/-- a curve out of a text, and its error -/
structure PC where
  pa : Int
  pb : Int
  pc : Int
  pz : Int
def nwV (l : List UInt8) (i : Nat) : Int := numV ((words 58 l).getD i []) 18446744073709551615
def nwE (l : List UInt8) (i : Nat) : Int := numE ((words 58 l).getD i []) 18446744073709551615
def pcF (l : List UInt8) (a b c : Int) : PC := if cuL a b c = l then ⟨a, b, c, 0⟩ else ⟨0, 0, 0, 4⟩
def pcP (l : List UInt8) : PC :=
  if 80 < l.length then ⟨0, 0, 0, 2⟩ else if l = [45] then ⟨0, 0, 0, 0⟩ else
  if (words 58 l).length ≠ 1 ∧ (words 58 l).length ≠ 3 then ⟨0, 0, 0, 4⟩ else
  if nwE l 0 ≠ 0 then ⟨0, 0, 0, nwE l 0⟩ else
  if (words 58 l).length = 1 then pcF l (nwV l 0) 0 (nwV l 0) else
  if nwE l 1 ≠ 0 then ⟨0, 0, 0, nwE l 1⟩ else
  if nwE l 2 ≠ 0 then ⟨0, 0, 0, nwE l 2⟩ else pcF l (nwV l 0) (nwV l 1) (nwV l 2)
theorem nwV_rng (l : List UInt8) (i : Nat) : 0 ≤ nwV l i ∧ nwV l i ≤ 18446744073709551615 := num_rng (by decide)
theorem words_pos (c : UInt8) (l : List UInt8) : 1 ≤ (words c l).length := by
  have := words_ne c l; cases h : words c l with
  | nil => exact absurd h this
  | cons x xs => simp
theorem pcP_rng (l : List UInt8) : (0 ≤ (pcP l).pa ∧ (pcP l).pa ≤ 18446744073709551615) ∧ (0 ≤ (pcP l).pb ∧ (pcP l).pb ≤ 18446744073709551615) ∧ (0 ≤ (pcP l).pc ∧ (pcP l).pc ≤ 18446744073709551615) := by
  have h0 := nwV_rng l 0; have h1 := nwV_rng l 1; have h2 := nwV_rng l 2
  unfold pcP pcF
  repeat' split
  all_goals (simp only []; omega)
/-- a class as text -/
def mayC (x : Ck) : Bool := ((decide (x.ni ≥ 0) && decide (x.np ≥ 0)) && decide (x.nk ≥ 0)) && decide (x.nb ≥ 0)
def kindL (b : Bool) : List UInt8 := if b = true then [108, 101, 97, 102] else [105, 110, 110, 101, 114]
def clL (x : Ck) : List UInt8 := Lib.join [tens x.ni, tens x.np, kindL x.nl, cuL x.ra x.rb x.rc, cuL x.la x.lb x.lc, cuL x.ua x.ub x.uc, tens x.nk, tens x.nb] [32]
def clT (x : Ck) : List UInt8 := if mayC x = true then clL x else []
def clE (x : Ck) : Int := if mayC x = true then 0 else 4
theorem may_of40 {x : Ck} : mayC x = true ↔ 0 ≤ x.ni ∧ 0 ≤ x.np ∧ 0 ≤ x.nk ∧ 0 ≤ x.nb := by
  unfold mayC; simp only [Bool.and_eq_true, decide_eq_true_eq]; constructor
  · rintro ⟨⟨⟨h1, h2⟩, h3⟩, h4⟩; exact ⟨h1, h2, h3, h4⟩
  · rintro ⟨h1, h2, h3, h4⟩; exact ⟨⟨⟨h1, h2⟩, h3⟩, h4⟩
theorem clL_len {x : Ck} (h : CkOk x) : (clL x).length ≤ 400 := by
  unfold CkOk at h
  have h1 := tens_len (v := x.ni) (by omega); have h2 := tens_len (v := x.np) (by omega); have h3 := tens_len (v := x.nk) (by omega); have h4 := tens_len (v := x.nb) (by omega)
  have h5 := cuL_len (a := x.ra) (b := x.rb) (c := x.rc) (by omega) (by omega) (by omega); have h6 := cuL_len (a := x.la) (b := x.lb) (c := x.lc) (by omega) (by omega) (by omega); have h7 := cuL_len (a := x.ua) (b := x.ub) (c := x.uc) (by omega) (by omega) (by omega)
  have h8 : (kindL x.nl).length ≤ 5 := by unfold kindL; split <;> simp
  unfold clL; simp only [join_cons, join_one, List.length_append, List.length_cons, List.length_nil]; omega
theorem is_c {b c : UInt8} (h : (b.toNat : Int) = (c.toNat : Int)) : b = c := UInt8.toNat_inj.1 (by omega)

set_option maxHeartbeats 4000000 in
set_option maxRecDepth 100000 in
theorem icurve_spec (ca cb cc : Int) (ha : 0 ≤ ca ∧ ca < 18446744073709551616) (hb : 0 ≤ cb ∧ cb < 18446744073709551616) (hc : 0 ≤ cc ∧ cc < 18446744073709551616) (w : World) :
    Calls Tryz.prog 39 #[(.agg #[u_ ca, u_ cb, u_ cc])] w fun e w' => e = .returned (s_ (bs (cuL ca cb cc))) ∧ Fr [] w w' := by
  refine calls_of (args := [(.agg #[u_ ca, u_ cb, u_ cc])]) (penv [(.agg #[u_ ca, u_ cb, u_ cc])]) [] [] Tryz.func39 rfl rfl (look_penv _) (HS.nil w) ?_
  refine A.norm [(0, (.agg #[u_ ca, u_ cb, u_ cc]))] [] (by exact ⟨rfl, trivial⟩) rfl ?_
  refine A.seq (A.region (A.goA1 [.al, .p] [1] (fun b1 => [(1, p_ b1)]) (fun b1 => [blk b1 [u_ ca, u_ cb, u_ cc] 45]) (fun b1 => []) (fun _ => T0) (fun _ => by kernel_rfl) (fun b1 => trivial) ?_))
  intro b1
  refine A.tn (A.seq (A.block (A.seq (A.region (A.goA [.ld 0, .p, .eq, .p] [(1, p_ b1), (3, b_ ((ca == 0) && ((cb == 0) && (cc == 0))))] [b1] T0 (by kernel_rfl) trivial ?_)))))
  refine A.tn (A.cond (E := (ca == 0) && ((cb == 0) && (cc == 0))) rfl (fun e1 => ?_) (fun e1 => ?_))
  · skip
    have p1 := e1; try simp only [nrm, bs_inj, Bool.or_eq_true, Bool.or_eq_false_iff, Bool.and_eq_true, Bool.and_eq_false_imp, decide_eq_true_eq, decide_eq_false_iff_not] at p1
    refine A.seq (A.region (A.goA [.p] [(2, s_ (bs [45]))] [] T0 (by kernel_rfl) trivial ?_))
    refine A.tn (A.ret (A.br (A.tr (A.postQ [s_ (bs [45])] (fun aa ww rr ss => ⟨rv_tmp rr rfl, trivial⟩) ?_))))
    show ((s_ (bs [45])) : Value) = (s_ (bs (cuL ca cb cc)))
    refine congrArg (fun z => s_ (bs z)) ?_; unfold cuL; first | (obtain ⟨rfl, rfl, rfl⟩ := p1; rfl) | (simp_all; done) | (rw [if_pos (by first | omega | (simp_all; done))]; first | (rw [if_pos (by first | omega | (simp_all; done))]; done) | (rw [if_neg (by first | omega | (simp_all; done))]; done)) | (rw [if_neg (by first | omega | (simp_all; done))]; (try simp); done)
  · skip
    have p1 := e1; try simp only [nrm, bs_inj, Bool.or_eq_true, Bool.or_eq_false_iff, Bool.and_eq_true, Bool.and_eq_false_imp, decide_eq_true_eq, decide_eq_false_iff_not] at p1
    refine A.seq (A.region (A.goA [.p, .ld 0, .p, .p, .o, .p, .ld 0, .p, .ld 0, .p, .cl, .p] [(1, p_ b1), (7, b_ ((cb == 0) && (ca == cc)))] [b1, b1, b1] T0 (by kernel_rfl) trivial ?_))
    refine A.tn (A.cond (E := (cb == 0) && (ca == cc)) rfl (fun e2 => ?_) (fun e2 => ?_))
    · skip
      have p2 := e2; try simp only [nrm, bs_inj, Bool.or_eq_true, Bool.or_eq_false_iff, Bool.and_eq_true, Bool.and_eq_false_imp, decide_eq_true_eq, decide_eq_false_iff_not] at p2
      refine A.seq (A.region (A.goA [.p, .ld 0, .cq (s_ (bs (tens cc))), .p] [(2, s_ (bs (tens cc)))] [b1] (fun κ => κ.call 13 [u_ cc] (s_ (bs (tens cc))) ∧ True) (by kernel_rfl) ⟨(fun ww ss => itens_spec cc (by first | assumption | omega | (simp; omega)) ww), trivial⟩ ?_))
      refine A.tn (A.ret (A.br (A.tr (A.postQ [s_ (bs (tens cc))] (fun aa ww rr ss => ⟨rv_tmp rr rfl, trivial⟩) ?_))))
      show ((s_ (bs (tens cc))) : Value) = (s_ (bs (cuL ca cb cc)))
      refine congrArg (fun z => s_ (bs z)) ?_; unfold cuL; first | (obtain ⟨rfl, rfl, rfl⟩ := p1; rfl) | (simp_all; done) | (rw [if_pos (by first | omega | (simp_all; done))]; first | (rw [if_pos (by first | omega | (simp_all; done))]; done) | (rw [if_neg (by first | omega | (simp_all; done))]; done)) | (rw [if_neg (by first | omega | (simp_all; done))]; (try simp); done)
    · skip
      have p2 := e2; try simp only [nrm, bs_inj, Bool.or_eq_true, Bool.or_eq_false_iff, Bool.and_eq_true, Bool.and_eq_false_imp, decide_eq_true_eq, decide_eq_false_iff_not] at p2
      refine A.skip (A.bn (A.tn (A.seq (A.drawA [.p, .ld 0, .cq (s_ (bs (tens ca))), .ct, .p, .ld 0, .cq (s_ (bs (tens cb))), .ct, .ct, .p, .ld 0, .cq (s_ (bs (tens cc))), .ct, .p] [0, 1, 2, 3, 4, 5, 6, 7, 8, 9, 10, 11, 12, 13] [(2, s_ (bs (((((tens ca) ++ ([58])) ++ (tens cb)) ++ ([58])) ++ (tens cc))))] [b1, b1, b1] (fun κ => κ.call 13 [u_ ca] (s_ (bs (tens ca))) ∧ (tens ca).length + ([58]).length ≤ 9223372036854775807 ∧ κ.call 13 [u_ cb] (s_ (bs (tens cb))) ∧ ((tens ca) ++ ([58])).length + (tens cb).length ≤ 9223372036854775807 ∧ (((tens ca) ++ ([58])) ++ (tens cb)).length + ([58]).length ≤ 9223372036854775807 ∧ κ.call 13 [u_ cc] (s_ (bs (tens cc))) ∧ ((((tens ca) ++ ([58])) ++ (tens cb)) ++ ([58])).length + (tens cc).length ≤ 9223372036854775807 ∧ True) (by kernel_rfl) (by kernel_rfl) ⟨(fun ww ss => itens_spec ca (by first | assumption | omega | (simp; omega)) ww), (by (have h1_ := tens_len (v := ca) (by omega); have h2_ := tens_len (v := cb) (by omega); have h3_ := tens_len (v := cc) (by omega); simp; omega)), (fun ww ss => itens_spec cb (by first | assumption | omega | (simp; omega)) ww), (by (have h1_ := tens_len (v := ca) (by omega); have h2_ := tens_len (v := cb) (by omega); have h3_ := tens_len (v := cc) (by omega); simp; omega)), (by (have h1_ := tens_len (v := ca) (by omega); have h2_ := tens_len (v := cb) (by omega); have h3_ := tens_len (v := cc) (by omega); simp; omega)), (fun ww ss => itens_spec cc (by first | assumption | omega | (simp; omega)) ww), (by (have h1_ := tens_len (v := ca) (by omega); have h2_ := tens_len (v := cb) (by omega); have h3_ := tens_len (v := cc) (by omega); simp; omega)), trivial⟩ ?_))))
      refine A.tn (A.ret (A.postQ [s_ (bs (((((tens ca) ++ ([58])) ++ (tens cb)) ++ ([58])) ++ (tens cc)))] (fun aa ww rr ss => ⟨rv_tmp rr rfl, trivial⟩) ?_))
      show ((s_ (bs (((((tens ca) ++ ([58])) ++ (tens cb)) ++ ([58])) ++ (tens cc)))) : Value) = (s_ (bs (cuL ca cb cc)))
      refine congrArg (fun z => s_ (bs z)) ?_; unfold cuL; first | (obtain ⟨rfl, rfl, rfl⟩ := p1; rfl) | (simp_all; done) | (rw [if_pos (by first | omega | (simp_all; done))]; first | (rw [if_pos (by first | omega | (simp_all; done))]; done) | (rw [if_neg (by first | omega | (simp_all; done))]; done)) | (rw [if_neg (by first | omega | (simp_all; done))]; (try simp); done)
end Go.Proofs.YtaacfehlcdkdhaaGreatDoor
