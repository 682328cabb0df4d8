/- What the functions of this layer do, proved operation by operation, for all arguments, under the conditions that each theorem states. -/
import Derived.Test.YtdamfdnakkofmaaDoorProg
import Derived.Test.YtdamfdnakkofmaaDoorStrL
import Derived.Test.YtdamfdnakkofmaaDoorVp
namespace Go.Proofs.YtdamfdnakkofmaaDoor
open Go V
set_option linter.unusedVariables false
set_option linter.unusedSimpArgs false
structure Ev where
  eo : Int
  ei : Bool
  er : Bool
  ea : Int
  ed : Int
  ec : Int
  ep : Int
  el : Int
  fa : Int
  fb : Int
  fc : Int
  fd : Int
  deriving Inhabited, DecidableEq
def encEv (x : Ev) : List Value := [(i_ x.eo), (b_ x.ei), (b_ x.er), (u_ x.ea), (u_ x.ed), (i_ x.ec), (u_ x.ep), (i_ x.el), (w_ x.fa), (w_ x.fb), (w_ x.fc), (w_ x.fd)]
theorem encEv_len (x : Ev) : (encEv x).length = 12 := rfl
theorem encEv_one (x : Ev) : (encEv x).all Value.oneCell' = true := rfl
abbrev sEv (A : Option Addr) (xs : List Ev) (c : Nat) : V.Item := sl A xs.length c 67 12 (V.flat encEv xs)
def EvOk (x : Ev) : Prop := ((-9223372036854775808) ≤ x.eo ∧ x.eo ≤ 9223372036854775807) ∧ True ∧ True ∧ (0 ≤ x.ea ∧ x.ea ≤ 18446744073709551615) ∧ (0 ≤ x.ed ∧ x.ed ≤ 18446744073709551615) ∧ ((-9223372036854775808) ≤ x.ec ∧ x.ec ≤ 9223372036854775807) ∧ (0 ≤ x.ep ∧ x.ep ≤ 18446744073709551615) ∧ ((-9223372036854775808) ≤ x.el ∧ x.el ≤ 9223372036854775807) ∧ (0 ≤ x.fa ∧ x.fa ≤ 65535) ∧ (0 ≤ x.fb ∧ x.fb ≤ 65535) ∧ (0 ≤ x.fc ∧ x.fc ≤ 65535) ∧ (0 ≤ x.fd ∧ x.fd ≤ 65535)
def ksEv : List FK := [.int .i64, .bool, .bool, .int .u64, .int .u64, .int .i64, .int .u64, .int .i64, .int .u16, .int .u16, .int .u16, .int .u16]
theorem openEv (cs : List Value) (h : FitsL ksEv cs) : ∃ x, cs = encEv x ∧ EvOk x := by
  unfold ksEv at h
  obtain ⟨v0, cs0, rfl, h0, g0⟩ := fitsL_cons h
  obtain ⟨a0, rfl, r0⟩ := fit_i64 h0
  obtain ⟨v1, cs1, rfl, h1, g1⟩ := fitsL_cons g0
  obtain ⟨a1, rfl⟩ := fit_bool h1
  obtain ⟨v2, cs2, rfl, h2, g2⟩ := fitsL_cons g1
  obtain ⟨a2, rfl⟩ := fit_bool h2
  obtain ⟨v3, cs3, rfl, h3, g3⟩ := fitsL_cons g2
  obtain ⟨a3, rfl, r3⟩ := fit_u64 h3
  obtain ⟨v4, cs4, rfl, h4, g4⟩ := fitsL_cons g3
  obtain ⟨a4, rfl, r4⟩ := fit_u64 h4
  obtain ⟨v5, cs5, rfl, h5, g5⟩ := fitsL_cons g4
  obtain ⟨a5, rfl, r5⟩ := fit_i64 h5
  obtain ⟨v6, cs6, rfl, h6, g6⟩ := fitsL_cons g5
  obtain ⟨a6, rfl, r6⟩ := fit_u64 h6
  obtain ⟨v7, cs7, rfl, h7, g7⟩ := fitsL_cons g6
  obtain ⟨a7, rfl, r7⟩ := fit_i64 h7
  obtain ⟨v8, cs8, rfl, h8, g8⟩ := fitsL_cons g7
  obtain ⟨a8, rfl, r8⟩ := fit_u16 h8
  obtain ⟨v9, cs9, rfl, h9, g9⟩ := fitsL_cons g8
  obtain ⟨a9, rfl, r9⟩ := fit_u16 h9
  obtain ⟨v10, cs10, rfl, h10, g10⟩ := fitsL_cons g9
  obtain ⟨a10, rfl, r10⟩ := fit_u16 h10
  obtain ⟨v11, cs11, rfl, h11, g11⟩ := fitsL_cons g10
  obtain ⟨a11, rfl, r11⟩ := fit_u16 h11
  obtain rfl := fitsL_nil g11
  exact ⟨⟨a0, a1, a2, a3, a4, a5, a6, a7, a8, a9, a10, a11⟩, rfl, r0, trivial, trivial, r3, r4, r5, r6, r7, r8, r9, r10, r11⟩
def encI (x : Int) : List Value := [(i_ x)]
theorem encI_len (x : Int) : (encI x).length = 1 := rfl
theorem encI_one (x : Int) : (encI x).all Value.oneCell' = true := rfl
abbrev sI (A : Option Addr) (xs : List Int) (c : Nat) : V.Item := sl A xs.length c 3 1 (V.flat encI xs)
/-- does an event count? -/
def soE (q : Int) (e : Ev) (fr to : Int) : Bool := e.ei == (q == 0) && (decide (q < 2) && decide (e.ea ≥ fr) && decide (e.ea ≤ to) || q == 2 && decide (e.ed > fr) && decide (e.ed ≤ to))
def byW (so : Ev → Bool) (cs : List Int) (e : Ev) : Int := if (so e && cs.contains e.ec) = true then imax e.el 0 else 0
def bySum (so : Ev → Bool) (cs : List Int) (l : List Ev) : Int := (l.map (byW so cs)).sum % 18446744073709551616
theorem bySum_snoc (so : Ev → Bool) (cs : List Int) (l : List Ev) (e : Ev) : bySum so cs (l ++ [e]) = (bySum so cs l + byW so cs e) % 18446744073709551616 := by
  unfold bySum; rw [List.map_append, List.sum_append]; simp
theorem bySum_rng (so : Ev → Bool) (cs : List Int) (l : List Ev) : 0 ≤ bySum so cs l ∧ bySum so cs l < 18446744073709551616 := by unfold bySum; omega
theorem bySum_0 (so : Ev → Bool) (cs : List Int) : bySum so cs [] = 0 := rfl
theorem bySum_at {so : Ev → Bool} {cs : List Int} {l : List Ev} {k : Nat} {e : Ev} (h : l[k]? = some e) : bySum so cs (l.take (k + 1)) = (bySum so cs (l.take k) + byW so cs e) % 18446744073709551616 := by rw [takeS h, bySum_snoc]
theorem byW_f {so : Ev → Bool} {cs : List Int} {e : Ev} (h : (so e && cs.contains e.ec) = false) : byW so cs e = 0 := by unfold byW; rw [h]; rfl
theorem byW_t {so : Ev → Bool} {cs : List Int} {e : Ev} (h : (so e && cs.contains e.ec) = true) : byW so cs e = imax e.el 0 := by unfold byW; rw [if_pos h]
theorem cont_at {α : Type} [BEq α] [LawfulBEq α] {xs : List α} {k : Nat} {x v : α} (h : xs[k]? = some x) (hv : v = x) : xs.contains v = true := by
  rw [List.contains_iff_mem, hv]; exact List.mem_of_getElem? h
theorem cont_no {α : Type} [BEq α] [LawfulBEq α] {xs : List α} {v : α} {k : Nat} (h : ∀ x ∈ xs.take k, ¬ v = x) (hk : xs.length ≤ k) : xs.contains v = false := by
  rw [List.take_of_length_le hk] at h
  rw [Bool.eq_false_iff, Ne, List.contains_iff_mem]; exact fun hm => h v hm rfl
theorem no_step {α : Type} {xs : List α} {v x : α} {k : Nat} (h : ∀ x ∈ xs.take k, ¬ v = x) (hx : xs[k]? = some x) (hn : ¬ v = x) : ∀ x ∈ xs.take (k + 1), ¬ v = x := by
  rw [takeS hx]; intro y hy
  rcases List.mem_append.1 hy with hy | hy
  · exact h y hy
  · simp at hy; subst hy; exact hn
theorem rby1 {q fr to : Int} {xs : List Int} {e : Ev} (h : (((e.ei != (q == 0)) || (!(xs.contains e.ec))) || (decide (e.el < 0))) = true) : byW (fun e => soE q e fr to) xs e = 0 := by
  unfold byW soE
  split
  · rename_i h2
    simp only [Bool.and_eq_true, beq_iff_eq] at h2
    simp only [Bool.or_eq_true, bne_iff_ne, ne_eq, Bool.not_eq_true', decide_eq_true_eq] at h
    rcases h with (h | h) | h
    · exact absurd h2.1.1 h
    · rw [h2.2] at h; cases h
    · rw [imax_eq]; omega
  · rfl
theorem rby2 {q fr to : Int} {xs : List Int} {e : Ev} (h : (((e.ei != (q == 0)) || (!(xs.contains e.ec))) || (decide (e.el < 0))) = false)
    (h2 : (((decide (q < 2)) && (decide (e.ea ≥ fr))) && (decide (e.ea ≤ to)) || ((q == 2) && (decide (e.ed > fr))) && (decide (e.ed ≤ to))) = false) : byW (fun e => soE q e fr to) xs e = 0 := by
  exact byW_f (by show (soE q e fr to && _) = false; unfold soE; rw [h2]; simp)
theorem rby3 {q fr to : Int} {xs : List Int} {e : Ev} (h : (((e.ei != (q == 0)) || (!(xs.contains e.ec))) || (decide (e.el < 0))) = false)
    (h2 : (((decide (q < 2)) && (decide (e.ea ≥ fr))) && (decide (e.ea ≤ to)) || ((q == 2) && (decide (e.ed > fr))) && (decide (e.ed ≤ to))) = true) : byW (fun e => soE q e fr to) xs e = e.el ∧ 0 ≤ e.el := by
  simp only [Bool.or_eq_false_iff, decide_eq_false_iff_not, Bool.not_eq_false'] at h
  obtain ⟨⟨h3, h4⟩, h5⟩ := h
  have h6 : (e.ei == (q == 0)) = true := by simpa [bne] using h3
  have e2 : (soE q e fr to && xs.contains e.ec) = true := by unfold soE; rw [h6, h2, h4]; rfl
  refine ⟨?_, by omega⟩
  unfold byW; rw [if_pos e2, imax_eq]; omega
/-- may an event be told? -/
def mayE (e : Ev) : Bool := decide (e.eo ≥ 0) && decide (e.ec ≥ 0) && decide (e.el ≥ 0) && (!e.ei || e.ed == 0 && !e.er)

set_option maxHeartbeats 4000000 in
set_option maxRecDepth 100000 in
theorem tnum_spec (l : List UInt8) (m : Int) (hm : 65535 ≤ m ∧ m < 18446744073709551616) (w : World) :
    Calls Tryd.prog 61 #[s_ (bs l), u_ m] w fun e w' => e = .returned (.tuple #[u_ (numV l m), i_ (numE l m)]) ∧ Fr [] w w' := by
  refine calls_of (args := [s_ (bs l), u_ m]) (penv [s_ (bs l), u_ m]) [] [] Tryd.func61 rfl rfl (look_penv _) (HS.nil w) ?_
  refine A.norm [(0, s_ (bs l)), (1, u_ m)] [] (by exact ⟨rfl, rfl, trivial⟩) rfl ?_
  refine A.seq (A.region (A.goA [.p, .p] [(0, s_ (bs l)), (1, u_ m), (4, u_ 0), (5, i_ 0)] [] T0 (by kernel_rfl) trivial ?_))
  refine A.tn (A.seq (A.seq (A.region (A.goA [.p, .eq, .p, .o, .p, .si (l.getD 0 0), .p, .p, .o, .p, .p, .p, .cl, .cl] [(0, s_ (bs l)), (1, u_ m), (4, u_ 0), (5, i_ 0), (22, b_ (((bs l) == (bs [])) || ((((l.getD 0 0).toNat : Int) == 48) && (decide ((l.length : Int) > 1)))))] [] (fun κ => ((true && (((bs l) == (bs [])) == false)) = true → (0 ≤ (0 : Int) ∧ l[0]? = some (l.getD 0 0))) ∧ True) (by kernel_rfl) ⟨(fun h_ => ⟨by omega, gdS (by first | assumption | omega | (simp [bs_beq, bs_inj] at h_; exact List.length_pos_iff.2 h_))⟩), trivial⟩ ?_))))
  refine A.tn (A.cond (E := ((bs l) == (bs [])) || ((((l.getD 0 0).toNat : Int) == 48) && (decide ((l.length : Int) > 1)))) rfl (fun e1 => ?_) (fun e1 => ?_))
  · skip
    have p1 := e1; try simp only [nrm, bs_inj, Bool.or_eq_true, Bool.or_eq_false_iff, Bool.and_eq_true, Bool.and_eq_false_imp, decide_eq_true_eq, decide_eq_false_iff_not] at p1
    refine A.seq (A.region (A.goA [.p, .p] [(0, s_ (bs l)), (1, u_ m), (4, u_ 0), (5, i_ 4), (22, b_ (((bs l) == (bs [])) || ((((l.getD 0 0).toNat : Int) == 48) && (decide ((l.length : Int) > 1)))))] [] T0 (by kernel_rfl) trivial ?_))
    refine A.tn (A.ret (A.tr (A.postQ [u_ 0, i_ 4] (fun aa ww rr ss => ⟨rv_tmp rr rfl, rv_tmp rr rfl, trivial⟩) ?_)))
    show ((.tuple #[u_ 0, i_ 4]) : Value) = (.tuple #[u_ (numV l m), i_ (numE l m)])
    obtain ⟨h1_, h2_⟩ : numV l m = 0 ∧ numE l m = 4 := by first | exact num_4 m (numOk_no (by (try simp [bs_beq, bs_inj] at e1); (try simp); first | omega | (rcases e1 with h_ | h_; exact .inl h_; exact .inr (by omega)))) | exact num_4 m (numOk_not (by assumption) (by rw [isD_iff]; omega))
    rw [h1_, h2_]
  · skip
    have p1 := e1; try simp only [nrm, bs_inj, Bool.or_eq_true, Bool.or_eq_false_iff, Bool.and_eq_true, Bool.and_eq_false_imp, decide_eq_true_eq, decide_eq_false_iff_not] at p1
    refine A.skip (A.tn (A.seq (A.region (A.goA [.p] [(0, s_ (bs l)), (1, u_ m), (4, u_ 0), (5, i_ 0), (22, b_ (((bs l) == (bs [])) || ((((l.getD 0 0).toNat : Int) == 48) && (decide ((l.length : Int) > 1))))), (6, u_ 0)] [] T0 (by kernel_rfl) trivial ?_))))
    refine A.tn (A.seq (A.region (A.goA [.p] [(0, s_ (bs l)), (1, u_ m), (4, u_ 0), (5, i_ 0), (22, b_ (((bs l) == (bs [])) || ((((l.getD 0 0).toNat : Int) == 48) && (decide ((l.length : Int) > 1))))), (6, u_ 0), (7, i_ 0)] [] T0 (by kernel_rfl) trivial ?_)))
    refine A.tn (A.seq (A.seq (A.region (A.goP [.p] [(0, s_ (bs l)), (1, u_ m), (4, u_ 0), (5, i_ 0), (22, b_ (((bs l) == (bs [])) || ((((l.getD 0 0).toNat : Int) == 48) && (decide ((l.length : Int) > 1))))), (6, u_ 0), (7, i_ 0), (23, s_ (bs l))] [] T0 (by kernel_rfl) trivial ?_))))
    refine A.cons (A.rangeS 24 (by kernel_rfl) rfl rfl (by kernel_rfl) (fun b1 => [strI b1 l 0]) (fun _ => rfl) ?_)
    intro b1
    refine A.done ?_
    refine A.sub [(0, s_ (bs l)), (1, u_ m), (4, u_ 0), (5, i_ 0), (22, b_ (((bs l) == (bs [])) || ((((l.getD 0 0).toNat : Int) == 48) && (decide ((l.length : Int) > 1))))), (6, u_ 0), (7, i_ 0), (24, p_ b1)] (by exact ⟨rfl, rfl, rfl, rfl, rfl, rfl, rfl, rfl, trivial⟩) ?_
    refine A.tn (A.block (A.loop (fun (zz : Nat × Int × Int) => match zz with | (k, ov, er) => [(1, u_ m), (24, p_ b1), (6, u_ ov), (7, i_ er)]) (fun (zz : Nat × Int × Int) => match zz with | (k, ov, er) => [strI b1 l k]) (fun (zz : Nat × Int × Int) => match zz with | (k, ov, er) => (k ≤ l.length) ∧ (∀ x ∈ l.take k, isD x = true) ∧ (0 ≤ ov ∧ ov ≤ m) ∧ ((er = 0 ∧ ov = (val (l.take k) : Int)) ∨ (er = 20 ∧ m < (val (l.take k) : Int)))) (fun (zz : Nat × Int × Int) => match zz with | (k, ov, er) => l.length - k) (0, 0, 0) ⟨(by omega), (by simp), (by omega), (by (simp [val]))⟩ ?_ ?_))
    · exact A.hereK [0] (by exact ⟨rfl, rfl, rfl, rfl, trivial⟩) (by kernel_rfl)
    · rintro ⟨k, ov, er⟩ ⟨hk, hD, ho, he⟩
      refine A.norm [(1, u_ m), (24, p_ b1), (6, u_ ov), (7, i_ er)] [strI b1 l k] (by exact ⟨rfl, rfl, rfl, rfl, trivial⟩) rfl ?_
      refine A.seq (A.region (A.cons (A.nextS (l := l) (pos := k) 0 25 (by kernel_rfl) rfl rfl rfl (fun p_ => [strI b1 l p_]) (fun _ => rfl) (fun ho2 => ?_) (fun u2 hu2 hl2 => ?_) (fun u2 hu2 hl2 c2 k2 hc2 hd2 => ?_))))
      · skip
        refine A.goA [.p] [(1, u_ m), (24, p_ b1), (6, u_ ov), (7, i_ er), (25, (.tuple #[b_ false])), (26, b_ false)] [] T0 (by kernel_rfl) trivial ?_
        refine A.tn (A.seq (A.cond_f rfl (A.exit (A.te (A.te (A.bh (A.tn (A.seq (A.seq (A.region (A.goA [.p, .p] [(1, u_ m), (24, p_ b1), (6, u_ ov), (7, i_ er), (25, (.tuple #[b_ false])), (26, b_ false), (54, b_ (er != 0))] [] T0 (by kernel_rfl) trivial ?_)))))))))))
        refine A.tn (A.cond (E := er != 0) rfl (fun e2 => ?_) (fun e2 => ?_))
        · skip
          have p2 := e2; try simp only [nrm, bs_inj, Bool.or_eq_true, Bool.or_eq_false_iff, Bool.and_eq_true, Bool.and_eq_false_imp, decide_eq_true_eq, decide_eq_false_iff_not] at p2
          refine A.seq (A.region (A.goA [.p, .p, .p] [(1, u_ m), (24, p_ b1), (6, u_ ov), (7, i_ er), (25, (.tuple #[b_ false])), (26, b_ false), (54, b_ (er != 0)), (4, u_ 0), (5, i_ er)] [] T0 (by kernel_rfl) trivial ?_))
          refine A.tn (A.ret (A.tr (A.postQ [u_ 0, i_ er] (fun aa ww rr ss => ⟨rv_tmp rr rfl, rv_tmp rr rfl, trivial⟩) ?_)))
          show ((.tuple #[u_ 0, i_ er]) : Value) = (.tuple #[u_ (numV l m), i_ (numE l m)])
          have hok := (numOk_yes (l := l) (by first | assumption | exact p1.1 | (intro h_; subst h_; simp at p1)) (by (try simp [bs_beq, bs_inj] at e1); (try simp); omega) (by have hh_ := hD; rw [show k = l.length by omega] at hh_; exact hh_))
          have hvt : val (l.take k) = val l := by rw [show k = l.length by omega, List.take_length]
          obtain ⟨h1_, h2_⟩ : numV l m = 0 ∧ numE l m = er := by (first | (have h_ := num_0 (l := l) (most := m) hok (by omega); exact ⟨h_.1.trans (by omega), h_.2.trans (by omega)⟩) | (have h_ := num_20 (l := l) (most := m) hok (by omega); exact ⟨h_.1.trans (by omega), h_.2.trans (by omega)⟩))
          rw [h1_, h2_]
        · skip
          have p2 := e2; try simp only [nrm, bs_inj, Bool.or_eq_true, Bool.or_eq_false_iff, Bool.and_eq_true, Bool.and_eq_false_imp, decide_eq_true_eq, decide_eq_false_iff_not] at p2
          refine A.skip (A.tn (A.seq (A.region (A.goA [.p, .p, .p] [(1, u_ m), (24, p_ b1), (6, u_ ov), (7, i_ er), (25, (.tuple #[b_ false])), (26, b_ false), (54, b_ (er != 0)), (4, u_ ov), (5, i_ 0)] [] T0 (by kernel_rfl) trivial ?_))))
          refine A.tn (A.ret (A.postQ [u_ ov, i_ 0] (fun aa ww rr ss => ⟨rv_tmp rr rfl, rv_tmp rr rfl, trivial⟩) ?_))
          show ((.tuple #[u_ ov, i_ 0]) : Value) = (.tuple #[u_ (numV l m), i_ (numE l m)])
          have hok := (numOk_yes (l := l) (by first | assumption | exact p1.1 | (intro h_; subst h_; simp at p1)) (by (try simp [bs_beq, bs_inj] at e1); (try simp); omega) (by have hh_ := hD; rw [show k = l.length by omega] at hh_; exact hh_))
          have hvt : val (l.take k) = val l := by rw [show k = l.length by omega, List.take_length]
          obtain ⟨h1_, h2_⟩ : numV l m = ov ∧ numE l m = 0 := by (first | (have h_ := num_0 (l := l) (most := m) hok (by omega); exact ⟨h_.1.trans (by omega), h_.2.trans (by omega)⟩) | (have h_ := num_20 (l := l) (most := m) hok (by omega); exact ⟨h_.1.trans (by omega), h_.2.trans (by omega)⟩))
          rw [h1_, h2_]
      · skip
        refine A.goA [.p] [(1, u_ m), (24, p_ b1), (6, u_ ov), (7, i_ er), (25, (.tuple #[b_ true, c_ k, (.int .i32 (u2.toNat : Int))])), (26, b_ true)] [] T0 (by kernel_rfl) trivial ?_
        refine A.tn (A.seq (A.cond_t rfl (A.skip (A.tn (A.block (A.seq (A.region (A.goA [.p, .p] [(1, u_ m), (24, p_ b1), (6, u_ ov), (7, i_ er), (25, (.tuple #[b_ true, c_ k, (.int .i32 (u2.toNat : Int))])), (26, b_ true), (9, (.int .i32 (u2.toNat : Int)))] [] T0 (by kernel_rfl) trivial ?_))))))))
        refine A.tn (A.seq (A.seq (A.region (A.goA [.p, .p, .p, .o, .p, .p, .cl] [(1, u_ m), (24, p_ b1), (6, u_ ov), (7, i_ er), (25, (.tuple #[b_ true, c_ k, (.int .i32 (u2.toNat : Int))])), (26, b_ true), (9, (.int .i32 (u2.toNat : Int))), (33, b_ ((decide ((u2.toNat : Int) < 48)) || (decide ((u2.toNat : Int) > 57))))] [] T0 (by kernel_rfl) trivial ?_))))
        refine A.tn (A.cond (E := (decide ((u2.toNat : Int) < 48)) || (decide ((u2.toNat : Int) > 57))) rfl (fun e3 => ?_) (fun e3 => ?_))
        · skip
          have p3 := e3; try simp only [nrm, bs_inj, Bool.or_eq_true, Bool.or_eq_false_iff, Bool.and_eq_true, Bool.and_eq_false_imp, decide_eq_true_eq, decide_eq_false_iff_not] at p3
          refine A.seq (A.region (A.goA [.p, .p] [(1, u_ m), (24, p_ b1), (6, u_ ov), (7, i_ er), (25, (.tuple #[b_ true, c_ k, (.int .i32 (u2.toNat : Int))])), (26, b_ true), (9, (.int .i32 (u2.toNat : Int))), (33, b_ ((decide ((u2.toNat : Int) < 48)) || (decide ((u2.toNat : Int) > 57)))), (4, u_ 0), (5, i_ 4)] [] T0 (by kernel_rfl) trivial ?_))
          refine A.tn (A.ret (A.tr (A.br (A.tr (A.br (A.tr (A.postQ [u_ 0, i_ 4] (fun aa ww rr ss => ⟨rv_tmp rr rfl, rv_tmp rr rfl, trivial⟩) ?_)))))))
          show ((.tuple #[u_ 0, i_ 4]) : Value) = (.tuple #[u_ (numV l m), i_ (numE l m)])
          obtain ⟨h1_, h2_⟩ : numV l m = 0 ∧ numE l m = 4 := by first | exact num_4 m (numOk_no (by (try simp [bs_beq, bs_inj] at e1); (try simp); first | omega | (rcases e1 with h_ | h_; exact .inl h_; exact .inr (by omega)))) | exact num_4 m (numOk_not (by assumption) (by rw [isD_iff]; omega))
          rw [h1_, h2_]
        · skip
          have p3 := e3; try simp only [nrm, bs_inj, Bool.or_eq_true, Bool.or_eq_false_iff, Bool.and_eq_true, Bool.and_eq_false_imp, decide_eq_true_eq, decide_eq_false_iff_not] at p3
          refine A.skip (A.tn (A.seq ?_))
          have hdg : isD u2 = true := (isD_iff _).2 (by omega)
          have hvt_ := val_take hu2
          refine A.region (A.goA [.p, .w ((u2.toNat : Int) - 48), .w ((u2.toNat : Int) - 48), .p] [(1, u_ m), (24, p_ b1), (6, u_ ov), (7, i_ er), (25, (.tuple #[b_ true, c_ k, (.int .i32 (u2.toNat : Int))])), (26, b_ true), (9, (.int .i32 (u2.toNat : Int))), (33, b_ ((decide ((u2.toNat : Int) < 48)) || (decide ((u2.toNat : Int) > 57)))), (10, u_ ((u2.toNat : Int) - 48))] [] (fun κ => (IntKind.i32.wrap ((u2.toNat : Int) - 48) = ((u2.toNat : Int) - 48)) ∧ (IntKind.u64.wrap ((u2.toNat : Int) - 48) = ((u2.toNat : Int) - 48)) ∧ True) (by kernel_rfl) ⟨(wrap_i32 (e := (u2.toNat : Int) - 48) (by ((try (have h2_ := h_; simp at h2_)); constructor <;> omega))), wrap_u64 (e := (u2.toNat : Int) - 48) (by ((try (have h2_ := h_; simp at h2_)); constructor <;> omega)), trivial⟩ ?_)
          refine A.tn (A.seq (A.seq (A.region (A.goA [.p, .p, .w (m / 10), .p, .p, .o, .p, .w (ov * 10), .p, .p, .w (m - ((u2.toNat : Int) - 48)), .p, .cl] [(1, u_ m), (24, p_ b1), (6, u_ ov), (7, i_ er), (25, (.tuple #[b_ true, c_ k, (.int .i32 (u2.toNat : Int))])), (26, b_ true), (9, (.int .i32 (u2.toNat : Int))), (33, b_ ((decide ((u2.toNat : Int) < 48)) || (decide ((u2.toNat : Int) > 57)))), (10, u_ ((u2.toNat : Int) - 48)), (48, b_ ((decide (ov > (m / 10))) || (decide ((ov * 10) > (m - ((u2.toNat : Int) - 48))))))] [] (fun κ => (IntKind.u64.wrap (m.tdiv 10) = m / 10) ∧ ((true && ((decide (ov > (m / 10))) == false)) = true → (IntKind.u64.wrap (ov * 10) = (ov * 10))) ∧ ((true && ((decide (ov > (m / 10))) == false)) = true → (IntKind.u64.wrap (m - ((u2.toNat : Int) - 48)) = (m - ((u2.toNat : Int) - 48)))) ∧ True) (by kernel_rfl) ⟨(u_tdiv (by omega) (by decide)), (fun h_ => (wrap_u64 (e := ov * 10) (by ((try (have h2_ := h_; simp at h2_)); constructor <;> omega)))), (fun h_ => (wrap_u64 (e := m - ((u2.toNat : Int) - 48)) (by ((try (have h2_ := h_; simp at h2_)); constructor <;> omega)))), trivial⟩ ?_))))
          refine A.tn (A.cond (E := (decide (ov > (m / 10))) || (decide ((ov * 10) > (m - ((u2.toNat : Int) - 48))))) rfl (fun e4 => ?_) (fun e4 => ?_))
          · skip
            have p4 := e4; try simp only [nrm, bs_inj, Bool.or_eq_true, Bool.or_eq_false_iff, Bool.and_eq_true, Bool.and_eq_false_imp, decide_eq_true_eq, decide_eq_false_iff_not] at p4
            refine A.seq (A.region (A.goA [.p] [(1, u_ m), (24, p_ b1), (6, u_ ov), (7, i_ 20), (25, (.tuple #[b_ true, c_ k, (.int .i32 (u2.toNat : Int))])), (26, b_ true), (9, (.int .i32 (u2.toNat : Int))), (33, b_ ((decide ((u2.toNat : Int) < 48)) || (decide ((u2.toNat : Int) > 57)))), (10, u_ ((u2.toNat : Int) - 48)), (48, b_ ((decide (ov > (m / 10))) || (decide ((ov * 10) > (m - ((u2.toNat : Int) - 48))))))] [] T0 (by kernel_rfl) trivial ?_))
            refine A.tn (A.seq (A.region (A.goA [.p] [(1, u_ m), (24, p_ b1), (6, u_ 0), (7, i_ 20), (25, (.tuple #[b_ true, c_ k, (.int .i32 (u2.toNat : Int))])), (26, b_ true), (9, (.int .i32 (u2.toNat : Int))), (33, b_ ((decide ((u2.toNat : Int) < 48)) || (decide ((u2.toNat : Int) > 57)))), (10, u_ ((u2.toNat : Int) - 48)), (48, b_ ((decide (ov > (m / 10))) || (decide ((ov * 10) > (m - ((u2.toNat : Int) - 48))))))] [] T0 (by kernel_rfl) trivial ?_)))
            refine A.tn (A.exit (A.te (A.bh (A.tn (A.next (k + 1, 0, 20) ⟨(by (have := (List.getElem?_eq_some_iff.1 (by assumption)).1; omega)), (by exact all_take hD (by assumption) hdg), (by omega), (by omega)⟩ (by (have h_ := (List.getElem?_eq_some_iff.1 (by assumption : l[k]? = some _)).1; show l.length - (k + 1) < l.length - k; omega)) ?_)))))
            exact A.hereK [0] (by exact ⟨rfl, rfl, rfl, rfl, trivial⟩) (by kernel_rfl)
          · skip
            have p4 := e4; try simp only [nrm, bs_inj, Bool.or_eq_true, Bool.or_eq_false_iff, Bool.and_eq_true, Bool.and_eq_false_imp, decide_eq_true_eq, decide_eq_false_iff_not] at p4
            refine A.skip (A.tn (A.region (A.goA [.p, .w (ov * 10), .p, .w ((ov * 10) + ((u2.toNat : Int) - 48)), .p] [(1, u_ m), (24, p_ b1), (6, u_ ((ov * 10) + ((u2.toNat : Int) - 48))), (7, i_ er), (25, (.tuple #[b_ true, c_ k, (.int .i32 (u2.toNat : Int))])), (26, b_ true), (9, (.int .i32 (u2.toNat : Int))), (33, b_ ((decide ((u2.toNat : Int) < 48)) || (decide ((u2.toNat : Int) > 57)))), (10, u_ ((u2.toNat : Int) - 48)), (48, b_ ((decide (ov > (m / 10))) || (decide ((ov * 10) > (m - ((u2.toNat : Int) - 48))))))] [] (fun κ => (IntKind.u64.wrap (ov * 10) = (ov * 10)) ∧ (IntKind.u64.wrap ((ov * 10) + ((u2.toNat : Int) - 48)) = ((ov * 10) + ((u2.toNat : Int) - 48))) ∧ True) (by kernel_rfl) ⟨(wrap_u64 (e := ov * 10) (by ((try (have h2_ := h_; simp at h2_)); constructor <;> omega))), wrap_u64 (e := (ov * 10) + ((u2.toNat : Int) - 48)) (by ((try (have h2_ := h_; simp at h2_)); constructor <;> omega)), trivial⟩ ?_)))
            refine A.bn (A.tn (A.next (k + 1, (ov * 10) + ((u2.toNat : Int) - 48), er) ⟨(by (have := (List.getElem?_eq_some_iff.1 (by assumption)).1; omega)), (by exact all_take hD (by assumption) hdg), (by omega), (by omega)⟩ (by (have h_ := (List.getElem?_eq_some_iff.1 (by assumption : l[k]? = some _)).1; show l.length - (k + 1) < l.length - k; omega)) ?_))
            exact A.hereK [0] (by exact ⟨rfl, rfl, rfl, rfl, trivial⟩) (by kernel_rfl)
      · skip
        refine A.goA [.p] [(1, u_ m), (24, p_ b1), (6, u_ ov), (7, i_ er), (25, (.tuple #[b_ true, c_ k, (.int .i32 (c2 : Int))])), (26, b_ true)] [] T0 (by kernel_rfl) trivial ?_
        refine A.tn (A.seq (A.cond_t rfl (A.skip (A.tn (A.block (A.seq (A.region (A.goA [.p, .p] [(1, u_ m), (24, p_ b1), (6, u_ ov), (7, i_ er), (25, (.tuple #[b_ true, c_ k, (.int .i32 (c2 : Int))])), (26, b_ true), (9, (.int .i32 (c2 : Int)))] [] T0 (by kernel_rfl) trivial ?_))))))))
        refine A.tn (A.seq (A.seq (A.region (A.goA [.p, .p, .p, .o, .p, .p, .cl] [(1, u_ m), (24, p_ b1), (6, u_ ov), (7, i_ er), (25, (.tuple #[b_ true, c_ k, (.int .i32 (c2 : Int))])), (26, b_ true), (9, (.int .i32 (c2 : Int))), (33, b_ ((decide ((c2 : Int) < 48)) || (decide ((c2 : Int) > 57))))] [] T0 (by kernel_rfl) trivial ?_))))
        refine A.tn (A.cond (E := (decide ((c2 : Int) < 48)) || (decide ((c2 : Int) > 57))) rfl (fun e5 => ?_) (fun e5 => ?_))
        · skip
          have p5 := e5; try simp only [nrm, bs_inj, Bool.or_eq_true, Bool.or_eq_false_iff, Bool.and_eq_true, Bool.and_eq_false_imp, decide_eq_true_eq, decide_eq_false_iff_not] at p5
          refine A.seq (A.region (A.goA [.p, .p] [(1, u_ m), (24, p_ b1), (6, u_ ov), (7, i_ er), (25, (.tuple #[b_ true, c_ k, (.int .i32 (c2 : Int))])), (26, b_ true), (9, (.int .i32 (c2 : Int))), (33, b_ ((decide ((c2 : Int) < 48)) || (decide ((c2 : Int) > 57)))), (4, u_ 0), (5, i_ 4)] [] T0 (by kernel_rfl) trivial ?_))
          refine A.tn (A.ret (A.tr (A.br (A.tr (A.br (A.tr (A.postQ [u_ 0, i_ 4] (fun aa ww rr ss => ⟨rv_tmp rr rfl, rv_tmp rr rfl, trivial⟩) ?_)))))))
          show ((.tuple #[u_ 0, i_ 4]) : Value) = (.tuple #[u_ (numV l m), i_ (numE l m)])
          obtain ⟨h1_, h2_⟩ : numV l m = 0 ∧ numE l m = 4 := by first | exact num_4 m (numOk_no (by (try simp [bs_beq, bs_inj] at e1); (try simp); first | omega | (rcases e1 with h_ | h_; exact .inl h_; exact .inr (by omega)))) | exact num_4 m (numOk_not (by assumption) (by rw [isD_iff]; omega))
          rw [h1_, h2_]
        · skip
          have p5 := e5; try simp only [nrm, bs_inj, Bool.or_eq_true, Bool.or_eq_false_iff, Bool.and_eq_true, Bool.and_eq_false_imp, decide_eq_true_eq, decide_eq_false_iff_not] at p5
          refine A.skip (A.tn (A.seq ?_))
          exfalso; omega

set_option maxHeartbeats 4000000 in
set_option maxRecDepth 100000 in
theorem ttens_spec (v : Int) (hv : 0 ≤ v ∧ v < 18446744073709551616) (w : World) :
    Calls Tryd.prog 47 #[u_ v] w fun e w' => e = .returned (s_ (bs (tens v))) ∧ Fr [] w w' := by
  refine calls_of (args := [u_ v]) (penv [u_ v]) [] [] Tryd.func47 rfl rfl (look_penv _) (HS.nil w) ?_
  refine A.norm [(0, u_ v)] [] (by exact ⟨rfl, trivial⟩) rfl ?_
  refine A.seq (A.region (A.goA [.p] [(0, u_ v), (2, s_ (bs []))] [] T0 (by kernel_rfl) trivial ?_))
  refine A.tn (A.seq (A.region (A.goP [.p] [(0, u_ v), (2, s_ (bs [])), (4, u_ v)] [] T0 (by kernel_rfl) trivial ?_)))
  refine A.cons (A.q (some 5) (u_ (v % 10)) (by kernel_rfl) (qt_as (congrArg (Value.int .u64) (u_tmod (by omega))) (qt_pure (v := .int .u64 (v.tmod 10)) (by kernel_rfl) fun _ => by kernel_rfl)) ?_)
  refine A.goP [.w (48 + (v % 10)), .w (48 + (v % 10))] [(0, u_ v), (2, s_ (bs [])), (7, y_ (48 + (v % 10)))] [] (fun κ => (IntKind.u64.wrap (48 + (v % 10)) = (48 + (v % 10))) ∧ (IntKind.u8.wrap (48 + (v % 10)) = (48 + (v % 10))) ∧ True) (by kernel_rfl) ⟨(wrap_u64 (e := 48 + (v % 10)) (by constructor <;> omega)), wrap_u8 (e := 48 + (v % 10)) (by constructor <;> omega), trivial⟩ ?_
  refine A.cons (A.buildSlice 8 (e := 5) [y_ (48 + (v % 10))] (by kernel_rfl) rfl (fun _ => by kernel_rfl) (fun b1 => [blk b1 [y_ (48 + (v % 10))] 5]) (fun _ => rfl) ?_)
  intro b1
  refine A.cons (A.q (some 9) (s_ (bs [UInt8.ofNat (Int.toNat (48 + (v % 10)))])) (by kernel_rfl) (qt_b2s (e := 5) (ns := [48 + (v % 10)]) rfl rfl (by kernel_rfl) (by kernel_rfl) (by kernel_rfl) (reads_blk (i := 0) rfl rfl)) ?_)
  refine A.goA [.p] [(0, u_ v), (2, s_ (bs [])), (3, s_ (bs [UInt8.ofNat (Int.toNat (48 + (v % 10)))]))] [] T0 (by kernel_rfl) trivial ?_
  refine A.tn (A.seq (A.seq (A.region (A.goA [.p, .w (v / 10), .p] [(0, u_ (v / 10)), (2, s_ (bs [])), (3, s_ (bs [UInt8.ofNat (Int.toNat (48 + (v % 10)))]))] [] (fun κ => (IntKind.u64.wrap (v.tdiv 10) = v / 10) ∧ True) (by kernel_rfl) ⟨(u_tdiv (by omega) (by decide)), trivial⟩ ?_))))
  refine A.tn (A.block (A.loop (fun (zz : Int × (List UInt8)) => match zz with | (q, m) => [(2, s_ (bs [])), (0, u_ q), (3, s_ (bs m))]) (fun (zz : Int × (List UInt8)) => match zz with | (q, m) => [blk b1 [y_ (48 + (v % 10))] 5]) (fun (zz : Int × (List UInt8)) => match zz with | (q, m) => (0 ≤ q ∧ q < 18446744073709551616) ∧ (tens v = (if q = 0 then [] else tens q) ++ m)) (fun (zz : Int × (List UInt8)) => match zz with | (q, m) => q.toNat) (v / 10, [UInt8.ofNat (Int.toNat (48 + (v % 10)))]) ⟨(by omega), (by exact tens_step hv.1)⟩ ?_ ?_))
  · exact A.hereK [0] (by exact ⟨rfl, rfl, rfl, trivial⟩) (by kernel_rfl)
  · rintro ⟨q, m⟩ ⟨hq, hm⟩
    refine A.norm [(2, s_ (bs [])), (0, u_ q), (3, s_ (bs m))] [blk b1 [y_ (48 + (v % 10))] 5] (by exact ⟨rfl, rfl, rfl, trivial⟩) rfl ?_
    refine A.seq (A.seq (A.region (A.goA [.p, .p] [(2, s_ (bs [])), (0, u_ q), (3, s_ (bs m)), (13, b_ (decide (q > 0)))] [] T0 (by kernel_rfl) trivial ?_)))
    refine A.tn (A.cond (E := decide (q > 0)) rfl (fun e1 => ?_) (fun e1 => ?_))
    · skip
      have p1 := of_decide_eq_true e1
      refine A.skip (A.tn (A.seq (A.block (A.region (A.goP [.p] [(2, s_ (bs [])), (0, u_ q), (3, s_ (bs m)), (13, b_ (decide (q > 0))), (16, u_ q)] [] T0 (by kernel_rfl) trivial ?_)))))
      refine A.cons (A.q (some 17) (u_ (q % 10)) (by kernel_rfl) (qt_as (congrArg (Value.int .u64) (u_tmod (by omega))) (qt_pure (v := .int .u64 (q.tmod 10)) (by kernel_rfl) fun _ => by kernel_rfl)) ?_)
      refine A.goP [.w (48 + (q % 10)), .w (48 + (q % 10))] [(2, s_ (bs [])), (0, u_ q), (3, s_ (bs m)), (13, b_ (decide (q > 0))), (19, y_ (48 + (q % 10)))] [] (fun κ => (IntKind.u64.wrap (48 + (q % 10)) = (48 + (q % 10))) ∧ (IntKind.u8.wrap (48 + (q % 10)) = (48 + (q % 10))) ∧ True) (by kernel_rfl) ⟨(wrap_u64 (e := 48 + (q % 10)) (by constructor <;> omega)), wrap_u8 (e := 48 + (q % 10)) (by constructor <;> omega), trivial⟩ ?_
      refine A.cons (A.buildSlice 20 (e := 5) [y_ (48 + (q % 10))] (by kernel_rfl) rfl (fun _ => by kernel_rfl) (fun b2 => [blk b1 [y_ (48 + (v % 10))] 5, blk b2 [y_ (48 + (q % 10))] 5]) (fun _ => rfl) ?_)
      intro b2
      refine A.cons (A.q (some 21) (s_ (bs [UInt8.ofNat (Int.toNat (48 + (q % 10)))])) (by kernel_rfl) (qt_b2s (e := 5) (ns := [48 + (q % 10)]) rfl rfl (by kernel_rfl) (by kernel_rfl) (by kernel_rfl) (reads_blk (i := 1) rfl rfl)) ?_)
      refine A.goA [.p, .ct, .p] [(2, s_ (bs [])), (0, u_ q), (3, s_ (bs (([UInt8.ofNat (Int.toNat (48 + (q % 10)))]) ++ m))), (13, b_ (decide (q > 0)))] [] (fun κ => ([UInt8.ofNat (Int.toNat (48 + (q % 10)))]).length + m.length ≤ 9223372036854775807 ∧ True) (by kernel_rfl) ⟨(by have hlt_ := tens_len (v := v) (by omega); rw [hm] at hlt_; simp at hlt_; simp; omega), trivial⟩ ?_
      refine A.bn (A.tn (A.region (A.goA [.p, .w (q / 10), .p] [(2, s_ (bs [])), (0, u_ (q / 10)), (3, s_ (bs (([UInt8.ofNat (Int.toNat (48 + (q % 10)))]) ++ m))), (13, b_ (decide (q > 0)))] [] (fun κ => (IntKind.u64.wrap (q.tdiv 10) = q / 10) ∧ True) (by kernel_rfl) ⟨(u_tdiv (by omega) (by decide)), trivial⟩ ?_)))
      refine A.tn (A.next (q / 10, ([UInt8.ofNat (Int.toNat (48 + (q % 10)))]) ++ m) ⟨(by omega), (by (rw [hm, if_neg (by omega), tens_step hq.1, List.append_assoc]))⟩ (by (show (q / 10).toNat < q.toNat; omega)) ?_)
      exact A.hereK [0] (by exact ⟨rfl, rfl, rfl, trivial⟩) (by kernel_rfl)
    · skip
      have p1 := of_decide_eq_false e1
      refine A.exit (A.te (A.te (A.bh (A.tn (A.seq (A.region (A.goA [.p, .p] [(2, s_ (bs m)), (0, u_ q), (3, s_ (bs m)), (13, b_ (decide (q > 0)))] [] T0 (by kernel_rfl) trivial ?_)))))))
      refine A.tn (A.ret (A.postQ [s_ (bs m)] (fun aa ww rr ss => ⟨rv_tmp rr rfl, trivial⟩) ?_))
      show ((s_ (bs m)) : Value) = (s_ (bs (tens v)))
      (obtain rfl : q = 0 := by omega); rw [hm]; rfl

set_option maxHeartbeats 4000000 in
set_option maxRecDepth 100000 in
theorem ctI_spec (ai : Option Addr) (xs : List Int) (ci : Nat) (v : Int) (hxs : xs.length ≤ 1000000) (w : World) (r0 : arrAt w ai (V.flat encI xs)) :
    Calls Tryd.prog 59 #[vS ai xs ci, i_ v] w fun e w' => e = .returned (b_ (xs.contains v)) ∧ Fr [] w w' := by
  refine calls_of (args := [vS ai xs ci, i_ v]) (penv [vS ai xs ci, i_ v]) [] [] Tryd.func59 rfl rfl (look_penv _) (HS.nil w) ?_
  refine A.norm [(0, vS ai xs ci), (1, i_ v)] [] (by exact ⟨rfl, rfl, trivial⟩) rfl ?_
  refine A.seq (A.region (A.goA [.p] [(0, vS ai xs ci), (1, i_ v), (4, b_ false)] [] T0 (by kernel_rfl) trivial ?_))
  refine A.tn (A.seq (A.region (A.goP [.p, .p] [(0, vS ai xs ci), (1, i_ v), (4, b_ false), (5, vS ai xs ci), (6, i_ v)] [] T0 (by kernel_rfl) trivial ?_)))
  refine A.cons (A.inlX (some 7) [vS ai xs ci, i_ v] [(0, vS ai xs ci), (1, i_ v)] (by kernel_rfl) rfl Tryd.func67 rfl rfl ?_)
  refine A.seq (A.region (A.goA [.p] [(0, vS ai xs ci), (1, i_ v), (4, i_ 0)] [] T0 (by kernel_rfl) trivial ?_))
  refine A.tn (A.seq (A.seq (A.region (A.goA [.p, .p, .p] [(0, vS ai xs ci), (1, i_ v), (4, i_ 0), (7, c_ xs.length), (8, i_ 0)] [] T0 (by kernel_rfl) trivial ?_))))
  refine A.tn (A.block (A.loop (fun (zz : Nat) => match zz with | k => [(0, vS ai xs ci), (1, i_ v), (7, c_ xs.length), (8, c_ k)]) (fun (zz : Nat) => match zz with | k => []) (fun (zz : Nat) => match zz with | k => (k ≤ xs.length) ∧ (∀ x ∈ xs.take k, ¬ v = x)) (fun (zz : Nat) => match zz with | k => xs.length - k) (0 : Nat) ⟨(by omega), (by simp)⟩ ?_ ?_))
  · exact A.hereK [] (by exact ⟨rfl, rfl, rfl, rfl, trivial⟩) (by kernel_rfl)
  · rintro k ⟨hk, hn⟩
    refine A.norm [(0, vS ai xs ci), (1, i_ v), (7, c_ xs.length), (8, c_ k)] [] (by exact ⟨rfl, rfl, rfl, rfl, trivial⟩) rfl ?_
    refine A.seq (A.region (A.goA [.p] [(0, vS ai xs ci), (1, i_ v), (7, c_ xs.length), (8, c_ k), (9, b_ (decide ((k : Int) < (xs.length : Int))))] [] T0 (by kernel_rfl) trivial ?_))
    refine A.tn (A.seq (A.cond (E := decide ((k : Int) < (xs.length : Int))) rfl (fun e1 => ?_) (fun e1 => ?_)))
    · skip
      have p1 := of_decide_eq_true e1
      refine A.skip (A.tn (A.seq (A.block (A.seq (A.region (A.goA [.p, .p] [(0, vS ai xs ci), (1, i_ v), (7, c_ xs.length), (8, c_ k), (9, b_ (decide ((k : Int) < (xs.length : Int)))), (5, c_ k)] [] T0 (by kernel_rfl) trivial ?_))))))
      refine A.tn (A.seq (A.region (A.goP [.p, .p, .p, .ix] [(0, vS ai xs ci), (1, i_ v), (7, c_ xs.length), (8, c_ k), (9, b_ (decide ((k : Int) < (xs.length : Int)))), (5, c_ k), (11, i_ v), (14, (.pointer (some ((at0 ai).add (k * 1)))))] [] (fun κ => κ.ix ai xs.length (k : Int) ∧ True) (by kernel_rfl) ⟨(ixOf encI_len (by decide) (rd_old r0 (by simp [feet])) (by first | omega | (simp; omega) | (simp; done))), trivial⟩ ?_)))
      obtain ⟨x1, hx1⟩ : ∃ x, (xs)[k]? = some x := ⟨_, List.getElem?_eq_getElem (by omega)⟩
      refine A.goA [.rd [i_ x1], .p] [(0, vS ai xs ci), (1, i_ v), (7, c_ xs.length), (8, c_ k), (9, b_ (decide ((k : Int) < (xs.length : Int)))), (5, c_ k), (16, b_ (v == x1))] [] (fun κ => κ.rd ((at0 ai).add (k * 1)) [i_ x1] ∧ True) (by kernel_rfl) ⟨(reads_at0 (vs := [i_ x1]) encI_len (rd_old r0 (by simp [feet])) hx1 (Nat.le_of_ble_eq_true rfl) rfl), trivial⟩ ?_
      refine A.tn (A.cond (E := v == x1) rfl (fun e2 => ?_) (fun e2 => ?_))
      · skip
        have p2 := e2; try simp only [nrm, bs_inj, Bool.or_eq_true, Bool.or_eq_false_iff, Bool.and_eq_true, Bool.and_eq_false_imp, decide_eq_true_eq, decide_eq_false_iff_not] at p2
        refine A.seq (A.region (A.goA [.p, .p] [(0, vS ai xs ci), (1, i_ v), (7, c_ xs.length), (8, c_ k), (9, b_ (decide ((k : Int) < (xs.length : Int)))), (5, c_ k), (16, b_ (v == x1)), (4, c_ k)] [] T0 (by kernel_rfl) trivial ?_))
        refine A.tn (A.ret (A.br (A.tr (A.tr (A.br (A.tr (A.post [c_ k] (fun aa ww rr ss => ⟨rv_tmp rr rfl, trivial⟩) (A.back (by kernel_rfl) ?_))))))))
        refine A.goA [.p, .p] [(0, vS ai xs ci), (1, i_ v), (4, b_ (decide ((k : Int) ≥ 0)))] [] T0 (by kernel_rfl) trivial ?_
        refine A.tn (A.ret (A.postQ [b_ (decide ((k : Int) ≥ 0))] (fun aa ww rr ss => ⟨rv_tmp rr rfl, trivial⟩) ?_))
        show ((b_ (decide ((k : Int) ≥ 0))) : Value) = (b_ (xs.contains v))
        refine congrArg Value.bool ?_; first | (rw [cont_at (v := v) (by assumption) (by first | assumption | (symm; assumption) | fail)]; first | done | (simp; done)) | (rw [cont_no (v := v) hn (by first | omega | fail)]; first | done | rfl | (simp; done))
      · skip
        have p2 := e2; try simp only [nrm, bs_inj, Bool.or_eq_true, Bool.or_eq_false_iff, Bool.and_eq_true, Bool.and_eq_false_imp, decide_eq_true_eq, decide_eq_false_iff_not] at p2
        refine A.skip (A.bn (A.tn (A.region (A.goA [.w ((k : Int) + 1), .p] [(0, vS ai xs ci), (1, i_ v), (7, c_ xs.length), (8, i_ ((k : Int) + 1)), (9, b_ (decide ((k : Int) < (xs.length : Int)))), (5, c_ k), (16, b_ (v == x1))] [] (fun κ => (IntKind.i64.wrap ((k : Int) + 1) = ((k : Int) + 1)) ∧ True) (by kernel_rfl) ⟨(wrap_i64 (e := (k : Int) + 1) (by constructor <;> omega)), trivial⟩ ?_))))
        refine A.tn (A.next (k + 1) ⟨(by omega), (by exact no_step hn (by assumption) (by first | assumption | (intro h_; simp_all; done) | fail))⟩ (by (show xs.length - (k + 1) < xs.length - k; omega)) ?_)
        exact A.hereK [] (by exact ⟨rfl, rfl, rfl, rfl, trivial⟩) (by kernel_rfl)
    · skip
      have p1 := of_decide_eq_false e1
      refine A.exit (A.te (A.te (A.bh (A.tn (A.seq (A.region (A.goA [.p] [(0, vS ai xs ci), (1, i_ v), (7, c_ xs.length), (8, c_ k), (9, b_ (decide ((k : Int) < (xs.length : Int)))), (4, i_ (-1))] [] T0 (by kernel_rfl) trivial ?_)))))))
      refine A.tn (A.ret (A.post [i_ (-1)] (fun aa ww rr ss => ⟨rv_tmp rr rfl, trivial⟩) (A.back (by kernel_rfl) ?_)))
      refine A.goA [.p, .p] [(0, vS ai xs ci), (1, i_ v), (4, b_ false)] [] T0 (by kernel_rfl) trivial ?_
      refine A.tn (A.ret (A.postQ [b_ false] (fun aa ww rr ss => ⟨rv_tmp rr rfl, trivial⟩) ?_))
      show ((b_ false) : Value) = (b_ (xs.contains v))
      refine congrArg Value.bool ?_; first | (rw [cont_at (v := v) (by assumption) (by first | assumption | (symm; assumption) | fail)]; first | done | (simp; done)) | (rw [cont_no (v := v) hn (by first | omega | fail)]; first | done | rfl | (simp; done))

set_option maxHeartbeats 4000000 in
set_option maxRecDepth 100000 in
theorem ctS_spec (ai : Option Addr) (xs : List (List UInt8)) (ci : Nat) (v : List UInt8) (hxs : xs.length ≤ 1000000) (w : World) (r0 : arrAt w ai (V.flat encS xs)) :
    Calls Tryd.prog 48 #[vS ai xs ci, s_ (bs v)] w fun e w' => e = .returned (b_ (xs.contains v)) ∧ Fr [] w w' := by
  refine calls_of (args := [vS ai xs ci, s_ (bs v)]) (penv [vS ai xs ci, s_ (bs v)]) [] [] Tryd.func48 rfl rfl (look_penv _) (HS.nil w) ?_
  refine A.norm [(0, vS ai xs ci), (1, s_ (bs v))] [] (by exact ⟨rfl, rfl, trivial⟩) rfl ?_
  refine A.seq (A.region (A.goA [.p] [(0, vS ai xs ci), (1, s_ (bs v)), (4, b_ false)] [] T0 (by kernel_rfl) trivial ?_))
  refine A.tn (A.seq (A.region (A.goP [.p, .p] [(0, vS ai xs ci), (1, s_ (bs v)), (4, b_ false), (5, vS ai xs ci), (6, s_ (bs v))] [] T0 (by kernel_rfl) trivial ?_)))
  refine A.cons (A.inlX (some 7) [vS ai xs ci, s_ (bs v)] [(0, vS ai xs ci), (1, s_ (bs v))] (by kernel_rfl) rfl Tryd.func60 rfl rfl ?_)
  refine A.seq (A.region (A.goA [.p] [(0, vS ai xs ci), (1, s_ (bs v)), (4, i_ 0)] [] T0 (by kernel_rfl) trivial ?_))
  refine A.tn (A.seq (A.seq (A.region (A.goA [.p, .p, .p] [(0, vS ai xs ci), (1, s_ (bs v)), (4, i_ 0), (7, c_ xs.length), (8, i_ 0)] [] T0 (by kernel_rfl) trivial ?_))))
  refine A.tn (A.block (A.loop (fun (zz : Nat) => match zz with | k => [(0, vS ai xs ci), (1, s_ (bs v)), (7, c_ xs.length), (8, c_ k)]) (fun (zz : Nat) => match zz with | k => []) (fun (zz : Nat) => match zz with | k => (k ≤ xs.length) ∧ (∀ x ∈ xs.take k, ¬ v = x)) (fun (zz : Nat) => match zz with | k => xs.length - k) (0 : Nat) ⟨(by omega), (by simp)⟩ ?_ ?_))
  · exact A.hereK [] (by exact ⟨rfl, rfl, rfl, rfl, trivial⟩) (by kernel_rfl)
  · rintro k ⟨hk, hn⟩
    refine A.norm [(0, vS ai xs ci), (1, s_ (bs v)), (7, c_ xs.length), (8, c_ k)] [] (by exact ⟨rfl, rfl, rfl, rfl, trivial⟩) rfl ?_
    refine A.seq (A.region (A.goA [.p] [(0, vS ai xs ci), (1, s_ (bs v)), (7, c_ xs.length), (8, c_ k), (9, b_ (decide ((k : Int) < (xs.length : Int))))] [] T0 (by kernel_rfl) trivial ?_))
    refine A.tn (A.seq (A.cond (E := decide ((k : Int) < (xs.length : Int))) rfl (fun e1 => ?_) (fun e1 => ?_)))
    · skip
      have p1 := of_decide_eq_true e1
      refine A.skip (A.tn (A.seq (A.block (A.seq (A.region (A.goA [.p, .p] [(0, vS ai xs ci), (1, s_ (bs v)), (7, c_ xs.length), (8, c_ k), (9, b_ (decide ((k : Int) < (xs.length : Int)))), (5, c_ k)] [] T0 (by kernel_rfl) trivial ?_))))))
      refine A.tn (A.seq (A.region (A.goP [.p, .p, .p, .ix] [(0, vS ai xs ci), (1, s_ (bs v)), (7, c_ xs.length), (8, c_ k), (9, b_ (decide ((k : Int) < (xs.length : Int)))), (5, c_ k), (11, s_ (bs v)), (14, (.pointer (some ((at0 ai).add (k * 1)))))] [] (fun κ => κ.ix ai xs.length (k : Int) ∧ True) (by kernel_rfl) ⟨(ixOf encS_len (by decide) (rd_old r0 (by simp [feet])) (by first | omega | (simp; omega) | (simp; done))), trivial⟩ ?_)))
      obtain ⟨x1, hx1⟩ : ∃ x, (xs)[k]? = some x := ⟨_, List.getElem?_eq_getElem (by omega)⟩
      refine A.goA [.rd [s_ (bs x1)], .eq] [(0, vS ai xs ci), (1, s_ (bs v)), (7, c_ xs.length), (8, c_ k), (9, b_ (decide ((k : Int) < (xs.length : Int)))), (5, c_ k), (16, b_ ((bs v) == (bs x1)))] [] (fun κ => κ.rd ((at0 ai).add (k * 1)) [s_ (bs x1)] ∧ True) (by kernel_rfl) ⟨(reads_at0 (vs := [s_ (bs x1)]) encS_len (rd_old r0 (by simp [feet])) hx1 (Nat.le_of_ble_eq_true rfl) rfl), trivial⟩ ?_
      refine A.tn (A.cond (E := (bs v) == (bs x1)) rfl (fun e2 => ?_) (fun e2 => ?_))
      · skip
        have p2 := e2; try simp only [nrm, bs_inj, Bool.or_eq_true, Bool.or_eq_false_iff, Bool.and_eq_true, Bool.and_eq_false_imp, decide_eq_true_eq, decide_eq_false_iff_not] at p2
        refine A.seq (A.region (A.goA [.p, .p] [(0, vS ai xs ci), (1, s_ (bs v)), (7, c_ xs.length), (8, c_ k), (9, b_ (decide ((k : Int) < (xs.length : Int)))), (5, c_ k), (16, b_ ((bs v) == (bs x1))), (4, c_ k)] [] T0 (by kernel_rfl) trivial ?_))
        refine A.tn (A.ret (A.br (A.tr (A.tr (A.br (A.tr (A.post [c_ k] (fun aa ww rr ss => ⟨rv_tmp rr rfl, trivial⟩) (A.back (by kernel_rfl) ?_))))))))
        refine A.goA [.p, .p] [(0, vS ai xs ci), (1, s_ (bs v)), (4, b_ (decide ((k : Int) ≥ 0)))] [] T0 (by kernel_rfl) trivial ?_
        refine A.tn (A.ret (A.postQ [b_ (decide ((k : Int) ≥ 0))] (fun aa ww rr ss => ⟨rv_tmp rr rfl, trivial⟩) ?_))
        show ((b_ (decide ((k : Int) ≥ 0))) : Value) = (b_ (xs.contains v))
        refine congrArg Value.bool ?_; first | (rw [cont_at (v := v) (by assumption) (by first | assumption | (symm; assumption) | fail)]; first | done | (simp; done)) | (rw [cont_no (v := v) hn (by first | omega | fail)]; first | done | rfl | (simp; done))
      · skip
        have p2 := e2; try simp only [nrm, bs_inj, Bool.or_eq_true, Bool.or_eq_false_iff, Bool.and_eq_true, Bool.and_eq_false_imp, decide_eq_true_eq, decide_eq_false_iff_not] at p2
        refine A.skip (A.bn (A.tn (A.region (A.goA [.w ((k : Int) + 1), .p] [(0, vS ai xs ci), (1, s_ (bs v)), (7, c_ xs.length), (8, i_ ((k : Int) + 1)), (9, b_ (decide ((k : Int) < (xs.length : Int)))), (5, c_ k), (16, b_ ((bs v) == (bs x1)))] [] (fun κ => (IntKind.i64.wrap ((k : Int) + 1) = ((k : Int) + 1)) ∧ True) (by kernel_rfl) ⟨(wrap_i64 (e := (k : Int) + 1) (by constructor <;> omega)), trivial⟩ ?_))))
        refine A.tn (A.next (k + 1) ⟨(by omega), (by exact no_step hn (by assumption) (by first | assumption | (intro h_; simp_all; done) | fail))⟩ (by (show xs.length - (k + 1) < xs.length - k; omega)) ?_)
        exact A.hereK [] (by exact ⟨rfl, rfl, rfl, rfl, trivial⟩) (by kernel_rfl)
    · skip
      have p1 := of_decide_eq_false e1
      refine A.exit (A.te (A.te (A.bh (A.tn (A.seq (A.region (A.goA [.p] [(0, vS ai xs ci), (1, s_ (bs v)), (7, c_ xs.length), (8, c_ k), (9, b_ (decide ((k : Int) < (xs.length : Int)))), (4, i_ (-1))] [] T0 (by kernel_rfl) trivial ?_)))))))
      refine A.tn (A.ret (A.post [i_ (-1)] (fun aa ww rr ss => ⟨rv_tmp rr rfl, trivial⟩) (A.back (by kernel_rfl) ?_)))
      refine A.goA [.p, .p] [(0, vS ai xs ci), (1, s_ (bs v)), (4, b_ false)] [] T0 (by kernel_rfl) trivial ?_
      refine A.tn (A.ret (A.postQ [b_ false] (fun aa ww rr ss => ⟨rv_tmp rr rfl, trivial⟩) ?_))
      show ((b_ false) : Value) = (b_ (xs.contains v))
      refine congrArg Value.bool ?_; first | (rw [cont_at (v := v) (by assumption) (by first | assumption | (symm; assumption) | fail)]; first | done | (simp; done)) | (rw [cont_no (v := v) hn (by first | omega | fail)]; first | done | rfl | (simp; done))

set_option maxHeartbeats 4000000 in
set_option maxRecDepth 100000 in
theorem has_spec (ai : Option Addr) (xs : List Int) (ci : Nat) (v : Int) (hxs : xs.length ≤ 1000000) (w : World) (r0 : arrAt w ai (V.flat encI xs)) :
    Calls Tryd.prog 44 #[vS ai xs ci, i_ v] w fun e w' => e = .returned (b_ (xs.contains v)) ∧ Fr [] w w' := by
  refine calls_of (args := [vS ai xs ci, i_ v]) (penv [vS ai xs ci, i_ v]) [] [] Tryd.func44 rfl rfl (look_penv _) (HS.nil w) ?_
  refine A.norm [(0, vS ai xs ci), (1, i_ v)] [] (by exact ⟨rfl, rfl, trivial⟩) rfl ?_
  refine A.seq (A.region (A.goA [.p] [(0, vS ai xs ci), (1, i_ v), (4, b_ false)] [] T0 (by kernel_rfl) trivial ?_))
  refine A.tn (A.seq (A.seq (A.region (A.goA [.p, .p, .p] [(0, vS ai xs ci), (1, i_ v), (4, b_ false), (7, vS ai xs ci), (8, c_ xs.length), (9, i_ 0)] [] T0 (by kernel_rfl) trivial ?_))))
  refine A.tn (A.block (A.loop (fun (zz : Nat) => match zz with | k => [(1, i_ v), (7, vS ai xs ci), (8, c_ xs.length), (9, c_ k)]) (fun (zz : Nat) => match zz with | k => []) (fun (zz : Nat) => match zz with | k => (k ≤ xs.length) ∧ (∀ x ∈ xs.take k, ¬ v = x)) (fun (zz : Nat) => match zz with | k => xs.length - k) (0 : Nat) ⟨(by omega), (by simp)⟩ ?_ ?_))
  · exact A.hereK [] (by exact ⟨rfl, rfl, rfl, rfl, trivial⟩) (by kernel_rfl)
  · rintro k ⟨hk, hn⟩
    refine A.norm [(1, i_ v), (7, vS ai xs ci), (8, c_ xs.length), (9, c_ k)] [] (by exact ⟨rfl, rfl, rfl, rfl, trivial⟩) rfl ?_
    refine A.seq (A.region (A.goA [.p] [(1, i_ v), (7, vS ai xs ci), (8, c_ xs.length), (9, c_ k), (10, b_ (decide ((k : Int) < (xs.length : Int))))] [] T0 (by kernel_rfl) trivial ?_))
    refine A.tn (A.seq (A.cond (E := decide ((k : Int) < (xs.length : Int))) rfl (fun e1 => ?_) (fun e1 => ?_)))
    · skip
      have p1 := of_decide_eq_true e1
      refine A.skip (A.tn (A.seq (A.block (A.seq (A.region (A.goP [.ix] [(1, i_ v), (7, vS ai xs ci), (8, c_ xs.length), (9, c_ k), (10, b_ (decide ((k : Int) < (xs.length : Int)))), (11, (.pointer (some ((at0 ai).add (k * 1)))))] [] (fun κ => κ.ix ai xs.length (k : Int) ∧ True) (by kernel_rfl) ⟨(ixOf encI_len (by decide) (rd_old r0 (by simp [feet])) (by first | omega | (simp; omega) | (simp; done))), trivial⟩ ?_))))))
      obtain ⟨x1, hx1⟩ : ∃ x, (xs)[k]? = some x := ⟨_, List.getElem?_eq_getElem (by omega)⟩
      refine A.goA [.rd [i_ x1], .p] [(1, i_ v), (7, vS ai xs ci), (8, c_ xs.length), (9, c_ k), (10, b_ (decide ((k : Int) < (xs.length : Int)))), (6, i_ x1)] [] (fun κ => κ.rd ((at0 ai).add (k * 1)) [i_ x1] ∧ True) (by kernel_rfl) ⟨(reads_at0 (vs := [i_ x1]) encI_len (rd_old r0 (by simp [feet])) hx1 (Nat.le_of_ble_eq_true rfl) rfl), trivial⟩ ?_
      refine A.tn (A.seq (A.region (A.goA [.p, .p, .p] [(1, i_ v), (7, vS ai xs ci), (8, c_ xs.length), (9, c_ k), (10, b_ (decide ((k : Int) < (xs.length : Int)))), (6, i_ x1), (15, b_ (x1 == v))] [] T0 (by kernel_rfl) trivial ?_)))
      refine A.tn (A.cond (E := x1 == v) rfl (fun e2 => ?_) (fun e2 => ?_))
      · skip
        have p2 := e2; try simp only [nrm, bs_inj, Bool.or_eq_true, Bool.or_eq_false_iff, Bool.and_eq_true, Bool.and_eq_false_imp, decide_eq_true_eq, decide_eq_false_iff_not] at p2
        refine A.seq (A.region (A.goA [.p] [(1, i_ v), (7, vS ai xs ci), (8, c_ xs.length), (9, c_ k), (10, b_ (decide ((k : Int) < (xs.length : Int)))), (6, i_ x1), (15, b_ (x1 == v)), (4, b_ true)] [] T0 (by kernel_rfl) trivial ?_))
        refine A.tn (A.ret (A.br (A.tr (A.tr (A.br (A.tr (A.postQ [b_ true] (fun aa ww rr ss => ⟨rv_tmp rr rfl, trivial⟩) ?_)))))))
        show ((b_ true) : Value) = (b_ (xs.contains v))
        refine congrArg Value.bool ?_; first | (rw [cont_at (v := v) (by assumption) (by first | assumption | (symm; assumption) | fail)]; first | done | (simp; done)) | (rw [cont_no (v := v) hn (by first | omega | fail)]; first | done | rfl | (simp; done))
      · skip
        have p2 := e2; try simp only [nrm, bs_inj, Bool.or_eq_true, Bool.or_eq_false_iff, Bool.and_eq_true, Bool.and_eq_false_imp, decide_eq_true_eq, decide_eq_false_iff_not] at p2
        refine A.skip (A.bn (A.tn (A.region (A.goA [.w ((k : Int) + 1), .p] [(1, i_ v), (7, vS ai xs ci), (8, c_ xs.length), (9, i_ ((k : Int) + 1)), (10, b_ (decide ((k : Int) < (xs.length : Int)))), (6, i_ x1), (15, b_ (x1 == v))] [] (fun κ => (IntKind.i64.wrap ((k : Int) + 1) = ((k : Int) + 1)) ∧ True) (by kernel_rfl) ⟨(wrap_i64 (e := (k : Int) + 1) (by constructor <;> omega)), trivial⟩ ?_))))
        refine A.tn (A.next (k + 1) ⟨(by omega), (by exact no_step hn (by assumption) (by first | assumption | (intro h_; simp_all; done) | fail))⟩ (by (show xs.length - (k + 1) < xs.length - k; omega)) ?_)
        exact A.hereK [] (by exact ⟨rfl, rfl, rfl, rfl, trivial⟩) (by kernel_rfl)
    · skip
      have p1 := of_decide_eq_false e1
      refine A.exit (A.te (A.te (A.bh (A.tn (A.seq (A.region (A.goA [.p] [(1, i_ v), (7, vS ai xs ci), (8, c_ xs.length), (9, c_ k), (10, b_ (decide ((k : Int) < (xs.length : Int)))), (4, b_ false)] [] T0 (by kernel_rfl) trivial ?_)))))))
      refine A.tn (A.ret (A.postQ [b_ false] (fun aa ww rr ss => ⟨rv_tmp rr rfl, trivial⟩) ?_))
      show ((b_ false) : Value) = (b_ (xs.contains v))
      refine congrArg Value.bool ?_; first | (rw [cont_at (v := v) (by assumption) (by first | assumption | (symm; assumption) | fail)]; first | done | (simp; done)) | (rw [cont_no (v := v) hn (by first | omega | fail)]; first | done | rfl | (simp; done))

set_option maxHeartbeats 4000000 in
set_option maxRecDepth 100000 in
theorem came1_spec (eo : Int) (ei er : Bool) (ea ed ec ep el fa fb fc fd fr to : Int) (bf bt : Nat) (w : World) (r0 : (blk bf [u_ fr] 22).holds w) (r1 : (blk bt [u_ to] 22).holds w) :
    Calls Tryd.prog 43 #[(.agg #[i_ eo, b_ ei, b_ er, u_ ea, u_ ed, i_ ec, u_ ep, i_ el, w_ fa, w_ fb, w_ fc, w_ fd]), p_ bf, p_ bt] w fun e w' => e = .returned (b_ (soE 0 ⟨eo, ei, er, ea, ed, ec, ep, el, fa, fb, fc, fd⟩ fr to)) ∧ Fr [] w w' := by
  refine calls_of (args := [(.agg #[i_ eo, b_ ei, b_ er, u_ ea, u_ ed, i_ ec, u_ ep, i_ el, w_ fa, w_ fb, w_ fc, w_ fd]), p_ bf, p_ bt]) (penv [(.agg #[i_ eo, b_ ei, b_ er, u_ ea, u_ ed, i_ ec, u_ ep, i_ el, w_ fa, w_ fb, w_ fc, w_ fd]), p_ bf, p_ bt]) [] [] Tryd.func43 rfl rfl (look_penv _) (HS.nil w) ?_
  refine A.norm [(0, (.agg #[i_ eo, b_ ei, b_ er, u_ ea, u_ ed, i_ ec, u_ ep, i_ el, w_ fa, w_ fb, w_ fc, w_ fd])), (1, p_ bf), (2, p_ bt)] [] (by exact ⟨rfl, rfl, rfl, trivial⟩) rfl ?_
  refine A.seq (A.region (A.goA1 [.al, .p] [0, 1, 2, 3, 4] (fun b1 => [(0, (.agg #[i_ eo, b_ ei, b_ er, u_ ea, u_ ed, i_ ec, u_ ep, i_ el, w_ fa, w_ fb, w_ fc, w_ fd])), (1, p_ bf), (2, p_ bt), (3, p_ b1), (4, b_ false)]) (fun b1 => [blk b1 [i_ eo, b_ ei, b_ er, u_ ea, u_ ed, i_ ec, u_ ep, i_ el, w_ fa, w_ fb, w_ fc, w_ fd] 67]) (fun b1 => []) (fun _ => T0) (fun _ => by kernel_rfl) (fun b1 => trivial) ?_))
  intro b1
  refine A.tn (A.seq (A.region (A.goA [.p, .ld 0, .p, .o, .p, .ld 0, .rd [u_ fr], .p, .cl, .p, .o, .p, .ld 0, .rd [u_ to], .p, .cl, .p] [(0, (.agg #[i_ eo, b_ ei, b_ er, u_ ea, u_ ed, i_ ec, u_ ep, i_ el, w_ fa, w_ fb, w_ fc, w_ fd])), (1, p_ bf), (2, p_ bt), (3, p_ b1), (4, b_ ((ei && (decide (ea ≥ fr))) && (decide (ea ≤ to))))] [b1, b1, b1] (fun κ => ((true && (ei == true)) = true → κ.rd ⟨bf, 0, none⟩ [u_ fr]) ∧ ((true && ((ei && (decide (ea ≥ fr))) == true)) = true → κ.rd ⟨bt, 0, none⟩ [u_ to]) ∧ True) (by kernel_rfl) ⟨(fun h_ => (reads_oldblk r0 rfl)), (fun h_ => (reads_oldblk r1 rfl)), trivial⟩ ?_)))
  refine A.tn (A.ret (A.postQ [b_ ((ei && (decide (ea ≥ fr))) && (decide (ea ≤ to)))] (fun aa ww rr ss => ⟨rv_tmp rr rfl, trivial⟩) ?_))
  show ((b_ ((ei && (decide (ea ≥ fr))) && (decide (ea ≤ to)))) : Value) = (b_ (soE 0 ⟨eo, ei, er, ea, ed, ec, ep, el, fa, fb, fc, fd⟩ fr to))
  refine congrArg Value.bool ?_; unfold soE; first | rfl | (simp; done) | (simp [Bool.and_assoc]; done)

set_option maxHeartbeats 4000000 in
set_option maxRecDepth 100000 in
theorem begun1_spec (eo : Int) (ei er : Bool) (ea ed ec ep el fa fb fc fd fr to : Int) (bf bt : Nat) (w : World) (r0 : (blk bf [u_ fr] 22).holds w) (r1 : (blk bt [u_ to] 22).holds w) :
    Calls Tryd.prog 45 #[(.agg #[i_ eo, b_ ei, b_ er, u_ ea, u_ ed, i_ ec, u_ ep, i_ el, w_ fa, w_ fb, w_ fc, w_ fd]), p_ bf, p_ bt] w fun e w' => e = .returned (b_ (soE 1 ⟨eo, ei, er, ea, ed, ec, ep, el, fa, fb, fc, fd⟩ fr to)) ∧ Fr [] w w' := by
  refine calls_of (args := [(.agg #[i_ eo, b_ ei, b_ er, u_ ea, u_ ed, i_ ec, u_ ep, i_ el, w_ fa, w_ fb, w_ fc, w_ fd]), p_ bf, p_ bt]) (penv [(.agg #[i_ eo, b_ ei, b_ er, u_ ea, u_ ed, i_ ec, u_ ep, i_ el, w_ fa, w_ fb, w_ fc, w_ fd]), p_ bf, p_ bt]) [] [] Tryd.func45 rfl rfl (look_penv _) (HS.nil w) ?_
  refine A.norm [(0, (.agg #[i_ eo, b_ ei, b_ er, u_ ea, u_ ed, i_ ec, u_ ep, i_ el, w_ fa, w_ fb, w_ fc, w_ fd])), (1, p_ bf), (2, p_ bt)] [] (by exact ⟨rfl, rfl, rfl, trivial⟩) rfl ?_
  refine A.seq (A.region (A.goA1 [.al, .p] [0, 1, 2, 3, 4] (fun b1 => [(0, (.agg #[i_ eo, b_ ei, b_ er, u_ ea, u_ ed, i_ ec, u_ ep, i_ el, w_ fa, w_ fb, w_ fc, w_ fd])), (1, p_ bf), (2, p_ bt), (3, p_ b1), (4, b_ false)]) (fun b1 => [blk b1 [i_ eo, b_ ei, b_ er, u_ ea, u_ ed, i_ ec, u_ ep, i_ el, w_ fa, w_ fb, w_ fc, w_ fd] 67]) (fun b1 => []) (fun _ => T0) (fun _ => by kernel_rfl) (fun b1 => trivial) ?_))
  intro b1
  refine A.tn (A.seq (A.region (A.goA [.p, .ld 0, .p, .p, .o, .p, .ld 0, .rd [u_ fr], .p, .cl, .p, .o, .p, .ld 0, .rd [u_ to], .p, .cl, .p] [(0, (.agg #[i_ eo, b_ ei, b_ er, u_ ea, u_ ed, i_ ec, u_ ep, i_ el, w_ fa, w_ fb, w_ fc, w_ fd])), (1, p_ bf), (2, p_ bt), (3, p_ b1), (4, b_ (((!ei) && (decide (ea ≥ fr))) && (decide (ea ≤ to))))] [b1, b1, b1] (fun κ => ((true && ((!ei) == true)) = true → κ.rd ⟨bf, 0, none⟩ [u_ fr]) ∧ ((true && (((!ei) && (decide (ea ≥ fr))) == true)) = true → κ.rd ⟨bt, 0, none⟩ [u_ to]) ∧ True) (by kernel_rfl) ⟨(fun h_ => (reads_oldblk r0 rfl)), (fun h_ => (reads_oldblk r1 rfl)), trivial⟩ ?_)))
  refine A.tn (A.ret (A.postQ [b_ (((!ei) && (decide (ea ≥ fr))) && (decide (ea ≤ to)))] (fun aa ww rr ss => ⟨rv_tmp rr rfl, trivial⟩) ?_))
  show ((b_ (((!ei) && (decide (ea ≥ fr))) && (decide (ea ≤ to)))) : Value) = (b_ (soE 1 ⟨eo, ei, er, ea, ed, ec, ep, el, fa, fb, fc, fd⟩ fr to))
  refine congrArg Value.bool ?_; unfold soE; first | rfl | (simp; done) | (simp [Bool.and_assoc]; done)

set_option maxHeartbeats 4000000 in
set_option maxRecDepth 100000 in
theorem sent1_spec (eo : Int) (ei er : Bool) (ea ed ec ep el fa fb fc fd fr to : Int) (bf bt : Nat) (w : World) (r0 : (blk bf [u_ fr] 22).holds w) (r1 : (blk bt [u_ to] 22).holds w) :
    Calls Tryd.prog 46 #[(.agg #[i_ eo, b_ ei, b_ er, u_ ea, u_ ed, i_ ec, u_ ep, i_ el, w_ fa, w_ fb, w_ fc, w_ fd]), p_ bf, p_ bt] w fun e w' => e = .returned (b_ (soE 2 ⟨eo, ei, er, ea, ed, ec, ep, el, fa, fb, fc, fd⟩ fr to)) ∧ Fr [] w w' := by
  refine calls_of (args := [(.agg #[i_ eo, b_ ei, b_ er, u_ ea, u_ ed, i_ ec, u_ ep, i_ el, w_ fa, w_ fb, w_ fc, w_ fd]), p_ bf, p_ bt]) (penv [(.agg #[i_ eo, b_ ei, b_ er, u_ ea, u_ ed, i_ ec, u_ ep, i_ el, w_ fa, w_ fb, w_ fc, w_ fd]), p_ bf, p_ bt]) [] [] Tryd.func46 rfl rfl (look_penv _) (HS.nil w) ?_
  refine A.norm [(0, (.agg #[i_ eo, b_ ei, b_ er, u_ ea, u_ ed, i_ ec, u_ ep, i_ el, w_ fa, w_ fb, w_ fc, w_ fd])), (1, p_ bf), (2, p_ bt)] [] (by exact ⟨rfl, rfl, rfl, trivial⟩) rfl ?_
  refine A.seq (A.region (A.goA1 [.al, .p] [0, 1, 2, 3, 4] (fun b1 => [(0, (.agg #[i_ eo, b_ ei, b_ er, u_ ea, u_ ed, i_ ec, u_ ep, i_ el, w_ fa, w_ fb, w_ fc, w_ fd])), (1, p_ bf), (2, p_ bt), (3, p_ b1), (4, b_ false)]) (fun b1 => [blk b1 [i_ eo, b_ ei, b_ er, u_ ea, u_ ed, i_ ec, u_ ep, i_ el, w_ fa, w_ fb, w_ fc, w_ fd] 67]) (fun b1 => []) (fun _ => T0) (fun _ => by kernel_rfl) (fun b1 => trivial) ?_))
  intro b1
  refine A.tn (A.seq (A.region (A.goA [.p, .ld 0, .p, .p, .o, .p, .ld 0, .rd [u_ fr], .p, .cl, .p, .o, .p, .ld 0, .rd [u_ to], .p, .cl, .p] [(0, (.agg #[i_ eo, b_ ei, b_ er, u_ ea, u_ ed, i_ ec, u_ ep, i_ el, w_ fa, w_ fb, w_ fc, w_ fd])), (1, p_ bf), (2, p_ bt), (3, p_ b1), (4, b_ (((!ei) && (decide (ed > fr))) && (decide (ed ≤ to))))] [b1, b1, b1] (fun κ => ((true && ((!ei) == true)) = true → κ.rd ⟨bf, 0, none⟩ [u_ fr]) ∧ ((true && (((!ei) && (decide (ed > fr))) == true)) = true → κ.rd ⟨bt, 0, none⟩ [u_ to]) ∧ True) (by kernel_rfl) ⟨(fun h_ => (reads_oldblk r0 rfl)), (fun h_ => (reads_oldblk r1 rfl)), trivial⟩ ?_)))
  refine A.tn (A.ret (A.postQ [b_ (((!ei) && (decide (ed > fr))) && (decide (ed ≤ to)))] (fun aa ww rr ss => ⟨rv_tmp rr rfl, trivial⟩) ?_))
  show ((b_ (((!ei) && (decide (ed > fr))) && (decide (ed ≤ to)))) : Value) = (b_ (soE 2 ⟨eo, ei, er, ea, ed, ec, ep, el, fa, fb, fc, fd⟩ fr to))
  refine congrArg Value.bool ?_; unfold soE; first | rfl | (simp; done) | (simp [Bool.and_assoc]; done)

set_option maxHeartbeats 4000000 in
set_option maxRecDepth 100000 in
theorem came_spec (ae : Option Addr) (l : List Ev) (ce : Nat) (ai : Option Addr) (xs : List Int) (ci : Nat) (fr to : Int) (hl : l.length ≤ 1000) (hR : ∀ e ∈ l, EvOk e) (hxs : xs.length ≤ 1000000) (w : World) (r0 : arrAt w ae (V.flat encEv l)) (r1 : arrAt w ai (V.flat encI xs)) :
    Calls Tryd.prog 26 #[vS ae l ce, vS ai xs ci, u_ fr, u_ to] w fun e w' => e = .returned (u_ (bySum (fun e => soE 0 e fr to) xs l)) ∧ Fr [] w w' := by
  refine calls_of (args := [vS ae l ce, vS ai xs ci, u_ fr, u_ to]) (penv [vS ae l ce, vS ai xs ci, u_ fr, u_ to]) [] [] Tryd.func26 rfl rfl (look_penv _) (HS.nil w) ?_
  refine A.norm [(0, vS ae l ce), (1, vS ai xs ci), (2, u_ fr), (3, u_ to)] [] (by exact ⟨rfl, rfl, rfl, rfl, trivial⟩) rfl ?_
  refine A.seq (A.region (A.goA2 [.al, .al, .p] [0, 1, 2, 3, 6, 7, 8] (fun b1 b2 => [(0, vS ae l ce), (1, vS ai xs ci), (2, u_ fr), (3, u_ to), (6, p_ b1), (7, p_ b2), (8, u_ 0)]) (fun b1 b2 => [blk b1 [u_ fr] 22, blk b2 [u_ to] 22]) (fun b1 b2 => []) (fun _ _ => T0) (fun _ _ => by kernel_rfl) (fun b1 b2 => trivial) ?_))
  intro b1 b2
  refine A.tn (A.seq (A.region (A.goP [.p, .p, .p] [(0, vS ae l ce), (1, vS ai xs ci), (2, u_ fr), (3, u_ to), (6, p_ b1), (7, p_ b2), (8, u_ 0), (9, vS ae l ce), (10, vS ai xs ci), (11, (.func (.func 43) #[] #[p_ b1, p_ b2]))] [] T0 (by kernel_rfl) trivial ?_)))
  refine A.cons (A.inlX (some 12) [vS ae l ce, vS ai xs ci, (.func (.func 43) #[] #[p_ b1, p_ b2])] [(0, vS ae l ce), (1, vS ai xs ci), (2, (.func (.func 43) #[] #[p_ b1, p_ b2]))] (by kernel_rfl) rfl Tryd.func42 rfl rfl ?_)
  refine A.seq (A.region (A.goA [.p] [(0, vS ae l ce), (1, vS ai xs ci), (2, (.func (.func 43) #[] #[p_ b1, p_ b2])), (6, u_ 0)] [] T0 (by kernel_rfl) trivial ?_))
  refine A.tn (A.seq (A.region (A.goA [.p] [(0, vS ae l ce), (1, vS ai xs ci), (2, (.func (.func 43) #[] #[p_ b1, p_ b2])), (6, u_ 0), (7, u_ 0)] [] T0 (by kernel_rfl) trivial ?_)))
  refine A.tn (A.seq (A.seq (A.region (A.goA [.p, .p, .p] [(0, vS ae l ce), (1, vS ai xs ci), (2, (.func (.func 43) #[] #[p_ b1, p_ b2])), (6, u_ 0), (7, u_ 0), (10, vS ae l ce), (11, c_ l.length), (12, i_ 0)] [] T0 (by kernel_rfl) trivial ?_))))
  refine A.tn (A.block (A.sub [(0, vS ae l ce), (1, vS ai xs ci), (2, (.func (.func 43) #[] #[p_ b1, p_ b2])), (6, u_ 0), (7, u_ (bySum (fun e => soE 0 e fr to) xs (l.take 0))), (10, vS ae l ce), (11, c_ l.length), (12, i_ 0)] (by exact ⟨rfl, rfl, rfl, rfl, congrArg (fun z_ => some (u_ z_)) (by first | (rw [bySum_at (by assumption), byW_f (by first | assumption | (simp_all; done) | fail)]; omega) | (rw [bySum_at (by assumption), byW_t (by first | assumption | (simp_all; done) | fail), wrap_u64m, wrap_u64m]; omega) | exact bySum_0 _ _ | rfl : 0 = (bySum (fun e => soE 0 e fr to) xs (l.take 0))), rfl, rfl, rfl, trivial⟩) ?_))
  refine A.loop (fun (zz : Nat) => match zz with | k => [(1, vS ai xs ci), (2, (.func (.func 43) #[] #[p_ b1, p_ b2])), (6, u_ 0), (10, vS ae l ce), (11, c_ l.length), (12, c_ k), (7, u_ (bySum (fun e => soE 0 e fr to) xs (l.take k)))]) (fun (zz : Nat) => match zz with | k => [blk b1 [u_ fr] 22, blk b2 [u_ to] 22]) (fun (zz : Nat) => match zz with | k => (k ≤ l.length)) (fun (zz : Nat) => match zz with | k => l.length - k) (0 : Nat) (by omega) ?_ ?_
  · exact A.hereK [0, 0] (by exact ⟨rfl, rfl, rfl, rfl, rfl, rfl, rfl, trivial⟩) (by kernel_rfl)
  · rintro k hk
    have hk : k ≤ l.length := hk
    have hb := bySum_rng (fun e => soE 0 e fr to) xs (l.take k)
    refine A.norm [(1, vS ai xs ci), (2, (.func (.func 43) #[] #[p_ b1, p_ b2])), (6, u_ 0), (10, vS ae l ce), (11, c_ l.length), (12, c_ k), (7, u_ (bySum (fun e => soE 0 e fr to) xs (l.take k)))] [blk b1 [u_ fr] 22, blk b2 [u_ to] 22] (by exact ⟨rfl, rfl, rfl, rfl, rfl, rfl, rfl, trivial⟩) rfl ?_
    refine A.seq (A.region (A.goA [.p] [(1, vS ai xs ci), (2, (.func (.func 43) #[] #[p_ b1, p_ b2])), (6, u_ 0), (10, vS ae l ce), (11, c_ l.length), (12, c_ k), (7, u_ (bySum (fun e => soE 0 e fr to) xs (l.take k))), (13, b_ (decide ((k : Int) < (l.length : Int))))] [] T0 (by kernel_rfl) trivial ?_))
    refine A.tn (A.seq (A.cond (E := decide ((k : Int) < (l.length : Int))) rfl (fun e1 => ?_) (fun e1 => ?_)))
    · skip
      have p1 := of_decide_eq_true e1
      refine A.skip (A.tn (A.seq (A.block (A.seq (A.region (A.goP [.ix] [(1, vS ai xs ci), (2, (.func (.func 43) #[] #[p_ b1, p_ b2])), (6, u_ 0), (10, vS ae l ce), (11, c_ l.length), (12, c_ k), (7, u_ (bySum (fun e => soE 0 e fr to) xs (l.take k))), (13, b_ (decide ((k : Int) < (l.length : Int)))), (14, (.pointer (some ((at0 ae).add (k * 12)))))] [] (fun κ => κ.ix ae l.length (k : Int) ∧ True) (by kernel_rfl) ⟨(ixOf encEv_len (by decide) (rd_old r0 (by simp [feet])) (by first | omega | (simp; omega) | (simp; done))), trivial⟩ ?_))))))
      obtain ⟨x3, hx3⟩ : ∃ x, (l)[k]? = some x := ⟨_, List.getElem?_eq_getElem (by omega)⟩
      refine A.goA1 [.rd (encEv x3), .al, .st 2] [1, 2, 6, 10, 11, 12, 7, 13, 9] (fun b4 => [(1, vS ai xs ci), (2, (.func (.func 43) #[] #[p_ b1, p_ b2])), (6, u_ 0), (10, vS ae l ce), (11, c_ l.length), (12, c_ k), (7, u_ (bySum (fun e => soE 0 e fr to) xs (l.take k))), (13, b_ (decide ((k : Int) < (l.length : Int)))), (9, p_ b4)]) (fun b4 => [blk b1 [u_ fr] 22, blk b2 [u_ to] 22, blk b4 (encEv x3) 67]) (fun b4 => [b4]) (fun _ => (fun κ => κ.rd ((at0 ae).add (k * 12)) (encEv x3) ∧ True)) (fun _ => by kernel_rfl) (fun b4 => ⟨(reads_at0 (vs := (encEv x3)) encEv_len (rd_old r0 (by simp [feet])) hx3 (Nat.le_of_ble_eq_true rfl) rfl), trivial⟩) ?_
      intro b4
      refine A.tn (A.seq (A.region (A.goA [.p, .ld 2, .cq (b_ (soE 0 ⟨x3.eo, x3.ei, x3.er, x3.ea, x3.ed, x3.ec, x3.ep, x3.el, x3.fa, x3.fb, x3.fc, x3.fd⟩ fr to)), .p, .o, .p, .p, .ld 2, .cq (b_ (xs.contains x3.ec)), .cl] [(1, vS ai xs ci), (2, (.func (.func 43) #[] #[p_ b1, p_ b2])), (6, u_ 0), (10, vS ae l ce), (11, c_ l.length), (12, c_ k), (7, u_ (bySum (fun e => soE 0 e fr to) xs (l.take k))), (13, b_ (decide ((k : Int) < (l.length : Int)))), (9, p_ b4), (24, b_ ((soE 0 ⟨x3.eo, x3.ei, x3.er, x3.ea, x3.ed, x3.ec, x3.ep, x3.el, x3.fa, x3.fb, x3.fc, x3.fd⟩ fr to) && (xs.contains x3.ec)))] [b4, b4] (fun κ => κ.call 43 [(.agg (encEv x3).toArray), p_ b1, p_ b2] (b_ (soE 0 ⟨x3.eo, x3.ei, x3.er, x3.ea, x3.ed, x3.ec, x3.ep, x3.el, x3.fa, x3.fb, x3.fc, x3.fd⟩ fr to)) ∧ ((true && ((soE 0 ⟨x3.eo, x3.ei, x3.er, x3.ea, x3.ed, x3.ec, x3.ep, x3.el, x3.fa, x3.fb, x3.fc, x3.fd⟩ fr to) == true)) = true → κ.call 59 [vS ai xs ci, i_ x3.ec] (b_ (xs.contains x3.ec))) ∧ True) (by kernel_rfl) ⟨(fun ww ss => came1_spec x3.eo x3.ei x3.er x3.ea x3.ed x3.ec x3.ep x3.el x3.fa x3.fb x3.fc x3.fd fr to b1 b2 ww (ss.mem (i := 0) rfl) (ss.mem (i := 1) rfl)), (fun h_ => (fun ww ss => ctI_spec ai xs ci x3.ec (by first | assumption | omega | (simp; omega)) ww ((rd_old r1 (by simp [feet])) ww ss))), trivial⟩ ?_)))
      refine A.tn (A.cond (E := (soE 0 ⟨x3.eo, x3.ei, x3.er, x3.ea, x3.ed, x3.ec, x3.ep, x3.el, x3.fa, x3.fb, x3.fc, x3.fd⟩ fr to) && (xs.contains x3.ec)) rfl (fun e2 => ?_) (fun e2 => ?_))
      · skip
        have p2 := e2; try simp only [nrm, bs_inj, Bool.or_eq_true, Bool.or_eq_false_iff, Bool.and_eq_true, Bool.and_eq_false_imp, decide_eq_true_eq, decide_eq_false_iff_not] at p2
        refine A.region (A.goA [.p, .p, .p, .ld 2, .p, .p, .p, .p] [(1, vS ai xs ci), (2, (.func (.func 43) #[] #[p_ b1, p_ b2])), (6, u_ 0), (10, vS ae l ce), (11, c_ l.length), (12, c_ k), (7, u_ (IntKind.u64.wrap ((bySum (fun e => soE 0 e fr to) xs (l.take k)) + (IntKind.u64.wrap (imax x3.el 0))))), (13, b_ (decide ((k : Int) < (l.length : Int)))), (9, p_ b4), (24, b_ ((soE 0 ⟨x3.eo, x3.ei, x3.er, x3.ea, x3.ed, x3.ec, x3.ep, x3.el, x3.fa, x3.fb, x3.fc, x3.fd⟩ fr to) && (xs.contains x3.ec)))] [b4] T0 (by kernel_rfl) trivial ?_)
        refine A.bn (A.tn (A.region (A.goA [.w ((k : Int) + 1), .p] [(1, vS ai xs ci), (2, (.func (.func 43) #[] #[p_ b1, p_ b2])), (6, u_ 0), (10, vS ae l ce), (11, c_ l.length), (12, i_ ((k : Int) + 1)), (7, u_ (IntKind.u64.wrap ((bySum (fun e => soE 0 e fr to) xs (l.take k)) + (IntKind.u64.wrap (imax x3.el 0))))), (13, b_ (decide ((k : Int) < (l.length : Int)))), (9, p_ b4), (24, b_ ((soE 0 ⟨x3.eo, x3.ei, x3.er, x3.ea, x3.ed, x3.ec, x3.ep, x3.el, x3.fa, x3.fb, x3.fc, x3.fd⟩ fr to) && (xs.contains x3.ec)))] [] (fun κ => (IntKind.i64.wrap ((k : Int) + 1) = ((k : Int) + 1)) ∧ True) (by kernel_rfl) ⟨(wrap_i64 (e := (k : Int) + 1) (by (first | (constructor <;> omega) | (rw [imax_eq]; have hok_ := hR _ (List.mem_of_getElem? (by assumption)); unfold EvOk at hok_; constructor <;> omega)))), trivial⟩ ?_)))
        refine A.tn (A.sub [(1, vS ai xs ci), (2, (.func (.func 43) #[] #[p_ b1, p_ b2])), (6, u_ 0), (10, vS ae l ce), (11, c_ l.length), (12, i_ ((k : Int) + 1)), (7, u_ (bySum (fun e => soE 0 e fr to) xs (l.take (k + 1)))), (13, b_ (decide ((k : Int) < (l.length : Int)))), (9, p_ b4), (24, b_ ((soE 0 ⟨x3.eo, x3.ei, x3.er, x3.ea, x3.ed, x3.ec, x3.ep, x3.el, x3.fa, x3.fb, x3.fc, x3.fd⟩ fr to) && (xs.contains x3.ec)))] (by exact ⟨rfl, rfl, rfl, rfl, rfl, rfl, congrArg (fun z_ => some (u_ z_)) (by first | (rw [bySum_at (by assumption), byW_f (by first | assumption | (simp_all; done) | fail)]; omega) | (rw [bySum_at (by assumption), byW_t (by first | assumption | (simp_all; done) | fail), wrap_u64m, wrap_u64m]; omega) | exact bySum_0 _ _ | rfl : IntKind.u64.wrap ((bySum (fun e => soE 0 e fr to) xs (l.take k)) + (IntKind.u64.wrap (imax x3.el 0))) = (bySum (fun e => soE 0 e fr to) xs (l.take (k + 1)))), rfl, rfl, rfl, trivial⟩) ?_)
        refine A.next (k + 1) (by omega) (by (show l.length - (k + 1) < l.length - k; omega)) ?_
        exact A.hereK [0, 0] (by exact ⟨rfl, rfl, rfl, rfl, rfl, rfl, rfl, trivial⟩) (by kernel_rfl)
      · skip
        have p2 := e2; try simp only [nrm, bs_inj, Bool.or_eq_true, Bool.or_eq_false_iff, Bool.and_eq_true, Bool.and_eq_false_imp, decide_eq_true_eq, decide_eq_false_iff_not] at p2
        refine A.skip (A.bn (A.tn (A.region (A.goA [.w ((k : Int) + 1), .p] [(1, vS ai xs ci), (2, (.func (.func 43) #[] #[p_ b1, p_ b2])), (6, u_ 0), (10, vS ae l ce), (11, c_ l.length), (12, i_ ((k : Int) + 1)), (7, u_ (bySum (fun e => soE 0 e fr to) xs (l.take k))), (13, b_ (decide ((k : Int) < (l.length : Int)))), (9, p_ b4), (24, b_ ((soE 0 ⟨x3.eo, x3.ei, x3.er, x3.ea, x3.ed, x3.ec, x3.ep, x3.el, x3.fa, x3.fb, x3.fc, x3.fd⟩ fr to) && (xs.contains x3.ec)))] [] (fun κ => (IntKind.i64.wrap ((k : Int) + 1) = ((k : Int) + 1)) ∧ True) (by kernel_rfl) ⟨(wrap_i64 (e := (k : Int) + 1) (by (first | (constructor <;> omega) | (rw [imax_eq]; have hok_ := hR _ (List.mem_of_getElem? (by assumption)); unfold EvOk at hok_; constructor <;> omega)))), trivial⟩ ?_))))
        refine A.tn (A.sub [(1, vS ai xs ci), (2, (.func (.func 43) #[] #[p_ b1, p_ b2])), (6, u_ 0), (10, vS ae l ce), (11, c_ l.length), (12, i_ ((k : Int) + 1)), (7, u_ (bySum (fun e => soE 0 e fr to) xs (l.take (k + 1)))), (13, b_ (decide ((k : Int) < (l.length : Int)))), (9, p_ b4), (24, b_ ((soE 0 ⟨x3.eo, x3.ei, x3.er, x3.ea, x3.ed, x3.ec, x3.ep, x3.el, x3.fa, x3.fb, x3.fc, x3.fd⟩ fr to) && (xs.contains x3.ec)))] (by exact ⟨rfl, rfl, rfl, rfl, rfl, rfl, congrArg (fun z_ => some (u_ z_)) (by first | (rw [bySum_at (by assumption), byW_f (by first | assumption | (simp_all; done) | fail)]; omega) | (rw [bySum_at (by assumption), byW_t (by first | assumption | (simp_all; done) | fail), wrap_u64m, wrap_u64m]; omega) | exact bySum_0 _ _ | rfl : (bySum (fun e => soE 0 e fr to) xs (l.take k)) = (bySum (fun e => soE 0 e fr to) xs (l.take (k + 1)))), rfl, rfl, rfl, trivial⟩) ?_)
        refine A.next (k + 1) (by omega) (by (show l.length - (k + 1) < l.length - k; omega)) ?_
        exact A.hereK [0, 0] (by exact ⟨rfl, rfl, rfl, rfl, rfl, rfl, rfl, trivial⟩) (by kernel_rfl)
    · skip
      have p1 := of_decide_eq_false e1
      refine A.exit (A.te (A.te (A.bh (A.tn (A.seq (A.region (A.goA [.p, .p] [(1, vS ai xs ci), (2, (.func (.func 43) #[] #[p_ b1, p_ b2])), (6, u_ (bySum (fun e => soE 0 e fr to) xs (l.take k))), (10, vS ae l ce), (11, c_ l.length), (12, c_ k), (7, u_ (bySum (fun e => soE 0 e fr to) xs (l.take k))), (13, b_ (decide ((k : Int) < (l.length : Int))))] [] T0 (by kernel_rfl) trivial ?_)))))))
      refine A.tn (A.ret (A.post [u_ (bySum (fun e => soE 0 e fr to) xs (l.take k))] (fun aa ww rr ss => ⟨rv_tmp rr rfl, trivial⟩) (A.back (by kernel_rfl) ?_)))
      refine A.goA [.p] [(0, vS ae l ce), (1, vS ai xs ci), (2, u_ fr), (3, u_ to), (6, p_ b1), (7, p_ b2), (8, u_ (bySum (fun e => soE 0 e fr to) xs (l.take k)))] [] T0 (by kernel_rfl) trivial ?_
      refine A.tn (A.ret (A.postQ [u_ (bySum (fun e => soE 0 e fr to) xs (l.take k))] (fun aa ww rr ss => ⟨rv_tmp rr rfl, trivial⟩) ?_))
      show ((u_ (bySum (fun e => soE 0 e fr to) xs (l.take k))) : Value) = (u_ (bySum (fun e => soE 0 e fr to) xs l))
      (have hk2 : k = l.length := by omega); subst hk2; rw [List.take_length]

set_option maxHeartbeats 4000000 in
set_option maxRecDepth 100000 in
theorem begun_spec (ae : Option Addr) (l : List Ev) (ce : Nat) (ai : Option Addr) (xs : List Int) (ci : Nat) (fr to : Int) (hl : l.length ≤ 1000) (hR : ∀ e ∈ l, EvOk e) (hxs : xs.length ≤ 1000000) (w : World) (r0 : arrAt w ae (V.flat encEv l)) (r1 : arrAt w ai (V.flat encI xs)) :
    Calls Tryd.prog 28 #[vS ae l ce, vS ai xs ci, u_ fr, u_ to] w fun e w' => e = .returned (u_ (bySum (fun e => soE 1 e fr to) xs l)) ∧ Fr [] w w' := by
  refine calls_of (args := [vS ae l ce, vS ai xs ci, u_ fr, u_ to]) (penv [vS ae l ce, vS ai xs ci, u_ fr, u_ to]) [] [] Tryd.func28 rfl rfl (look_penv _) (HS.nil w) ?_
  refine A.norm [(0, vS ae l ce), (1, vS ai xs ci), (2, u_ fr), (3, u_ to)] [] (by exact ⟨rfl, rfl, rfl, rfl, trivial⟩) rfl ?_
  refine A.seq (A.region (A.goA2 [.al, .al, .p] [0, 1, 2, 3, 6, 7, 8] (fun b1 b2 => [(0, vS ae l ce), (1, vS ai xs ci), (2, u_ fr), (3, u_ to), (6, p_ b1), (7, p_ b2), (8, u_ 0)]) (fun b1 b2 => [blk b1 [u_ fr] 22, blk b2 [u_ to] 22]) (fun b1 b2 => []) (fun _ _ => T0) (fun _ _ => by kernel_rfl) (fun b1 b2 => trivial) ?_))
  intro b1 b2
  refine A.tn (A.seq (A.region (A.goP [.p, .p, .p] [(0, vS ae l ce), (1, vS ai xs ci), (2, u_ fr), (3, u_ to), (6, p_ b1), (7, p_ b2), (8, u_ 0), (9, vS ae l ce), (10, vS ai xs ci), (11, (.func (.func 45) #[] #[p_ b1, p_ b2]))] [] T0 (by kernel_rfl) trivial ?_)))
  refine A.cons (A.inlX (some 12) [vS ae l ce, vS ai xs ci, (.func (.func 45) #[] #[p_ b1, p_ b2])] [(0, vS ae l ce), (1, vS ai xs ci), (2, (.func (.func 45) #[] #[p_ b1, p_ b2]))] (by kernel_rfl) rfl Tryd.func42 rfl rfl ?_)
  refine A.seq (A.region (A.goA [.p] [(0, vS ae l ce), (1, vS ai xs ci), (2, (.func (.func 45) #[] #[p_ b1, p_ b2])), (6, u_ 0)] [] T0 (by kernel_rfl) trivial ?_))
  refine A.tn (A.seq (A.region (A.goA [.p] [(0, vS ae l ce), (1, vS ai xs ci), (2, (.func (.func 45) #[] #[p_ b1, p_ b2])), (6, u_ 0), (7, u_ 0)] [] T0 (by kernel_rfl) trivial ?_)))
  refine A.tn (A.seq (A.seq (A.region (A.goA [.p, .p, .p] [(0, vS ae l ce), (1, vS ai xs ci), (2, (.func (.func 45) #[] #[p_ b1, p_ b2])), (6, u_ 0), (7, u_ 0), (10, vS ae l ce), (11, c_ l.length), (12, i_ 0)] [] T0 (by kernel_rfl) trivial ?_))))
  refine A.tn (A.block (A.sub [(0, vS ae l ce), (1, vS ai xs ci), (2, (.func (.func 45) #[] #[p_ b1, p_ b2])), (6, u_ 0), (7, u_ (bySum (fun e => soE 1 e fr to) xs (l.take 0))), (10, vS ae l ce), (11, c_ l.length), (12, i_ 0)] (by exact ⟨rfl, rfl, rfl, rfl, congrArg (fun z_ => some (u_ z_)) (by first | (rw [bySum_at (by assumption), byW_f (by first | assumption | (simp_all; done) | fail)]; omega) | (rw [bySum_at (by assumption), byW_t (by first | assumption | (simp_all; done) | fail), wrap_u64m, wrap_u64m]; omega) | exact bySum_0 _ _ | rfl : 0 = (bySum (fun e => soE 1 e fr to) xs (l.take 0))), rfl, rfl, rfl, trivial⟩) ?_))
  refine A.loop (fun (zz : Nat) => match zz with | k => [(1, vS ai xs ci), (2, (.func (.func 45) #[] #[p_ b1, p_ b2])), (6, u_ 0), (10, vS ae l ce), (11, c_ l.length), (12, c_ k), (7, u_ (bySum (fun e => soE 1 e fr to) xs (l.take k)))]) (fun (zz : Nat) => match zz with | k => [blk b1 [u_ fr] 22, blk b2 [u_ to] 22]) (fun (zz : Nat) => match zz with | k => (k ≤ l.length)) (fun (zz : Nat) => match zz with | k => l.length - k) (0 : Nat) (by omega) ?_ ?_
  · exact A.hereK [0, 0] (by exact ⟨rfl, rfl, rfl, rfl, rfl, rfl, rfl, trivial⟩) (by kernel_rfl)
  · rintro k hk
    have hk : k ≤ l.length := hk
    have hb := bySum_rng (fun e => soE 1 e fr to) xs (l.take k)
    refine A.norm [(1, vS ai xs ci), (2, (.func (.func 45) #[] #[p_ b1, p_ b2])), (6, u_ 0), (10, vS ae l ce), (11, c_ l.length), (12, c_ k), (7, u_ (bySum (fun e => soE 1 e fr to) xs (l.take k)))] [blk b1 [u_ fr] 22, blk b2 [u_ to] 22] (by exact ⟨rfl, rfl, rfl, rfl, rfl, rfl, rfl, trivial⟩) rfl ?_
    refine A.seq (A.region (A.goA [.p] [(1, vS ai xs ci), (2, (.func (.func 45) #[] #[p_ b1, p_ b2])), (6, u_ 0), (10, vS ae l ce), (11, c_ l.length), (12, c_ k), (7, u_ (bySum (fun e => soE 1 e fr to) xs (l.take k))), (13, b_ (decide ((k : Int) < (l.length : Int))))] [] T0 (by kernel_rfl) trivial ?_))
    refine A.tn (A.seq (A.cond (E := decide ((k : Int) < (l.length : Int))) rfl (fun e1 => ?_) (fun e1 => ?_)))
    · skip
      have p1 := of_decide_eq_true e1
      refine A.skip (A.tn (A.seq (A.block (A.seq (A.region (A.goP [.ix] [(1, vS ai xs ci), (2, (.func (.func 45) #[] #[p_ b1, p_ b2])), (6, u_ 0), (10, vS ae l ce), (11, c_ l.length), (12, c_ k), (7, u_ (bySum (fun e => soE 1 e fr to) xs (l.take k))), (13, b_ (decide ((k : Int) < (l.length : Int)))), (14, (.pointer (some ((at0 ae).add (k * 12)))))] [] (fun κ => κ.ix ae l.length (k : Int) ∧ True) (by kernel_rfl) ⟨(ixOf encEv_len (by decide) (rd_old r0 (by simp [feet])) (by first | omega | (simp; omega) | (simp; done))), trivial⟩ ?_))))))
      obtain ⟨x3, hx3⟩ : ∃ x, (l)[k]? = some x := ⟨_, List.getElem?_eq_getElem (by omega)⟩
      refine A.goA1 [.rd (encEv x3), .al, .st 2] [1, 2, 6, 10, 11, 12, 7, 13, 9] (fun b4 => [(1, vS ai xs ci), (2, (.func (.func 45) #[] #[p_ b1, p_ b2])), (6, u_ 0), (10, vS ae l ce), (11, c_ l.length), (12, c_ k), (7, u_ (bySum (fun e => soE 1 e fr to) xs (l.take k))), (13, b_ (decide ((k : Int) < (l.length : Int)))), (9, p_ b4)]) (fun b4 => [blk b1 [u_ fr] 22, blk b2 [u_ to] 22, blk b4 (encEv x3) 67]) (fun b4 => [b4]) (fun _ => (fun κ => κ.rd ((at0 ae).add (k * 12)) (encEv x3) ∧ True)) (fun _ => by kernel_rfl) (fun b4 => ⟨(reads_at0 (vs := (encEv x3)) encEv_len (rd_old r0 (by simp [feet])) hx3 (Nat.le_of_ble_eq_true rfl) rfl), trivial⟩) ?_
      intro b4
      refine A.tn (A.seq (A.region (A.goA [.p, .ld 2, .cq (b_ (soE 1 ⟨x3.eo, x3.ei, x3.er, x3.ea, x3.ed, x3.ec, x3.ep, x3.el, x3.fa, x3.fb, x3.fc, x3.fd⟩ fr to)), .p, .o, .p, .p, .ld 2, .cq (b_ (xs.contains x3.ec)), .cl] [(1, vS ai xs ci), (2, (.func (.func 45) #[] #[p_ b1, p_ b2])), (6, u_ 0), (10, vS ae l ce), (11, c_ l.length), (12, c_ k), (7, u_ (bySum (fun e => soE 1 e fr to) xs (l.take k))), (13, b_ (decide ((k : Int) < (l.length : Int)))), (9, p_ b4), (24, b_ ((soE 1 ⟨x3.eo, x3.ei, x3.er, x3.ea, x3.ed, x3.ec, x3.ep, x3.el, x3.fa, x3.fb, x3.fc, x3.fd⟩ fr to) && (xs.contains x3.ec)))] [b4, b4] (fun κ => κ.call 45 [(.agg (encEv x3).toArray), p_ b1, p_ b2] (b_ (soE 1 ⟨x3.eo, x3.ei, x3.er, x3.ea, x3.ed, x3.ec, x3.ep, x3.el, x3.fa, x3.fb, x3.fc, x3.fd⟩ fr to)) ∧ ((true && ((soE 1 ⟨x3.eo, x3.ei, x3.er, x3.ea, x3.ed, x3.ec, x3.ep, x3.el, x3.fa, x3.fb, x3.fc, x3.fd⟩ fr to) == true)) = true → κ.call 59 [vS ai xs ci, i_ x3.ec] (b_ (xs.contains x3.ec))) ∧ True) (by kernel_rfl) ⟨(fun ww ss => begun1_spec x3.eo x3.ei x3.er x3.ea x3.ed x3.ec x3.ep x3.el x3.fa x3.fb x3.fc x3.fd fr to b1 b2 ww (ss.mem (i := 0) rfl) (ss.mem (i := 1) rfl)), (fun h_ => (fun ww ss => ctI_spec ai xs ci x3.ec (by first | assumption | omega | (simp; omega)) ww ((rd_old r1 (by simp [feet])) ww ss))), trivial⟩ ?_)))
      refine A.tn (A.cond (E := (soE 1 ⟨x3.eo, x3.ei, x3.er, x3.ea, x3.ed, x3.ec, x3.ep, x3.el, x3.fa, x3.fb, x3.fc, x3.fd⟩ fr to) && (xs.contains x3.ec)) rfl (fun e2 => ?_) (fun e2 => ?_))
      · skip
        have p2 := e2; try simp only [nrm, bs_inj, Bool.or_eq_true, Bool.or_eq_false_iff, Bool.and_eq_true, Bool.and_eq_false_imp, decide_eq_true_eq, decide_eq_false_iff_not] at p2
        refine A.region (A.goA [.p, .p, .p, .ld 2, .p, .p, .p, .p] [(1, vS ai xs ci), (2, (.func (.func 45) #[] #[p_ b1, p_ b2])), (6, u_ 0), (10, vS ae l ce), (11, c_ l.length), (12, c_ k), (7, u_ (IntKind.u64.wrap ((bySum (fun e => soE 1 e fr to) xs (l.take k)) + (IntKind.u64.wrap (imax x3.el 0))))), (13, b_ (decide ((k : Int) < (l.length : Int)))), (9, p_ b4), (24, b_ ((soE 1 ⟨x3.eo, x3.ei, x3.er, x3.ea, x3.ed, x3.ec, x3.ep, x3.el, x3.fa, x3.fb, x3.fc, x3.fd⟩ fr to) && (xs.contains x3.ec)))] [b4] T0 (by kernel_rfl) trivial ?_)
        refine A.bn (A.tn (A.region (A.goA [.w ((k : Int) + 1), .p] [(1, vS ai xs ci), (2, (.func (.func 45) #[] #[p_ b1, p_ b2])), (6, u_ 0), (10, vS ae l ce), (11, c_ l.length), (12, i_ ((k : Int) + 1)), (7, u_ (IntKind.u64.wrap ((bySum (fun e => soE 1 e fr to) xs (l.take k)) + (IntKind.u64.wrap (imax x3.el 0))))), (13, b_ (decide ((k : Int) < (l.length : Int)))), (9, p_ b4), (24, b_ ((soE 1 ⟨x3.eo, x3.ei, x3.er, x3.ea, x3.ed, x3.ec, x3.ep, x3.el, x3.fa, x3.fb, x3.fc, x3.fd⟩ fr to) && (xs.contains x3.ec)))] [] (fun κ => (IntKind.i64.wrap ((k : Int) + 1) = ((k : Int) + 1)) ∧ True) (by kernel_rfl) ⟨(wrap_i64 (e := (k : Int) + 1) (by (first | (constructor <;> omega) | (rw [imax_eq]; have hok_ := hR _ (List.mem_of_getElem? (by assumption)); unfold EvOk at hok_; constructor <;> omega)))), trivial⟩ ?_)))
        refine A.tn (A.sub [(1, vS ai xs ci), (2, (.func (.func 45) #[] #[p_ b1, p_ b2])), (6, u_ 0), (10, vS ae l ce), (11, c_ l.length), (12, i_ ((k : Int) + 1)), (7, u_ (bySum (fun e => soE 1 e fr to) xs (l.take (k + 1)))), (13, b_ (decide ((k : Int) < (l.length : Int)))), (9, p_ b4), (24, b_ ((soE 1 ⟨x3.eo, x3.ei, x3.er, x3.ea, x3.ed, x3.ec, x3.ep, x3.el, x3.fa, x3.fb, x3.fc, x3.fd⟩ fr to) && (xs.contains x3.ec)))] (by exact ⟨rfl, rfl, rfl, rfl, rfl, rfl, congrArg (fun z_ => some (u_ z_)) (by first | (rw [bySum_at (by assumption), byW_f (by first | assumption | (simp_all; done) | fail)]; omega) | (rw [bySum_at (by assumption), byW_t (by first | assumption | (simp_all; done) | fail), wrap_u64m, wrap_u64m]; omega) | exact bySum_0 _ _ | rfl : IntKind.u64.wrap ((bySum (fun e => soE 1 e fr to) xs (l.take k)) + (IntKind.u64.wrap (imax x3.el 0))) = (bySum (fun e => soE 1 e fr to) xs (l.take (k + 1)))), rfl, rfl, rfl, trivial⟩) ?_)
        refine A.next (k + 1) (by omega) (by (show l.length - (k + 1) < l.length - k; omega)) ?_
        exact A.hereK [0, 0] (by exact ⟨rfl, rfl, rfl, rfl, rfl, rfl, rfl, trivial⟩) (by kernel_rfl)
      · skip
        have p2 := e2; try simp only [nrm, bs_inj, Bool.or_eq_true, Bool.or_eq_false_iff, Bool.and_eq_true, Bool.and_eq_false_imp, decide_eq_true_eq, decide_eq_false_iff_not] at p2
        refine A.skip (A.bn (A.tn (A.region (A.goA [.w ((k : Int) + 1), .p] [(1, vS ai xs ci), (2, (.func (.func 45) #[] #[p_ b1, p_ b2])), (6, u_ 0), (10, vS ae l ce), (11, c_ l.length), (12, i_ ((k : Int) + 1)), (7, u_ (bySum (fun e => soE 1 e fr to) xs (l.take k))), (13, b_ (decide ((k : Int) < (l.length : Int)))), (9, p_ b4), (24, b_ ((soE 1 ⟨x3.eo, x3.ei, x3.er, x3.ea, x3.ed, x3.ec, x3.ep, x3.el, x3.fa, x3.fb, x3.fc, x3.fd⟩ fr to) && (xs.contains x3.ec)))] [] (fun κ => (IntKind.i64.wrap ((k : Int) + 1) = ((k : Int) + 1)) ∧ True) (by kernel_rfl) ⟨(wrap_i64 (e := (k : Int) + 1) (by (first | (constructor <;> omega) | (rw [imax_eq]; have hok_ := hR _ (List.mem_of_getElem? (by assumption)); unfold EvOk at hok_; constructor <;> omega)))), trivial⟩ ?_))))
        refine A.tn (A.sub [(1, vS ai xs ci), (2, (.func (.func 45) #[] #[p_ b1, p_ b2])), (6, u_ 0), (10, vS ae l ce), (11, c_ l.length), (12, i_ ((k : Int) + 1)), (7, u_ (bySum (fun e => soE 1 e fr to) xs (l.take (k + 1)))), (13, b_ (decide ((k : Int) < (l.length : Int)))), (9, p_ b4), (24, b_ ((soE 1 ⟨x3.eo, x3.ei, x3.er, x3.ea, x3.ed, x3.ec, x3.ep, x3.el, x3.fa, x3.fb, x3.fc, x3.fd⟩ fr to) && (xs.contains x3.ec)))] (by exact ⟨rfl, rfl, rfl, rfl, rfl, rfl, congrArg (fun z_ => some (u_ z_)) (by first | (rw [bySum_at (by assumption), byW_f (by first | assumption | (simp_all; done) | fail)]; omega) | (rw [bySum_at (by assumption), byW_t (by first | assumption | (simp_all; done) | fail), wrap_u64m, wrap_u64m]; omega) | exact bySum_0 _ _ | rfl : (bySum (fun e => soE 1 e fr to) xs (l.take k)) = (bySum (fun e => soE 1 e fr to) xs (l.take (k + 1)))), rfl, rfl, rfl, trivial⟩) ?_)
        refine A.next (k + 1) (by omega) (by (show l.length - (k + 1) < l.length - k; omega)) ?_
        exact A.hereK [0, 0] (by exact ⟨rfl, rfl, rfl, rfl, rfl, rfl, rfl, trivial⟩) (by kernel_rfl)
    · skip
      have p1 := of_decide_eq_false e1
      refine A.exit (A.te (A.te (A.bh (A.tn (A.seq (A.region (A.goA [.p, .p] [(1, vS ai xs ci), (2, (.func (.func 45) #[] #[p_ b1, p_ b2])), (6, u_ (bySum (fun e => soE 1 e fr to) xs (l.take k))), (10, vS ae l ce), (11, c_ l.length), (12, c_ k), (7, u_ (bySum (fun e => soE 1 e fr to) xs (l.take k))), (13, b_ (decide ((k : Int) < (l.length : Int))))] [] T0 (by kernel_rfl) trivial ?_)))))))
      refine A.tn (A.ret (A.post [u_ (bySum (fun e => soE 1 e fr to) xs (l.take k))] (fun aa ww rr ss => ⟨rv_tmp rr rfl, trivial⟩) (A.back (by kernel_rfl) ?_)))
      refine A.goA [.p] [(0, vS ae l ce), (1, vS ai xs ci), (2, u_ fr), (3, u_ to), (6, p_ b1), (7, p_ b2), (8, u_ (bySum (fun e => soE 1 e fr to) xs (l.take k)))] [] T0 (by kernel_rfl) trivial ?_
      refine A.tn (A.ret (A.postQ [u_ (bySum (fun e => soE 1 e fr to) xs (l.take k))] (fun aa ww rr ss => ⟨rv_tmp rr rfl, trivial⟩) ?_))
      show ((u_ (bySum (fun e => soE 1 e fr to) xs (l.take k))) : Value) = (u_ (bySum (fun e => soE 1 e fr to) xs l))
      (have hk2 : k = l.length := by omega); subst hk2; rw [List.take_length]

set_option maxHeartbeats 4000000 in
set_option maxRecDepth 100000 in
theorem sent_spec (ae : Option Addr) (l : List Ev) (ce : Nat) (ai : Option Addr) (xs : List Int) (ci : Nat) (fr to : Int) (hl : l.length ≤ 1000) (hR : ∀ e ∈ l, EvOk e) (hxs : xs.length ≤ 1000000) (w : World) (r0 : arrAt w ae (V.flat encEv l)) (r1 : arrAt w ai (V.flat encI xs)) :
    Calls Tryd.prog 29 #[vS ae l ce, vS ai xs ci, u_ fr, u_ to] w fun e w' => e = .returned (u_ (bySum (fun e => soE 2 e fr to) xs l)) ∧ Fr [] w w' := by
  refine calls_of (args := [vS ae l ce, vS ai xs ci, u_ fr, u_ to]) (penv [vS ae l ce, vS ai xs ci, u_ fr, u_ to]) [] [] Tryd.func29 rfl rfl (look_penv _) (HS.nil w) ?_
  refine A.norm [(0, vS ae l ce), (1, vS ai xs ci), (2, u_ fr), (3, u_ to)] [] (by exact ⟨rfl, rfl, rfl, rfl, trivial⟩) rfl ?_
  refine A.seq (A.region (A.goA2 [.al, .al, .p] [0, 1, 2, 3, 6, 7, 8] (fun b1 b2 => [(0, vS ae l ce), (1, vS ai xs ci), (2, u_ fr), (3, u_ to), (6, p_ b1), (7, p_ b2), (8, u_ 0)]) (fun b1 b2 => [blk b1 [u_ fr] 22, blk b2 [u_ to] 22]) (fun b1 b2 => []) (fun _ _ => T0) (fun _ _ => by kernel_rfl) (fun b1 b2 => trivial) ?_))
  intro b1 b2
  refine A.tn (A.seq (A.region (A.goP [.p, .p, .p] [(0, vS ae l ce), (1, vS ai xs ci), (2, u_ fr), (3, u_ to), (6, p_ b1), (7, p_ b2), (8, u_ 0), (9, vS ae l ce), (10, vS ai xs ci), (11, (.func (.func 46) #[] #[p_ b1, p_ b2]))] [] T0 (by kernel_rfl) trivial ?_)))
  refine A.cons (A.inlX (some 12) [vS ae l ce, vS ai xs ci, (.func (.func 46) #[] #[p_ b1, p_ b2])] [(0, vS ae l ce), (1, vS ai xs ci), (2, (.func (.func 46) #[] #[p_ b1, p_ b2]))] (by kernel_rfl) rfl Tryd.func42 rfl rfl ?_)
  refine A.seq (A.region (A.goA [.p] [(0, vS ae l ce), (1, vS ai xs ci), (2, (.func (.func 46) #[] #[p_ b1, p_ b2])), (6, u_ 0)] [] T0 (by kernel_rfl) trivial ?_))
  refine A.tn (A.seq (A.region (A.goA [.p] [(0, vS ae l ce), (1, vS ai xs ci), (2, (.func (.func 46) #[] #[p_ b1, p_ b2])), (6, u_ 0), (7, u_ 0)] [] T0 (by kernel_rfl) trivial ?_)))
  refine A.tn (A.seq (A.seq (A.region (A.goA [.p, .p, .p] [(0, vS ae l ce), (1, vS ai xs ci), (2, (.func (.func 46) #[] #[p_ b1, p_ b2])), (6, u_ 0), (7, u_ 0), (10, vS ae l ce), (11, c_ l.length), (12, i_ 0)] [] T0 (by kernel_rfl) trivial ?_))))
  refine A.tn (A.block (A.sub [(0, vS ae l ce), (1, vS ai xs ci), (2, (.func (.func 46) #[] #[p_ b1, p_ b2])), (6, u_ 0), (7, u_ (bySum (fun e => soE 2 e fr to) xs (l.take 0))), (10, vS ae l ce), (11, c_ l.length), (12, i_ 0)] (by exact ⟨rfl, rfl, rfl, rfl, congrArg (fun z_ => some (u_ z_)) (by first | (rw [bySum_at (by assumption), byW_f (by first | assumption | (simp_all; done) | fail)]; omega) | (rw [bySum_at (by assumption), byW_t (by first | assumption | (simp_all; done) | fail), wrap_u64m, wrap_u64m]; omega) | exact bySum_0 _ _ | rfl : 0 = (bySum (fun e => soE 2 e fr to) xs (l.take 0))), rfl, rfl, rfl, trivial⟩) ?_))
  refine A.loop (fun (zz : Nat) => match zz with | k => [(1, vS ai xs ci), (2, (.func (.func 46) #[] #[p_ b1, p_ b2])), (6, u_ 0), (10, vS ae l ce), (11, c_ l.length), (12, c_ k), (7, u_ (bySum (fun e => soE 2 e fr to) xs (l.take k)))]) (fun (zz : Nat) => match zz with | k => [blk b1 [u_ fr] 22, blk b2 [u_ to] 22]) (fun (zz : Nat) => match zz with | k => (k ≤ l.length)) (fun (zz : Nat) => match zz with | k => l.length - k) (0 : Nat) (by omega) ?_ ?_
  · exact A.hereK [0, 0] (by exact ⟨rfl, rfl, rfl, rfl, rfl, rfl, rfl, trivial⟩) (by kernel_rfl)
  · rintro k hk
    have hk : k ≤ l.length := hk
    have hb := bySum_rng (fun e => soE 2 e fr to) xs (l.take k)
    refine A.norm [(1, vS ai xs ci), (2, (.func (.func 46) #[] #[p_ b1, p_ b2])), (6, u_ 0), (10, vS ae l ce), (11, c_ l.length), (12, c_ k), (7, u_ (bySum (fun e => soE 2 e fr to) xs (l.take k)))] [blk b1 [u_ fr] 22, blk b2 [u_ to] 22] (by exact ⟨rfl, rfl, rfl, rfl, rfl, rfl, rfl, trivial⟩) rfl ?_
    refine A.seq (A.region (A.goA [.p] [(1, vS ai xs ci), (2, (.func (.func 46) #[] #[p_ b1, p_ b2])), (6, u_ 0), (10, vS ae l ce), (11, c_ l.length), (12, c_ k), (7, u_ (bySum (fun e => soE 2 e fr to) xs (l.take k))), (13, b_ (decide ((k : Int) < (l.length : Int))))] [] T0 (by kernel_rfl) trivial ?_))
    refine A.tn (A.seq (A.cond (E := decide ((k : Int) < (l.length : Int))) rfl (fun e1 => ?_) (fun e1 => ?_)))
    · skip
      have p1 := of_decide_eq_true e1
      refine A.skip (A.tn (A.seq (A.block (A.seq (A.region (A.goP [.ix] [(1, vS ai xs ci), (2, (.func (.func 46) #[] #[p_ b1, p_ b2])), (6, u_ 0), (10, vS ae l ce), (11, c_ l.length), (12, c_ k), (7, u_ (bySum (fun e => soE 2 e fr to) xs (l.take k))), (13, b_ (decide ((k : Int) < (l.length : Int)))), (14, (.pointer (some ((at0 ae).add (k * 12)))))] [] (fun κ => κ.ix ae l.length (k : Int) ∧ True) (by kernel_rfl) ⟨(ixOf encEv_len (by decide) (rd_old r0 (by simp [feet])) (by first | omega | (simp; omega) | (simp; done))), trivial⟩ ?_))))))
      obtain ⟨x3, hx3⟩ : ∃ x, (l)[k]? = some x := ⟨_, List.getElem?_eq_getElem (by omega)⟩
      refine A.goA1 [.rd (encEv x3), .al, .st 2] [1, 2, 6, 10, 11, 12, 7, 13, 9] (fun b4 => [(1, vS ai xs ci), (2, (.func (.func 46) #[] #[p_ b1, p_ b2])), (6, u_ 0), (10, vS ae l ce), (11, c_ l.length), (12, c_ k), (7, u_ (bySum (fun e => soE 2 e fr to) xs (l.take k))), (13, b_ (decide ((k : Int) < (l.length : Int)))), (9, p_ b4)]) (fun b4 => [blk b1 [u_ fr] 22, blk b2 [u_ to] 22, blk b4 (encEv x3) 67]) (fun b4 => [b4]) (fun _ => (fun κ => κ.rd ((at0 ae).add (k * 12)) (encEv x3) ∧ True)) (fun _ => by kernel_rfl) (fun b4 => ⟨(reads_at0 (vs := (encEv x3)) encEv_len (rd_old r0 (by simp [feet])) hx3 (Nat.le_of_ble_eq_true rfl) rfl), trivial⟩) ?_
      intro b4
      refine A.tn (A.seq (A.region (A.goA [.p, .ld 2, .cq (b_ (soE 2 ⟨x3.eo, x3.ei, x3.er, x3.ea, x3.ed, x3.ec, x3.ep, x3.el, x3.fa, x3.fb, x3.fc, x3.fd⟩ fr to)), .p, .o, .p, .p, .ld 2, .cq (b_ (xs.contains x3.ec)), .cl] [(1, vS ai xs ci), (2, (.func (.func 46) #[] #[p_ b1, p_ b2])), (6, u_ 0), (10, vS ae l ce), (11, c_ l.length), (12, c_ k), (7, u_ (bySum (fun e => soE 2 e fr to) xs (l.take k))), (13, b_ (decide ((k : Int) < (l.length : Int)))), (9, p_ b4), (24, b_ ((soE 2 ⟨x3.eo, x3.ei, x3.er, x3.ea, x3.ed, x3.ec, x3.ep, x3.el, x3.fa, x3.fb, x3.fc, x3.fd⟩ fr to) && (xs.contains x3.ec)))] [b4, b4] (fun κ => κ.call 46 [(.agg (encEv x3).toArray), p_ b1, p_ b2] (b_ (soE 2 ⟨x3.eo, x3.ei, x3.er, x3.ea, x3.ed, x3.ec, x3.ep, x3.el, x3.fa, x3.fb, x3.fc, x3.fd⟩ fr to)) ∧ ((true && ((soE 2 ⟨x3.eo, x3.ei, x3.er, x3.ea, x3.ed, x3.ec, x3.ep, x3.el, x3.fa, x3.fb, x3.fc, x3.fd⟩ fr to) == true)) = true → κ.call 59 [vS ai xs ci, i_ x3.ec] (b_ (xs.contains x3.ec))) ∧ True) (by kernel_rfl) ⟨(fun ww ss => sent1_spec x3.eo x3.ei x3.er x3.ea x3.ed x3.ec x3.ep x3.el x3.fa x3.fb x3.fc x3.fd fr to b1 b2 ww (ss.mem (i := 0) rfl) (ss.mem (i := 1) rfl)), (fun h_ => (fun ww ss => ctI_spec ai xs ci x3.ec (by first | assumption | omega | (simp; omega)) ww ((rd_old r1 (by simp [feet])) ww ss))), trivial⟩ ?_)))
      refine A.tn (A.cond (E := (soE 2 ⟨x3.eo, x3.ei, x3.er, x3.ea, x3.ed, x3.ec, x3.ep, x3.el, x3.fa, x3.fb, x3.fc, x3.fd⟩ fr to) && (xs.contains x3.ec)) rfl (fun e2 => ?_) (fun e2 => ?_))
      · skip
        have p2 := e2; try simp only [nrm, bs_inj, Bool.or_eq_true, Bool.or_eq_false_iff, Bool.and_eq_true, Bool.and_eq_false_imp, decide_eq_true_eq, decide_eq_false_iff_not] at p2
        refine A.region (A.goA [.p, .p, .p, .ld 2, .p, .p, .p, .p] [(1, vS ai xs ci), (2, (.func (.func 46) #[] #[p_ b1, p_ b2])), (6, u_ 0), (10, vS ae l ce), (11, c_ l.length), (12, c_ k), (7, u_ (IntKind.u64.wrap ((bySum (fun e => soE 2 e fr to) xs (l.take k)) + (IntKind.u64.wrap (imax x3.el 0))))), (13, b_ (decide ((k : Int) < (l.length : Int)))), (9, p_ b4), (24, b_ ((soE 2 ⟨x3.eo, x3.ei, x3.er, x3.ea, x3.ed, x3.ec, x3.ep, x3.el, x3.fa, x3.fb, x3.fc, x3.fd⟩ fr to) && (xs.contains x3.ec)))] [b4] T0 (by kernel_rfl) trivial ?_)
        refine A.bn (A.tn (A.region (A.goA [.w ((k : Int) + 1), .p] [(1, vS ai xs ci), (2, (.func (.func 46) #[] #[p_ b1, p_ b2])), (6, u_ 0), (10, vS ae l ce), (11, c_ l.length), (12, i_ ((k : Int) + 1)), (7, u_ (IntKind.u64.wrap ((bySum (fun e => soE 2 e fr to) xs (l.take k)) + (IntKind.u64.wrap (imax x3.el 0))))), (13, b_ (decide ((k : Int) < (l.length : Int)))), (9, p_ b4), (24, b_ ((soE 2 ⟨x3.eo, x3.ei, x3.er, x3.ea, x3.ed, x3.ec, x3.ep, x3.el, x3.fa, x3.fb, x3.fc, x3.fd⟩ fr to) && (xs.contains x3.ec)))] [] (fun κ => (IntKind.i64.wrap ((k : Int) + 1) = ((k : Int) + 1)) ∧ True) (by kernel_rfl) ⟨(wrap_i64 (e := (k : Int) + 1) (by (first | (constructor <;> omega) | (rw [imax_eq]; have hok_ := hR _ (List.mem_of_getElem? (by assumption)); unfold EvOk at hok_; constructor <;> omega)))), trivial⟩ ?_)))
        refine A.tn (A.sub [(1, vS ai xs ci), (2, (.func (.func 46) #[] #[p_ b1, p_ b2])), (6, u_ 0), (10, vS ae l ce), (11, c_ l.length), (12, i_ ((k : Int) + 1)), (7, u_ (bySum (fun e => soE 2 e fr to) xs (l.take (k + 1)))), (13, b_ (decide ((k : Int) < (l.length : Int)))), (9, p_ b4), (24, b_ ((soE 2 ⟨x3.eo, x3.ei, x3.er, x3.ea, x3.ed, x3.ec, x3.ep, x3.el, x3.fa, x3.fb, x3.fc, x3.fd⟩ fr to) && (xs.contains x3.ec)))] (by exact ⟨rfl, rfl, rfl, rfl, rfl, rfl, congrArg (fun z_ => some (u_ z_)) (by first | (rw [bySum_at (by assumption), byW_f (by first | assumption | (simp_all; done) | fail)]; omega) | (rw [bySum_at (by assumption), byW_t (by first | assumption | (simp_all; done) | fail), wrap_u64m, wrap_u64m]; omega) | exact bySum_0 _ _ | rfl : IntKind.u64.wrap ((bySum (fun e => soE 2 e fr to) xs (l.take k)) + (IntKind.u64.wrap (imax x3.el 0))) = (bySum (fun e => soE 2 e fr to) xs (l.take (k + 1)))), rfl, rfl, rfl, trivial⟩) ?_)
        refine A.next (k + 1) (by omega) (by (show l.length - (k + 1) < l.length - k; omega)) ?_
        exact A.hereK [0, 0] (by exact ⟨rfl, rfl, rfl, rfl, rfl, rfl, rfl, trivial⟩) (by kernel_rfl)
      · skip
        have p2 := e2; try simp only [nrm, bs_inj, Bool.or_eq_true, Bool.or_eq_false_iff, Bool.and_eq_true, Bool.and_eq_false_imp, decide_eq_true_eq, decide_eq_false_iff_not] at p2
        refine A.skip (A.bn (A.tn (A.region (A.goA [.w ((k : Int) + 1), .p] [(1, vS ai xs ci), (2, (.func (.func 46) #[] #[p_ b1, p_ b2])), (6, u_ 0), (10, vS ae l ce), (11, c_ l.length), (12, i_ ((k : Int) + 1)), (7, u_ (bySum (fun e => soE 2 e fr to) xs (l.take k))), (13, b_ (decide ((k : Int) < (l.length : Int)))), (9, p_ b4), (24, b_ ((soE 2 ⟨x3.eo, x3.ei, x3.er, x3.ea, x3.ed, x3.ec, x3.ep, x3.el, x3.fa, x3.fb, x3.fc, x3.fd⟩ fr to) && (xs.contains x3.ec)))] [] (fun κ => (IntKind.i64.wrap ((k : Int) + 1) = ((k : Int) + 1)) ∧ True) (by kernel_rfl) ⟨(wrap_i64 (e := (k : Int) + 1) (by (first | (constructor <;> omega) | (rw [imax_eq]; have hok_ := hR _ (List.mem_of_getElem? (by assumption)); unfold EvOk at hok_; constructor <;> omega)))), trivial⟩ ?_))))
        refine A.tn (A.sub [(1, vS ai xs ci), (2, (.func (.func 46) #[] #[p_ b1, p_ b2])), (6, u_ 0), (10, vS ae l ce), (11, c_ l.length), (12, i_ ((k : Int) + 1)), (7, u_ (bySum (fun e => soE 2 e fr to) xs (l.take (k + 1)))), (13, b_ (decide ((k : Int) < (l.length : Int)))), (9, p_ b4), (24, b_ ((soE 2 ⟨x3.eo, x3.ei, x3.er, x3.ea, x3.ed, x3.ec, x3.ep, x3.el, x3.fa, x3.fb, x3.fc, x3.fd⟩ fr to) && (xs.contains x3.ec)))] (by exact ⟨rfl, rfl, rfl, rfl, rfl, rfl, congrArg (fun z_ => some (u_ z_)) (by first | (rw [bySum_at (by assumption), byW_f (by first | assumption | (simp_all; done) | fail)]; omega) | (rw [bySum_at (by assumption), byW_t (by first | assumption | (simp_all; done) | fail), wrap_u64m, wrap_u64m]; omega) | exact bySum_0 _ _ | rfl : (bySum (fun e => soE 2 e fr to) xs (l.take k)) = (bySum (fun e => soE 2 e fr to) xs (l.take (k + 1)))), rfl, rfl, rfl, trivial⟩) ?_)
        refine A.next (k + 1) (by omega) (by (show l.length - (k + 1) < l.length - k; omega)) ?_
        exact A.hereK [0, 0] (by exact ⟨rfl, rfl, rfl, rfl, rfl, rfl, rfl, trivial⟩) (by kernel_rfl)
    · skip
      have p1 := of_decide_eq_false e1
      refine A.exit (A.te (A.te (A.bh (A.tn (A.seq (A.region (A.goA [.p, .p] [(1, vS ai xs ci), (2, (.func (.func 46) #[] #[p_ b1, p_ b2])), (6, u_ (bySum (fun e => soE 2 e fr to) xs (l.take k))), (10, vS ae l ce), (11, c_ l.length), (12, c_ k), (7, u_ (bySum (fun e => soE 2 e fr to) xs (l.take k))), (13, b_ (decide ((k : Int) < (l.length : Int))))] [] T0 (by kernel_rfl) trivial ?_)))))))
      refine A.tn (A.ret (A.post [u_ (bySum (fun e => soE 2 e fr to) xs (l.take k))] (fun aa ww rr ss => ⟨rv_tmp rr rfl, trivial⟩) (A.back (by kernel_rfl) ?_)))
      refine A.goA [.p] [(0, vS ae l ce), (1, vS ai xs ci), (2, u_ fr), (3, u_ to), (6, p_ b1), (7, p_ b2), (8, u_ (bySum (fun e => soE 2 e fr to) xs (l.take k)))] [] T0 (by kernel_rfl) trivial ?_
      refine A.tn (A.ret (A.postQ [u_ (bySum (fun e => soE 2 e fr to) xs (l.take k))] (fun aa ww rr ss => ⟨rv_tmp rr rfl, trivial⟩) ?_))
      show ((u_ (bySum (fun e => soE 2 e fr to) xs (l.take k))) : Value) = (u_ (bySum (fun e => soE 2 e fr to) xs l))
      (have hk2 : k = l.length := by omega); subst hk2; rw [List.take_length]

set_option maxHeartbeats 4000000 in
set_option maxRecDepth 100000 in
theorem rbytes_spec (ae : Option Addr) (l : List Ev) (ce : Nat) (q : Int) (ai : Option Addr) (xs : List Int) (ci : Nat) (fr to : Int) (hl : l.length ≤ 1000) (hR : ∀ e ∈ l, EvOk e) (hxs : xs.length ≤ 1000000) (w : World) (r0 : arrAt w ae (V.flat encEv l)) (r1 : arrAt w ai (V.flat encI xs)) :
    Calls Tryd.prog 27 #[vS ae l ce, i_ q, vS ai xs ci, u_ fr, u_ to] w fun e w' => e = .returned (u_ (bySum (fun e => soE q e fr to) xs l)) ∧ Fr [] w w' := by
  refine calls_of (args := [vS ae l ce, i_ q, vS ai xs ci, u_ fr, u_ to]) (penv [vS ae l ce, i_ q, vS ai xs ci, u_ fr, u_ to]) [] [] Tryd.func27 rfl rfl (look_penv _) (HS.nil w) ?_
  refine A.norm [(0, vS ae l ce), (1, i_ q), (2, vS ai xs ci), (3, u_ fr), (4, u_ to)] [] (by exact ⟨rfl, rfl, rfl, rfl, rfl, trivial⟩) rfl ?_
  refine A.seq (A.region (A.goA [.p] [(0, vS ae l ce), (1, i_ q), (2, vS ai xs ci), (3, u_ fr), (4, u_ to), (10, u_ 0)] [] T0 (by kernel_rfl) trivial ?_))
  refine A.tn (A.seq (A.region (A.goA [.p] [(0, vS ae l ce), (1, i_ q), (2, vS ai xs ci), (3, u_ fr), (4, u_ to), (10, u_ 0), (11, u_ 0)] [] T0 (by kernel_rfl) trivial ?_)))
  refine A.tn (A.seq (A.seq (A.region (A.goA [.p, .p, .p] [(0, vS ae l ce), (1, i_ q), (2, vS ai xs ci), (3, u_ fr), (4, u_ to), (10, u_ 0), (11, u_ 0), (14, vS ae l ce), (15, c_ l.length), (16, i_ 0)] [] T0 (by kernel_rfl) trivial ?_))))
  refine A.tn (A.block (A.sub [(0, vS ae l ce), (1, i_ q), (2, vS ai xs ci), (3, u_ fr), (4, u_ to), (10, u_ 0), (11, u_ (bySum (fun e => soE q e fr to) xs (l.take 0))), (14, vS ae l ce), (15, c_ l.length), (16, i_ 0)] (by exact ⟨rfl, rfl, rfl, rfl, rfl, rfl, congrArg (fun z_ => some (u_ z_)) (by first | (rw [bySum_at (by assumption), rby1 (by first | assumption | fail)]; omega) | (rw [bySum_at (by assumption), rby2 (by first | assumption | fail) (by first | assumption | fail)]; omega) | ((obtain ⟨g1_, g2_⟩ := rby3 (by first | assumption | fail) (by first | assumption | fail)); rw [bySum_at (by assumption), g1_, wrap_u64m, wrap_u64m]; omega) | exact bySum_0 _ _ | rfl : 0 = (bySum (fun e => soE q e fr to) xs (l.take 0))), rfl, rfl, rfl, trivial⟩) ?_))
  refine A.loop (fun (zz : Nat) => match zz with | k => [(1, i_ q), (2, vS ai xs ci), (3, u_ fr), (4, u_ to), (10, u_ 0), (14, vS ae l ce), (15, c_ l.length), (16, c_ k), (11, u_ (bySum (fun e => soE q e fr to) xs (l.take k)))]) (fun (zz : Nat) => match zz with | k => []) (fun (zz : Nat) => match zz with | k => (k ≤ l.length)) (fun (zz : Nat) => match zz with | k => l.length - k) (0 : Nat) (by omega) ?_ ?_
  · exact A.hereK [] (by exact ⟨rfl, rfl, rfl, rfl, rfl, rfl, rfl, rfl, rfl, trivial⟩) (by kernel_rfl)
  · rintro k hk
    have hk : k ≤ l.length := hk
    have hb := bySum_rng (fun e => soE q e fr to) xs (l.take k)
    refine A.norm [(1, i_ q), (2, vS ai xs ci), (3, u_ fr), (4, u_ to), (10, u_ 0), (14, vS ae l ce), (15, c_ l.length), (16, c_ k), (11, u_ (bySum (fun e => soE q e fr to) xs (l.take k)))] [] (by exact ⟨rfl, rfl, rfl, rfl, rfl, rfl, rfl, rfl, rfl, trivial⟩) rfl ?_
    refine A.seq (A.region (A.goA [.p] [(1, i_ q), (2, vS ai xs ci), (3, u_ fr), (4, u_ to), (10, u_ 0), (14, vS ae l ce), (15, c_ l.length), (16, c_ k), (11, u_ (bySum (fun e => soE q e fr to) xs (l.take k))), (17, b_ (decide ((k : Int) < (l.length : Int))))] [] T0 (by kernel_rfl) trivial ?_))
    refine A.tn (A.seq (A.cond (E := decide ((k : Int) < (l.length : Int))) rfl (fun e1 => ?_) (fun e1 => ?_)))
    · skip
      have p1 := of_decide_eq_true e1
      refine A.skip (A.tn (A.seq (A.block (A.seq (A.region (A.goP [.ix] [(1, i_ q), (2, vS ai xs ci), (3, u_ fr), (4, u_ to), (10, u_ 0), (14, vS ae l ce), (15, c_ l.length), (16, c_ k), (11, u_ (bySum (fun e => soE q e fr to) xs (l.take k))), (17, b_ (decide ((k : Int) < (l.length : Int)))), (18, (.pointer (some ((at0 ae).add (k * 12)))))] [] (fun κ => κ.ix ae l.length (k : Int) ∧ True) (by kernel_rfl) ⟨(ixOf encEv_len (by decide) (rd_old r0 (by simp [feet])) (by first | omega | (simp; omega) | (simp; done))), trivial⟩ ?_))))))
      obtain ⟨x1, hx1⟩ : ∃ x, (l)[k]? = some x := ⟨_, List.getElem?_eq_getElem (by omega)⟩
      refine A.goA1 [.rd (encEv x1), .al, .st 0] [1, 2, 3, 4, 10, 14, 15, 16, 11, 17, 13] (fun b2 => [(1, i_ q), (2, vS ai xs ci), (3, u_ fr), (4, u_ to), (10, u_ 0), (14, vS ae l ce), (15, c_ l.length), (16, c_ k), (11, u_ (bySum (fun e => soE q e fr to) xs (l.take k))), (17, b_ (decide ((k : Int) < (l.length : Int)))), (13, p_ b2)]) (fun b2 => [blk b2 (encEv x1) 67]) (fun b2 => [b2]) (fun _ => (fun κ => κ.rd ((at0 ae).add (k * 12)) (encEv x1) ∧ True)) (fun _ => by kernel_rfl) (fun b2 => ⟨(reads_at0 (vs := (encEv x1)) encEv_len (rd_old r0 (by simp [feet])) hx1 (Nat.le_of_ble_eq_true rfl) rfl), trivial⟩) ?_
      intro b2
      refine A.tn (A.seq (A.seq (A.region (A.goA [.p, .ld 0, .p, .p, .eq, .p, .o, .p, .p, .ld 0, .cq (b_ (xs.contains x1.ec)), .p, .cl, .p, .o, .p, .p, .ld 0, .p, .cl] [(1, i_ q), (2, vS ai xs ci), (3, u_ fr), (4, u_ to), (10, u_ 0), (14, vS ae l ce), (15, c_ l.length), (16, c_ k), (11, u_ (bySum (fun e => soE q e fr to) xs (l.take k))), (17, b_ (decide ((k : Int) < (l.length : Int)))), (13, p_ b2), (37, b_ (((!(x1.ei == (q == 0))) || (!(xs.contains x1.ec))) || (decide (x1.el < 0))))] [b2, b2, b2] (fun κ => ((true && ((!(x1.ei == (q == 0))) == false)) = true → κ.call 44 [vS ai xs ci, i_ x1.ec] (b_ (xs.contains x1.ec))) ∧ True) (by kernel_rfl) ⟨(fun h_ => (fun ww ss => has_spec ai xs ci x1.ec (by first | assumption | omega | (simp; omega)) ww ((rd_old r1 (by simp [feet])) ww ss))), trivial⟩ ?_))))
      refine A.tn (A.cond (E := ((!(x1.ei == (q == 0))) || (!(xs.contains x1.ec))) || (decide (x1.el < 0))) rfl (fun e2 => ?_) (fun e2 => ?_))
      · skip
        have p2 := e2; try simp only [nrm, bs_inj, Bool.or_eq_true, Bool.or_eq_false_iff, Bool.and_eq_true, Bool.and_eq_false_imp, decide_eq_true_eq, decide_eq_false_iff_not] at p2
        refine A.exit (A.te (A.bh (A.tn (A.region (A.goA [.w ((k : Int) + 1), .p] [(1, i_ q), (2, vS ai xs ci), (3, u_ fr), (4, u_ to), (10, u_ 0), (14, vS ae l ce), (15, c_ l.length), (16, i_ ((k : Int) + 1)), (11, u_ (bySum (fun e => soE q e fr to) xs (l.take k))), (17, b_ (decide ((k : Int) < (l.length : Int)))), (13, p_ b2), (37, b_ (((!(x1.ei == (q == 0))) || (!(xs.contains x1.ec))) || (decide (x1.el < 0))))] [] (fun κ => (IntKind.i64.wrap ((k : Int) + 1) = ((k : Int) + 1)) ∧ True) (by kernel_rfl) ⟨(wrap_i64 (e := (k : Int) + 1) (by constructor <;> omega)), trivial⟩ ?_)))))
        refine A.tn (A.sub [(1, i_ q), (2, vS ai xs ci), (3, u_ fr), (4, u_ to), (10, u_ 0), (14, vS ae l ce), (15, c_ l.length), (16, i_ ((k : Int) + 1)), (11, u_ (bySum (fun e => soE q e fr to) xs (l.take (k + 1)))), (17, b_ (decide ((k : Int) < (l.length : Int)))), (13, p_ b2), (37, b_ (((!(x1.ei == (q == 0))) || (!(xs.contains x1.ec))) || (decide (x1.el < 0))))] (by exact ⟨rfl, rfl, rfl, rfl, rfl, rfl, rfl, rfl, congrArg (fun z_ => some (u_ z_)) (by first | (rw [bySum_at (by assumption), rby1 (by first | assumption | fail)]; omega) | (rw [bySum_at (by assumption), rby2 (by first | assumption | fail) (by first | assumption | fail)]; omega) | ((obtain ⟨g1_, g2_⟩ := rby3 (by first | assumption | fail) (by first | assumption | fail)); rw [bySum_at (by assumption), g1_, wrap_u64m, wrap_u64m]; omega) | exact bySum_0 _ _ | rfl : (bySum (fun e => soE q e fr to) xs (l.take k)) = (bySum (fun e => soE q e fr to) xs (l.take (k + 1)))), rfl, rfl, rfl, trivial⟩) ?_)
        refine A.next (k + 1) (by omega) (by (show l.length - (k + 1) < l.length - k; omega)) ?_
        exact A.hereK [] (by exact ⟨rfl, rfl, rfl, rfl, rfl, rfl, rfl, rfl, rfl, trivial⟩) (by kernel_rfl)
      · skip
        have p2 := e2; try simp only [nrm, bs_inj, Bool.or_eq_true, Bool.or_eq_false_iff, Bool.and_eq_true, Bool.and_eq_false_imp, decide_eq_true_eq, decide_eq_false_iff_not] at p2
        refine A.skip (A.tn (A.seq (A.region (A.goA [.p, .p, .p, .o, .p, .ld 0, .p, .p, .cl, .p, .o, .p, .ld 0, .p, .p, .cl, .p, .o, .p, .p, .p, .o, .p, .ld 0, .p, .p, .cl, .p, .o, .p, .ld 0, .p, .p, .cl, .cl] [(1, i_ q), (2, vS ai xs ci), (3, u_ fr), (4, u_ to), (10, u_ 0), (14, vS ae l ce), (15, c_ l.length), (16, c_ k), (11, u_ (bySum (fun e => soE q e fr to) xs (l.take k))), (17, b_ (decide ((k : Int) < (l.length : Int)))), (13, p_ b2), (37, b_ (((!(x1.ei == (q == 0))) || (!(xs.contains x1.ec))) || (decide (x1.el < 0)))), (67, b_ ((((decide (q < 2)) && (decide (x1.ea ≥ fr))) && (decide (x1.ea ≤ to))) || (((q == 2) && (decide (x1.ed > fr))) && (decide (x1.ed ≤ to)))))] [b2, b2, b2, b2] T0 (by kernel_rfl) trivial ?_))))
        refine A.tn (A.cond (E := (((decide (q < 2)) && (decide (x1.ea ≥ fr))) && (decide (x1.ea ≤ to))) || (((q == 2) && (decide (x1.ed > fr))) && (decide (x1.ed ≤ to)))) rfl (fun e3 => ?_) (fun e3 => ?_))
        · skip
          have p3 := e3; try simp only [nrm, bs_inj, Bool.or_eq_true, Bool.or_eq_false_iff, Bool.and_eq_true, Bool.and_eq_false_imp, decide_eq_true_eq, decide_eq_false_iff_not] at p3
          refine A.region (A.goA [.p, .p, .p, .ld 0, .p, .p, .p] [(1, i_ q), (2, vS ai xs ci), (3, u_ fr), (4, u_ to), (10, u_ 0), (14, vS ae l ce), (15, c_ l.length), (16, c_ k), (11, u_ (IntKind.u64.wrap ((bySum (fun e => soE q e fr to) xs (l.take k)) + (IntKind.u64.wrap (x1.el))))), (17, b_ (decide ((k : Int) < (l.length : Int)))), (13, p_ b2), (37, b_ (((!(x1.ei == (q == 0))) || (!(xs.contains x1.ec))) || (decide (x1.el < 0)))), (67, b_ ((((decide (q < 2)) && (decide (x1.ea ≥ fr))) && (decide (x1.ea ≤ to))) || (((q == 2) && (decide (x1.ed > fr))) && (decide (x1.ed ≤ to)))))] [b2] T0 (by kernel_rfl) trivial ?_)
          refine A.bn (A.tn (A.region (A.goA [.w ((k : Int) + 1), .p] [(1, i_ q), (2, vS ai xs ci), (3, u_ fr), (4, u_ to), (10, u_ 0), (14, vS ae l ce), (15, c_ l.length), (16, i_ ((k : Int) + 1)), (11, u_ (IntKind.u64.wrap ((bySum (fun e => soE q e fr to) xs (l.take k)) + (IntKind.u64.wrap (x1.el))))), (17, b_ (decide ((k : Int) < (l.length : Int)))), (13, p_ b2), (37, b_ (((!(x1.ei == (q == 0))) || (!(xs.contains x1.ec))) || (decide (x1.el < 0)))), (67, b_ ((((decide (q < 2)) && (decide (x1.ea ≥ fr))) && (decide (x1.ea ≤ to))) || (((q == 2) && (decide (x1.ed > fr))) && (decide (x1.ed ≤ to)))))] [] (fun κ => (IntKind.i64.wrap ((k : Int) + 1) = ((k : Int) + 1)) ∧ True) (by kernel_rfl) ⟨(wrap_i64 (e := (k : Int) + 1) (by constructor <;> omega)), trivial⟩ ?_)))
          refine A.tn (A.sub [(1, i_ q), (2, vS ai xs ci), (3, u_ fr), (4, u_ to), (10, u_ 0), (14, vS ae l ce), (15, c_ l.length), (16, i_ ((k : Int) + 1)), (11, u_ (bySum (fun e => soE q e fr to) xs (l.take (k + 1)))), (17, b_ (decide ((k : Int) < (l.length : Int)))), (13, p_ b2), (37, b_ (((!(x1.ei == (q == 0))) || (!(xs.contains x1.ec))) || (decide (x1.el < 0)))), (67, b_ ((((decide (q < 2)) && (decide (x1.ea ≥ fr))) && (decide (x1.ea ≤ to))) || (((q == 2) && (decide (x1.ed > fr))) && (decide (x1.ed ≤ to)))))] (by exact ⟨rfl, rfl, rfl, rfl, rfl, rfl, rfl, rfl, congrArg (fun z_ => some (u_ z_)) (by first | (rw [bySum_at (by assumption), rby1 (by first | assumption | fail)]; omega) | (rw [bySum_at (by assumption), rby2 (by first | assumption | fail) (by first | assumption | fail)]; omega) | ((obtain ⟨g1_, g2_⟩ := rby3 (by first | assumption | fail) (by first | assumption | fail)); rw [bySum_at (by assumption), g1_, wrap_u64m, wrap_u64m]; omega) | exact bySum_0 _ _ | rfl : IntKind.u64.wrap ((bySum (fun e => soE q e fr to) xs (l.take k)) + (IntKind.u64.wrap (x1.el))) = (bySum (fun e => soE q e fr to) xs (l.take (k + 1)))), rfl, rfl, rfl, rfl, trivial⟩) ?_)
          refine A.next (k + 1) (by omega) (by (show l.length - (k + 1) < l.length - k; omega)) ?_
          exact A.hereK [] (by exact ⟨rfl, rfl, rfl, rfl, rfl, rfl, rfl, rfl, rfl, trivial⟩) (by kernel_rfl)
        · skip
          have p3 := e3; try simp only [nrm, bs_inj, Bool.or_eq_true, Bool.or_eq_false_iff, Bool.and_eq_true, Bool.and_eq_false_imp, decide_eq_true_eq, decide_eq_false_iff_not] at p3
          refine A.skip (A.bn (A.tn (A.region (A.goA [.w ((k : Int) + 1), .p] [(1, i_ q), (2, vS ai xs ci), (3, u_ fr), (4, u_ to), (10, u_ 0), (14, vS ae l ce), (15, c_ l.length), (16, i_ ((k : Int) + 1)), (11, u_ (bySum (fun e => soE q e fr to) xs (l.take k))), (17, b_ (decide ((k : Int) < (l.length : Int)))), (13, p_ b2), (37, b_ (((!(x1.ei == (q == 0))) || (!(xs.contains x1.ec))) || (decide (x1.el < 0)))), (67, b_ ((((decide (q < 2)) && (decide (x1.ea ≥ fr))) && (decide (x1.ea ≤ to))) || (((q == 2) && (decide (x1.ed > fr))) && (decide (x1.ed ≤ to)))))] [] (fun κ => (IntKind.i64.wrap ((k : Int) + 1) = ((k : Int) + 1)) ∧ True) (by kernel_rfl) ⟨(wrap_i64 (e := (k : Int) + 1) (by constructor <;> omega)), trivial⟩ ?_))))
          refine A.tn (A.sub [(1, i_ q), (2, vS ai xs ci), (3, u_ fr), (4, u_ to), (10, u_ 0), (14, vS ae l ce), (15, c_ l.length), (16, i_ ((k : Int) + 1)), (11, u_ (bySum (fun e => soE q e fr to) xs (l.take (k + 1)))), (17, b_ (decide ((k : Int) < (l.length : Int)))), (13, p_ b2), (37, b_ (((!(x1.ei == (q == 0))) || (!(xs.contains x1.ec))) || (decide (x1.el < 0)))), (67, b_ ((((decide (q < 2)) && (decide (x1.ea ≥ fr))) && (decide (x1.ea ≤ to))) || (((q == 2) && (decide (x1.ed > fr))) && (decide (x1.ed ≤ to)))))] (by exact ⟨rfl, rfl, rfl, rfl, rfl, rfl, rfl, rfl, congrArg (fun z_ => some (u_ z_)) (by first | (rw [bySum_at (by assumption), rby1 (by first | assumption | fail)]; omega) | (rw [bySum_at (by assumption), rby2 (by first | assumption | fail) (by first | assumption | fail)]; omega) | ((obtain ⟨g1_, g2_⟩ := rby3 (by first | assumption | fail) (by first | assumption | fail)); rw [bySum_at (by assumption), g1_, wrap_u64m, wrap_u64m]; omega) | exact bySum_0 _ _ | rfl : (bySum (fun e => soE q e fr to) xs (l.take k)) = (bySum (fun e => soE q e fr to) xs (l.take (k + 1)))), rfl, rfl, rfl, rfl, trivial⟩) ?_)
          refine A.next (k + 1) (by omega) (by (show l.length - (k + 1) < l.length - k; omega)) ?_
          exact A.hereK [] (by exact ⟨rfl, rfl, rfl, rfl, rfl, rfl, rfl, rfl, rfl, trivial⟩) (by kernel_rfl)
    · skip
      have p1 := of_decide_eq_false e1
      refine A.exit (A.te (A.te (A.bh (A.tn (A.seq (A.region (A.goA [.p, .p] [(1, i_ q), (2, vS ai xs ci), (3, u_ fr), (4, u_ to), (10, u_ (bySum (fun e => soE q e fr to) xs (l.take k))), (14, vS ae l ce), (15, c_ l.length), (16, c_ k), (11, u_ (bySum (fun e => soE q e fr to) xs (l.take k))), (17, b_ (decide ((k : Int) < (l.length : Int))))] [] T0 (by kernel_rfl) trivial ?_)))))))
      refine A.tn (A.ret (A.postQ [u_ (bySum (fun e => soE q e fr to) xs (l.take k))] (fun aa ww rr ss => ⟨rv_tmp rr rfl, trivial⟩) ?_))
      show ((u_ (bySum (fun e => soE q e fr to) xs (l.take k))) : Value) = (u_ (bySum (fun e => soE q e fr to) xs l))
      (have hk2 : k = l.length := by omega); subst hk2; rw [List.take_length]

set_option maxHeartbeats 4000000 in
set_option maxRecDepth 100000 in
theorem may30_spec (eo : Int) (ei er : Bool) (ea ed ec ep el fa fb fc fd : Int) (w : World) :
    Calls Tryd.prog 31 #[(.agg #[i_ eo, b_ ei, b_ er, u_ ea, u_ ed, i_ ec, u_ ep, i_ el, w_ fa, w_ fb, w_ fc, w_ fd])] w fun e w' => e = .returned (b_ (mayE ⟨eo, ei, er, ea, ed, ec, ep, el, fa, fb, fc, fd⟩)) ∧ Fr [] w w' := by
  refine calls_of (args := [(.agg #[i_ eo, b_ ei, b_ er, u_ ea, u_ ed, i_ ec, u_ ep, i_ el, w_ fa, w_ fb, w_ fc, w_ fd])]) (penv [(.agg #[i_ eo, b_ ei, b_ er, u_ ea, u_ ed, i_ ec, u_ ep, i_ el, w_ fa, w_ fb, w_ fc, w_ fd])]) [] [] Tryd.func31 rfl rfl (look_penv _) (HS.nil w) ?_
  refine A.norm [(0, (.agg #[i_ eo, b_ ei, b_ er, u_ ea, u_ ed, i_ ec, u_ ep, i_ el, w_ fa, w_ fb, w_ fc, w_ fd]))] [] (by exact ⟨rfl, trivial⟩) rfl ?_
  refine A.seq (A.region (A.goA1 [.al, .p] [0, 1, 2] (fun b1 => [(0, (.agg #[i_ eo, b_ ei, b_ er, u_ ea, u_ ed, i_ ec, u_ ep, i_ el, w_ fa, w_ fb, w_ fc, w_ fd])), (1, p_ b1), (2, b_ false)]) (fun b1 => [blk b1 [i_ eo, b_ ei, b_ er, u_ ea, u_ ed, i_ ec, u_ ep, i_ el, w_ fa, w_ fb, w_ fc, w_ fd] 67]) (fun b1 => []) (fun _ => T0) (fun _ => by kernel_rfl) (fun b1 => trivial) ?_))
  intro b1
  refine A.tn (A.seq (A.region (A.goA [.p, .ld 0, .p, .p, .o, .p, .ld 0, .p, .cl, .p, .o, .p, .p, .ld 0, .p, .cl, .p, .o, .p, .ld 0, .p, .p, .o, .p, .ld 0, .p, .p, .o, .p, .ld 0, .p, .cl, .cl, .cl, .p] [(0, (.agg #[i_ eo, b_ ei, b_ er, u_ ea, u_ ed, i_ ec, u_ ep, i_ el, w_ fa, w_ fb, w_ fc, w_ fd])), (1, p_ b1), (2, b_ ((((decide (eo ≥ 0)) && (decide (ec ≥ 0))) && (decide (el ≥ 0))) && ((!ei) || ((ed == 0) && (!er)))))] [b1, b1, b1, b1, b1, b1] T0 (by kernel_rfl) trivial ?_)))
  refine A.tn (A.ret (A.postQ [b_ ((((decide (eo ≥ 0)) && (decide (ec ≥ 0))) && (decide (el ≥ 0))) && ((!ei) || ((ed == 0) && (!er))))] (fun aa ww rr ss => ⟨rv_tmp rr rfl, trivial⟩) ?_))
  show ((b_ ((((decide (eo ≥ 0)) && (decide (ec ≥ 0))) && (decide (el ≥ 0))) && ((!ei) || ((ed == 0) && (!er))))) : Value) = (b_ (mayE ⟨eo, ei, er, ea, ed, ec, ep, el, fa, fb, fc, fd⟩))
  first | rfl | (unfold mayE; rfl)
end Go.Proofs.YtdamfdnakkofmaaDoor
