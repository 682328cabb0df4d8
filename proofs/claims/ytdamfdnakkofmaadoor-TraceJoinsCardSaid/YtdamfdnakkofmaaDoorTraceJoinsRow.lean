/- TraceJoins: for every input the law returns true, and each argument reads afterwards as it read before; the card ties the listed variables of the library to the program's text. No condition. -/
import Derived.Test.YtdamfdnakkofmaaDoorCards
import Derived.Test.YtdamfdnakkofmaaDoorTie
import Derived.Test.YtdamfdnakkofmaaDoorTr7
import Derived.Test.YtdamfdnakkofmaaDoorVh
import Derived.Test.YtdamfdnakkofmaaDoorWa
import Derived.Test.YtdamfdnakkofmaaDoorVf
import Derived.ProofKit
import Derived.OpenShut
import Derived.Below
import Derived.Lib.SmallJoins
import Derived.LaidMore
import Derived.Lay
import Derived.SevenTiedAt
import Derived.JoinedTies
namespace Go.Proofs.YtdamfdnakkofmaaDoor.traceJoinsDone
open Go.ChangeShapes Go.WideShapes Go.ChangeAt Go.RowKit V
open Go.ChangeMaps (open_string shut_string)
set_option linter.unusedVariables false
set_option linter.unusedSimpArgs false
theorem own : ownKnob Tryd.prog.godebug = none := by kernel_rfl
theorem laidOut : laidOutB Tryd.prog = true := by kernel_rfl
set_option maxRecDepth 100000 in
theorem lifted (os : Os) (started : os.Started) (H : Type) (enc : TypeId × Value → H) :
    ReturnsInHanded {} Tryd.checked os 8 .any (fun w args => (Rows.traceJoinsSpec.pre enc Tryd.prog Tryd.f8 Rows.traceJoinsRow.domain false w args ∧ laidMetH Tryd.prog Rows.traceJoinsRow.laid w) ∧ sizedMet enc Tryd.prog Tryd.f8 (OpenSpec.ofChange Rows.traceJoinsSpec) false w args)
      (Rows.traceJoinsSpec.post enc Tryd.prog Tryd.f8 false true false false) := by
  refine returnsInHanded_of_change_and (C := Tryd.checked) (X := fun w _ => laidMetH Tryd.prog Rows.traceJoinsRow.laid w) (fun _ _ _ hh h => h.of_heap hh) own started (by kernel_rfl) Tryd.func8
    (ChangeSpec.witness_shaped (enc := enc) (C := Tryd.checked) (os := os) (X := fun w _ => laidMetH Tryd.prog Rows.traceJoinsRow.laid w) false (World.laidAll Tryd.prog os Rows.traceJoinsRow.laid) #[.slice none 0 0, .slice none 0 0, .agg #[.int .u64 0, .int .u64 0, .int .u64 0]] 8 (World.laidAll_os _ _ _)
      (World.shaped_of_ZipB (by kernel_rfl) (by kernel_rfl)) (by kernel_rfl) (by kernel_rfl) (by kernel_rfl)
      (by rw [MakeChecks.laidMetH_plain _ _ _ (by kernel_rfl)]; exact laidMet_laidAll _ (by kernel_rfl) (by kernel_rfl))) ?_
  intro W base args ds gs before hval0 hW _ _ hL _
  have hval : ∀ (j : Nat) t v, Tryd.f8.params[j]? = some t → args[j]? = some v → Value.okWide Tryd.prog W .any base t v := hval0
  have hW' := hW
  obtain ⟨p, q, hA0, hV, rfl, hfz, hnd⟩ := hW
  have hA : DataW.TrodAll enc Tryd.prog W 0 (fun _ => true) true Tryd.f8.params.toList args.toList ds p := hA0
  rw [Tryd.params8] at hA hval
  obtain ⟨v0, vs0, d0, ds0, p0, q0, hargs, rfl, rfl, h0, r0⟩ := trodAll_cons hA
  obtain ⟨v1, vs1, d1, ds1, p1, q1, rfl, rfl, rfl, h1, r1⟩ := trodAll_cons r0
  obtain ⟨v2, vs2, d2, ds2, p2, q2, rfl, rfl, rfl, h2, r2⟩ := trodAll_cons r1
  obtain ⟨rfl, rfl, rfl⟩ := trodAll_nil r2
  obtain rfl : args = #[v0, v1, v2] := by cases args; simp_all
  obtain ⟨rfl, rfl⟩ := trodVars_none hV
  have k0 := h0
  have lt0 : ∀ x ∈ p0, x.block < W.heap.size := by obtain ⟨m, hm⟩ := k0; exact DataW.trod_lt m _ _ _ hm
  have k1 := h1
  have lt1 : ∀ x ∈ p1, x.block < W.heap.size := by obtain ⟨m, hm⟩ := k1; exact DataW.trod_lt m _ _ _ hm
  have k2 := h2
  have lt2 : ∀ x ∈ p2, x.block < W.heap.size := by obtain ⟨m, hm⟩ := k2; exact DataW.trod_lt m _ _ _ hm
  obtain ⟨a0, len0, c0, rfl⟩ := okWide_slice Tryd.underlying53 (hval 0 53 v0 rfl rfl)
  obtain ⟨l, rfl, hl0, ho0⟩ := open_flats (d := 9) Tryd.underlying53 (by kernel_rfl) (by kernel_rfl) encEv_len (by decide) openEv rfl h0
  obtain ⟨a1, len1, c1, rfl⟩ := okWide_slice Tryd.underlying54 (hval 1 54 v1 rfl rfl)
  obtain ⟨xs, rfl, hl1⟩ : ∃ xs : List Int, xs.length = len1 ∧ arrAt W a1 (V.flat encI xs) := by
    obtain ⟨fu, hf⟩ := h1
    rcases open_ints Tryd.underlying54 Tryd.underlying3 (by kernel_rfl) hf with ⟨he, -⟩ | ⟨a, len, cap, zs, he, -, h1, -, h2, -, h4, -⟩
    · simp [Value.cells] at he; obtain ⟨rfl, rfl, rfl⟩ := he; exact ⟨[], rfl, arr_nil _ _⟩
    · simp [Value.cells] at he; obtain ⟨rfl, rfl, rfl⟩ := he; exact ⟨zs.take len1, by simp at h2 ⊢; omega, arr_ints _ h4⟩
  have hw2 := hval 2 59 v2 rfl rfl
  simp only [Value.okWide, Tryd.underlying59] at hw2
  obtain ⟨cs2, rfl, -⟩ := hw2
  obtain ⟨q, hx2, ho2⟩ := open_flat (d := 9) (by kernel_rfl) openQ3 h2
  obtain rfl : cs2 = (encQ3 q).toArray := by have := congrArg List.toArray hx2; simpa [Value.cells] using this
  obtain ⟨a, b, c⟩ := q
  unfold Q3Ok at ho2
  dsimp only at ho2
  have hqa : 0 ≤ a ∧ a < 18446744073709551616 := by omega
  have hqb : 0 ≤ b ∧ b < 18446744073709551616 := by omega
  have hqc : 0 ≤ c ∧ c < 18446744073709551616 := by omega
  clear hA0 hval0
  refine (traceJoins_w a0 l c0 a1 xs c1 a b c ho0 hqa hqb hqc W hl0 hl1 ).mono fun e W' ⟨he, bel0⟩ => ?_
  have bel := bel0.below
  subst he
  exact ⟨_, rfl, _, _, _, [], _, [], hW', trodAll_mk1 (shut_bool Tryd.underlying4 _), (trodAll_cons_mk (Below.trod laidOut (by kernel_rfl) (of_decide_eq_true (by kernel_rfl)) k0 bel lt0) (trodAll_cons_mk (Below.trod laidOut (by kernel_rfl) (of_decide_eq_true (by kernel_rfl)) k1 bel lt1) (trodAll_cons_mk (Below.trod laidOut (by kernel_rfl) (of_decide_eq_true (by kernel_rfl)) k2 bel lt2) trodAll_mk0))), rfl, bel.frame _, fun h => by cases h⟩
theorem row_holds : Rows.TraceJoinsSaid :=
  OpenClaim.holds_of_wide 8 Tryd.f8 rfl rfl rfl rfl rfl rfl rfl ⟨rfl, rfl, rfl, rfl, rfl⟩ rfl rfl rfl rfl rfl (by kernel_rfl) Tryd.func8 (by kernel_rfl)
    (of_decide_eq_true (by kernel_rfl)) (by unfold Func.isWrapper; rw [if_neg (of_decide_eq_false (by kernel_rfl))]; exact ⟨rfl, rfl⟩)
    (fun os started H enc _ => lifted os started H enc)
theorem proved : Rows.TraceJoinsCardSaid :=
  Claim7.holds_tied_plain_at .later [] [.data, .pinned] true Rows.traceJoinsCard.stood.harness false row_holds (fun _ h => by cases h) (by kernel_rfl) (fun _ h => by cases h) traceJoins_row_tie rfl ⟨rfl, rfl⟩ (by kernel_rfl) rfl
    (fun f fn hf hfn => by
      obtain rfl : f = 8 := Option.some.inj ((show Tryd.prog.funcNamed Rows.traceJoinsRow.func = some 8 by kernel_rfl).symm.trans hf) |>.symm
      obtain rfl : fn = Tryd.f8 := (Option.some.inj (Tryd.func8.symm.trans hfn)).symm
      exact ⟨by kernel_rfl, fun j t ht => by
        rw [Tryd.params8] at ht
        have hm : t ∈ ([53, 54, 59] : List TypeId) := by simpa using Array.mem_of_getElem? ht
        have hall : (([53, 54, 59] : List TypeId).all fun u => !Tryd.prog.wantsStandIn u) = true := by kernel_rfl
        exact (show Tryd.prog.wantsStandIn t = false by simpa using List.all_eq_true.1 hall t hm)⟩)
    (by kernel_rfl)
#print axioms proved
end Go.Proofs.YtdamfdnakkofmaaDoor.traceJoinsDone
