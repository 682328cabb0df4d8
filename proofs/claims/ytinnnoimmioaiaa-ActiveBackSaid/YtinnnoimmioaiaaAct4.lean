/- What the functions of this layer do, proved operation by operation, for all arguments, under the conditions that each theorem states. -/
import Derived.Shelf.SlIterI.Nil
import Derived.Shelf.SortM.Plain
import Derived.Shelf.SortM.SortNone
import Derived.Ground.GgzProg
import Derived.Ground.SlgmProg
import Derived.Test.YtinnnoimmioaiaaProg
import Derived.Test.YtinnnoimmioaiaaAct1
namespace Go.Proofs.Ytinnnoimmioaiaa
open Go V
set_option linter.unusedVariables false
set_option linter.unusedSimpArgs false
/-! what New makes, what All tells -/
def shC (kv : List (Int × Cl)) (i : Int) : Bool := decide ((ofC (gcl kv i).la (gcl kv i).lb (gcl kv i).lc) > 1)
def newP (kv : List (Int × Cl)) (ym : List (Int × Pl)) (i : Int) : List (Int × Pl) := if shC kv i = true then mput ym i ⟨(gcl kv i).hp, if (gcl kv i).hl = true then 1 else 0⟩ else ym
def newK (kv : List (Int × Cl)) (k : Nat) : List (Int × Pl) := ((keysF kv (fun v_ => true)).take k).foldl (newP kv) []
def newY (kv : List (Int × Cl)) : List (Int × Pl) := (keysF kv (fun v_ => true)).foldl (newP kv) []
theorem newK_snoc {kv : List (Int × Cl)} {k : Nat} {i : Int} (h : (keysF kv (fun v_ => true))[k]? = some i) : newK kv (k + 1) = newP kv (newK kv k) i := by
  unfold newK; rw [List.take_add_one, h]; simp
theorem newK_all {kv : List (Int × Cl)} {k : Nat} (h : (keysF kv (fun v_ => true)).length ≤ k) : newK kv k = newY kv := by unfold newK newY; rw [List.take_of_length_le h]
def selA (ym : List (Int × Pl)) (f : Int → Bool) (seen : List Nat) : List Int := seen.filterMap fun j => match ym[j]? with | some p => if f p.1 then some p.1 else none | none => none
theorem selA_t {ym : List (Int × Pl)} {f : Int → Bool} {seen : List Nat} {j : Nat} {k : Int} {v : Pl} (h : ym[j]? = some (k, v)) (hf : f k = true) : selA ym f seen ++ [k] = selA ym f (seen ++ [j]) := by unfold selA; rw [List.filterMap_append]; simp [h, hf]
theorem selA_f {ym : List (Int × Pl)} {f : Int → Bool} {seen : List Nat} {j : Nat} {k : Int} {v : Pl} (h : ym[j]? = some (k, v)) (hf : f k = false) : selA ym f seen = selA ym f (seen ++ [j]) := by unfold selA; rw [List.filterMap_append]; simp [h, hf]
theorem selA_len (ym : List (Int × Pl)) (f : Int → Bool) (seen : List Nat) : (selA ym f seen).length ≤ seen.length := List.length_filterMap_le _ _
def allA (ym : List (Int × Pl)) (f : Int → Bool) : List Int := sortI ((ym.filter fun p => f p.1).map (·.1))
theorem selA_range (f : Int → Bool) : ∀ (ym : List (Int × Pl)), selA ym f (List.range ym.length) = (ym.filter fun p => f p.1).map (·.1)
  | [] => rfl
  | p :: ym => by
    have ih := selA_range f ym
    unfold selA at ih ⊢
    rw [List.length_cons, List.range_succ_eq_map, List.filterMap_cons, List.filterMap_map]
    have e : ((fun j => match (p :: ym)[j]? with | some p => if f p.1 then some p.1 else none | none => none) ∘ Nat.succ) = fun j => match ym[j]? with | some p => if f p.1 then some p.1 else none | none => none := by
      funext j; simp
    rw [e, ih]; simp only [List.getElem?_cons_zero, List.filter_cons]
    cases f p.1 <;> simp
theorem selA_all {ym : List (Int × Pl)} {f : Int → Bool} {seen : List Nat} (hn : seen.Nodup) (hb : ∀ j ∈ seen, j < ym.length) (ha : ∀ j, j < ym.length → j ∈ seen) : sortI (selA ym f seen) = allA ym f := by
  unfold allA; rw [← selA_range]; refine sortI_perm ?_
  have hp : seen.Perm (List.range ym.length) := (List.perm_ext_iff_of_nodup hn List.nodup_range).2 fun j => by rw [List.mem_range]; exact ⟨hb j, ha j⟩
  exact hp.filterMap _
theorem walkA {ym : List (Int × Pl)} {seen : List Nat} {j : Nat} {p : Int × Pl} (hn : seen.Nodup) (hb : ∀ j ∈ seen, j < ym.length) (hj : ym[j]? = some p) (hs : j ∉ seen) : (seen ++ [j]).Nodup ∧ (∀ i ∈ seen ++ [j], i < ym.length) ∧ seen.length < ym.length := by
  have hl := (List.getElem?_eq_some_iff.1 hj).1
  have h1 : (seen ++ [j]).Nodup := List.nodup_append.2 ⟨hn, by simp, fun a ha b hb e => by simp at hb; subst hb; subst e; exact hs ha⟩
  have h2 : ∀ i ∈ seen ++ [j], i < ym.length := fun i hi => by
    rcases List.mem_append.1 hi with hi | hi
    · exact hb i hi
    · simp at hi; omega
  have := nodup_le h1 h2
  exact ⟨h1, h2, by simp at this; omega⟩

set_option maxHeartbeats 4000000 in
set_option maxRecDepth 100000 in
theorem anew_nil (w : World) (hs : HS w (feet []) [] w) :
    Calls Try.prog 21 #[n_] w fun e w' => ∃ zz, e = .returned ((fun (zz : Nat × Nat × Nat × Nat) => match zz with | (bs, mb, mo, mk) => (p_ bs)) zz) ∧ (fun (zz : Nat × Nat × Nat × Nat) => match zz with | (bs, mb, mo, mk) => True) zz ∧ Turn [] ((fun (zz : Nat × Nat × Nat × Nat) => match zz with | (bs, mb, mo, mk) => [blk bs [(.map (some mb)), (.map (some mo)), (.map (some mk))] 96, mYI mb ([] : List (Int × Pl)), mNI mo ([] : List (Int × Int)), mDI mk ([] : List (Int × MB)), kidI ([] : List (Int × MB))]) zz) w w' := by
  refine calls_of (args := [n_]) (penv [n_]) (feet []) [] Try.func21 rfl rfl (look_penv _) hs ?_
  refine A.norm [(0, n_)] [] (by exact ⟨rfl, trivial⟩) rfl ?_
  refine A.seq (A.region (A.goA [.p] [(0, n_)] [] T0 (by kernel_rfl) trivial ?_))
  refine A.tn (A.seq (A.region (A.cons (A.makeMap (fun k : Int => i_ k) (fun v_ : Pl => (.agg (encPl v_).toArray)) 9 (by kernel_rfl) rfl (fun m1 => [mYI m1 ([] : List (Int × Pl))]) (fun _ => rfl) ?_))))
  intro m1
  refine A.cons (A.makeMap (fun k : Int => i_ k) (fun x : Int => i_ x) 10 (by kernel_rfl) rfl (fun m2 => [mYI m1 ([] : List (Int × Pl)), mNI m2 ([] : List (Int × Int))]) (fun _ => rfl) ?_)
  intro m2
  refine A.cons (A.makeMap (fun k : Int => i_ k) encMB 11 (by kernel_rfl) rfl (fun m3 => [mYI m1 ([] : List (Int × Pl)), mNI m2 ([] : List (Int × Int)), mDI m3 ([] : List (Int × MB))]) (fun _ => rfl) ?_)
  intro m3
  refine A.goA1 [.p, .al, .p] [0, 3] (fun b4 => [(0, n_), (3, p_ b4)]) (fun b4 => [mYI m1 ([] : List (Int × Pl)), mNI m2 ([] : List (Int × Int)), mDI m3 ([] : List (Int × MB)), blk b4 [(.map (some m1)), (.map (some m2)), (.map (some m3))] 96]) (fun b4 => []) (fun _ => T0) (fun _ => by kernel_rfl) (fun b4 => trivial) ?_
  intro b4
  refine A.tn (A.seq (A.seq (A.region (A.goA [.p, .cq e_, .p, .p] [(0, n_), (3, p_ b4), (15, e_), (16, i_ 0), (17, i_ 0)] [] (fun κ => κ.call 56 [n_] e_ ∧ True) (by kernel_rfl) ⟨(fun ww ss => ids_nil ww), trivial⟩ ?_))))
  refine A.tn (A.block (A.unroll 400 ?_))
  refine A.turnk (m := 399) ?_
  refine A.seq (A.region (A.goA [.p] [(0, n_), (3, p_ b4), (15, e_), (16, i_ 0), (17, i_ 0), (18, b_ false)] [] T0 (by kernel_rfl) trivial ?_))
  refine A.tn (A.seq (A.cond_f rfl (A.exit (A.te (A.te (A.bh (A.tn (A.seq (A.kidNil [mYI m1 ([] : List (Int × Pl)), mNI m2 ([] : List (Int × Int)), mDI m3 ([] : List (Int × MB)), blk b4 [(.map (some m1)), (.map (some m2)), (.map (some m3))] 96, kidI ([] : List (Int × MB))] rfl ?_)))))))))
  refine A.region (A.goA [.p, .p] [(2, p_ b4)] [] T0 (by kernel_rfl) trivial ?_)
  refine A.tn (A.ret (A.postK [3, 0, 0, 0, 0] [p_ b4] (fun aa ww rr ss => ⟨rv_tmp rr rfl, trivial⟩) (b4, m1, m2, m3) ?_ ?_ (by kernel_rfl)))
  · rfl
  · trivial

set_option maxHeartbeats 4000000 in
set_option maxRecDepth 100000 in
theorem anew_ok (bt mc : Nat) (kc : List (Int × Cl)) (hl : kc.length ≤ 1000) (w : World) (r0 : (blk bt [(.map (some mc))] 124).holds w) (r1 : (mHI mc kc).holds w) (hs : HS w (feet []) [] w) :
    Calls Try.prog 21 #[p_ bt] w fun e w' => ∃ zz, e = .returned ((fun (zz : Nat × Nat × Nat × Nat) => match zz with | (bs, mb, mo, mk) => (p_ bs)) zz) ∧ (fun (zz : Nat × Nat × Nat × Nat) => match zz with | (bs, mb, mo, mk) => True) zz ∧ Turn [] ((fun (zz : Nat × Nat × Nat × Nat) => match zz with | (bs, mb, mo, mk) => [blk bs [(.map (some mb)), (.map (some mo)), (.map (some mk))] 96, mYI mb (newY kc), mNI mo ([] : List (Int × Int)), mDI mk ([] : List (Int × MB)), kidI ([] : List (Int × MB))]) zz) w w' := by
  have hkl := keysF_len kc (fun v_ => true)
  refine calls_of (args := [p_ bt]) (penv [p_ bt]) (feet []) [] Try.func21 rfl rfl (look_penv _) hs ?_
  refine A.norm [(0, p_ bt)] [] (by exact ⟨rfl, trivial⟩) rfl ?_
  refine A.seq (A.region (A.goA [.p] [(0, p_ bt)] [] T0 (by kernel_rfl) trivial ?_))
  refine A.tn (A.seq (A.region (A.cons (A.makeMap (fun k : Int => i_ k) (fun v_ : Pl => (.agg (encPl v_).toArray)) 9 (by kernel_rfl) rfl (fun m1 => [mYI m1 ([] : List (Int × Pl))]) (fun _ => rfl) ?_))))
  intro m1
  refine A.cons (A.makeMap (fun k : Int => i_ k) (fun x : Int => i_ x) 10 (by kernel_rfl) rfl (fun m2 => [mYI m1 ([] : List (Int × Pl)), mNI m2 ([] : List (Int × Int))]) (fun _ => rfl) ?_)
  intro m2
  refine A.cons (A.makeMap (fun k : Int => i_ k) encMB 11 (by kernel_rfl) rfl (fun m3 => [mYI m1 ([] : List (Int × Pl)), mNI m2 ([] : List (Int × Int)), mDI m3 ([] : List (Int × MB))]) (fun _ => rfl) ?_)
  intro m3
  refine A.goA1 [.p, .al, .p] [0, 3] (fun b4 => [(0, p_ bt), (3, p_ b4)]) (fun b4 => [mYI m1 ([] : List (Int × Pl)), mNI m2 ([] : List (Int × Int)), mDI m3 ([] : List (Int × MB)), blk b4 [(.map (some m1)), (.map (some m2)), (.map (some m3))] 96]) (fun b4 => []) (fun _ => T0) (fun _ => by kernel_rfl) (fun b4 => trivial) ?_
  intro b4
  refine A.tn (A.seq (A.seq (A.region (A.goP [.p] [(0, p_ bt), (3, p_ b4), (14, p_ bt)] [] T0 (by kernel_rfl) trivial ?_))))
  refine A.cons (A.callT (some 15) [p_ bt] [] ((fun zz => match zz with | (al'5, cl'6) => (vS al'5 (keysF kc (fun v_ => true)) cl'6))) ((fun zz => match zz with | (al'5, cl'6) => True)) ((fun zz => match zz with | (al'5, cl'6) => [sI al'5 (keysF kc (fun v_ => true)) cl'6])) (fun zz => match zz with | (al'5, cl'6) => [sI al'5 (keysF kc (fun v_ => true)) cl'6, mYI m1 ([] : List (Int × Pl)), mNI m2 ([] : List (Int × Int)), mDI m3 ([] : List (Int × MB)), blk b4 [(.map (some m1)), (.map (some m2)), (.map (some m3))] 96]) (by kernel_rfl) rfl rfl (fun ww ss hh => ids_ok bt mc kc (by first | assumption | omega) ww (old_item ss r0) (old_item ss r1) hh) (fun _ => rfl) ?_)
  rintro ⟨al'5, cl'6⟩ -
  refine A.goA [.p, .p] [(0, p_ bt), (3, p_ b4), (15, vS al'5 (keysF kc (fun v_ => true)) cl'6), (16, i_ ((keysF kc (fun v_ => true)).length : Int)), (17, i_ 0)] [] T0 (by kernel_rfl) trivial ?_
  refine A.tn (A.block (A.loop (fun (zz : Nat × (List (Int × Pl))) => match zz with | (k, ymk) => [(0, p_ bt), (3, p_ b4), (15, vS al'5 (keysF kc (fun v_ => true)) cl'6), (16, i_ ((keysF kc (fun v_ => true)).length : Int)), (17, c_ k)]) (fun (zz : Nat × (List (Int × Pl))) => match zz with | (k, ymk) => [blk b4 [(.map (some m1)), (.map (some m2)), (.map (some m3))] 96, mYI m1 ymk, mNI m2 ([] : List (Int × Int)), mDI m3 ([] : List (Int × MB)), sI al'5 (keysF kc (fun v_ => true)) cl'6]) (fun (zz : Nat × (List (Int × Pl))) => match zz with | (k, ymk) => (k ≤ (keysF kc (fun v_ => true)).length) ∧ (ymk = newK kc k)) (fun (zz : Nat × (List (Int × Pl))) => match zz with | (k, ymk) => (keysF kc (fun v_ => true)).length - k) (0, ([] : List (Int × Pl))) ⟨(by omega), (by rfl)⟩ ?_ ?_))
  · exact A.hereK [4, 1, 1, 1, 0] (by exact ⟨rfl, rfl, rfl, rfl, rfl, trivial⟩) (by kernel_rfl)
  · rintro ⟨k, ymk⟩ ⟨hk, hy⟩
    refine A.norm [(0, p_ bt), (3, p_ b4), (15, vS al'5 (keysF kc (fun v_ => true)) cl'6), (16, i_ ((keysF kc (fun v_ => true)).length : Int)), (17, c_ k)] [blk b4 [(.map (some m1)), (.map (some m2)), (.map (some m3))] 96, mYI m1 ymk, mNI m2 ([] : List (Int × Int)), mDI m3 ([] : List (Int × MB)), sI al'5 (keysF kc (fun v_ => true)) cl'6] (by exact ⟨rfl, rfl, rfl, rfl, rfl, trivial⟩) rfl ?_
    refine A.seq (A.region (A.goA [.p] [(0, p_ bt), (3, p_ b4), (15, vS al'5 (keysF kc (fun v_ => true)) cl'6), (16, i_ ((keysF kc (fun v_ => true)).length : Int)), (17, c_ k), (18, b_ (decide ((k : Int) < ((keysF kc (fun v_ => true)).length : Int))))] [] T0 (by kernel_rfl) trivial ?_))
    refine A.tn (A.seq (A.cond (E := decide ((k : Int) < ((keysF kc (fun v_ => true)).length : Int))) rfl (fun e2 => ?_) (fun e2 => ?_)))
    · skip
      have p2 := of_decide_eq_true e2
      refine A.skip (A.tn (A.seq (A.block (A.seq (A.region (A.goP [.ix] [(0, p_ bt), (3, p_ b4), (15, vS al'5 (keysF kc (fun v_ => true)) cl'6), (16, i_ ((keysF kc (fun v_ => true)).length : Int)), (17, c_ k), (19, (.pointer (some ((at0 al'5).add (k * 1)))))] [] (fun κ => κ.ix al'5 ((keysF kc (fun v_ => true)).length) (k : Int) ∧ True) (by kernel_rfl) ⟨(ixOf encI_len (by decide) (rd_sl (i := 4) rfl) (by first | omega | (simp; omega) | (simp; done))), trivial⟩ ?_))))))
      obtain ⟨x8, hx8⟩ : ∃ x, ((keysF kc (fun v_ => true)))[k]? = some x := ⟨_, List.getElem?_eq_getElem (by omega)⟩
      refine A.goA [.rd [i_ x8], .p] [(0, p_ bt), (3, p_ b4), (15, vS al'5 (keysF kc (fun v_ => true)) cl'6), (16, i_ ((keysF kc (fun v_ => true)).length : Int)), (17, c_ k), (5, i_ x8)] [] (fun κ => κ.rd ((at0 al'5).add (k * 1)) [i_ x8] ∧ True) (by kernel_rfl) ⟨(reads_at0 (vs := [i_ x8]) encI_len (rd_sl (i := 4) rfl) hx8 (Nat.le_of_ble_eq_true rfl) rfl), trivial⟩ ?_
      refine A.tn (A.seq (A.region (A.goA1 [.p, .p, .cq (.tuple #[(.agg (encCl (gcl kc x8)).toArray), i_ (gce kc x8)]), .p, .p, .p, .al, .st 5, .p] [0, 3, 15, 16, 17, 5, 6] (fun b9 => [(0, p_ bt), (3, p_ b4), (15, vS al'5 (keysF kc (fun v_ => true)) cl'6), (16, i_ ((keysF kc (fun v_ => true)).length : Int)), (17, c_ k), (5, i_ x8), (6, p_ b9)]) (fun b9 => [blk b4 [(.map (some m1)), (.map (some m2)), (.map (some m3))] 96, mYI m1 ymk, mNI m2 ([] : List (Int × Int)), mDI m3 ([] : List (Int × MB)), sI al'5 (keysF kc (fun v_ => true)) cl'6, blk b9 (encCl (gcl kc x8)) 98]) (fun b9 => [b9]) (fun _ => (fun κ => κ.call 57 [p_ bt, i_ x8] (.tuple #[(.agg (encCl (gcl kc x8)).toArray), i_ (gce kc x8)]) ∧ True)) (fun _ => by kernel_rfl) (fun b9 => ⟨(fun ww ss => get_ok bt mc kc x8 ww (old_item ss r0) (old_item ss r1)), trivial⟩) ?_)))
      intro b9
      refine A.tn (A.seq (A.seq (A.region (A.goA [.ld 5, .cq (b_ (decide ((ofC (gcl kc x8).la (gcl kc x8).lb (gcl kc x8).lc) > 1))), .p] [(0, p_ bt), (3, p_ b4), (15, vS al'5 (keysF kc (fun v_ => true)) cl'6), (16, i_ ((keysF kc (fun v_ => true)).length : Int)), (17, c_ k), (5, i_ x8), (6, p_ b9), (29, b_ (!(decide ((ofC (gcl kc x8).la (gcl kc x8).lb (gcl kc x8).lc) > 1))))] [b9] (fun κ => κ.call 58 [(.agg (encCl (gcl kc x8)).toArray)] (b_ (decide ((ofC (gcl kc x8).la (gcl kc x8).lb (gcl kc x8).lc) > 1))) ∧ True) (by kernel_rfl) ⟨(fun ww ss => shares_spec (gcl kc x8) ww), trivial⟩ ?_))))
      refine A.tn (A.cond (E := !(decide ((ofC (gcl kc x8).la (gcl kc x8).lb (gcl kc x8).lc) > 1))) rfl (fun e3 => ?_) (fun e3 => ?_))
      · skip
        have p3 := e3; try simp only [nrm] at p3
        refine A.exit (A.te (A.bh (A.tn (A.region (A.goA [.w ((k : Int) + 1), .p] [(0, p_ bt), (3, p_ b4), (15, vS al'5 (keysF kc (fun v_ => true)) cl'6), (16, i_ ((keysF kc (fun v_ => true)).length : Int)), (17, i_ ((k : Int) + 1))] [] (fun κ => (IntKind.i64.wrap ((k : Int) + 1) = ((k : Int) + 1)) ∧ True) (by kernel_rfl) ⟨(wrap_i64 (e := (k : Int) + 1) (by constructor <;> omega)), trivial⟩ ?_)))))
        refine A.tn (A.next (k + 1, ymk) ⟨(by omega), (by (rw [newK_snoc (by assumption)]; unfold newP shC; subst hy; first | (simp_all; done) | (simp [*]; done) | grind))⟩ (by (show (keysF kc (fun v_ => true)).length - (k + 1) < (keysF kc (fun v_ => true)).length - k; omega)) ?_)
        exact A.hereK [0, 0, 0, 0, 0] (by exact ⟨rfl, rfl, rfl, rfl, rfl, trivial⟩) (by kernel_rfl)
      · skip
        have p3 := e3; try simp only [nrm] at p3
        refine A.skip (A.tn (A.seq (A.region (A.goA1 [.p, .ld 5, .p, .al, .st 6] [0, 3, 15, 16, 17, 5, 6, 8] (fun b10 => [(0, p_ bt), (3, p_ b4), (15, vS al'5 (keysF kc (fun v_ => true)) cl'6), (16, i_ ((keysF kc (fun v_ => true)).length : Int)), (17, c_ k), (5, i_ x8), (6, p_ b9), (8, p_ b10)]) (fun b10 => [blk b4 [(.map (some m1)), (.map (some m2)), (.map (some m3))] 96, mYI m1 ymk, mNI m2 ([] : List (Int × Int)), mDI m3 ([] : List (Int × MB)), sI al'5 (keysF kc (fun v_ => true)) cl'6, blk b9 (encCl (gcl kc x8)) 98, blk b10 [i_ ((gcl kc x8).hp), i_ 0] 91]) (fun b10 => [b9, b10]) (fun _ => T0) (fun _ => by kernel_rfl) (fun b10 => trivial) ?_))))
        intro b10
        refine A.tn (A.seq (A.seq (A.region (A.goA [.p, .ld 5] [(0, p_ bt), (3, p_ b4), (15, vS al'5 (keysF kc (fun v_ => true)) cl'6), (16, i_ ((keysF kc (fun v_ => true)).length : Int)), (17, c_ k), (5, i_ x8), (8, p_ b10), (34, b_ ((gcl kc x8).hl))] [b9] T0 (by kernel_rfl) trivial ?_))))
        refine A.tn (A.cond (E := (gcl kc x8).hl) rfl (fun e4 => ?_) (fun e4 => ?_))
        · skip
          have p4 := e4; try simp only [nrm] at p4
          refine A.region (A.goAS [.p, .st 6] [(0, p_ bt), (3, p_ b4), (15, vS al'5 (keysF kc (fun v_ => true)) cl'6), (16, i_ ((keysF kc (fun v_ => true)).length : Int)), (17, c_ k), (5, i_ x8), (8, p_ b10)] [blk b4 [(.map (some m1)), (.map (some m2)), (.map (some m3))] 96, mYI m1 ymk, mNI m2 ([] : List (Int × Int)), mDI m3 ([] : List (Int × MB)), sI al'5 (keysF kc (fun v_ => true)) cl'6, blk b9 (encCl (gcl kc x8)) 98, blk b10 [i_ ((gcl kc x8).hp), i_ 1] 91] [b10] T0 (by kernel_rfl) trivial ?_)
          refine A.tn (A.draw2 [6] 7 (by kernel_rfl) ?_)
          refine A.drawP 1 [.p, .p, .p, .ld 0, .p, .ld 6] [0, 1, 2, 3, 4, 5] [(0, p_ bt), (3, p_ b4), (15, vS al'5 (keysF kc (fun v_ => true)) cl'6), (16, i_ ((keysF kc (fun v_ => true)).length : Int)), (17, c_ k), (39, (.map (some m1))), (40, i_ x8), (41, (.agg #[i_ ((gcl kc x8).hp), i_ 1]))] [b4, b10] T0 (by kernel_rfl) trivial ?_
          refine A.only2 6 rfl (by kernel_rfl) (A.mapPut (kt := 3) (et := 91) (enck := (fun k : Int => i_ k)) (encv := (fun v_ : Pl => (.agg (encPl v_).toArray))) (kv := ymk) (k := x8) 1 (⟨(gcl kc x8).hp, 1⟩ : Pl) [blk b4 [(.map (some m1)), (.map (some m2)), (.map (some m3))] 96, mYI m1 (mput ymk x8 (⟨(gcl kc x8).hp, 1⟩ : Pl)), mNI m2 ([] : List (Int × Int)), mDI m3 ([] : List (Int × MB)), sI al'5 (keysF kc (fun v_ => true)) cl'6, blk b9 (encCl (gcl kc x8)) 98, blk b10 [i_ ((gcl kc x8).hp), i_ 1] 91] (by kernel_rfl) rfl rfl rfl rfl (by kernel_rfl) (keyOk_int (by kernel_rfl)) rfl rfl ?_)
          refine A.stage ?_
          refine A.fin2 (by kernel_rfl) ?_
          refine A.bn (A.tn (A.region (A.goA [.w ((k : Int) + 1), .p] [(0, p_ bt), (3, p_ b4), (15, vS al'5 (keysF kc (fun v_ => true)) cl'6), (16, i_ ((keysF kc (fun v_ => true)).length : Int)), (17, i_ ((k : Int) + 1))] [] (fun κ => (IntKind.i64.wrap ((k : Int) + 1) = ((k : Int) + 1)) ∧ True) (by kernel_rfl) ⟨(wrap_i64 (e := (k : Int) + 1) (by constructor <;> omega)), trivial⟩ ?_)))
          refine A.tn (A.next (k + 1, mput ymk x8 (⟨(gcl kc x8).hp, 1⟩ : Pl)) ⟨(by omega), (by (rw [newK_snoc (by assumption)]; unfold newP shC; subst hy; first | (simp_all; done) | (simp [*]; done) | grind))⟩ (by (show (keysF kc (fun v_ => true)).length - (k + 1) < (keysF kc (fun v_ => true)).length - k; omega)) ?_)
          exact A.hereK [0, 0, 0, 0, 0] (by exact ⟨rfl, rfl, rfl, rfl, rfl, trivial⟩) (by kernel_rfl)
        · skip
          have p4 := e4; try simp only [nrm] at p4
          refine A.skip (A.tn (A.draw2 [6] 7 (by kernel_rfl) ?_))
          refine A.drawP 1 [.p, .p, .p, .ld 0, .p, .ld 6] [0, 1, 2, 3, 4, 5] [(0, p_ bt), (3, p_ b4), (15, vS al'5 (keysF kc (fun v_ => true)) cl'6), (16, i_ ((keysF kc (fun v_ => true)).length : Int)), (17, c_ k), (39, (.map (some m1))), (40, i_ x8), (41, (.agg #[i_ ((gcl kc x8).hp), i_ 0]))] [b4, b10] T0 (by kernel_rfl) trivial ?_
          refine A.only2 6 rfl (by kernel_rfl) (A.mapPut (kt := 3) (et := 91) (enck := (fun k : Int => i_ k)) (encv := (fun v_ : Pl => (.agg (encPl v_).toArray))) (kv := ymk) (k := x8) 1 (⟨(gcl kc x8).hp, 0⟩ : Pl) [blk b4 [(.map (some m1)), (.map (some m2)), (.map (some m3))] 96, mYI m1 (mput ymk x8 (⟨(gcl kc x8).hp, 0⟩ : Pl)), mNI m2 ([] : List (Int × Int)), mDI m3 ([] : List (Int × MB)), sI al'5 (keysF kc (fun v_ => true)) cl'6, blk b9 (encCl (gcl kc x8)) 98, blk b10 [i_ ((gcl kc x8).hp), i_ 0] 91] (by kernel_rfl) rfl rfl rfl rfl (by kernel_rfl) (keyOk_int (by kernel_rfl)) rfl rfl ?_)
          refine A.stage ?_
          refine A.fin2 (by kernel_rfl) ?_
          refine A.bn (A.tn (A.region (A.goA [.w ((k : Int) + 1), .p] [(0, p_ bt), (3, p_ b4), (15, vS al'5 (keysF kc (fun v_ => true)) cl'6), (16, i_ ((keysF kc (fun v_ => true)).length : Int)), (17, i_ ((k : Int) + 1))] [] (fun κ => (IntKind.i64.wrap ((k : Int) + 1) = ((k : Int) + 1)) ∧ True) (by kernel_rfl) ⟨(wrap_i64 (e := (k : Int) + 1) (by constructor <;> omega)), trivial⟩ ?_)))
          refine A.tn (A.next (k + 1, mput ymk x8 (⟨(gcl kc x8).hp, 0⟩ : Pl)) ⟨(by omega), (by (rw [newK_snoc (by assumption)]; unfold newP shC; subst hy; first | (simp_all; done) | (simp [*]; done) | grind))⟩ (by (show (keysF kc (fun v_ => true)).length - (k + 1) < (keysF kc (fun v_ => true)).length - k; omega)) ?_)
          exact A.hereK [0, 0, 0, 0, 0] (by exact ⟨rfl, rfl, rfl, rfl, rfl, trivial⟩) (by kernel_rfl)
    · skip
      have p2 := of_decide_eq_false e2
      refine A.exit (A.te (A.te (A.bh (A.tn (A.seq (A.kidNil [blk b4 [(.map (some m1)), (.map (some m2)), (.map (some m3))] 96, mYI m1 ymk, mNI m2 ([] : List (Int × Int)), mDI m3 ([] : List (Int × MB)), sI al'5 (keysF kc (fun v_ => true)) cl'6, kidI ([] : List (Int × MB))] rfl ?_))))))
      refine A.region (A.goA [.p, .p] [(2, p_ b4)] [] T0 (by kernel_rfl) trivial ?_)
      refine A.tn (A.ret ?_)
      rw [show ymk = (newY kc) from by first | rfl | (rw [hy, newK_all (by omega)])]
      refine A.postK [0, 0, 0, 0, 1] [p_ b4] (fun aa ww rr ss => ⟨rv_tmp rr rfl, trivial⟩) (b4, m1, m2, m3) ?_ ?_ (by kernel_rfl)
      · rfl
      · trivial

set_option maxHeartbeats 4000000 in
set_option maxRecDepth 100000 in
theorem all_nil (w : World) :
    Calls Try.prog 24 #[n_] w fun e w' => e = .returned e_ ∧ Fr [] w w' := by
  refine calls_of (args := [n_]) (penv [n_]) [] [] Try.func24 rfl rfl (look_penv _) (HS.nil w) ?_
  refine A.norm [(0, n_)] [] (by exact ⟨rfl, trivial⟩) rfl ?_
  refine A.seq (A.region (A.goA [.p] [(0, n_)] [] T0 (by kernel_rfl) trivial ?_))
  refine A.tn (A.seq (A.seq (A.region (A.goA [.p, .p] [(0, n_), (6, b_ true)] [] T0 (by kernel_rfl) trivial ?_))))
  refine A.tn (A.cond_t rfl (A.seq (A.region (A.goA [.p] [(2, e_)] [] T0 (by kernel_rfl) trivial ?_))))
  refine A.tn (A.ret (A.tr (A.postQ [e_] (fun aa ww rr ss => ⟨rv_tmp rr rfl, trivial⟩) ?_)))
  rfl

set_option maxHeartbeats 4000000 in
set_option maxRecDepth 100000 in
theorem all_ok (bs mb mo mk : Nat) (ym : List (Int × Pl)) (on : List (Int × Int)) (kv : List (Int × MB)) (hl : ym.length ≤ 1000) (w : World) (r0 : (blk bs [(.map (some mb)), (.map (some mo)), (.map (some mk))] 96).holds w) (r1 : (mYI mb ym).holds w) (r2 : (mNI mo on).holds w) (r3 : (mDI mk kv).holds w) (r4 : (kidI kv).holds w) (hs : HS w (feet []) [] w) :
    Calls Try.prog 24 #[p_ bs] w fun e w' => ∃ zz, e = .returned ((fun (zz : (Option Addr) × Nat) => match zz with | (al', cl') => (vS al' (allA ym (isA on kv)) cl')) zz) ∧ (fun (zz : (Option Addr) × Nat) => match zz with | (al', cl') => True) zz ∧ Turn [] ((fun (zz : (Option Addr) × Nat) => match zz with | (al', cl') => [sI al' (allA ym (isA on kv)) cl']) zz) w w' := by
  refine calls_of (args := [p_ bs]) (penv [p_ bs]) (feet []) [] Try.func24 rfl rfl (look_penv _) hs ?_
  refine A.norm [(0, p_ bs)] [] (by exact ⟨rfl, trivial⟩) rfl ?_
  refine A.seq (A.region (A.goA [.p] [(0, p_ bs)] [] T0 (by kernel_rfl) trivial ?_))
  refine A.tn (A.seq (A.seq (A.region (A.goA [.p, .p] [(0, p_ bs), (6, b_ false)] [] T0 (by kernel_rfl) trivial ?_))))
  refine A.tn (A.cond_f rfl (A.skip (A.tn (A.seq (A.region (A.goA [.p] [(0, p_ bs), (3, e_)] [] T0 (by kernel_rfl) trivial ?_))))))
  refine A.tn (A.seq (A.seq (A.region (A.goP [.p, .p, .p, .rd [(.map (some mb))]] [(0, p_ bs), (3, e_), (10, (.map (some mb)))] [] (fun κ => κ.rd ⟨bs, 0, none⟩ [(.map (some mb))] ∧ True) (by kernel_rfl) ⟨(reads_oldblk r0 rfl), trivial⟩ ?_))))
  obtain ⟨⟨es1, cl1, hhp1, hEn1, hbo1, hnd1⟩, hkn1⟩ := id r1
  refine A.cons (A.rangeM (kt := 3) (et := 91) (es := es1) (clock := cl1) 11 (by kernel_rfl) rfl rfl (by kernel_rfl) (fun ww ss => old_heap ss hhp1 (by simp [feet])) (fun b2 => [iterI b2 mb es1 cl1 ([] : List Nat)]) (fun _ => rfl) ?_)
  intro b2
  refine A.done ?_
  refine A.tn (A.block (A.ownNil 3 1 [iterI b2 mb es1 cl1 ([] : List Nat), sI none ([] : List Int) 0] rfl ?_))
  refine A.setH [iterI b2 mb es1 cl1 ([] : List Nat), sI none (selA ym (isA on kv) ([] : List Nat)) 0] (cc rfl (cc (slC (by first | rfl | exact selA_t (by assumption) (by first | assumption | rfl) | exact selA_f (by assumption) (by assumption) | exact selA_all hn hb (by assumption) : ([] : List Int) = (selA ym (isA on kv) ([] : List Nat)))) rfl)) ?_
  refine A.sub [(0, p_ bs), (3, vS none (selA ym (isA on kv) ([] : List Nat)) 0), (10, (.map (some mb))), (11, p_ b2)] (by exact ⟨rfl, congrArg (fun z_ : List Int => some (Value.slice none z_.length 0)) (by first | rfl | exact selA_t (by assumption) (by first | assumption | rfl) | exact selA_f (by assumption) (by assumption) | exact selA_all hn hb (by assumption) : ([] : List Int) = (selA ym (isA on kv) ([] : List Nat))), rfl, rfl, trivial⟩) ?_
  refine A.loop (fun (zz : (List Nat) × (Option Addr) × Nat) => match zz with | (seen, ao, co) => [(0, p_ bs), (11, p_ b2), (3, vS ao (selA ym (isA on kv) seen) co)]) (fun (zz : (List Nat) × (Option Addr) × Nat) => match zz with | (seen, ao, co) => [iterI b2 mb es1 cl1 seen, sI ao (selA ym (isA on kv) seen) co]) (fun (zz : (List Nat) × (Option Addr) × Nat) => match zz with | (seen, ao, co) => seen.Nodup ∧ (∀ j ∈ seen, j < ym.length)) (fun (zz : (List Nat) × (Option Addr) × Nat) => match zz with | (seen, ao, co) => ym.length - seen.length) (([] : List Nat), none, 0) ⟨(by simp), (by simp)⟩ ?_ ?_
  · exact A.hereK [0, 0] (by exact ⟨rfl, rfl, rfl, trivial⟩) (by kernel_rfl)
  · rintro ⟨seen, ao, co⟩ ⟨hn, hb⟩
    have hsl := nodup_le hn hb; have hsk := selA_len ym (isA on kv) seen
    refine A.norm [(0, p_ bs), (11, p_ b2), (3, vS ao (selA ym (isA on kv) seen) co)] [iterI b2 mb es1 cl1 seen, sI ao (selA ym (isA on kv) seen) co] (by exact ⟨rfl, rfl, rfl, trivial⟩) rfl ?_
    refine A.seq (A.region (A.cons (A.nextM (enck := (fun k : Int => i_ k)) (encv := (fun v_ : Pl => (.agg (encPl v_).toArray))) (kv := ym) 0 12 (by kernel_rfl) rfl rfl rfl (fun ww ss => old_heap ss hhp1 (by simp [feet])) hEn1 hbo1 hnd1 (by assumption) (fun j4 => [iterI b2 mb es1 cl1 (seen ++ [j4]), sI ao (selA ym (isA on kv) seen) co]) (fun _ => rfl) (fun hall4 => ?_) (fun j4 mk4 mv4 hj4 hn4 => ?_))))
    · skip
      refine A.goA [.p] [(0, p_ bs), (11, p_ b2), (3, vS ao (selA ym (isA on kv) seen) co), (13, b_ false)] [] T0 (by kernel_rfl) trivial ?_
      refine A.tn (A.seq (A.cond_f rfl (A.exit (A.te (A.te (A.bh (A.tn (A.seq (A.region (A.goP [.p] [(3, vS ao (selA ym (isA on kv) seen) co), (23, vS ao (selA ym (isA on kv) seen) co)] [] T0 (by kernel_rfl) trivial ?_))))))))))
      refine A.cons (A.callT (some 24) [vS ao (selA ym (isA on kv) seen) co] [1] ((fun _ => (.tuple #[]))) ((fun _ => True)) ((fun _ => [sI ao (sortI (selA ym (isA on kv) seen)) co])) (fun _ => [sI ao (sortI (selA ym (isA on kv) seen)) co, iterI b2 mb es1 cl1 seen]) (by kernel_rfl) rfl rfl (fun ww ss hh => sort_spec ao (selA ym (isA on kv) seen) co (by first | assumption | omega) ww hh) (fun _ => rfl) ?_)
      rintro ⟨⟩ -
      refine A.done ?_
      refine A.tn (A.seq (A.region (A.goA [.p, .p] [(2, vS ao (selA ym (isA on kv) seen) co)] [] T0 (by kernel_rfl) trivial ?_)))
      refine A.tn (A.ret (A.setH [sI ao (allA ym (isA on kv)) co, iterI b2 mb es1 cl1 seen] (cc (slC (by first | rfl | exact selA_t (by assumption) (by first | assumption | rfl) | exact selA_f (by assumption) (by assumption) | exact selA_all hn hb (by assumption) : (sortI (selA ym (isA on kv) seen)) = (allA ym (isA on kv)))) rfl) ?_))
      refine A.postK [0] [vS ao (selA ym (isA on kv) seen) co] (fun aa ww rr ss => ⟨rv_tmp rr rfl, trivial⟩) (ao, co) ?_ ?_ (by kernel_rfl)
      · show ((vS ao (selA ym (isA on kv) seen) co) : Value) = (vS ao (allA ym (isA on kv)) co)
        rw [← selA_all hn hb (by assumption)]; unfold vS; rw [sortI_len]
      · trivial
    · skip
      refine A.goA [.p] [(0, p_ bs), (11, p_ b2), (3, vS ao (selA ym (isA on kv) seen) co), (13, b_ true)] [] T0 (by kernel_rfl) trivial ?_
      refine A.tn (A.seq (A.cond_t rfl (A.skip (A.tn (A.block (A.seq (A.region (A.cons (A.q (some 14) (.tuple #[i_ mk4, (.agg (encPl mv4).toArray)]) (by kernel_rfl) (qt_entry (enck := (fun k : Int => i_ k)) (encv := (fun v_ : Pl => (.agg (encPl v_).toArray))) (kv := ym) (k := mk4) (v := mv4) 0 j4 rfl rfl rfl (fun ww ss => old_heap ss hhp1 (by simp [feet])) hEn1 hnd1 hj4) ?_)))))))))
      refine A.goA [.p, .p] [(0, p_ bs), (11, p_ b2), (3, vS ao (selA ym (isA on kv) seen) co), (4, i_ mk4)] [] T0 (by kernel_rfl) trivial ?_
      refine A.tn (A.seq (A.region (A.goA [.p, .p, .cq (b_ (isA on kv mk4))] [(0, p_ bs), (11, p_ b2), (3, vS ao (selA ym (isA on kv) seen) co), (4, i_ mk4), (18, b_ (isA on kv mk4))] [] (fun κ => κ.call 22 [p_ bs, i_ mk4] (b_ (isA on kv mk4)) ∧ True) (by kernel_rfl) ⟨(fun ww ss => is_ok bs mb mo mk ym on kv mk4 ww (old_item ss r0) (old_item ss r1) (old_item ss r2) (old_item ss r3) (old_item ss r4)), trivial⟩ ?_)))
      refine A.tn (A.cond (E := (isA on kv mk4)) rfl (fun e2 => ?_) (fun e2 => ?_))
      · skip
        have p2 := e2; try simp only [nrm] at p2
        refine A.region (A.goP [.p, .p] [(0, p_ bs), (11, p_ b2), (3, vS ao (selA ym (isA on kv) seen) co), (19, vS ao (selA ym (isA on kv) seen) co), (20, i_ mk4)] [] T0 (by kernel_rfl) trivial ?_)
        refine A.cons (A.buildSlice 21 (e := 3) [i_ mk4] (by kernel_rfl) rfl (fun _ => by kernel_rfl) (fun b5 => [iterI b2 mb es1 cl1 (seen ++ [j4]), sI ao (selA ym (isA on kv) seen) co, blk b5 [i_ mk4] 3]) (fun _ => rfl) ?_)
        intro b5
        refine A.cons (A.appendC (enc := encI) (xs := (selA ym (isA on kv) seen)) ([mk4]) 1 22 (e := 3) (z := (i_ 0)) (sz := 1) (by_ := 8) (by kernel_rfl) rfl rfl rfl (by kernel_rfl) (by kernel_rfl) (by rfl) (by decide) encI_len encI_one rfl (rd_blk (i := 2) rfl) (by simp; omega) (fun A6 c6 => [iterI b2 mb es1 cl1 (seen ++ [j4]), sI A6 ((selA ym (isA on kv) seen) ++ ([mk4])) c6, blk b5 [i_ mk4] 3]) (fun _ _ => rfl) ?_)
        intro A6 c6
        refine A.goA [.p] [(0, p_ bs), (11, p_ b2), (3, vS A6 ((selA ym (isA on kv) seen) ++ ([mk4])) c6)] [] T0 (by kernel_rfl) trivial ?_
        refine A.bn (A.tn (A.setH [iterI b2 mb es1 cl1 (seen ++ [j4]), sI A6 (selA ym (isA on kv) (seen ++ [j4])) c6, blk b5 [i_ mk4] 3] (cc rfl (cc (slC (by first | rfl | exact selA_t (by assumption) (by first | assumption | rfl) | exact selA_f (by assumption) (by assumption) | exact selA_all hn hb (by assumption) : (selA ym (isA on kv) seen) ++ ([mk4]) = (selA ym (isA on kv) (seen ++ [j4])))) rfl)) ?_))
        refine A.sub [(0, p_ bs), (11, p_ b2), (3, vS A6 (selA ym (isA on kv) (seen ++ [j4])) c6)] (by exact ⟨rfl, rfl, congrArg (fun z_ : List Int => some (Value.slice A6 z_.length c6)) (by first | rfl | exact selA_t (by assumption) (by first | assumption | rfl) | exact selA_f (by assumption) (by assumption) | exact selA_all hn hb (by assumption) : (selA ym (isA on kv) seen) ++ ([mk4]) = (selA ym (isA on kv) (seen ++ [j4]))), trivial⟩) ?_
        refine A.next ((seen ++ [j4]), A6, c6) ⟨(by exact (walkA hn hb (by assumption) (by assumption)).1), (by exact (walkA hn hb (by assumption) (by assumption)).2.1)⟩ (by ((have h_ := (walkA hn hb (by assumption) (by assumption)).2.2); simp; omega)) ?_
        exact A.hereK [0, 0] (by exact ⟨rfl, rfl, rfl, trivial⟩) (by kernel_rfl)
      · skip
        have p2 := e2; try simp only [nrm] at p2
        refine A.skip (A.bn (A.tn (A.setH [iterI b2 mb es1 cl1 (seen ++ [j4]), sI ao (selA ym (isA on kv) (seen ++ [j4])) co] (cc rfl (cc (slC (by first | rfl | exact selA_t (by assumption) (by first | assumption | rfl) | exact selA_f (by assumption) (by assumption) | exact selA_all hn hb (by assumption) : (selA ym (isA on kv) seen) = (selA ym (isA on kv) (seen ++ [j4])))) rfl)) ?_)))
        refine A.sub [(0, p_ bs), (11, p_ b2), (3, vS ao (selA ym (isA on kv) (seen ++ [j4])) co), (4, i_ mk4), (18, b_ (isA on kv mk4))] (by exact ⟨rfl, rfl, congrArg (fun z_ : List Int => some (Value.slice ao z_.length co)) (by first | rfl | exact selA_t (by assumption) (by first | assumption | rfl) | exact selA_f (by assumption) (by assumption) | exact selA_all hn hb (by assumption) : (selA ym (isA on kv) seen) = (selA ym (isA on kv) (seen ++ [j4]))), rfl, rfl, trivial⟩) ?_
        refine A.next ((seen ++ [j4]), ao, co) ⟨(by exact (walkA hn hb (by assumption) (by assumption)).1), (by exact (walkA hn hb (by assumption) (by assumption)).2.1)⟩ (by ((have h_ := (walkA hn hb (by assumption) (by assumption)).2.2); simp; omega)) ?_
        exact A.hereK [0, 0] (by exact ⟨rfl, rfl, rfl, trivial⟩) (by kernel_rfl)

open Go.RowKit Go.Maps Go.Sort Go.Shelf
def Try.keysA_ren : Go.Shelf.Ren := ⟨fun | 7 => 60 | 10 => 108 | n => n, fun | 23 => 93 | 26 => 3 | 3 => 3 | 28 => 105 | 0 => 0 | 27 => 104 | 33 => 49 | 4 => 4 | n => n, fun | n => n⟩
theorem Try.keysA : Go.Proofs.SlLaysZI.n7 Try.prog Try.keysA_ren := {
  mixed := by kernel_rfl,
  f7 := ⟨Try.f60.name, by decide, Try.func60.trans (congrArg some (by kernel_rfl))⟩,
  f10 := ⟨Try.f108.name, by decide, Try.func108.trans (congrArg some (by kernel_rfl))⟩,
  t0 := Try.underlying0,
  a0 := Try.isAgg0,
  z0 := Try.sizeOf0,
  v0 := Try.zeroValue0,
  t4 := Try.underlying4,
  a4 := Try.isAgg4,
  z4 := Try.sizeOf4,
  v4 := Try.zeroValue4,
  t23 := Try.underlying93,
  a23 := Try.isAgg93,
  z23 := Try.sizeOf93,
  v23 := Try.zeroValue93,
  t26 := Try.underlying3,
  a26 := Try.isAgg3,
  z26 := Try.sizeOf3,
  v26 := Try.zeroValue3,
  t27 := Try.underlying104,
  a27 := Try.isAgg104,
  z27 := Try.sizeOf104,
  v27 := Try.zeroValue104,
  t28 := Try.underlying105,
  a28 := Try.isAgg105,
  z28 := Try.sizeOf105,
  v28 := Try.zeroValue105,
  t33 := Try.underlying49,
  a33 := Try.isAgg49,
  z33 := Try.sizeOf49,
  v33 := Try.zeroValue49 }

def Try.sortedA_ren : Go.Shelf.Ren := ⟨fun | 6 => 59 | 8 => 107 | 9 => 61 | 11 => 129 | 13 => 110 | 12 => 109 | 23 => 139 | 24 => 140 | 14 => 130 | 15 => 131 | 16 => 132 | 17 => 133 | 18 => 134 | 19 => 135 | 20 => 136 | 21 => 137 | 22 => 138 | 25 => 159 | 26 => 160 | 27 => 161 | 28 => 162 | 29 => 163 | 30 => 164 | 31 => 169 | n => n, fun | 26 => 3 | 28 => 105 | 24 => 45 | 0 => 0 | 3 => 3 | 37 => 153 | 48 => 177 | 50 => 24 | 4 => 4 | 40 => 170 | 39 => 169 | 45 => 102 | 5 => 5 | 9 => 9 | 51 => 190 | 55 => 194 | 57 => 198 | 58 => 199 | 33 => 49 | n => n, fun | n => n⟩
theorem Try.sortedA : Go.Proofs.SlLaysZI.n6 Try.prog Try.sortedA_ren := {
  mixed := by kernel_rfl,
  f6 := ⟨Try.f59.name, by decide, Try.func59.trans (congrArg some (by kernel_rfl))⟩,
  f8 := ⟨Try.f107.name, by decide, Try.func107.trans (congrArg some (by kernel_rfl))⟩,
  f11 := ⟨Try.f129.name, by decide, Try.func129.trans (congrArg some (by kernel_rfl))⟩,
  t0 := Try.underlying0,
  a0 := Try.isAgg0,
  z0 := Try.sizeOf0,
  v0 := Try.zeroValue0,
  t24 := Try.underlying45,
  a24 := Try.isAgg45,
  z24 := Try.sizeOf45,
  v24 := Try.zeroValue45,
  t26 := Try.underlying3,
  a26 := Try.isAgg3,
  z26 := Try.sizeOf3,
  v26 := Try.zeroValue3,
  t28 := Try.underlying105,
  a28 := Try.isAgg105,
  z28 := Try.sizeOf105,
  v28 := Try.zeroValue105,
  i26 := by kernel_rfl }


theorem sortsA (m : Nat) : AnyZI.SortsIn Try.prog Try.sortedA_ren Fence.wide m :=
  ⟨fun blk off cap ss W hH hblk hsz => callsIn_wide.2 (AnyM.slices_Sort_int Try.sortA blk off cap ss W hH hblk hsz),
   fun p cap W => callsIn_wide.2 (AnyM.slices_Sort_int_none Try.sortA p cap W)⟩

theorem keys_spec (mb : Nat) (w : World) (hs : HS w (feet []) [] w) :
    Calls Try.prog 60 #[(.map (some mb))] w fun e w' => ∃ zz, e = .returned ((fun (bx : Nat) => (.func (.func 108) #[] #[p_ bx])) zz) ∧ (fun (bx : Nat) => True) zz ∧ Turn [] ((fun (bx : Nat) => [blk bx [(.map (some mb))] 93]) zz) w w' := by
  have cK : CallsIn Fence.wide 5 Try.prog 60 #[.map (some mb)] w fun e w' => e = .returned (.func (.func 108) #[] #[.pointer (some ⟨w.heap.size, 0, none⟩)]) ∧ w' = w.alloc (.cells #[.map (some mb)] 93) := AnyZI.keys_in Try.keysA Fence.wide 5 trivial rfl (some mb) w
  refine ((callsIn_wide (n := 5)).1 cK).mono ?_
  rintro e w' ⟨rfl, rfl⟩
  refine ⟨w.heap.size, rfl, trivial, ⟨Fr.alloc _ _ _, ?_, by simp [feet, blk], by simp [feet, blk]⟩⟩
  intro it hi; simp only [List.mem_singleton] at hi; subst hi
  exact heap_alloc_new w _

theorem keys_nil (w : World) (hs : HS w (feet []) [] w) :
    Calls Try.prog 60 #[(.map none)] w fun e w' => ∃ zz, e = .returned ((fun (bx : Nat) => (.func (.func 108) #[] #[p_ bx])) zz) ∧ (fun (bx : Nat) => True) zz ∧ Turn [] ((fun (bx : Nat) => [blk bx [(.map none)] 93]) zz) w w' := by
  have cK : CallsIn Fence.wide 5 Try.prog 60 #[.map none] w fun e w' => e = .returned (.func (.func 108) #[] #[.pointer (some ⟨w.heap.size, 0, none⟩)]) ∧ w' = w.alloc (.cells #[.map none] 93) := AnyZI.keys_in Try.keysA Fence.wide 5 trivial rfl none w
  refine ((callsIn_wide (n := 5)).1 cK).mono ?_
  rintro e w' ⟨rfl, rfl⟩
  refine ⟨w.heap.size, rfl, trivial, ⟨Fr.alloc _ _ _, ?_, by simp [feet, blk], by simp [feet, blk]⟩⟩
  intro it hi; simp only [List.mem_singleton] at hi; subst hi
  exact heap_alloc_new w _

theorem sorted_spec (bx mb : Nat) (kv : List (Int × Int)) (hr_ : ∀ p ∈ kv, I64 p.1) (hl_ : kv.length ≤ 1000000) (w : World) (r0 : (blk bx [(.map (some mb))] 93).holds w) (r1 : (mNI mb kv).holds w) (hs : HS w (feet []) [] w) :
    Calls Try.prog 59 #[(.func (.func 108) #[] #[p_ bx])] w fun e w' => ∃ zz, e = .returned ((fun (zz : (Option Addr) × Nat) => match zz with | (al', cl') => (vS al' (sortK kv) cl')) zz) ∧ (fun (zz : (Option Addr) × Nat) => match zz with | (al', cl') => True) zz ∧ Turn [] ((fun (zz : (Option Addr) × Nat) => match zz with | (al', cl') => [sI al' (sortK kv) cl']) zz) w w' := by
  have hbx : w.cell? ⟨bx, 0, none⟩ = some (.map (some mb)) := by have h : w.heap[bx]? = _ := r0; simp [World.cell?, h]
  have hlt : bx < w.heap.size := by have h : w.heap[bx]? = _ := r0; exact (Array.getElem?_eq_some_iff.1 h).1
  obtain ⟨D0, hown, hperm, hsize⟩ := mapOwned (P := Try.prog) (kt := 3) (by kernel_rfl) r1 hr_ hl_
  have hseq : SeqGives Fence.wide 2 Try.prog 108 #[.pointer (some ⟨bx, 0, none⟩)] encZ (fun ss => ss.Perm (intKeys D0)) (Maps.size D0) w :=
    AnyZI.keys_gives (ρ := Try.keysA_ren) { Try.keysA with } Fence.wide _ trivial rfl (by omega) bx mb kv.length D0 w hlt hbx hown
  have cS := AnyZI.sorted_in Try.sortedA Fence.wide 5 trivial trivial trivial trivial rfl (by omega) (sortsA _) (enters_of Try.func61 (by kernel_rfl) rfl) 108 #[.pointer (some ⟨bx, 0, none⟩)] trivial (enters_of Try.func108 (by kernel_rfl) rfl) _ _ (by rw [hsize]; simp only [maxLen]; omega) (by omega) _ hseq
  change CallsIn _ _ Try.prog 59 _ _ _ at cS
  refine ((callsIn_wide (n := 5)).1 cS).mono ?_
  rintro e w' ⟨v, ss, rfl, hS, hrow, -, hb⟩
  have e1 : (ss.mergeSort fun x y => decide (x ≤ y)) = sortK kv := mergeSort_of_perm_i (hS.trans hperm)
  have e2 : ss.length = (sortK kv).length := by rw [← e1]; simp
  rw [e1, e2] at hrow
  obtain ⟨A, c, rfl, ht⟩ := turn_of_row (enc := encI) (fun x => rfl) hrow hb
  exact ⟨(A, c), rfl, trivial, ht⟩

theorem sorted_nil (bx : Nat) (w : World) (r0 : (blk bx [(.map none)] 93).holds w) (hs : HS w (feet []) [] w) :
    Calls Try.prog 59 #[(.func (.func 108) #[] #[p_ bx])] w fun e w' => ∃ zz, e = .returned ((fun (zz : (Option Addr) × Nat) => match zz with | (al', cl') => (vS al' ([] : List Int) cl')) zz) ∧ (fun (zz : (Option Addr) × Nat) => match zz with | (al', cl') => True) zz ∧ Turn [] ((fun (zz : (Option Addr) × Nat) => match zz with | (al', cl') => [sI al' ([] : List Int) cl']) zz) w w' := by
  have hbx : w.cell? ⟨bx, 0, none⟩ = some (.map none) := by have h : w.heap[bx]? = _ := r0; simp [World.cell?, h]
  have hlt : bx < w.heap.size := by have h : w.heap[bx]? = _ := r0; exact (Array.getElem?_eq_some_iff.1 h).1
  have hseq : SeqGives Fence.wide 2 Try.prog 108 #[.pointer (some ⟨bx, 0, none⟩)] encZ (fun ss : List Int => ss = []) 0 w :=
    AnyZI.keys_gives_nil (ρ := Try.keysA_ren) { Try.keysA with } Fence.wide _ trivial rfl bx w hlt hbx
  have cS := AnyZI.sorted_in Try.sortedA Fence.wide 5 trivial trivial trivial trivial rfl (by omega) (sortsA _) (enters_of Try.func61 (by kernel_rfl) rfl) 108 #[.pointer (some ⟨bx, 0, none⟩)] trivial (enters_of Try.func108 (by kernel_rfl) rfl) _ _ (by simp only [maxLen]; omega) (by omega) _ hseq
  change CallsIn _ _ Try.prog 59 _ _ _ at cS
  refine ((callsIn_wide (n := 5)).1 cS).mono ?_
  rintro e w' ⟨v, ss, rfl, hS, hrow, -, hb⟩
  have e1 : (ss.mergeSort fun x y => decide (x ≤ y)) = ([] : List Int) := by rw [hS]; simp
  have e2 : ss.length = ([] : List Int).length := by rw [hS]
  rw [e1, e2] at hrow
  obtain ⟨A, c, rfl, ht⟩ := turn_of_row (enc := encI) (fun x => rfl) hrow hb
  exact ⟨(A, c), rfl, trivial, ht⟩

set_option maxHeartbeats 4000000 in
set_option maxRecDepth 100000 in
theorem ach_nil (ci : Int) (w : World) :
    Calls Try.prog 23 #[n_, i_ ci] w fun e w' => e = .returned e_ ∧ Fr [] w w' := by
  refine calls_of (args := [n_, i_ ci]) (penv [n_, i_ ci]) [] [] Try.func23 rfl rfl (look_penv _) (HS.nil w) ?_
  refine A.norm [(0, n_), (1, i_ ci)] [] (by exact ⟨rfl, rfl, trivial⟩) rfl ?_
  refine A.seq (A.region (A.goA [.p] [(0, n_), (1, i_ ci)] [] T0 (by kernel_rfl) trivial ?_))
  refine A.tn (A.seq (A.seq (A.region (A.goA [.p, .p] [(0, n_), (1, i_ ci), (6, b_ true)] [] T0 (by kernel_rfl) trivial ?_))))
  refine A.tn (A.cond_t rfl (A.seq (A.region (A.goA [.p] [(4, e_)] [] T0 (by kernel_rfl) trivial ?_))))
  refine A.tn (A.ret (A.tr (A.postQ [e_] (fun aa ww rr ss => ⟨rv_tmp rr rfl, trivial⟩) ?_)))
  rfl

set_option maxHeartbeats 4000000 in
set_option maxRecDepth 100000 in
theorem ach_ok (bs mb mo mk : Nat) (ym : List (Int × Pl)) (on : List (Int × Int)) (kv : List (Int × MB)) (ci : Int) (hr : ∀ p ∈ kx kv ci, I64 p.1) (hl : (kx kv ci).length ≤ 1000000) (w : World) (r0 : (blk bs [(.map (some mb)), (.map (some mo)), (.map (some mk))] 96).holds w) (r1 : (mYI mb ym).holds w) (r2 : (mNI mo on).holds w) (r3 : (mDI mk kv).holds w) (r4 : (kidI kv).holds w) (hs : HS w (feet []) [] w) :
    Calls Try.prog 23 #[p_ bs, i_ ci] w fun e w' => ∃ zz, e = .returned ((fun (zz : (Option Addr) × Nat) => match zz with | (al', cl') => (vS al' (sortK (kx kv ci)) cl')) zz) ∧ (fun (zz : (Option Addr) × Nat) => match zz with | (al', cl') => True) zz ∧ Turn [] ((fun (zz : (Option Addr) × Nat) => match zz with | (al', cl') => [sI al' (sortK (kx kv ci)) cl']) zz) w w' := by
  refine calls_of (args := [p_ bs, i_ ci]) (penv [p_ bs, i_ ci]) (feet []) [] Try.func23 rfl rfl (look_penv _) hs ?_
  refine A.norm [(0, p_ bs), (1, i_ ci)] [] (by exact ⟨rfl, rfl, trivial⟩) rfl ?_
  refine A.seq (A.region (A.goA [.p] [(0, p_ bs), (1, i_ ci)] [] T0 (by kernel_rfl) trivial ?_))
  refine A.tn (A.seq (A.seq (A.region (A.goA [.p, .p] [(0, p_ bs), (1, i_ ci), (6, b_ false)] [] T0 (by kernel_rfl) trivial ?_))))
  refine A.tn (A.cond_f rfl (A.skip (A.tn (A.seq (A.region (A.goP [.p, .p, .p, .rd [(.map (some mk))], .p] [(10, (.map (some mk))), (11, i_ ci)] [] (fun κ => κ.rd ⟨bs, 2, none⟩ [(.map (some mk))] ∧ True) (by kernel_rfl) ⟨(reads_oldblk r0 rfl), trivial⟩ ?_))))))
  rcases hk1 : mget kv ci with _ | m1
  · have hx1 := kx_none hk1
    refine A.cons (A.q (some 12) (.map none) (by kernel_rfl) (qt_as (mb_none hk1) (qt_lookup (kt := 3) (et := 93) (enck := (fun k : Int => i_ k)) (encv := encMB) (b := mk) (kv := kv) (k := ci) (d0 := m0) (fun ww ss => old_item ss r3) rfl rfl rfl (by kernel_rfl) (keyOk_int (by kernel_rfl)) (by kernel_rfl) rfl)) ?_)
    refine A.cons (A.callT (some 13) [(.map none)] [] ((fun bx2 => (.func (.func 108) #[] #[p_ bx2]))) ((fun bx2 => True)) ((fun bx2 => [blk bx2 [(.map none)] 93])) (fun bx2 => [blk bx2 [(.map none)] 93]) (by kernel_rfl) rfl rfl (fun ww ss hh => keys_nil ww hh) (fun _ => rfl) ?_)
    rintro bx2 -
    refine A.cons (A.callT (some 14) [(.func (.func 108) #[] #[p_ bx2])] [] ((fun zz => match zz with | (al'3, cl'4) => (vS al'3 ([] : List Int) cl'4))) ((fun zz => match zz with | (al'3, cl'4) => True)) ((fun zz => match zz with | (al'3, cl'4) => [sI al'3 ([] : List Int) cl'4])) (fun zz => match zz with | (al'3, cl'4) => [sI al'3 ([] : List Int) cl'4, blk bx2 [(.map none)] 93]) (by kernel_rfl) rfl rfl (fun ww ss hh => sorted_nil bx2 ww (ss.mem (i := 0) rfl) hh) (fun _ => rfl) ?_)
    rintro ⟨al'3, cl'4⟩ -
    refine A.goA [.p] [(4, vS al'3 ([] : List Int) cl'4)] [] T0 (by kernel_rfl) trivial ?_
    refine A.tn (A.ret (A.setH [sI al'3 (sortK (kx kv ci)) cl'4, blk bx2 [(.map none)] 93] (cc (slC (by first | rfl | (simp_all [sortK]; done) : ([] : List Int) = (sortK (kx kv ci)))) rfl) ?_))
    refine A.postK [0] [vS al'3 ([] : List Int) cl'4] (fun aa ww rr ss => ⟨rv_tmp rr rfl, trivial⟩) (al'3, cl'4) ?_ ?_ (by kernel_rfl)
    · show ((vS al'3 ([] : List Int) cl'4) : Value) = (vS al'3 (sortK (kx kv ci)) cl'4)
      first | rfl | (simp_all [sortK]; done)
    · trivial
  · have hx1 := kx_some hk1
    obtain ⟨b1, hm1, hb1⟩ := kid_at r4 hk1
    refine A.cons (A.q (some 12) (.map (some b1)) (by kernel_rfl) (qt_as (mb_some hk1 hm1) (qt_lookup (kt := 3) (et := 93) (enck := (fun k : Int => i_ k)) (encv := encMB) (b := mk) (kv := kv) (k := ci) (d0 := m0) (fun ww ss => old_item ss r3) rfl rfl rfl (by kernel_rfl) (keyOk_int (by kernel_rfl)) (by kernel_rfl) rfl)) ?_)
    refine A.cons (A.callT (some 13) [(.map (some b1))] [] ((fun bx6 => (.func (.func 108) #[] #[p_ bx6]))) ((fun bx6 => True)) ((fun bx6 => [blk bx6 [(.map (some b1))] 93])) (fun bx6 => [blk bx6 [(.map (some b1))] 93]) (by kernel_rfl) rfl rfl (fun ww ss hh => keys_spec b1 ww hh) (fun _ => rfl) ?_)
    rintro bx6 -
    refine A.cons (A.callT (some 14) [(.func (.func 108) #[] #[p_ bx6])] [] ((fun zz => match zz with | (al'7, cl'8) => (vS al'7 (sortK m1.mx) cl'8))) ((fun zz => match zz with | (al'7, cl'8) => True)) ((fun zz => match zz with | (al'7, cl'8) => [sI al'7 (sortK m1.mx) cl'8])) (fun zz => match zz with | (al'7, cl'8) => [sI al'7 (sortK m1.mx) cl'8, blk bx6 [(.map (some b1))] 93]) (by kernel_rfl) rfl rfl (fun ww ss hh => sorted_spec bx6 b1 m1.mx (by first | assumption | (have h_ : kx kv ci = _ := (by assumption); rw [h_] at hr hl; assumption)) (by first | assumption | (have h_ : kx kv ci = _ := (by assumption); rw [h_] at hr hl; assumption)) ww (ss.mem (i := 0) rfl) (old_item ss hb1) hh) (fun _ => rfl) ?_)
    rintro ⟨al'7, cl'8⟩ -
    refine A.goA [.p] [(4, vS al'7 (sortK m1.mx) cl'8)] [] T0 (by kernel_rfl) trivial ?_
    refine A.tn (A.ret (A.setH [sI al'7 (sortK (kx kv ci)) cl'8, blk bx6 [(.map (some b1))] 93] (cc (slC (by first | rfl | (simp_all [sortK]; done) : (sortK m1.mx) = (sortK (kx kv ci)))) rfl) ?_))
    refine A.postK [0] [vS al'7 (sortK m1.mx) cl'8] (fun aa ww rr ss => ⟨rv_tmp rr rfl, trivial⟩) (al'7, cl'8) ?_ ?_ (by kernel_rfl)
    · show ((vS al'7 (sortK m1.mx) cl'8) : Value) = (vS al'7 (sortK (kx kv ci)) cl'8)
      first | rfl | (simp_all [sortK]; done)
    · trivial
end Go.Proofs.Ytinnnoimmioaiaa
