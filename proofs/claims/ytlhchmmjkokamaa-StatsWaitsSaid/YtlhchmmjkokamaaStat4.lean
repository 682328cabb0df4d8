/- What the functions of this layer do, proved operation by operation, for all arguments, under the conditions that each theorem states. -/
import Derived.Test.YtlhchmmjkokamaaProg
import Derived.Test.YtlhchmmjkokamaaStatK
namespace Go.Proofs.Ytlhchmmjkokamaa
open Go V
set_option linter.unusedVariables false
set_option linter.unusedSimpArgs false
def addT (o r : SR) : SR := ⟨IntKind.u64.wrap (o.sp + r.sp), IntKind.u64.wrap (o.sb + r.sb), IntKind.u64.wrap (o.sr + r.sr), IntKind.u64.wrap (o.sw + r.sw), imax o.sg r.sg⟩
def totR (rv : List (Int × SR)) (ids : List Int) : Nat → SR
  | 0 => sr0
  | k + 1 => match ids[k]? with
    | none => totR rv ids k
    | some i => addT (totR rv ids k) ((mget rv i).getD sr0)
theorem totR_succ {rv : List (Int × SR)} {ids : List Int} {k : Nat} {i : Int} (h : ids[k]? = some i) : totR rv ids (k + 1) = addT (totR rv ids k) ((mget rv i).getD sr0) := by rw [totR, h]
theorem sortK_len (kv : List (Int × SL)) : (sortK kv).length = kv.length := by unfold sortK; simp
def goneL (l : List Pk) (i : Nat) (dn nb : Int) (rl : Bool) : List Pk := (l.take i ++ [⟨(l[i]?.getD default).pc, (l[i]?.getD default).pa, dn, nb, rl, true⟩]) ++ l.drop (i + 1)
theorem gone_eq {l : List Pk} {i : Nat} {x : Pk} {dn nb : Int} {rl : Bool} (h : l[i]? = some x) : (l.take i ++ [⟨x.pc, x.pa, dn, nb, rl, true⟩]) ++ l.drop (i + 1) = goneL l i dn nb rl := by unfold goneL; rw [h]; rfl
def sfi (x : Int) (l : List Int) : Nat → List Int × Bool
  | 0 => ([], false)
  | k + 1 => match l[k]? with
    | none => sfi x l k
    | some r =>
      (if r ≠ x then (if !(sfi x l k).2 && decide (x ≤ r) then (sfi x l k).1 ++ [x] else (sfi x l k).1) ++ [r] else (if !(sfi x l k).2 && decide (x ≤ r) then (sfi x l k).1 ++ [x] else (sfi x l k).1),
        (sfi x l k).2 || (!(sfi x l k).2 && decide (x ≤ r)))
theorem sfi_succ {x r : Int} {l : List Int} {k : Nat} (h : l[k]? = some r) : sfi x l (k + 1) =
      (if r ≠ x then (if !(sfi x l k).2 && decide (x ≤ r) then (sfi x l k).1 ++ [x] else (sfi x l k).1) ++ [r] else (if !(sfi x l k).2 && decide (x ≤ r) then (sfi x l k).1 ++ [x] else (sfi x l k).1),
        (sfi x l k).2 || (!(sfi x l k).2 && decide (x ≤ r))) := by rw [sfi, h]
theorem sfi_len (x : Int) (l : List Int) : ∀ k, (sfi x l k).1.length ≤ k + (if (sfi x l k).2 then 1 else 0)
  | 0 => by simp [sfi]
  | k + 1 => by
    have ih := sfi_len x l k
    cases hr : l[k]? with
    | none => rw [show sfi x l (k + 1) = sfi x l k by rw [sfi, hr]]; split <;> split at ih <;> first | omega | simp_all
    | some r =>
      rw [sfi_succ hr]
      cases hp : (sfi x l k).2 <;> rw [hp] at ih <;> by_cases h1 : r = x <;> by_cases h2 : x ≤ r <;> simp [h1, h2] at ih ⊢ <;> omega
theorem sfi_len1 (x : Int) (l : List Int) (k : Nat) : (sfi x l k).1.length ≤ k + 1 := by have := sfi_len x l k; split at this <;> omega
def insI (x : Int) (l : List Int) : List Int := if (sfi x l l.length).2 then (sfi x l l.length).1 else (sfi x l l.length).1 ++ [x]
theorem insI_len (x : Int) (l : List Int) : (insI x l).length ≤ l.length + 1 := by
  have := sfi_len x l l.length
  unfold insI; split <;> simp_all
def clsR (l : List Pk) : Nat → List Int
  | 0 => []
  | k + 1 => match l[k]? with
    | none => clsR l k
    | some p => insI p.pc (clsR l k)
theorem clsR_succ {l : List Pk} {k : Nat} {p : Pk} (h : l[k]? = some p) : clsR l (k + 1) = insI p.pc (clsR l k) := by rw [clsR, h]
theorem clsR_len (l : List Pk) : ∀ k, (clsR l k).length ≤ k
  | 0 => by simp [clsR]
  | k + 1 => by
    have ih := clsR_len l k
    rw [clsR]; split
    · omega
    · have := insI_len (by assumption : Pk).pc (clsR l k); omega

set_option maxHeartbeats 4000000 in
set_option maxRecDepth 100000 in
theorem st_cls_nil (w : World) :
    Calls Try.prog 20 #[n_] w fun e w' => e = .returned e_ ∧ Fr [] w w' := by
  refine calls_of (args := [n_]) (penv [n_]) [] [] Try.func20 rfl rfl (look_penv _) (HS.nil w) ?_
  refine A.norm [(0, n_)] [] (by exact ⟨rfl, trivial⟩) rfl ?_
  refine A.seq ?_
  refine A.region (A.goA [.p] [(0, n_), (2, e_)] [] T0 (by kernel_rfl) trivial ?_)
  refine A.tn ?_
  refine A.seq ?_
  refine A.seq ?_
  refine A.region (A.goA [.p, .p] [(0, n_), (2, e_), (4, (b_ true))] [] T0 (by kernel_rfl) trivial ?_)
  refine A.tn ?_
  refine A.cond_t rfl ?_
  refine A.seq ?_
  refine A.region (A.goA [.p] [(0, n_), (2, e_), (4, (b_ true))] [] T0 (by kernel_rfl) trivial ?_)
  refine A.tn ?_
  refine A.ret ?_
  refine A.tr ?_
  refine A.postQ [e_] (fun aa ww rr ss => ⟨rv_tmp rr rfl, trivial⟩) ?_
  rfl

set_option maxHeartbeats 4000000 in
set_option maxRecDepth 100000 in
theorem st_cls (bs mc mr : Nat) (cv : List (Int × SL)) (hr_ : ∀ p ∈ cv, I64 p.1) (hl_ : cv.length ≤ 1000000) (w : World) (r0 : (blk bs [(.map (some mc)), (.map (some mr))] 58).holds w) (r1 : (mapI (fun k : Int => i_ k) slV mc cv).holds w) (hs : HS w (feet []) [] w) :
    Calls Try.prog 20 #[(p_ bs)] w fun e w' => ∃ zz, e = .returned ((fun (zz : (Option Addr) × Nat) => match zz with | (al', cl') => (.slice al' ((sortK cv).length) cl')) zz) ∧ (fun (zz : (Option Addr) × Nat) => match zz with | (al', cl') => True) zz ∧ Turn [] ((fun (zz : (Option Addr) × Nat) => match zz with | (al', cl') => [sl al' ((sortK cv).length) cl' 3 1 (V.flat encI (sortK cv))]) zz) w w' := by
  refine calls_of (args := [(p_ bs)]) (penv [(p_ bs)]) (feet []) [] Try.func20 rfl rfl (look_penv _) hs ?_
  refine A.norm [(0, (p_ bs))] [] (by exact ⟨rfl, trivial⟩) rfl ?_
  refine A.seq ?_
  refine A.region (A.goA [.p] [(0, (p_ bs)), (2, e_)] [] T0 (by kernel_rfl) trivial ?_)
  refine A.tn ?_
  refine A.seq ?_
  refine A.seq ?_
  refine A.region (A.goA [.p, .p] [(0, (p_ bs)), (2, e_), (4, (b_ false))] [] T0 (by kernel_rfl) trivial ?_)
  refine A.tn ?_
  refine A.cond_f rfl ?_
  refine A.skip ?_
  refine A.tn ?_
  refine A.seq ?_
  refine A.region (A.goP [.p, .p, .p, .rd [(.map (some mc))]] [(0, (p_ bs)), (2, e_), (4, (b_ false)), (8, (.map (some mc)))] [] (fun κ => κ.rd ⟨bs, 0, none⟩ [(.map (some mc))] ∧ True) (by kernel_rfl) ⟨(reads_oldblk r0 rfl), trivial⟩ ?_)
  refine A.cons (A.callT (some 9) [(.map (some mc))] [] ((fun bx1 => (.func (.func 26) #[] #[(p_ bx1)]))) ((fun bx1 => True)) ((fun bx1 => [blk bx1 [(.map (some mc))] 55])) (fun bx1 => [blk bx1 [(.map (some mc))] 55]) (by kernel_rfl) rfl rfl (fun ww ss hh => keys_spec mc ww hh) (fun _ => rfl) ?_)
  rintro bx1 -
  refine A.cons (A.callT (some 10) [(.func (.func 26) #[] #[(p_ bx1)])] [] ((fun zz => match zz with | (al'2, cl'3) => (.slice al'2 ((sortK cv).length) cl'3))) ((fun zz => match zz with | (al'2, cl'3) => True)) ((fun zz => match zz with | (al'2, cl'3) => [sl al'2 ((sortK cv).length) cl'3 3 1 (V.flat encI (sortK cv))])) (fun zz => match zz with | (al'2, cl'3) => [sl al'2 ((sortK cv).length) cl'3 3 1 (V.flat encI (sortK cv)), blk bx1 [(.map (some mc))] 55]) (by kernel_rfl) rfl rfl (fun ww ss hh => sorted_spec bx1 mc cv (by assumption) (by assumption) ww (ss.mem (i := 0) rfl) (old_item ss r1) hh) (fun _ => rfl) ?_)
  rintro ⟨al'2, cl'3⟩ -
  refine A.goA [.p] [(0, (p_ bs)), (2, (.slice al'2 ((sortK cv).length) cl'3)), (4, (b_ false))] [] T0 (by kernel_rfl) trivial ?_
  refine A.tn ?_
  refine A.ret ?_
  refine A.postK [0] [(.slice al'2 ((sortK cv).length) cl'3)] (fun aa ww rr ss => ⟨rv_tmp rr rfl, trivial⟩) (al'2, cl'3) ?_ ?_ (by kernel_rfl)
  · rfl
  · trivial

set_option maxHeartbeats 4000000 in
set_option maxRecDepth 100000 in
theorem st_tot_nil (w : World) :
    Calls Try.prog 18 #[n_] w fun e w' => e = .returned (.agg #[(u_ 0), (u_ 0), (u_ 0), (u_ 0), (u_ 0)]) ∧ Fr [] w w' := by
  refine calls_of (args := [n_]) (penv [n_]) [] [] Try.func18 rfl rfl (look_penv _) (HS.nil w) ?_
  refine A.norm [(0, n_)] [] (by exact ⟨rfl, trivial⟩) rfl ?_
  refine A.seq ?_
  refine A.region (A.goA1 [.al] [0, 2] (fun b1 => [(0, n_), (2, (p_ b1))]) (fun b1 => [blk b1 [(u_ 0), (u_ 0), (u_ 0), (u_ 0), (u_ 0)] 39]) (fun b1 => []) (fun _ => T0) (fun _ => by kernel_rfl) (fun b1 => trivial) ?_)
  intro b1
  refine A.tn ?_
  refine A.seq ?_
  refine A.region (A.goA1 [.al] [0, 2, 3] (fun b2 => [(0, n_), (2, (p_ b1)), (3, (p_ b2))]) (fun b2 => [blk b1 [(u_ 0), (u_ 0), (u_ 0), (u_ 0), (u_ 0)] 39, blk b2 [(u_ 0), (u_ 0), (u_ 0), (u_ 0), (u_ 0)] 39]) (fun b2 => []) (fun _ => T0) (fun _ => by kernel_rfl) (fun b2 => trivial) ?_)
  intro b2
  refine A.tn ?_
  refine A.seq ?_
  refine A.seq ?_
  refine A.region (A.goA [.p, .cq e_, .p, .p] [(0, n_), (2, (p_ b1)), (3, (p_ b2)), (8, e_), (9, (i_ 0)), (10, (i_ 0))] [] (fun κ => κ.call 20 [n_] e_ ∧ True) (by kernel_rfl) ⟨(fun ww ss => st_cls_nil ww), trivial⟩ ?_)
  refine A.tn ?_
  refine A.block ?_
  refine A.unroll 400 ?_
  refine A.turnk (m := 399) ?_
  refine A.seq ?_
  refine A.region (A.goA [.p] [(0, n_), (2, (p_ b1)), (3, (p_ b2)), (8, e_), (9, (i_ 0)), (10, (i_ 0)), (11, (b_ false))] [] T0 (by kernel_rfl) trivial ?_)
  refine A.tn ?_
  refine A.seq ?_
  refine A.cond_f rfl ?_
  refine A.exit ?_
  refine A.te ?_
  refine A.te ?_
  refine A.bh ?_
  refine A.tn ?_
  refine A.seq ?_
  refine A.region (A.goAS [.ld 1, .st 0] [(0, n_), (2, (p_ b1)), (3, (p_ b2)), (8, e_), (9, (i_ 0)), (10, (i_ 0)), (11, (b_ false))] [blk b1 [(u_ 0), (u_ 0), (u_ 0), (u_ 0), (u_ 0)] 39, blk b2 [(u_ 0), (u_ 0), (u_ 0), (u_ 0), (u_ 0)] 39] [b2, b1] T0 (by kernel_rfl) trivial ?_)
  refine A.tn ?_
  refine A.ret ?_
  refine A.postQ [(.agg #[(u_ 0), (u_ 0), (u_ 0), (u_ 0), (u_ 0)])] (fun aa ww rr ss => ⟨rv_cellN (vs := [(u_ 0), (u_ 0), (u_ 0), (u_ 0), (u_ 0)]) rr ss rfl (by kernel_rfl) (reads_blk (i := 0) rfl rfl), trivial⟩) ?_
  rfl

set_option maxHeartbeats 4000000 in
set_option maxRecDepth 100000 in
theorem st_tot (bs mc mr : Nat) (cv : List (Int × SL)) (rv : List (Int × SR)) (hr_ : ∀ p ∈ cv, I64 p.1) (hl_ : cv.length ≤ 1000000) (w : World) (r0 : (blk bs [(.map (some mc)), (.map (some mr))] 58).holds w) (r1 : (mapI (fun k : Int => i_ k) slV mc cv).holds w) (r2 : (mapI (fun k : Int => i_ k) (fun y : SR => (.agg #[u_ y.sp, u_ y.sb, u_ y.sr, u_ y.sw, u_ y.sg])) mr rv).holds w) :
    Calls Try.prog 18 #[(p_ bs)] w fun e w' => e = .returned (.agg #[(u_ ((totR rv (sortK cv) (sortK cv).length).sp)), (u_ ((totR rv (sortK cv) (sortK cv).length).sb)), (u_ ((totR rv (sortK cv) (sortK cv).length).sr)), (u_ ((totR rv (sortK cv) (sortK cv).length).sw)), (u_ ((totR rv (sortK cv) (sortK cv).length).sg))]) ∧ Fr [] w w' := by
  have hskl := sortK_len cv
  refine calls_of (args := [(p_ bs)]) (penv [(p_ bs)]) [] [] Try.func18 rfl rfl (look_penv _) (HS.nil w) ?_
  refine A.norm [(0, (p_ bs))] [] (by exact ⟨rfl, trivial⟩) rfl ?_
  refine A.seq ?_
  refine A.region (A.goA1 [.al] [0, 2] (fun b1 => [(0, (p_ bs)), (2, (p_ b1))]) (fun b1 => [blk b1 [(u_ 0), (u_ 0), (u_ 0), (u_ 0), (u_ 0)] 39]) (fun b1 => []) (fun _ => T0) (fun _ => by kernel_rfl) (fun b1 => trivial) ?_)
  intro b1
  refine A.tn ?_
  refine A.seq ?_
  refine A.region (A.goA1 [.al] [0, 2, 3] (fun b2 => [(0, (p_ bs)), (2, (p_ b1)), (3, (p_ b2))]) (fun b2 => [blk b1 [(u_ 0), (u_ 0), (u_ 0), (u_ 0), (u_ 0)] 39, blk b2 [(u_ 0), (u_ 0), (u_ 0), (u_ 0), (u_ 0)] 39]) (fun b2 => []) (fun _ => T0) (fun _ => by kernel_rfl) (fun b2 => trivial) ?_)
  intro b2
  refine A.tn ?_
  refine A.seq ?_
  refine A.seq ?_
  refine A.region (A.goP [.p] [(0, (p_ bs)), (2, (p_ b1)), (3, (p_ b2)), (7, (p_ bs))] [] T0 (by kernel_rfl) trivial ?_)
  refine A.cons (A.callT (some 8) [(p_ bs)] [] ((fun zz => match zz with | (al'3, cl'4) => (.slice al'3 ((sortK cv).length) cl'4))) ((fun zz => match zz with | (al'3, cl'4) => True)) ((fun zz => match zz with | (al'3, cl'4) => [sl al'3 ((sortK cv).length) cl'4 3 1 (V.flat encI (sortK cv))])) (fun zz => match zz with | (al'3, cl'4) => [sl al'3 ((sortK cv).length) cl'4 3 1 (V.flat encI (sortK cv)), blk b1 [(u_ 0), (u_ 0), (u_ 0), (u_ 0), (u_ 0)] 39, blk b2 [(u_ 0), (u_ 0), (u_ 0), (u_ 0), (u_ 0)] 39]) (by kernel_rfl) rfl rfl (fun ww ss hh => st_cls bs mc mr cv (by assumption) (by assumption) ww (old_item ss r0) (old_item ss r1) hh) (fun _ => rfl) ?_)
  rintro ⟨al'3, cl'4⟩ -
  refine A.goA [.p, .p] [(0, (p_ bs)), (2, (p_ b1)), (3, (p_ b2)), (8, (.slice al'3 ((sortK cv).length) cl'4)), (9, (i_ ((sortK cv).length : Int))), (10, (i_ 0))] [] T0 (by kernel_rfl) trivial ?_
  refine A.tn ?_
  refine A.block ?_
  refine A.setH [sl al'3 ((sortK cv).length) cl'4 3 1 (V.flat encI (sortK cv)), blk b1 [(u_ 0), (u_ 0), (u_ 0), (u_ 0), (u_ 0)] 39, blk b2 [(u_ ((totR rv (sortK cv) 0).sp)), (u_ ((totR rv (sortK cv) 0).sb)), (u_ ((totR rv (sortK cv) 0).sr)), (u_ ((totR rv (sortK cv) 0).sw)), (u_ ((totR rv (sortK cv) 0).sg))] 39] (cc rfl (cc rfl (cc (blkC (cc (congrArg u_ (by first | rfl | (rw [totR_succ (by assumption)]; rfl) : 0 = (totR rv (sortK cv) 0).sp)) (cc (congrArg u_ (by first | rfl | (rw [totR_succ (by assumption)]; rfl) : 0 = (totR rv (sortK cv) 0).sb)) (cc (congrArg u_ (by first | rfl | (rw [totR_succ (by assumption)]; rfl) : 0 = (totR rv (sortK cv) 0).sr)) (cc (congrArg u_ (by first | rfl | (rw [totR_succ (by assumption)]; rfl) : 0 = (totR rv (sortK cv) 0).sw)) (cc (congrArg u_ (by first | rfl | (rw [totR_succ (by assumption)]; rfl) : 0 = (totR rv (sortK cv) 0).sg)) rfl)))))) rfl))) ?_
  refine A.loop (fun (zz : Nat) => match zz with | k => [(0, (p_ bs)), (2, (p_ b1)), (3, (p_ b2)), (8, (.slice al'3 ((sortK cv).length) cl'4)), (9, (i_ ((sortK cv).length : Int))), (10, (i_ (k : Int)))]) (fun (zz : Nat) => match zz with | k => [blk b2 [(u_ ((totR rv (sortK cv) k).sp)), (u_ ((totR rv (sortK cv) k).sb)), (u_ ((totR rv (sortK cv) k).sr)), (u_ ((totR rv (sortK cv) k).sw)), (u_ ((totR rv (sortK cv) k).sg))] 39, sl al'3 ((sortK cv).length) cl'4 3 1 (V.flat encI (sortK cv)), blk b1 [(u_ 0), (u_ 0), (u_ 0), (u_ 0), (u_ 0)] 39]) (fun (zz : Nat) => match zz with | k => (k ≤ (sortK cv).length)) (fun (zz : Nat) => match zz with | k => (sortK cv).length - k) (0 : Nat) (by first | assumption | omega | (simp_all; done) | (simp_all; omega) | grind) ?_ ?_
  · exact A.hereK [2, 0, 0] (by exact ⟨rfl, rfl, rfl, rfl, rfl, rfl, trivial⟩) (by kernel_rfl)
  · rintro k hk
    have hk : k ≤ (sortK cv).length := hk
    refine A.norm [(0, (p_ bs)), (2, (p_ b1)), (3, (p_ b2)), (8, (.slice al'3 ((sortK cv).length) cl'4)), (9, (i_ ((sortK cv).length : Int))), (10, (i_ (k : Int)))] [blk b2 [(u_ ((totR rv (sortK cv) k).sp)), (u_ ((totR rv (sortK cv) k).sb)), (u_ ((totR rv (sortK cv) k).sr)), (u_ ((totR rv (sortK cv) k).sw)), (u_ ((totR rv (sortK cv) k).sg))] 39, sl al'3 ((sortK cv).length) cl'4 3 1 (V.flat encI (sortK cv)), blk b1 [(u_ 0), (u_ 0), (u_ 0), (u_ 0), (u_ 0)] 39] (by exact ⟨rfl, rfl, rfl, rfl, rfl, rfl, trivial⟩) rfl ?_
    refine A.seq ?_
    refine A.region (A.goA [.p] [(0, (p_ bs)), (2, (p_ b1)), (3, (p_ b2)), (8, (.slice al'3 ((sortK cv).length) cl'4)), (9, (i_ ((sortK cv).length : Int))), (10, (i_ (k : Int))), (11, (b_ (decide ((k : Int) < ((sortK cv).length : Int)))))] [] T0 (by kernel_rfl) trivial ?_)
    refine A.tn ?_
    refine A.seq ?_
    refine A.cond (E := decide ((k : Int) < ((sortK cv).length : Int))) rfl (fun e2 => ?_) (fun e2 => ?_)
    · skip
      have p2 := of_decide_eq_true e2
      refine A.skip ?_
      refine A.tn ?_
      refine A.seq ?_
      refine A.block ?_
      refine A.seq ?_
      refine A.region (A.goP [.ix] [(0, (p_ bs)), (2, (p_ b1)), (3, (p_ b2)), (8, (.slice al'3 ((sortK cv).length) cl'4)), (9, (i_ ((sortK cv).length : Int))), (10, (i_ (k : Int))), (11, (b_ (decide ((k : Int) < ((sortK cv).length : Int))))), (12, (.pointer (some ((at0 al'3).add (k * 1)))))] [] (fun κ => κ.ix al'3 ((sortK cv).length) (k : Int) ∧ True) (by kernel_rfl) ⟨(ixOf encI_len (by decide) (rd_sl (i := 1) rfl) (by first | omega | (simp; omega) | (simp; done))), trivial⟩ ?_)
      obtain ⟨x6, hx6⟩ : ∃ x, ((sortK cv))[k]? = some x := ⟨_, List.getElem?_eq_getElem (by omega)⟩
      refine A.goA [.rd [(i_ x6)], .p] [(0, (p_ bs)), (2, (p_ b1)), (3, (p_ b2)), (8, (.slice al'3 ((sortK cv).length) cl'4)), (9, (i_ ((sortK cv).length : Int))), (10, (i_ (k : Int))), (11, (b_ (decide ((k : Int) < ((sortK cv).length : Int))))), (5, (i_ x6))] [] (fun κ => κ.rd ((at0 al'3).add (k * 1)) [(i_ x6)] ∧ True) (by kernel_rfl) ⟨(reads_at0 (vs := [(i_ x6)]) encI_len (rd_sl (i := 1) rfl) hx6 (by simp) rfl), trivial⟩ ?_
      refine A.tn ?_
      refine A.seq ?_
      refine A.region (A.goP [.p, .p, .p, .rd [(.map (some mr))], .p] [(0, (p_ bs)), (2, (p_ b1)), (3, (p_ b2)), (8, (.slice al'3 ((sortK cv).length) cl'4)), (9, (i_ ((sortK cv).length : Int))), (10, (i_ (k : Int))), (11, (b_ (decide ((k : Int) < ((sortK cv).length : Int))))), (5, (i_ x6)), (17, (.map (some mr))), (18, (i_ x6))] [] (fun κ => κ.rd ⟨bs, 1, none⟩ [(.map (some mr))] ∧ True) (by kernel_rfl) ⟨(reads_oldblk r0 rfl), trivial⟩ ?_)
      refine A.cons (A.q (some 19) (.agg #[(u_ (((mget rv x6).getD sr0).sp)), (u_ (((mget rv x6).getD sr0).sb)), (u_ (((mget rv x6).getD sr0).sr)), (u_ (((mget rv x6).getD sr0).sw)), (u_ (((mget rv x6).getD sr0).sg))]) (by kernel_rfl) (qt_lookup (kt := 3) (et := 39) (enck := (fun k : Int => i_ k)) (encv := (fun y : SR => (.agg #[u_ y.sp, u_ y.sb, u_ y.sr, u_ y.sw, u_ y.sg]))) (b := mr) (kv := rv) (k := x6) (d0 := sr0) (fun ww ss => old_item ss r2) rfl rfl rfl (by kernel_rfl) keyOk_I (by kernel_rfl) rfl) ?_)
      refine A.goA1 [.al, .st 3] [0, 2, 3, 8, 9, 10, 11, 5, 6] (fun b7 => [(0, (p_ bs)), (2, (p_ b1)), (3, (p_ b2)), (8, (.slice al'3 ((sortK cv).length) cl'4)), (9, (i_ ((sortK cv).length : Int))), (10, (i_ (k : Int))), (11, (b_ (decide ((k : Int) < ((sortK cv).length : Int))))), (5, (i_ x6)), (6, (p_ b7))]) (fun b7 => [blk b2 [(u_ ((totR rv (sortK cv) k).sp)), (u_ ((totR rv (sortK cv) k).sb)), (u_ ((totR rv (sortK cv) k).sr)), (u_ ((totR rv (sortK cv) k).sw)), (u_ ((totR rv (sortK cv) k).sg))] 39, sl al'3 ((sortK cv).length) cl'4 3 1 (V.flat encI (sortK cv)), blk b1 [(u_ 0), (u_ 0), (u_ 0), (u_ 0), (u_ 0)] 39, blk b7 [(u_ (((mget rv x6).getD sr0).sp)), (u_ (((mget rv x6).getD sr0).sb)), (u_ (((mget rv x6).getD sr0).sr)), (u_ (((mget rv x6).getD sr0).sw)), (u_ (((mget rv x6).getD sr0).sg))] 39]) (fun b7 => [b7]) (fun _ => T0) (fun _ => by kernel_rfl) (fun b7 => trivial) ?_
      intro b7
      refine A.tn ?_
      refine A.seq ?_
      refine A.region (A.goAS [.p, .ld 0, .p, .ld 3, .p, .p, .st 0] [(0, (p_ bs)), (2, (p_ b1)), (3, (p_ b2)), (8, (.slice al'3 ((sortK cv).length) cl'4)), (9, (i_ ((sortK cv).length : Int))), (10, (i_ (k : Int))), (11, (b_ (decide ((k : Int) < ((sortK cv).length : Int))))), (5, (i_ x6)), (6, (p_ b7))] [blk b2 [(u_ (IntKind.u64.wrap (((totR rv (sortK cv) k).sp) + (((mget rv x6).getD sr0).sp)))), (u_ ((totR rv (sortK cv) k).sb)), (u_ ((totR rv (sortK cv) k).sr)), (u_ ((totR rv (sortK cv) k).sw)), (u_ ((totR rv (sortK cv) k).sg))] 39, sl al'3 ((sortK cv).length) cl'4 3 1 (V.flat encI (sortK cv)), blk b1 [(u_ 0), (u_ 0), (u_ 0), (u_ 0), (u_ 0)] 39, blk b7 [(u_ (((mget rv x6).getD sr0).sp)), (u_ (((mget rv x6).getD sr0).sb)), (u_ (((mget rv x6).getD sr0).sr)), (u_ (((mget rv x6).getD sr0).sw)), (u_ (((mget rv x6).getD sr0).sg))] 39] [b2, b7, b2] T0 (by kernel_rfl) trivial ?_)
      refine A.tn ?_
      refine A.seq ?_
      refine A.region (A.goAS [.p, .ld 0, .p, .ld 3, .p, .p, .st 0] [(0, (p_ bs)), (2, (p_ b1)), (3, (p_ b2)), (8, (.slice al'3 ((sortK cv).length) cl'4)), (9, (i_ ((sortK cv).length : Int))), (10, (i_ (k : Int))), (11, (b_ (decide ((k : Int) < ((sortK cv).length : Int))))), (5, (i_ x6)), (6, (p_ b7))] [blk b2 [(u_ (IntKind.u64.wrap (((totR rv (sortK cv) k).sp) + (((mget rv x6).getD sr0).sp)))), (u_ (IntKind.u64.wrap (((totR rv (sortK cv) k).sb) + (((mget rv x6).getD sr0).sb)))), (u_ ((totR rv (sortK cv) k).sr)), (u_ ((totR rv (sortK cv) k).sw)), (u_ ((totR rv (sortK cv) k).sg))] 39, sl al'3 ((sortK cv).length) cl'4 3 1 (V.flat encI (sortK cv)), blk b1 [(u_ 0), (u_ 0), (u_ 0), (u_ 0), (u_ 0)] 39, blk b7 [(u_ (((mget rv x6).getD sr0).sp)), (u_ (((mget rv x6).getD sr0).sb)), (u_ (((mget rv x6).getD sr0).sr)), (u_ (((mget rv x6).getD sr0).sw)), (u_ (((mget rv x6).getD sr0).sg))] 39] [b2, b7, b2] T0 (by kernel_rfl) trivial ?_)
      refine A.tn ?_
      refine A.seq ?_
      refine A.region (A.goAS [.p, .ld 0, .p, .ld 3, .p, .p, .st 0] [(0, (p_ bs)), (2, (p_ b1)), (3, (p_ b2)), (8, (.slice al'3 ((sortK cv).length) cl'4)), (9, (i_ ((sortK cv).length : Int))), (10, (i_ (k : Int))), (11, (b_ (decide ((k : Int) < ((sortK cv).length : Int))))), (5, (i_ x6)), (6, (p_ b7))] [blk b2 [(u_ (IntKind.u64.wrap (((totR rv (sortK cv) k).sp) + (((mget rv x6).getD sr0).sp)))), (u_ (IntKind.u64.wrap (((totR rv (sortK cv) k).sb) + (((mget rv x6).getD sr0).sb)))), (u_ (IntKind.u64.wrap (((totR rv (sortK cv) k).sr) + (((mget rv x6).getD sr0).sr)))), (u_ ((totR rv (sortK cv) k).sw)), (u_ ((totR rv (sortK cv) k).sg))] 39, sl al'3 ((sortK cv).length) cl'4 3 1 (V.flat encI (sortK cv)), blk b1 [(u_ 0), (u_ 0), (u_ 0), (u_ 0), (u_ 0)] 39, blk b7 [(u_ (((mget rv x6).getD sr0).sp)), (u_ (((mget rv x6).getD sr0).sb)), (u_ (((mget rv x6).getD sr0).sr)), (u_ (((mget rv x6).getD sr0).sw)), (u_ (((mget rv x6).getD sr0).sg))] 39] [b2, b7, b2] T0 (by kernel_rfl) trivial ?_)
      refine A.tn ?_
      refine A.seq ?_
      refine A.region (A.goAS [.p, .ld 0, .p, .ld 3, .p, .p, .st 0] [(0, (p_ bs)), (2, (p_ b1)), (3, (p_ b2)), (8, (.slice al'3 ((sortK cv).length) cl'4)), (9, (i_ ((sortK cv).length : Int))), (10, (i_ (k : Int))), (11, (b_ (decide ((k : Int) < ((sortK cv).length : Int))))), (5, (i_ x6)), (6, (p_ b7))] [blk b2 [(u_ (IntKind.u64.wrap (((totR rv (sortK cv) k).sp) + (((mget rv x6).getD sr0).sp)))), (u_ (IntKind.u64.wrap (((totR rv (sortK cv) k).sb) + (((mget rv x6).getD sr0).sb)))), (u_ (IntKind.u64.wrap (((totR rv (sortK cv) k).sr) + (((mget rv x6).getD sr0).sr)))), (u_ (IntKind.u64.wrap (((totR rv (sortK cv) k).sw) + (((mget rv x6).getD sr0).sw)))), (u_ ((totR rv (sortK cv) k).sg))] 39, sl al'3 ((sortK cv).length) cl'4 3 1 (V.flat encI (sortK cv)), blk b1 [(u_ 0), (u_ 0), (u_ 0), (u_ 0), (u_ 0)] 39, blk b7 [(u_ (((mget rv x6).getD sr0).sp)), (u_ (((mget rv x6).getD sr0).sb)), (u_ (((mget rv x6).getD sr0).sr)), (u_ (((mget rv x6).getD sr0).sw)), (u_ (((mget rv x6).getD sr0).sg))] 39] [b2, b7, b2] T0 (by kernel_rfl) trivial ?_)
      refine A.tn ?_
      refine A.region (A.goAS [.p, .ld 0, .p, .ld 3, .p, .p, .st 0] [(0, (p_ bs)), (2, (p_ b1)), (3, (p_ b2)), (8, (.slice al'3 ((sortK cv).length) cl'4)), (9, (i_ ((sortK cv).length : Int))), (10, (i_ (k : Int))), (11, (b_ (decide ((k : Int) < ((sortK cv).length : Int))))), (5, (i_ x6)), (6, (p_ b7))] [blk b2 [(u_ (IntKind.u64.wrap (((totR rv (sortK cv) k).sp) + (((mget rv x6).getD sr0).sp)))), (u_ (IntKind.u64.wrap (((totR rv (sortK cv) k).sb) + (((mget rv x6).getD sr0).sb)))), (u_ (IntKind.u64.wrap (((totR rv (sortK cv) k).sr) + (((mget rv x6).getD sr0).sr)))), (u_ (IntKind.u64.wrap (((totR rv (sortK cv) k).sw) + (((mget rv x6).getD sr0).sw)))), (u_ (imax ((totR rv (sortK cv) k).sg) (((mget rv x6).getD sr0).sg)))] 39, sl al'3 ((sortK cv).length) cl'4 3 1 (V.flat encI (sortK cv)), blk b1 [(u_ 0), (u_ 0), (u_ 0), (u_ 0), (u_ 0)] 39, blk b7 [(u_ (((mget rv x6).getD sr0).sp)), (u_ (((mget rv x6).getD sr0).sb)), (u_ (((mget rv x6).getD sr0).sr)), (u_ (((mget rv x6).getD sr0).sw)), (u_ (((mget rv x6).getD sr0).sg))] 39] [b2, b7, b2] T0 (by kernel_rfl) trivial ?_)
      refine A.bn ?_
      refine A.tn ?_
      refine A.region (A.goA [.w ((k : Int) + 1), .p] [(0, (p_ bs)), (2, (p_ b1)), (3, (p_ b2)), (8, (.slice al'3 ((sortK cv).length) cl'4)), (9, (i_ ((sortK cv).length : Int))), (10, (i_ ((k : Int) + 1))), (11, (b_ (decide ((k : Int) < ((sortK cv).length : Int))))), (5, (i_ x6)), (6, (p_ b7))] [] (fun κ => (IntKind.i64.wrap ((k : Int) + 1) = ((k : Int) + 1)) ∧ True) (by kernel_rfl) ⟨(wrap_i64 (e := (k : Int) + 1) (by constructor <;> omega)), trivial⟩ ?_)
      refine A.tn ?_
      refine A.setH [blk b2 [(u_ ((totR rv (sortK cv) (k + 1)).sp)), (u_ ((totR rv (sortK cv) (k + 1)).sb)), (u_ ((totR rv (sortK cv) (k + 1)).sr)), (u_ ((totR rv (sortK cv) (k + 1)).sw)), (u_ ((totR rv (sortK cv) (k + 1)).sg))] 39, sl al'3 ((sortK cv).length) cl'4 3 1 (V.flat encI (sortK cv)), blk b1 [(u_ 0), (u_ 0), (u_ 0), (u_ 0), (u_ 0)] 39, blk b7 [(u_ (((mget rv x6).getD sr0).sp)), (u_ (((mget rv x6).getD sr0).sb)), (u_ (((mget rv x6).getD sr0).sr)), (u_ (((mget rv x6).getD sr0).sw)), (u_ (((mget rv x6).getD sr0).sg))] 39] (cc (blkC (cc (congrArg u_ (by first | rfl | (rw [totR_succ (by assumption)]; rfl) : IntKind.u64.wrap (((totR rv (sortK cv) k).sp) + (((mget rv x6).getD sr0).sp)) = (totR rv (sortK cv) (k + 1)).sp)) (cc (congrArg u_ (by first | rfl | (rw [totR_succ (by assumption)]; rfl) : IntKind.u64.wrap (((totR rv (sortK cv) k).sb) + (((mget rv x6).getD sr0).sb)) = (totR rv (sortK cv) (k + 1)).sb)) (cc (congrArg u_ (by first | rfl | (rw [totR_succ (by assumption)]; rfl) : IntKind.u64.wrap (((totR rv (sortK cv) k).sr) + (((mget rv x6).getD sr0).sr)) = (totR rv (sortK cv) (k + 1)).sr)) (cc (congrArg u_ (by first | rfl | (rw [totR_succ (by assumption)]; rfl) : IntKind.u64.wrap (((totR rv (sortK cv) k).sw) + (((mget rv x6).getD sr0).sw)) = (totR rv (sortK cv) (k + 1)).sw)) (cc (congrArg u_ (by first | rfl | (rw [totR_succ (by assumption)]; rfl) : imax ((totR rv (sortK cv) k).sg) (((mget rv x6).getD sr0).sg) = (totR rv (sortK cv) (k + 1)).sg)) rfl)))))) rfl) ?_
      refine A.next (k + 1) (by first | assumption | omega | (simp_all; done) | (simp_all; omega) | grind) (by first | omega | (simp; omega) | (simp_all; omega)) ?_
      exact A.hereK [0, 0, 0] (by exact ⟨rfl, rfl, rfl, rfl, rfl, rfl, trivial⟩) (by kernel_rfl)
    · skip
      have p2 := of_decide_eq_false e2
      refine A.exit ?_
      refine A.te ?_
      refine A.te ?_
      refine A.bh ?_
      refine A.tn ?_
      refine A.seq ?_
      refine A.region (A.goAS [.ld 0, .st 2] [(0, (p_ bs)), (2, (p_ b1)), (3, (p_ b2)), (8, (.slice al'3 ((sortK cv).length) cl'4)), (9, (i_ ((sortK cv).length : Int))), (10, (i_ (k : Int))), (11, (b_ (decide ((k : Int) < ((sortK cv).length : Int)))))] [blk b2 [(u_ ((totR rv (sortK cv) k).sp)), (u_ ((totR rv (sortK cv) k).sb)), (u_ ((totR rv (sortK cv) k).sr)), (u_ ((totR rv (sortK cv) k).sw)), (u_ ((totR rv (sortK cv) k).sg))] 39, sl al'3 ((sortK cv).length) cl'4 3 1 (V.flat encI (sortK cv)), blk b1 [(u_ ((totR rv (sortK cv) k).sp)), (u_ ((totR rv (sortK cv) k).sb)), (u_ ((totR rv (sortK cv) k).sr)), (u_ ((totR rv (sortK cv) k).sw)), (u_ ((totR rv (sortK cv) k).sg))] 39] [b2, b1] T0 (by kernel_rfl) trivial ?_)
      refine A.tn ?_
      refine A.ret ?_
      refine A.postQ [(.agg #[(u_ ((totR rv (sortK cv) k).sp)), (u_ ((totR rv (sortK cv) k).sb)), (u_ ((totR rv (sortK cv) k).sr)), (u_ ((totR rv (sortK cv) k).sw)), (u_ ((totR rv (sortK cv) k).sg))])] (fun aa ww rr ss => ⟨rv_cellN (vs := [(u_ ((totR rv (sortK cv) k).sp)), (u_ ((totR rv (sortK cv) k).sb)), (u_ ((totR rv (sortK cv) k).sr)), (u_ ((totR rv (sortK cv) k).sw)), (u_ ((totR rv (sortK cv) k).sg))]) rr ss rfl (by kernel_rfl) (reads_blk (i := 2) rfl rfl), trivial⟩) ?_
      show ((.agg #[(u_ ((totR rv (sortK cv) k).sp)), (u_ ((totR rv (sortK cv) k).sb)), (u_ ((totR rv (sortK cv) k).sr)), (u_ ((totR rv (sortK cv) k).sw)), (u_ ((totR rv (sortK cv) k).sg))]) : Value) = (.agg #[(u_ ((totR rv (sortK cv) (sortK cv).length).sp)), (u_ ((totR rv (sortK cv) (sortK cv).length).sb)), (u_ ((totR rv (sortK cv) (sortK cv).length).sr)), (u_ ((totR rv (sortK cv) (sortK cv).length).sw)), (u_ ((totR rv (sortK cv) (sortK cv).length).sg))])
      rw [show k = (sortK cv).length by omega]

set_option maxHeartbeats 4000000 in
set_option maxRecDepth 100000 in
theorem gone_spec (al : Option Addr) (l : List Pk) (cl : Nat) (i : Nat) (dn nb : Int) (rl : Bool) (hl : l.length ≤ 100000) (hi : i < l.length) (hcap : l.length ≤ cl) (w : World) (r0 : arrAt w al (V.flat encPk l)) (hs : HS w (feet []) [] w) :
    Calls Try.prog 11 #[(.slice al l.length cl), (i_ (i : Int)), (u_ dn), (i_ nb), (b_ rl)] w fun e w' => ∃ zz, e = .returned ((fun (zz : (Option Addr) × Nat) => match zz with | (al', cl') => (.slice al' ((goneL l i dn nb rl).length) cl')) zz) ∧ (fun (zz : (Option Addr) × Nat) => match zz with | (al', cl') => True) zz ∧ Turn [] ((fun (zz : (Option Addr) × Nat) => match zz with | (al', cl') => [sl al' ((goneL l i dn nb rl).length) cl' 33 6 (V.flat encPk (goneL l i dn nb rl))]) zz) w w' := by
  refine calls_of (args := [(.slice al l.length cl), (i_ (i : Int)), (u_ dn), (i_ nb), (b_ rl)]) (penv [(.slice al l.length cl), (i_ (i : Int)), (u_ dn), (i_ nb), (b_ rl)]) (feet []) [] Try.func11 rfl rfl (look_penv _) hs ?_
  refine A.norm [(0, (.slice al l.length cl)), (1, (i_ (i : Int))), (2, (u_ dn)), (3, (i_ nb)), (4, (b_ rl))] [] (by exact ⟨rfl, rfl, rfl, rfl, rfl, trivial⟩) rfl ?_
  refine A.seq ?_
  refine A.region (A.goA [.p] [(0, (.slice al l.length cl)), (1, (i_ (i : Int))), (2, (u_ dn)), (3, (i_ nb)), (4, (b_ rl)), (10, e_)] [] T0 (by kernel_rfl) trivial ?_)
  refine A.tn ?_
  refine A.seq ?_
  refine A.region (A.goA [.p] [(0, (.slice al l.length cl)), (1, (i_ (i : Int))), (2, (u_ dn)), (3, (i_ nb)), (4, (b_ rl)), (10, e_), (11, e_)] [] T0 (by kernel_rfl) trivial ?_)
  refine A.tn ?_
  refine A.seq ?_
  refine A.region (A.goP [.p, .p, .p] [(0, (.slice al l.length cl)), (1, (i_ (i : Int))), (2, (u_ dn)), (3, (i_ nb)), (4, (b_ rl)), (10, e_), (11, e_), (12, e_), (13, (.slice al l.length cl)), (14, (i_ (i : Int)))] [] T0 (by kernel_rfl) trivial ?_)
  refine A.cons (A.q (some 15) (.slice al ((l.take i).length) cl) (by kernel_rfl) (qt_takeS (e := 33) (xs := l) (sz := 6) i rfl rfl rfl (by kernel_rfl) (by kernel_rfl) (by omega) (fun _ _ => hcap)) ?_)
  refine A.cons (A.ownNil 33 6 [sl none (([] : List Pk).length) 0 33 6 (V.flat encPk ([] : List Pk))] rfl (A.appendC (enc := encPk) (xs := ([] : List Pk)) (l.take i) 0 16 (e := 33) (z := (.agg #[(i_ 0), (u_ 0), (u_ 0), (i_ 0), (b_ false), (b_ false)])) (sz := 6) (by_ := 40) (by kernel_rfl) rfl rfl rfl (by kernel_rfl) (by kernel_rfl) (by rfl) (by decide) encPk_len encPk_one rfl (rd_take encPk_len (rd_old r0 (by simp [feet])) i) (by simp; omega) (fun A2 c2 => [sl A2 ((l.take i).length) c2 33 6 (V.flat encPk (l.take i))]) (fun _ _ => rfl) ?_))
  intro A2 c2
  refine A.goA [.p] [(0, (.slice al l.length cl)), (1, (i_ (i : Int))), (2, (u_ dn)), (3, (i_ nb)), (4, (b_ rl)), (10, e_), (11, (.slice A2 ((l.take i).length) c2))] [] T0 (by kernel_rfl) trivial ?_
  refine A.tn ?_
  refine A.seq ?_
  refine A.draw2 [15, 16] 18 (by kernel_rfl) ?_
  obtain ⟨x3, hx3⟩ : ∃ x, (l)[i]? = some x := ⟨_, List.getElem?_eq_getElem (by omega)⟩
  refine A.drawP 3 [.p, .p, .p, .ix, .p, .rd [(i_ x3.pc)], .p, .p, .ix, .p, .rd [(u_ x3.pa)], .p, .p, .p, .p] [0, 1, 2, 3, 4, 5, 6, 7, 8, 9, 10, 11, 12, 13, 14] [(0, (.slice al l.length cl)), (1, (i_ (i : Int))), (2, (u_ dn)), (3, (i_ nb)), (4, (b_ rl)), (10, e_), (11, (.slice A2 ((l.take i).length) c2)), (17, (.slice A2 ((l.take i).length) c2)), (31, (.agg #[(i_ x3.pc), (u_ x3.pa), (u_ dn), (i_ nb), (b_ rl), (b_ true)]))] [] (fun κ => κ.ix al l.length (i : Int) ∧ κ.rd (((at0 al).add (i * 6)).add 0) [(i_ x3.pc)] ∧ κ.ix al l.length (i : Int) ∧ κ.rd (((at0 al).add (i * 6)).add 1) [(u_ x3.pa)] ∧ True) (by kernel_rfl) ⟨(ixOf encPk_len (by decide) (rd_old r0 (by simp [feet])) (by first | omega | (simp; omega) | (simp; done))), (reads_at2 (f := 0) (vs := [(i_ x3.pc)]) encPk_len (rd_old r0 (by simp [feet])) hx3 (by simp) rfl), (ixOf encPk_len (by decide) (rd_old r0 (by simp [feet])) (by first | omega | (simp; omega) | (simp; done))), (reads_at2 (f := 1) (vs := [(u_ x3.pa)]) encPk_len (rd_old r0 (by simp [feet])) hx3 (by simp) rfl), trivial⟩ ?_
  refine A.only2 15 rfl (by kernel_rfl) (A.buildSlice 32 (e := 33) [(i_ x3.pc), (u_ x3.pa), (u_ dn), (i_ nb), (b_ rl), (b_ true)] (by kernel_rfl) rfl (fun _ => by kernel_rfl) (fun b4 => [sl A2 ((l.take i).length) c2 33 6 (V.flat encPk (l.take i)), blk b4 [(i_ x3.pc), (u_ x3.pa), (u_ dn), (i_ nb), (b_ rl), (b_ true)] 33]) (fun _ => rfl) ?_)
  intro b4
  refine A.stage ?_
  refine A.only2 16 rfl (by kernel_rfl) (A.appendC (enc := encPk) (xs := (l.take i)) ([(⟨x3.pc, x3.pa, dn, nb, rl, true⟩ : Pk)]) 0 33 (e := 33) (z := (.agg #[(i_ 0), (u_ 0), (u_ 0), (i_ 0), (b_ false), (b_ false)])) (sz := 6) (by_ := 40) (by kernel_rfl) rfl rfl rfl (by kernel_rfl) (by kernel_rfl) (by rfl) (by decide) encPk_len encPk_one rfl (rd_blk (i := 1) rfl) (by simp; omega) (fun A5 c5 => [sl A5 (((l.take i) ++ ([(⟨x3.pc, x3.pa, dn, nb, rl, true⟩ : Pk)])).length) c5 33 6 (V.flat encPk ((l.take i) ++ ([(⟨x3.pc, x3.pa, dn, nb, rl, true⟩ : Pk)]))), blk b4 [(i_ x3.pc), (u_ x3.pa), (u_ dn), (i_ nb), (b_ rl), (b_ true)] 33]) (fun _ _ => rfl) ?_)
  intro A5 c5
  refine A.stage ?_
  refine A.drawP 0 [.p] [17] [(0, (.slice al l.length cl)), (1, (i_ (i : Int))), (2, (u_ dn)), (3, (i_ nb)), (4, (b_ rl)), (10, e_), (11, (.slice A5 (((l.take i) ++ ([(⟨x3.pc, x3.pa, dn, nb, rl, true⟩ : Pk)])).length) c5))] [] T0 (by kernel_rfl) trivial ?_
  refine A.fin2 (by kernel_rfl) ?_
  refine A.tn ?_
  refine A.seq ?_
  refine A.region (A.goP [.p, .p, .p, .w ((i : Int) + 1)] [(0, (.slice al l.length cl)), (1, (i_ (i : Int))), (2, (u_ dn)), (3, (i_ nb)), (4, (b_ rl)), (10, e_), (11, (.slice A5 (((l.take i) ++ ([(⟨x3.pc, x3.pa, dn, nb, rl, true⟩ : Pk)])).length) c5)), (34, (.slice A5 (((l.take i) ++ ([(⟨x3.pc, x3.pa, dn, nb, rl, true⟩ : Pk)])).length) c5)), (35, (.slice al l.length cl)), (37, (i_ ((i : Int) + 1)))] [] (fun κ => (IntKind.i64.wrap ((i : Int) + 1) = ((i : Int) + 1)) ∧ True) (by kernel_rfl) ⟨(wrap_i64 (e := (i : Int) + 1) (by constructor <;> omega)), trivial⟩ ?_)
  refine A.cons (A.q (some 38) (.slice (cutA al cl (i + 1) 6) ((l.drop (i + 1)).length) (cl - (i + 1))) (by kernel_rfl) (qt_dropS (e := 33) (xs := l) (sz := 6) (i + 1) rfl rfl rfl (by kernel_rfl) (by kernel_rfl) (by omega) (fun _ _ => hcap)) ?_)
  refine A.cons (A.appendC (enc := encPk) (xs := (l.take i) ++ ([(⟨x3.pc, x3.pa, dn, nb, rl, true⟩ : Pk)])) (l.drop (i + 1)) 0 39 (e := 33) (z := (.agg #[(i_ 0), (u_ 0), (u_ 0), (i_ 0), (b_ false), (b_ false)])) (sz := 6) (by_ := 40) (by kernel_rfl) rfl rfl rfl (by kernel_rfl) (by kernel_rfl) (by rfl) (by decide) encPk_len encPk_one rfl (rd_drop encPk_len (rd_old r0 (by simp [feet])) (by omega) (fun _ _ => hcap)) (by simp; omega) (fun A6 c6 => [sl A6 ((((l.take i) ++ ([(⟨x3.pc, x3.pa, dn, nb, rl, true⟩ : Pk)])) ++ (l.drop (i + 1))).length) c6 33 6 (V.flat encPk (((l.take i) ++ ([(⟨x3.pc, x3.pa, dn, nb, rl, true⟩ : Pk)])) ++ (l.drop (i + 1)))), blk b4 [(i_ x3.pc), (u_ x3.pa), (u_ dn), (i_ nb), (b_ rl), (b_ true)] 33]) (fun _ _ => rfl) ?_)
  intro A6 c6
  refine A.goA [.p] [(0, (.slice al l.length cl)), (1, (i_ (i : Int))), (2, (u_ dn)), (3, (i_ nb)), (4, (b_ rl)), (10, e_), (11, (.slice A6 ((((l.take i) ++ ([(⟨x3.pc, x3.pa, dn, nb, rl, true⟩ : Pk)])) ++ (l.drop (i + 1))).length) c6))] [] T0 (by kernel_rfl) trivial ?_
  refine A.tn ?_
  refine A.seq ?_
  refine A.region (A.goA [.p, .p] [(0, (.slice al l.length cl)), (1, (i_ (i : Int))), (2, (u_ dn)), (3, (i_ nb)), (4, (b_ rl)), (10, (.slice A6 ((((l.take i) ++ ([(⟨x3.pc, x3.pa, dn, nb, rl, true⟩ : Pk)])) ++ (l.drop (i + 1))).length) c6)), (11, (.slice A6 ((((l.take i) ++ ([(⟨x3.pc, x3.pa, dn, nb, rl, true⟩ : Pk)])) ++ (l.drop (i + 1))).length) c6))] [] T0 (by kernel_rfl) trivial ?_)
  refine A.tn ?_
  refine A.ret ?_
  refine A.setH [sl A6 ((goneL l i dn nb rl).length) c6 33 6 (V.flat encPk (goneL l i dn nb rl)), blk b4 [(i_ x3.pc), (u_ x3.pa), (u_ dn), (i_ nb), (b_ rl), (b_ true)] 33] (cc (slC (by first | rfl | exact gone_eq (by assumption) | (simp; done) : ((l.take i) ++ ([(⟨x3.pc, x3.pa, dn, nb, rl, true⟩ : Pk)])) ++ (l.drop (i + 1)) = (goneL l i dn nb rl))) rfl) ?_
  refine A.postK [0] [(.slice A6 ((((l.take i) ++ ([(⟨x3.pc, x3.pa, dn, nb, rl, true⟩ : Pk)])) ++ (l.drop (i + 1))).length) c6)] (fun aa ww rr ss => ⟨rv_tmp rr rfl, trivial⟩) (A6, c6) ?_ ?_ (by kernel_rfl)
  · show ((.slice A6 ((((l.take i) ++ ([(⟨x3.pc, x3.pa, dn, nb, rl, true⟩ : Pk)])) ++ (l.drop (i + 1))).length) c6) : Value) = (.slice A6 ((goneL l i dn nb rl).length) c6)
    rw [gone_eq (by assumption)]
  · trivial

set_option maxHeartbeats 4000000 in
set_option maxRecDepth 100000 in
theorem rcls_spec (al : Option Addr) (l : List Pk) (cl : Nat) (hl : l.length ≤ 100000) (w : World) (r0 : arrAt w al (V.flat encPk l)) (hs : HS w (feet []) [] w) :
    Calls Try.prog 21 #[(.slice al l.length cl)] w fun e w' => ∃ zz, e = .returned ((fun (zz : (Option Addr) × Nat) => match zz with | (al', cl') => (.slice al' ((clsR l l.length).length) cl')) zz) ∧ (fun (zz : (Option Addr) × Nat) => match zz with | (al', cl') => True) zz ∧ Turn [] ((fun (zz : (Option Addr) × Nat) => match zz with | (al', cl') => [sl al' ((clsR l l.length).length) cl' 3 1 (V.flat encI (clsR l l.length))]) zz) w w' := by
  refine calls_of (args := [(.slice al l.length cl)]) (penv [(.slice al l.length cl)]) (feet []) [] Try.func21 rfl rfl (look_penv _) hs ?_
  refine A.norm [(0, (.slice al l.length cl))] [] (by exact ⟨rfl, trivial⟩) rfl ?_
  refine A.seq ?_
  refine A.region (A.goA [.p] [(0, (.slice al l.length cl)), (2, e_)] [] T0 (by kernel_rfl) trivial ?_)
  refine A.tn ?_
  refine A.seq ?_
  refine A.region (A.goA [.p] [(0, (.slice al l.length cl)), (2, e_), (3, e_)] [] T0 (by kernel_rfl) trivial ?_)
  refine A.tn ?_
  refine A.seq ?_
  refine A.seq ?_
  refine A.region (A.goA [.p, .p, .p] [(0, (.slice al l.length cl)), (2, e_), (3, e_), (10, (.slice al l.length cl)), (11, (i_ (l.length : Int))), (12, (i_ 0))] [] T0 (by kernel_rfl) trivial ?_)
  refine A.tn ?_
  refine A.block ?_
  refine A.ownNil 3 1 [sl none (([] : List Int).length) 0 3 1 (V.flat encI ([] : List Int))] rfl ?_
  refine A.setH [sl none ((clsR l 0).length) 0 3 1 (V.flat encI (clsR l 0))] (cc (slC (by first | rfl | (rw [sfi_succ (by assumption)]; simp_all; done) | (rw [clsR_succ (by assumption)]; (have hj2 : j = (clsR l k).length := by omega); subst hj2; unfold insI; simp_all; done) | (rw [show k = l.length by omega]) : ([] : List Int) = (clsR l 0))) rfl) ?_
  refine A.sub [(0, (.slice al l.length cl)), (2, e_), (3, (.slice none ((clsR l 0).length) 0)), (10, (.slice al l.length cl)), (11, (i_ (l.length : Int))), (12, (i_ 0))] (by exact ⟨rfl, rfl, (congrArg (fun z_ : List Int => some (Value.slice none z_.length 0)) (by first | rfl | (rw [sfi_succ (by assumption)]; simp_all; done) | (rw [clsR_succ (by assumption)]; (have hj2 : j = (clsR l k).length := by omega); subst hj2; unfold insI; simp_all; done) | (rw [show k = l.length by omega]) : ([] : List Int) = (clsR l 0))), rfl, rfl, rfl, trivial⟩) ?_
  refine A.loop (fun (zz : Nat × (Option Addr) × Nat) => match zz with | (k, ao, co) => [(2, e_), (10, (.slice al l.length cl)), (11, (i_ (l.length : Int))), (12, (i_ (k : Int))), (3, (.slice ao ((clsR l k).length) co))]) (fun (zz : Nat × (Option Addr) × Nat) => match zz with | (k, ao, co) => [sl ao ((clsR l k).length) co 3 1 (V.flat encI (clsR l k))]) (fun (zz : Nat × (Option Addr) × Nat) => match zz with | (k, ao, co) => (k ≤ l.length)) (fun (zz : Nat × (Option Addr) × Nat) => match zz with | (k, ao, co) => l.length - k) (0, none, 0) (by first | assumption | omega | (simp_all; done) | (simp_all; omega) | grind) ?_ ?_
  · exact A.hereK [0] (by exact ⟨rfl, rfl, rfl, rfl, rfl, trivial⟩) (by kernel_rfl)
  · rintro ⟨k, ao, co⟩ hk
    have hk : k ≤ l.length := hk
    have hcl := clsR_len l k
    refine A.norm [(2, e_), (10, (.slice al l.length cl)), (11, (i_ (l.length : Int))), (12, (i_ (k : Int))), (3, (.slice ao ((clsR l k).length) co))] [sl ao ((clsR l k).length) co 3 1 (V.flat encI (clsR l k))] (by exact ⟨rfl, rfl, rfl, rfl, rfl, trivial⟩) rfl ?_
    refine A.seq ?_
    refine A.region (A.goA [.p] [(2, e_), (10, (.slice al l.length cl)), (11, (i_ (l.length : Int))), (12, (i_ (k : Int))), (3, (.slice ao ((clsR l k).length) co)), (13, (b_ (decide ((k : Int) < (l.length : Int)))))] [] T0 (by kernel_rfl) trivial ?_)
    refine A.tn ?_
    refine A.seq ?_
    refine A.cond (E := decide ((k : Int) < (l.length : Int))) rfl (fun e1 => ?_) (fun e1 => ?_)
    · skip
      have p1 := of_decide_eq_true e1
      refine A.skip ?_
      refine A.tn ?_
      refine A.seq ?_
      refine A.block ?_
      refine A.seq ?_
      refine A.region (A.goP [.ix] [(2, e_), (10, (.slice al l.length cl)), (11, (i_ (l.length : Int))), (12, (i_ (k : Int))), (3, (.slice ao ((clsR l k).length) co)), (13, (b_ (decide ((k : Int) < (l.length : Int))))), (14, (.pointer (some ((at0 al).add (k * 6)))))] [] (fun κ => κ.ix al l.length (k : Int) ∧ True) (by kernel_rfl) ⟨(ixOf encPk_len (by decide) (rd_old r0 (by simp [feet])) (by first | omega | (simp; omega) | (simp; done))), trivial⟩ ?_)
      obtain ⟨x2, hx2⟩ : ∃ x, (l)[k]? = some x := ⟨_, List.getElem?_eq_getElem (by omega)⟩
      refine A.goA1 [.rd [(i_ x2.pc), (u_ x2.pa), (u_ x2.pd), (i_ x2.pl), (b_ x2.pr), (b_ x2.pg)], .al, .st 1] [2, 10, 11, 12, 3, 13, 5] (fun b3 => [(2, e_), (10, (.slice al l.length cl)), (11, (i_ (l.length : Int))), (12, (i_ (k : Int))), (3, (.slice ao ((clsR l k).length) co)), (13, (b_ (decide ((k : Int) < (l.length : Int))))), (5, (p_ b3))]) (fun b3 => [sl ao ((clsR l k).length) co 3 1 (V.flat encI (clsR l k)), blk b3 [(i_ x2.pc), (u_ x2.pa), (u_ x2.pd), (i_ x2.pl), (b_ x2.pr), (b_ x2.pg)] 33]) (fun b3 => [b3]) (fun _ => (fun κ => κ.rd ((at0 al).add (k * 6)) [(i_ x2.pc), (u_ x2.pa), (u_ x2.pd), (i_ x2.pl), (b_ x2.pr), (b_ x2.pg)] ∧ True)) (fun _ => by kernel_rfl) (fun b3 => ⟨(reads_at0 (vs := [(i_ x2.pc), (u_ x2.pa), (u_ x2.pd), (i_ x2.pl), (b_ x2.pr), (b_ x2.pg)]) encPk_len (rd_old r0 (by simp [feet])) hx2 (by simp) rfl), trivial⟩) ?_
      intro b3
      refine A.tn ?_
      refine A.seq ?_
      refine A.region (A.goA [.p] [(2, e_), (10, (.slice al l.length cl)), (11, (i_ (l.length : Int))), (12, (i_ (k : Int))), (3, (.slice ao ((clsR l k).length) co)), (13, (b_ (decide ((k : Int) < (l.length : Int))))), (5, (p_ b3)), (6, e_)] [] T0 (by kernel_rfl) trivial ?_)
      refine A.tn ?_
      refine A.seq ?_
      refine A.region (A.goA [.p] [(2, e_), (10, (.slice al l.length cl)), (11, (i_ (l.length : Int))), (12, (i_ (k : Int))), (3, (.slice ao ((clsR l k).length) co)), (13, (b_ (decide ((k : Int) < (l.length : Int))))), (5, (p_ b3)), (6, e_), (7, (b_ false))] [] T0 (by kernel_rfl) trivial ?_)
      refine A.tn ?_
      refine A.seq ?_
      refine A.seq ?_
      refine A.region (A.goA [.p, .p, .p] [(2, e_), (10, (.slice al l.length cl)), (11, (i_ (l.length : Int))), (12, (i_ (k : Int))), (3, (.slice ao ((clsR l k).length) co)), (13, (b_ (decide ((k : Int) < (l.length : Int))))), (5, (p_ b3)), (6, e_), (7, (b_ false)), (16, (.slice ao ((clsR l k).length) co)), (17, (i_ ((clsR l k).length : Int))), (18, (i_ 0))] [] T0 (by kernel_rfl) trivial ?_)
      refine A.tn ?_
      refine A.block ?_
      refine A.ownNil 3 1 [sl ao ((clsR l k).length) co 3 1 (V.flat encI (clsR l k)), blk b3 [(i_ x2.pc), (u_ x2.pa), (u_ x2.pd), (i_ x2.pl), (b_ x2.pr), (b_ x2.pg)] 33, sl none (([] : List Int).length) 0 3 1 (V.flat encI ([] : List Int))] rfl ?_
      refine A.sub [(2, e_), (10, (.slice al l.length cl)), (11, (i_ (l.length : Int))), (12, (i_ (k : Int))), (3, (.slice ao ((clsR l k).length) co)), (13, (b_ (decide ((k : Int) < (l.length : Int))))), (5, (p_ b3)), (6, (.slice none (([] : List Int).length) 0)), (7, (b_ ((sfi x2.pc (clsR l k) 0).2))), (16, (.slice ao ((clsR l k).length) co)), (17, (i_ ((clsR l k).length : Int))), (18, (i_ 0))] (by exact ⟨rfl, rfl, rfl, rfl, rfl, rfl, rfl, rfl, (congrArg (fun z_ => some (b_ z_)) (by first | rfl | (rw [sfi_succ (by assumption)]; simp_all; done) | (rw [clsR_succ (by assumption)]; (have hj2 : j = (clsR l k).length := by omega); subst hj2; unfold insI; simp_all; done) | (rw [show k = l.length by omega]) : false = (sfi x2.pc (clsR l k) 0).2)), rfl, rfl, rfl, trivial⟩) ?_
      refine A.setH [sl ao ((clsR l k).length) co 3 1 (V.flat encI (clsR l k)), blk b3 [(i_ x2.pc), (u_ x2.pa), (u_ x2.pd), (i_ x2.pl), (b_ x2.pr), (b_ x2.pg)] 33, sl none (((sfi x2.pc (clsR l k) 0).1).length) 0 3 1 (V.flat encI ((sfi x2.pc (clsR l k) 0).1))] (cc rfl (cc rfl (cc (slC (by first | rfl | (rw [sfi_succ (by assumption)]; simp_all; done) | (rw [clsR_succ (by assumption)]; (have hj2 : j = (clsR l k).length := by omega); subst hj2; unfold insI; simp_all; done) | (rw [show k = l.length by omega]) : ([] : List Int) = (sfi x2.pc (clsR l k) 0).1)) rfl))) ?_
      refine A.sub [(2, e_), (10, (.slice al l.length cl)), (11, (i_ (l.length : Int))), (12, (i_ (k : Int))), (3, (.slice ao ((clsR l k).length) co)), (13, (b_ (decide ((k : Int) < (l.length : Int))))), (5, (p_ b3)), (6, (.slice none (((sfi x2.pc (clsR l k) 0).1).length) 0)), (7, (b_ ((sfi x2.pc (clsR l k) 0).2))), (16, (.slice ao ((clsR l k).length) co)), (17, (i_ ((clsR l k).length : Int))), (18, (i_ 0))] (by exact ⟨rfl, rfl, rfl, rfl, rfl, rfl, rfl, (congrArg (fun z_ : List Int => some (Value.slice none z_.length 0)) (by first | rfl | (rw [sfi_succ (by assumption)]; simp_all; done) | (rw [clsR_succ (by assumption)]; (have hj2 : j = (clsR l k).length := by omega); subst hj2; unfold insI; simp_all; done) | (rw [show k = l.length by omega]) : ([] : List Int) = (sfi x2.pc (clsR l k) 0).1)), rfl, rfl, rfl, rfl, trivial⟩) ?_
      refine A.loop (fun (zz : Nat × (Option Addr) × Nat) => match zz with | (j, an, cn) => [(2, e_), (10, (.slice al l.length cl)), (11, (i_ (l.length : Int))), (12, (i_ (k : Int))), (3, (.slice ao ((clsR l k).length) co)), (5, (p_ b3)), (16, (.slice ao ((clsR l k).length) co)), (17, (i_ ((clsR l k).length : Int))), (18, (i_ (j : Int))), (6, (.slice an (((sfi x2.pc (clsR l k) j).1).length) cn)), (7, (b_ ((sfi x2.pc (clsR l k) j).2)))]) (fun (zz : Nat × (Option Addr) × Nat) => match zz with | (j, an, cn) => [sl ao ((clsR l k).length) co 3 1 (V.flat encI (clsR l k)), sl an (((sfi x2.pc (clsR l k) j).1).length) cn 3 1 (V.flat encI ((sfi x2.pc (clsR l k) j).1)), blk b3 [(i_ x2.pc), (u_ x2.pa), (u_ x2.pd), (i_ x2.pl), (b_ x2.pr), (b_ x2.pg)] 33]) (fun (zz : Nat × (Option Addr) × Nat) => match zz with | (j, an, cn) => (j ≤ (clsR l k).length)) (fun (zz : Nat × (Option Addr) × Nat) => match zz with | (j, an, cn) => (clsR l k).length - j) (0, none, 0) (by first | assumption | omega | (simp_all; done) | (simp_all; omega) | grind) ?_ ?_
      · exact A.hereK [0, 1, 0] (by exact ⟨rfl, rfl, rfl, rfl, rfl, rfl, rfl, rfl, rfl, rfl, rfl, trivial⟩) (by kernel_rfl)
      · rintro ⟨j, an, cn⟩ hj
        have hj : j ≤ (clsR l k).length := hj
        have hsl := sfi_len1 x2.pc (clsR l k) j
        refine A.norm [(2, e_), (10, (.slice al l.length cl)), (11, (i_ (l.length : Int))), (12, (i_ (k : Int))), (3, (.slice ao ((clsR l k).length) co)), (5, (p_ b3)), (16, (.slice ao ((clsR l k).length) co)), (17, (i_ ((clsR l k).length : Int))), (18, (i_ (j : Int))), (6, (.slice an (((sfi x2.pc (clsR l k) j).1).length) cn)), (7, (b_ ((sfi x2.pc (clsR l k) j).2)))] [sl ao ((clsR l k).length) co 3 1 (V.flat encI (clsR l k)), sl an (((sfi x2.pc (clsR l k) j).1).length) cn 3 1 (V.flat encI ((sfi x2.pc (clsR l k) j).1)), blk b3 [(i_ x2.pc), (u_ x2.pa), (u_ x2.pd), (i_ x2.pl), (b_ x2.pr), (b_ x2.pg)] 33] (by exact ⟨rfl, rfl, rfl, rfl, rfl, rfl, rfl, rfl, rfl, rfl, rfl, trivial⟩) rfl ?_
        refine A.seq ?_
        refine A.region (A.goA [.p] [(2, e_), (10, (.slice al l.length cl)), (11, (i_ (l.length : Int))), (12, (i_ (k : Int))), (3, (.slice ao ((clsR l k).length) co)), (5, (p_ b3)), (16, (.slice ao ((clsR l k).length) co)), (17, (i_ ((clsR l k).length : Int))), (18, (i_ (j : Int))), (6, (.slice an (((sfi x2.pc (clsR l k) j).1).length) cn)), (7, (b_ ((sfi x2.pc (clsR l k) j).2))), (19, (b_ (decide ((j : Int) < ((clsR l k).length : Int)))))] [] T0 (by kernel_rfl) trivial ?_)
        refine A.tn ?_
        refine A.seq ?_
        refine A.cond (E := decide ((j : Int) < ((clsR l k).length : Int))) rfl (fun e2 => ?_) (fun e2 => ?_)
        · skip
          have p2 := of_decide_eq_true e2
          refine A.skip ?_
          refine A.tn ?_
          refine A.seq ?_
          refine A.block ?_
          refine A.seq ?_
          refine A.region (A.goP [.ix] [(2, e_), (10, (.slice al l.length cl)), (11, (i_ (l.length : Int))), (12, (i_ (k : Int))), (3, (.slice ao ((clsR l k).length) co)), (5, (p_ b3)), (16, (.slice ao ((clsR l k).length) co)), (17, (i_ ((clsR l k).length : Int))), (18, (i_ (j : Int))), (6, (.slice an (((sfi x2.pc (clsR l k) j).1).length) cn)), (7, (b_ ((sfi x2.pc (clsR l k) j).2))), (19, (b_ (decide ((j : Int) < ((clsR l k).length : Int))))), (20, (.pointer (some ((at0 ao).add (j * 1)))))] [] (fun κ => κ.ix ao ((clsR l k).length) (j : Int) ∧ True) (by kernel_rfl) ⟨(ixOf encI_len (by decide) (rd_sl (i := 0) rfl) (by first | omega | (simp; omega) | (simp; done))), trivial⟩ ?_)
          obtain ⟨x5, hx5⟩ : ∃ x, ((clsR l k))[j]? = some x := ⟨_, List.getElem?_eq_getElem (by omega)⟩
          refine A.goA [.rd [(i_ x5)], .p] [(2, e_), (10, (.slice al l.length cl)), (11, (i_ (l.length : Int))), (12, (i_ (k : Int))), (3, (.slice ao ((clsR l k).length) co)), (5, (p_ b3)), (16, (.slice ao ((clsR l k).length) co)), (17, (i_ ((clsR l k).length : Int))), (18, (i_ (j : Int))), (6, (.slice an (((sfi x2.pc (clsR l k) j).1).length) cn)), (7, (b_ ((sfi x2.pc (clsR l k) j).2))), (19, (b_ (decide ((j : Int) < ((clsR l k).length : Int))))), (9, (i_ x5))] [] (fun κ => κ.rd ((at0 ao).add (j * 1)) [(i_ x5)] ∧ True) (by kernel_rfl) ⟨(reads_at0 (vs := [(i_ x5)]) encI_len (rd_sl (i := 0) rfl) hx5 (by simp) rfl), trivial⟩ ?_
          refine A.tn ?_
          refine A.seq ?_
          refine A.seq ?_
          refine A.region (A.goA [.p, .p, .p, .o, .p, .ld 2, .p, .p, .cl] [(2, e_), (10, (.slice al l.length cl)), (11, (i_ (l.length : Int))), (12, (i_ (k : Int))), (3, (.slice ao ((clsR l k).length) co)), (5, (p_ b3)), (16, (.slice ao ((clsR l k).length) co)), (17, (i_ ((clsR l k).length : Int))), (18, (i_ (j : Int))), (6, (.slice an (((sfi x2.pc (clsR l k) j).1).length) cn)), (7, (b_ ((sfi x2.pc (clsR l k) j).2))), (19, (b_ (decide ((j : Int) < ((clsR l k).length : Int))))), (9, (i_ x5)), (29, (b_ ((!((sfi x2.pc (clsR l k) j).2)) && (decide (x2.pc ≤ x5)))))] [b3] T0 (by kernel_rfl) trivial ?_)
          refine A.tn ?_
          refine A.cond (E := (!((sfi x2.pc (clsR l k) j).2)) && (decide (x2.pc ≤ x5))) rfl (fun e3 => ?_) (fun e3 => ?_)
          · skip
            have p3 := e3; try simp only [decide_eq_true_eq, decide_eq_false_iff_not, beq_iff_eq, beq_eq_false_iff_ne, bne_iff_ne, bne_eq_false_iff_eq, ne_eq, Bool.and_eq_true, Bool.or_eq_true, Bool.or_eq_false_iff, Bool.not_eq_true', Bool.not_eq_false', Int.not_lt, Int.not_le, gt_iff_lt, ge_iff_le, Classical.not_not] at p3
            refine A.seq ?_
            refine A.region (A.goP [.p, .p, .ld 2] [(2, e_), (10, (.slice al l.length cl)), (11, (i_ (l.length : Int))), (12, (i_ (k : Int))), (3, (.slice ao ((clsR l k).length) co)), (5, (p_ b3)), (16, (.slice ao ((clsR l k).length) co)), (17, (i_ ((clsR l k).length : Int))), (18, (i_ (j : Int))), (6, (.slice an (((sfi x2.pc (clsR l k) j).1).length) cn)), (7, (b_ ((sfi x2.pc (clsR l k) j).2))), (19, (b_ (decide ((j : Int) < ((clsR l k).length : Int))))), (9, (i_ x5)), (29, (b_ ((!((sfi x2.pc (clsR l k) j).2)) && (decide (x2.pc ≤ x5))))), (30, (.slice an (((sfi x2.pc (clsR l k) j).1).length) cn)), (32, (i_ x2.pc))] [b3] T0 (by kernel_rfl) trivial ?_)
            refine A.cons (A.buildSlice 33 (e := 3) [(i_ x2.pc)] (by kernel_rfl) rfl (fun _ => by kernel_rfl) (fun b6 => [sl ao ((clsR l k).length) co 3 1 (V.flat encI (clsR l k)), sl an (((sfi x2.pc (clsR l k) j).1).length) cn 3 1 (V.flat encI ((sfi x2.pc (clsR l k) j).1)), blk b3 [(i_ x2.pc), (u_ x2.pa), (u_ x2.pd), (i_ x2.pl), (b_ x2.pr), (b_ x2.pg)] 33, blk b6 [(i_ x2.pc)] 3]) (fun _ => rfl) ?_)
            intro b6
            refine A.cons (A.appendC (enc := encI) (xs := (sfi x2.pc (clsR l k) j).1) ([x2.pc]) 1 34 (e := 3) (z := (i_ 0)) (sz := 1) (by_ := 8) (by kernel_rfl) rfl rfl rfl (by kernel_rfl) (by kernel_rfl) (by rfl) (by decide) encI_len encI_one rfl (rd_blk (i := 3) rfl) (by simp; omega) (fun A7 c7 => [sl ao ((clsR l k).length) co 3 1 (V.flat encI (clsR l k)), sl A7 ((((sfi x2.pc (clsR l k) j).1) ++ ([x2.pc])).length) c7 3 1 (V.flat encI (((sfi x2.pc (clsR l k) j).1) ++ ([x2.pc]))), blk b3 [(i_ x2.pc), (u_ x2.pa), (u_ x2.pd), (i_ x2.pl), (b_ x2.pr), (b_ x2.pg)] 33, blk b6 [(i_ x2.pc)] 3]) (fun _ _ => rfl) ?_)
            intro A7 c7
            refine A.goA [.p] [(2, e_), (10, (.slice al l.length cl)), (11, (i_ (l.length : Int))), (12, (i_ (k : Int))), (3, (.slice ao ((clsR l k).length) co)), (5, (p_ b3)), (16, (.slice ao ((clsR l k).length) co)), (17, (i_ ((clsR l k).length : Int))), (18, (i_ (j : Int))), (6, (.slice A7 ((((sfi x2.pc (clsR l k) j).1) ++ ([x2.pc])).length) c7)), (7, (b_ ((sfi x2.pc (clsR l k) j).2))), (19, (b_ (decide ((j : Int) < ((clsR l k).length : Int))))), (9, (i_ x5)), (29, (b_ ((!((sfi x2.pc (clsR l k) j).2)) && (decide (x2.pc ≤ x5)))))] [] T0 (by kernel_rfl) trivial ?_
            refine A.tn ?_
            refine A.region (A.goA [.p] [(2, e_), (10, (.slice al l.length cl)), (11, (i_ (l.length : Int))), (12, (i_ (k : Int))), (3, (.slice ao ((clsR l k).length) co)), (5, (p_ b3)), (16, (.slice ao ((clsR l k).length) co)), (17, (i_ ((clsR l k).length : Int))), (18, (i_ (j : Int))), (6, (.slice A7 ((((sfi x2.pc (clsR l k) j).1) ++ ([x2.pc])).length) c7)), (7, (b_ true)), (19, (b_ (decide ((j : Int) < ((clsR l k).length : Int))))), (9, (i_ x5)), (29, (b_ ((!((sfi x2.pc (clsR l k) j).2)) && (decide (x2.pc ≤ x5)))))] [] T0 (by kernel_rfl) trivial ?_)
            refine A.tn ?_
            refine A.seq ?_
            refine A.region (A.goA [.p, .p, .ld 2, .p] [(2, e_), (10, (.slice al l.length cl)), (11, (i_ (l.length : Int))), (12, (i_ (k : Int))), (3, (.slice ao ((clsR l k).length) co)), (5, (p_ b3)), (16, (.slice ao ((clsR l k).length) co)), (17, (i_ ((clsR l k).length : Int))), (18, (i_ (j : Int))), (6, (.slice A7 ((((sfi x2.pc (clsR l k) j).1) ++ ([x2.pc])).length) c7)), (7, (b_ true)), (19, (b_ (decide ((j : Int) < ((clsR l k).length : Int))))), (9, (i_ x5)), (29, (b_ ((!((sfi x2.pc (clsR l k) j).2)) && (decide (x2.pc ≤ x5))))), (38, (b_ (x5 != x2.pc)))] [b3] T0 (by kernel_rfl) trivial ?_)
            refine A.tn ?_
            refine A.cond (E := x5 != x2.pc) rfl (fun e4 => ?_) (fun e4 => ?_)
            · skip
              have p4 := e4; try simp only [decide_eq_true_eq, decide_eq_false_iff_not, beq_iff_eq, beq_eq_false_iff_ne, bne_iff_ne, bne_eq_false_iff_eq, ne_eq, Bool.and_eq_true, Bool.or_eq_true, Bool.or_eq_false_iff, Bool.not_eq_true', Bool.not_eq_false', Int.not_lt, Int.not_le, gt_iff_lt, ge_iff_le, Classical.not_not] at p4
              refine A.region (A.goP [.p, .p] [(2, e_), (10, (.slice al l.length cl)), (11, (i_ (l.length : Int))), (12, (i_ (k : Int))), (3, (.slice ao ((clsR l k).length) co)), (5, (p_ b3)), (16, (.slice ao ((clsR l k).length) co)), (17, (i_ ((clsR l k).length : Int))), (18, (i_ (j : Int))), (6, (.slice A7 ((((sfi x2.pc (clsR l k) j).1) ++ ([x2.pc])).length) c7)), (7, (b_ true)), (19, (b_ (decide ((j : Int) < ((clsR l k).length : Int))))), (9, (i_ x5)), (29, (b_ ((!((sfi x2.pc (clsR l k) j).2)) && (decide (x2.pc ≤ x5))))), (38, (b_ (x5 != x2.pc))), (39, (.slice A7 ((((sfi x2.pc (clsR l k) j).1) ++ ([x2.pc])).length) c7)), (40, (i_ x5))] [] T0 (by kernel_rfl) trivial ?_)
              refine A.cons (A.buildSlice 41 (e := 3) [(i_ x5)] (by kernel_rfl) rfl (fun _ => by kernel_rfl) (fun b8 => [sl ao ((clsR l k).length) co 3 1 (V.flat encI (clsR l k)), sl A7 ((((sfi x2.pc (clsR l k) j).1) ++ ([x2.pc])).length) c7 3 1 (V.flat encI (((sfi x2.pc (clsR l k) j).1) ++ ([x2.pc]))), blk b3 [(i_ x2.pc), (u_ x2.pa), (u_ x2.pd), (i_ x2.pl), (b_ x2.pr), (b_ x2.pg)] 33, blk b6 [(i_ x2.pc)] 3, blk b8 [(i_ x5)] 3]) (fun _ => rfl) ?_)
              intro b8
              refine A.cons (A.appendC (enc := encI) (xs := ((sfi x2.pc (clsR l k) j).1) ++ ([x2.pc])) ([x5]) 1 42 (e := 3) (z := (i_ 0)) (sz := 1) (by_ := 8) (by kernel_rfl) rfl rfl rfl (by kernel_rfl) (by kernel_rfl) (by rfl) (by decide) encI_len encI_one rfl (rd_blk (i := 4) rfl) (by simp; omega) (fun A9 c9 => [sl ao ((clsR l k).length) co 3 1 (V.flat encI (clsR l k)), sl A9 (((((sfi x2.pc (clsR l k) j).1) ++ ([x2.pc])) ++ ([x5])).length) c9 3 1 (V.flat encI ((((sfi x2.pc (clsR l k) j).1) ++ ([x2.pc])) ++ ([x5]))), blk b3 [(i_ x2.pc), (u_ x2.pa), (u_ x2.pd), (i_ x2.pl), (b_ x2.pr), (b_ x2.pg)] 33, blk b6 [(i_ x2.pc)] 3, blk b8 [(i_ x5)] 3]) (fun _ _ => rfl) ?_)
              intro A9 c9
              refine A.goA [.p] [(2, e_), (10, (.slice al l.length cl)), (11, (i_ (l.length : Int))), (12, (i_ (k : Int))), (3, (.slice ao ((clsR l k).length) co)), (5, (p_ b3)), (16, (.slice ao ((clsR l k).length) co)), (17, (i_ ((clsR l k).length : Int))), (18, (i_ (j : Int))), (6, (.slice A9 (((((sfi x2.pc (clsR l k) j).1) ++ ([x2.pc])) ++ ([x5])).length) c9)), (7, (b_ true)), (19, (b_ (decide ((j : Int) < ((clsR l k).length : Int))))), (9, (i_ x5)), (29, (b_ ((!((sfi x2.pc (clsR l k) j).2)) && (decide (x2.pc ≤ x5))))), (38, (b_ (x5 != x2.pc)))] [] T0 (by kernel_rfl) trivial ?_
              refine A.bn ?_
              refine A.tn ?_
              refine A.region (A.goA [.w ((j : Int) + 1), .p] [(2, e_), (10, (.slice al l.length cl)), (11, (i_ (l.length : Int))), (12, (i_ (k : Int))), (3, (.slice ao ((clsR l k).length) co)), (5, (p_ b3)), (16, (.slice ao ((clsR l k).length) co)), (17, (i_ ((clsR l k).length : Int))), (18, (i_ ((j : Int) + 1))), (6, (.slice A9 (((((sfi x2.pc (clsR l k) j).1) ++ ([x2.pc])) ++ ([x5])).length) c9)), (7, (b_ true)), (19, (b_ (decide ((j : Int) < ((clsR l k).length : Int))))), (9, (i_ x5)), (29, (b_ ((!((sfi x2.pc (clsR l k) j).2)) && (decide (x2.pc ≤ x5))))), (38, (b_ (x5 != x2.pc)))] [] (fun κ => (IntKind.i64.wrap ((j : Int) + 1) = ((j : Int) + 1)) ∧ True) (by kernel_rfl) ⟨(wrap_i64 (e := (j : Int) + 1) (by constructor <;> omega)), trivial⟩ ?_)
              refine A.tn ?_
              refine A.sub [(2, e_), (10, (.slice al l.length cl)), (11, (i_ (l.length : Int))), (12, (i_ (k : Int))), (3, (.slice ao ((clsR l k).length) co)), (5, (p_ b3)), (16, (.slice ao ((clsR l k).length) co)), (17, (i_ ((clsR l k).length : Int))), (18, (i_ ((j : Int) + 1))), (6, (.slice A9 (((((sfi x2.pc (clsR l k) j).1) ++ ([x2.pc])) ++ ([x5])).length) c9)), (7, (b_ ((sfi x2.pc (clsR l k) (j + 1)).2))), (19, (b_ (decide ((j : Int) < ((clsR l k).length : Int))))), (9, (i_ x5)), (29, (b_ ((!((sfi x2.pc (clsR l k) j).2)) && (decide (x2.pc ≤ x5))))), (38, (b_ (x5 != x2.pc)))] (by exact ⟨rfl, rfl, rfl, rfl, rfl, rfl, rfl, rfl, rfl, rfl, (congrArg (fun z_ => some (b_ z_)) (by first | rfl | (rw [sfi_succ (by assumption)]; simp_all; done) | (rw [clsR_succ (by assumption)]; (have hj2 : j = (clsR l k).length := by omega); subst hj2; unfold insI; simp_all; done) | (rw [show k = l.length by omega]) : true = (sfi x2.pc (clsR l k) (j + 1)).2)), rfl, rfl, rfl, rfl, trivial⟩) ?_
              refine A.setH [sl ao ((clsR l k).length) co 3 1 (V.flat encI (clsR l k)), sl A9 (((sfi x2.pc (clsR l k) (j + 1)).1).length) c9 3 1 (V.flat encI ((sfi x2.pc (clsR l k) (j + 1)).1)), blk b3 [(i_ x2.pc), (u_ x2.pa), (u_ x2.pd), (i_ x2.pl), (b_ x2.pr), (b_ x2.pg)] 33, blk b6 [(i_ x2.pc)] 3, blk b8 [(i_ x5)] 3] (cc rfl (cc (slC (by first | rfl | (rw [sfi_succ (by assumption)]; simp_all; done) | (rw [clsR_succ (by assumption)]; (have hj2 : j = (clsR l k).length := by omega); subst hj2; unfold insI; simp_all; done) | (rw [show k = l.length by omega]) : (((sfi x2.pc (clsR l k) j).1) ++ ([x2.pc])) ++ ([x5]) = (sfi x2.pc (clsR l k) (j + 1)).1)) rfl)) ?_
              refine A.sub [(2, e_), (10, (.slice al l.length cl)), (11, (i_ (l.length : Int))), (12, (i_ (k : Int))), (3, (.slice ao ((clsR l k).length) co)), (5, (p_ b3)), (16, (.slice ao ((clsR l k).length) co)), (17, (i_ ((clsR l k).length : Int))), (18, (i_ ((j : Int) + 1))), (6, (.slice A9 (((sfi x2.pc (clsR l k) (j + 1)).1).length) c9)), (7, (b_ ((sfi x2.pc (clsR l k) (j + 1)).2))), (19, (b_ (decide ((j : Int) < ((clsR l k).length : Int))))), (9, (i_ x5)), (29, (b_ ((!((sfi x2.pc (clsR l k) j).2)) && (decide (x2.pc ≤ x5))))), (38, (b_ (x5 != x2.pc)))] (by exact ⟨rfl, rfl, rfl, rfl, rfl, rfl, rfl, rfl, rfl, (congrArg (fun z_ : List Int => some (Value.slice A9 z_.length c9)) (by first | rfl | (rw [sfi_succ (by assumption)]; simp_all; done) | (rw [clsR_succ (by assumption)]; (have hj2 : j = (clsR l k).length := by omega); subst hj2; unfold insI; simp_all; done) | (rw [show k = l.length by omega]) : (((sfi x2.pc (clsR l k) j).1) ++ ([x2.pc])) ++ ([x5]) = (sfi x2.pc (clsR l k) (j + 1)).1)), rfl, rfl, rfl, rfl, rfl, trivial⟩) ?_
              refine A.next (j + 1, A9, c9) (by first | assumption | omega | (simp_all; done) | (simp_all; omega) | grind) (by first | omega | (simp; omega) | (simp_all; omega)) ?_
              exact A.hereK [0, 0, 0] (by exact ⟨rfl, rfl, rfl, rfl, rfl, rfl, rfl, rfl, rfl, rfl, rfl, trivial⟩) (by kernel_rfl)
            · skip
              have p4 := e4; try simp only [decide_eq_true_eq, decide_eq_false_iff_not, beq_iff_eq, beq_eq_false_iff_ne, bne_iff_ne, bne_eq_false_iff_eq, ne_eq, Bool.and_eq_true, Bool.or_eq_true, Bool.or_eq_false_iff, Bool.not_eq_true', Bool.not_eq_false', Int.not_lt, Int.not_le, gt_iff_lt, ge_iff_le, Classical.not_not] at p4
              refine A.skip ?_
              refine A.bn ?_
              refine A.tn ?_
              refine A.region (A.goA [.w ((j : Int) + 1), .p] [(2, e_), (10, (.slice al l.length cl)), (11, (i_ (l.length : Int))), (12, (i_ (k : Int))), (3, (.slice ao ((clsR l k).length) co)), (5, (p_ b3)), (16, (.slice ao ((clsR l k).length) co)), (17, (i_ ((clsR l k).length : Int))), (18, (i_ ((j : Int) + 1))), (6, (.slice A7 ((((sfi x2.pc (clsR l k) j).1) ++ ([x2.pc])).length) c7)), (7, (b_ true)), (19, (b_ (decide ((j : Int) < ((clsR l k).length : Int))))), (9, (i_ x5)), (29, (b_ ((!((sfi x2.pc (clsR l k) j).2)) && (decide (x2.pc ≤ x5))))), (38, (b_ (x5 != x2.pc)))] [] (fun κ => (IntKind.i64.wrap ((j : Int) + 1) = ((j : Int) + 1)) ∧ True) (by kernel_rfl) ⟨(wrap_i64 (e := (j : Int) + 1) (by constructor <;> omega)), trivial⟩ ?_)
              refine A.tn ?_
              refine A.sub [(2, e_), (10, (.slice al l.length cl)), (11, (i_ (l.length : Int))), (12, (i_ (k : Int))), (3, (.slice ao ((clsR l k).length) co)), (5, (p_ b3)), (16, (.slice ao ((clsR l k).length) co)), (17, (i_ ((clsR l k).length : Int))), (18, (i_ ((j : Int) + 1))), (6, (.slice A7 ((((sfi x2.pc (clsR l k) j).1) ++ ([x2.pc])).length) c7)), (7, (b_ ((sfi x2.pc (clsR l k) (j + 1)).2))), (19, (b_ (decide ((j : Int) < ((clsR l k).length : Int))))), (9, (i_ x5)), (29, (b_ ((!((sfi x2.pc (clsR l k) j).2)) && (decide (x2.pc ≤ x5))))), (38, (b_ (x5 != x2.pc)))] (by exact ⟨rfl, rfl, rfl, rfl, rfl, rfl, rfl, rfl, rfl, rfl, (congrArg (fun z_ => some (b_ z_)) (by first | rfl | (rw [sfi_succ (by assumption)]; simp_all; done) | (rw [clsR_succ (by assumption)]; (have hj2 : j = (clsR l k).length := by omega); subst hj2; unfold insI; simp_all; done) | (rw [show k = l.length by omega]) : true = (sfi x2.pc (clsR l k) (j + 1)).2)), rfl, rfl, rfl, rfl, trivial⟩) ?_
              refine A.setH [sl ao ((clsR l k).length) co 3 1 (V.flat encI (clsR l k)), sl A7 (((sfi x2.pc (clsR l k) (j + 1)).1).length) c7 3 1 (V.flat encI ((sfi x2.pc (clsR l k) (j + 1)).1)), blk b3 [(i_ x2.pc), (u_ x2.pa), (u_ x2.pd), (i_ x2.pl), (b_ x2.pr), (b_ x2.pg)] 33, blk b6 [(i_ x2.pc)] 3] (cc rfl (cc (slC (by first | rfl | (rw [sfi_succ (by assumption)]; simp_all; done) | (rw [clsR_succ (by assumption)]; (have hj2 : j = (clsR l k).length := by omega); subst hj2; unfold insI; simp_all; done) | (rw [show k = l.length by omega]) : ((sfi x2.pc (clsR l k) j).1) ++ ([x2.pc]) = (sfi x2.pc (clsR l k) (j + 1)).1)) rfl)) ?_
              refine A.sub [(2, e_), (10, (.slice al l.length cl)), (11, (i_ (l.length : Int))), (12, (i_ (k : Int))), (3, (.slice ao ((clsR l k).length) co)), (5, (p_ b3)), (16, (.slice ao ((clsR l k).length) co)), (17, (i_ ((clsR l k).length : Int))), (18, (i_ ((j : Int) + 1))), (6, (.slice A7 (((sfi x2.pc (clsR l k) (j + 1)).1).length) c7)), (7, (b_ ((sfi x2.pc (clsR l k) (j + 1)).2))), (19, (b_ (decide ((j : Int) < ((clsR l k).length : Int))))), (9, (i_ x5)), (29, (b_ ((!((sfi x2.pc (clsR l k) j).2)) && (decide (x2.pc ≤ x5))))), (38, (b_ (x5 != x2.pc)))] (by exact ⟨rfl, rfl, rfl, rfl, rfl, rfl, rfl, rfl, rfl, (congrArg (fun z_ : List Int => some (Value.slice A7 z_.length c7)) (by first | rfl | (rw [sfi_succ (by assumption)]; simp_all; done) | (rw [clsR_succ (by assumption)]; (have hj2 : j = (clsR l k).length := by omega); subst hj2; unfold insI; simp_all; done) | (rw [show k = l.length by omega]) : ((sfi x2.pc (clsR l k) j).1) ++ ([x2.pc]) = (sfi x2.pc (clsR l k) (j + 1)).1)), rfl, rfl, rfl, rfl, rfl, trivial⟩) ?_
              refine A.next (j + 1, A7, c7) (by first | assumption | omega | (simp_all; done) | (simp_all; omega) | grind) (by first | omega | (simp; omega) | (simp_all; omega)) ?_
              exact A.hereK [0, 0, 0] (by exact ⟨rfl, rfl, rfl, rfl, rfl, rfl, rfl, rfl, rfl, rfl, rfl, trivial⟩) (by kernel_rfl)
          · skip
            have p3 := e3; try simp only [decide_eq_true_eq, decide_eq_false_iff_not, beq_iff_eq, beq_eq_false_iff_ne, bne_iff_ne, bne_eq_false_iff_eq, ne_eq, Bool.and_eq_true, Bool.or_eq_true, Bool.or_eq_false_iff, Bool.not_eq_true', Bool.not_eq_false', Int.not_lt, Int.not_le, gt_iff_lt, ge_iff_le, Classical.not_not] at p3
            refine A.skip ?_
            refine A.tn ?_
            refine A.seq ?_
            refine A.region (A.goA [.p, .p, .ld 2, .p] [(2, e_), (10, (.slice al l.length cl)), (11, (i_ (l.length : Int))), (12, (i_ (k : Int))), (3, (.slice ao ((clsR l k).length) co)), (5, (p_ b3)), (16, (.slice ao ((clsR l k).length) co)), (17, (i_ ((clsR l k).length : Int))), (18, (i_ (j : Int))), (6, (.slice an (((sfi x2.pc (clsR l k) j).1).length) cn)), (7, (b_ ((sfi x2.pc (clsR l k) j).2))), (19, (b_ (decide ((j : Int) < ((clsR l k).length : Int))))), (9, (i_ x5)), (29, (b_ ((!((sfi x2.pc (clsR l k) j).2)) && (decide (x2.pc ≤ x5))))), (38, (b_ (x5 != x2.pc)))] [b3] T0 (by kernel_rfl) trivial ?_)
            refine A.tn ?_
            refine A.cond (E := x5 != x2.pc) rfl (fun e5 => ?_) (fun e5 => ?_)
            · skip
              have p5 := e5; try simp only [decide_eq_true_eq, decide_eq_false_iff_not, beq_iff_eq, beq_eq_false_iff_ne, bne_iff_ne, bne_eq_false_iff_eq, ne_eq, Bool.and_eq_true, Bool.or_eq_true, Bool.or_eq_false_iff, Bool.not_eq_true', Bool.not_eq_false', Int.not_lt, Int.not_le, gt_iff_lt, ge_iff_le, Classical.not_not] at p5
              refine A.region (A.goP [.p, .p] [(2, e_), (10, (.slice al l.length cl)), (11, (i_ (l.length : Int))), (12, (i_ (k : Int))), (3, (.slice ao ((clsR l k).length) co)), (5, (p_ b3)), (16, (.slice ao ((clsR l k).length) co)), (17, (i_ ((clsR l k).length : Int))), (18, (i_ (j : Int))), (6, (.slice an (((sfi x2.pc (clsR l k) j).1).length) cn)), (7, (b_ ((sfi x2.pc (clsR l k) j).2))), (19, (b_ (decide ((j : Int) < ((clsR l k).length : Int))))), (9, (i_ x5)), (29, (b_ ((!((sfi x2.pc (clsR l k) j).2)) && (decide (x2.pc ≤ x5))))), (38, (b_ (x5 != x2.pc))), (39, (.slice an (((sfi x2.pc (clsR l k) j).1).length) cn)), (40, (i_ x5))] [] T0 (by kernel_rfl) trivial ?_)
              refine A.cons (A.buildSlice 41 (e := 3) [(i_ x5)] (by kernel_rfl) rfl (fun _ => by kernel_rfl) (fun b10 => [sl ao ((clsR l k).length) co 3 1 (V.flat encI (clsR l k)), sl an (((sfi x2.pc (clsR l k) j).1).length) cn 3 1 (V.flat encI ((sfi x2.pc (clsR l k) j).1)), blk b3 [(i_ x2.pc), (u_ x2.pa), (u_ x2.pd), (i_ x2.pl), (b_ x2.pr), (b_ x2.pg)] 33, blk b10 [(i_ x5)] 3]) (fun _ => rfl) ?_)
              intro b10
              refine A.cons (A.appendC (enc := encI) (xs := (sfi x2.pc (clsR l k) j).1) ([x5]) 1 42 (e := 3) (z := (i_ 0)) (sz := 1) (by_ := 8) (by kernel_rfl) rfl rfl rfl (by kernel_rfl) (by kernel_rfl) (by rfl) (by decide) encI_len encI_one rfl (rd_blk (i := 3) rfl) (by simp; omega) (fun A11 c11 => [sl ao ((clsR l k).length) co 3 1 (V.flat encI (clsR l k)), sl A11 ((((sfi x2.pc (clsR l k) j).1) ++ ([x5])).length) c11 3 1 (V.flat encI (((sfi x2.pc (clsR l k) j).1) ++ ([x5]))), blk b3 [(i_ x2.pc), (u_ x2.pa), (u_ x2.pd), (i_ x2.pl), (b_ x2.pr), (b_ x2.pg)] 33, blk b10 [(i_ x5)] 3]) (fun _ _ => rfl) ?_)
              intro A11 c11
              refine A.goA [.p] [(2, e_), (10, (.slice al l.length cl)), (11, (i_ (l.length : Int))), (12, (i_ (k : Int))), (3, (.slice ao ((clsR l k).length) co)), (5, (p_ b3)), (16, (.slice ao ((clsR l k).length) co)), (17, (i_ ((clsR l k).length : Int))), (18, (i_ (j : Int))), (6, (.slice A11 ((((sfi x2.pc (clsR l k) j).1) ++ ([x5])).length) c11)), (7, (b_ ((sfi x2.pc (clsR l k) j).2))), (19, (b_ (decide ((j : Int) < ((clsR l k).length : Int))))), (9, (i_ x5)), (29, (b_ ((!((sfi x2.pc (clsR l k) j).2)) && (decide (x2.pc ≤ x5))))), (38, (b_ (x5 != x2.pc)))] [] T0 (by kernel_rfl) trivial ?_
              refine A.bn ?_
              refine A.tn ?_
              refine A.region (A.goA [.w ((j : Int) + 1), .p] [(2, e_), (10, (.slice al l.length cl)), (11, (i_ (l.length : Int))), (12, (i_ (k : Int))), (3, (.slice ao ((clsR l k).length) co)), (5, (p_ b3)), (16, (.slice ao ((clsR l k).length) co)), (17, (i_ ((clsR l k).length : Int))), (18, (i_ ((j : Int) + 1))), (6, (.slice A11 ((((sfi x2.pc (clsR l k) j).1) ++ ([x5])).length) c11)), (7, (b_ ((sfi x2.pc (clsR l k) j).2))), (19, (b_ (decide ((j : Int) < ((clsR l k).length : Int))))), (9, (i_ x5)), (29, (b_ ((!((sfi x2.pc (clsR l k) j).2)) && (decide (x2.pc ≤ x5))))), (38, (b_ (x5 != x2.pc)))] [] (fun κ => (IntKind.i64.wrap ((j : Int) + 1) = ((j : Int) + 1)) ∧ True) (by kernel_rfl) ⟨(wrap_i64 (e := (j : Int) + 1) (by constructor <;> omega)), trivial⟩ ?_)
              refine A.tn ?_
              refine A.sub [(2, e_), (10, (.slice al l.length cl)), (11, (i_ (l.length : Int))), (12, (i_ (k : Int))), (3, (.slice ao ((clsR l k).length) co)), (5, (p_ b3)), (16, (.slice ao ((clsR l k).length) co)), (17, (i_ ((clsR l k).length : Int))), (18, (i_ ((j : Int) + 1))), (6, (.slice A11 ((((sfi x2.pc (clsR l k) j).1) ++ ([x5])).length) c11)), (7, (b_ ((sfi x2.pc (clsR l k) (j + 1)).2))), (19, (b_ (decide ((j : Int) < ((clsR l k).length : Int))))), (9, (i_ x5)), (29, (b_ ((!((sfi x2.pc (clsR l k) j).2)) && (decide (x2.pc ≤ x5))))), (38, (b_ (x5 != x2.pc)))] (by exact ⟨rfl, rfl, rfl, rfl, rfl, rfl, rfl, rfl, rfl, rfl, (congrArg (fun z_ => some (b_ z_)) (by first | rfl | (rw [sfi_succ (by assumption)]; simp_all; done) | (rw [clsR_succ (by assumption)]; (have hj2 : j = (clsR l k).length := by omega); subst hj2; unfold insI; simp_all; done) | (rw [show k = l.length by omega]) : (sfi x2.pc (clsR l k) j).2 = (sfi x2.pc (clsR l k) (j + 1)).2)), rfl, rfl, rfl, rfl, trivial⟩) ?_
              refine A.setH [sl ao ((clsR l k).length) co 3 1 (V.flat encI (clsR l k)), sl A11 (((sfi x2.pc (clsR l k) (j + 1)).1).length) c11 3 1 (V.flat encI ((sfi x2.pc (clsR l k) (j + 1)).1)), blk b3 [(i_ x2.pc), (u_ x2.pa), (u_ x2.pd), (i_ x2.pl), (b_ x2.pr), (b_ x2.pg)] 33, blk b10 [(i_ x5)] 3] (cc rfl (cc (slC (by first | rfl | (rw [sfi_succ (by assumption)]; simp_all; done) | (rw [clsR_succ (by assumption)]; (have hj2 : j = (clsR l k).length := by omega); subst hj2; unfold insI; simp_all; done) | (rw [show k = l.length by omega]) : ((sfi x2.pc (clsR l k) j).1) ++ ([x5]) = (sfi x2.pc (clsR l k) (j + 1)).1)) rfl)) ?_
              refine A.sub [(2, e_), (10, (.slice al l.length cl)), (11, (i_ (l.length : Int))), (12, (i_ (k : Int))), (3, (.slice ao ((clsR l k).length) co)), (5, (p_ b3)), (16, (.slice ao ((clsR l k).length) co)), (17, (i_ ((clsR l k).length : Int))), (18, (i_ ((j : Int) + 1))), (6, (.slice A11 (((sfi x2.pc (clsR l k) (j + 1)).1).length) c11)), (7, (b_ ((sfi x2.pc (clsR l k) (j + 1)).2))), (19, (b_ (decide ((j : Int) < ((clsR l k).length : Int))))), (9, (i_ x5)), (29, (b_ ((!((sfi x2.pc (clsR l k) j).2)) && (decide (x2.pc ≤ x5))))), (38, (b_ (x5 != x2.pc)))] (by exact ⟨rfl, rfl, rfl, rfl, rfl, rfl, rfl, rfl, rfl, (congrArg (fun z_ : List Int => some (Value.slice A11 z_.length c11)) (by first | rfl | (rw [sfi_succ (by assumption)]; simp_all; done) | (rw [clsR_succ (by assumption)]; (have hj2 : j = (clsR l k).length := by omega); subst hj2; unfold insI; simp_all; done) | (rw [show k = l.length by omega]) : ((sfi x2.pc (clsR l k) j).1) ++ ([x5]) = (sfi x2.pc (clsR l k) (j + 1)).1)), rfl, rfl, rfl, rfl, rfl, trivial⟩) ?_
              refine A.next (j + 1, A11, c11) (by first | assumption | omega | (simp_all; done) | (simp_all; omega) | grind) (by first | omega | (simp; omega) | (simp_all; omega)) ?_
              exact A.hereK [0, 0, 0] (by exact ⟨rfl, rfl, rfl, rfl, rfl, rfl, rfl, rfl, rfl, rfl, rfl, trivial⟩) (by kernel_rfl)
            · skip
              have p5 := e5; try simp only [decide_eq_true_eq, decide_eq_false_iff_not, beq_iff_eq, beq_eq_false_iff_ne, bne_iff_ne, bne_eq_false_iff_eq, ne_eq, Bool.and_eq_true, Bool.or_eq_true, Bool.or_eq_false_iff, Bool.not_eq_true', Bool.not_eq_false', Int.not_lt, Int.not_le, gt_iff_lt, ge_iff_le, Classical.not_not] at p5
              refine A.skip ?_
              refine A.bn ?_
              refine A.tn ?_
              refine A.region (A.goA [.w ((j : Int) + 1), .p] [(2, e_), (10, (.slice al l.length cl)), (11, (i_ (l.length : Int))), (12, (i_ (k : Int))), (3, (.slice ao ((clsR l k).length) co)), (5, (p_ b3)), (16, (.slice ao ((clsR l k).length) co)), (17, (i_ ((clsR l k).length : Int))), (18, (i_ ((j : Int) + 1))), (6, (.slice an (((sfi x2.pc (clsR l k) j).1).length) cn)), (7, (b_ ((sfi x2.pc (clsR l k) j).2))), (19, (b_ (decide ((j : Int) < ((clsR l k).length : Int))))), (9, (i_ x5)), (29, (b_ ((!((sfi x2.pc (clsR l k) j).2)) && (decide (x2.pc ≤ x5))))), (38, (b_ (x5 != x2.pc)))] [] (fun κ => (IntKind.i64.wrap ((j : Int) + 1) = ((j : Int) + 1)) ∧ True) (by kernel_rfl) ⟨(wrap_i64 (e := (j : Int) + 1) (by constructor <;> omega)), trivial⟩ ?_)
              refine A.tn ?_
              refine A.sub [(2, e_), (10, (.slice al l.length cl)), (11, (i_ (l.length : Int))), (12, (i_ (k : Int))), (3, (.slice ao ((clsR l k).length) co)), (5, (p_ b3)), (16, (.slice ao ((clsR l k).length) co)), (17, (i_ ((clsR l k).length : Int))), (18, (i_ ((j : Int) + 1))), (6, (.slice an (((sfi x2.pc (clsR l k) j).1).length) cn)), (7, (b_ ((sfi x2.pc (clsR l k) (j + 1)).2))), (19, (b_ (decide ((j : Int) < ((clsR l k).length : Int))))), (9, (i_ x5)), (29, (b_ ((!((sfi x2.pc (clsR l k) j).2)) && (decide (x2.pc ≤ x5))))), (38, (b_ (x5 != x2.pc)))] (by exact ⟨rfl, rfl, rfl, rfl, rfl, rfl, rfl, rfl, rfl, rfl, (congrArg (fun z_ => some (b_ z_)) (by first | rfl | (rw [sfi_succ (by assumption)]; simp_all; done) | (rw [clsR_succ (by assumption)]; (have hj2 : j = (clsR l k).length := by omega); subst hj2; unfold insI; simp_all; done) | (rw [show k = l.length by omega]) : (sfi x2.pc (clsR l k) j).2 = (sfi x2.pc (clsR l k) (j + 1)).2)), rfl, rfl, rfl, rfl, trivial⟩) ?_
              refine A.setH [sl ao ((clsR l k).length) co 3 1 (V.flat encI (clsR l k)), sl an (((sfi x2.pc (clsR l k) (j + 1)).1).length) cn 3 1 (V.flat encI ((sfi x2.pc (clsR l k) (j + 1)).1)), blk b3 [(i_ x2.pc), (u_ x2.pa), (u_ x2.pd), (i_ x2.pl), (b_ x2.pr), (b_ x2.pg)] 33] (cc rfl (cc (slC (by first | rfl | (rw [sfi_succ (by assumption)]; simp_all; done) | (rw [clsR_succ (by assumption)]; (have hj2 : j = (clsR l k).length := by omega); subst hj2; unfold insI; simp_all; done) | (rw [show k = l.length by omega]) : (sfi x2.pc (clsR l k) j).1 = (sfi x2.pc (clsR l k) (j + 1)).1)) rfl)) ?_
              refine A.sub [(2, e_), (10, (.slice al l.length cl)), (11, (i_ (l.length : Int))), (12, (i_ (k : Int))), (3, (.slice ao ((clsR l k).length) co)), (5, (p_ b3)), (16, (.slice ao ((clsR l k).length) co)), (17, (i_ ((clsR l k).length : Int))), (18, (i_ ((j : Int) + 1))), (6, (.slice an (((sfi x2.pc (clsR l k) (j + 1)).1).length) cn)), (7, (b_ ((sfi x2.pc (clsR l k) (j + 1)).2))), (19, (b_ (decide ((j : Int) < ((clsR l k).length : Int))))), (9, (i_ x5)), (29, (b_ ((!((sfi x2.pc (clsR l k) j).2)) && (decide (x2.pc ≤ x5))))), (38, (b_ (x5 != x2.pc)))] (by exact ⟨rfl, rfl, rfl, rfl, rfl, rfl, rfl, rfl, rfl, (congrArg (fun z_ : List Int => some (Value.slice an z_.length cn)) (by first | rfl | (rw [sfi_succ (by assumption)]; simp_all; done) | (rw [clsR_succ (by assumption)]; (have hj2 : j = (clsR l k).length := by omega); subst hj2; unfold insI; simp_all; done) | (rw [show k = l.length by omega]) : (sfi x2.pc (clsR l k) j).1 = (sfi x2.pc (clsR l k) (j + 1)).1)), rfl, rfl, rfl, rfl, rfl, trivial⟩) ?_
              refine A.next (j + 1, an, cn) (by first | assumption | omega | (simp_all; done) | (simp_all; omega) | grind) (by first | omega | (simp; omega) | (simp_all; omega)) ?_
              exact A.hereK [0, 0, 0] (by exact ⟨rfl, rfl, rfl, rfl, rfl, rfl, rfl, rfl, rfl, rfl, rfl, trivial⟩) (by kernel_rfl)
        · skip
          have p2 := of_decide_eq_false e2
          refine A.exit ?_
          refine A.te ?_
          refine A.te ?_
          refine A.bh ?_
          refine A.tn ?_
          refine A.seq ?_
          refine A.seq ?_
          refine A.region (A.goA [.p, .p] [(2, e_), (10, (.slice al l.length cl)), (11, (i_ (l.length : Int))), (12, (i_ (k : Int))), (3, (.slice ao ((clsR l k).length) co)), (5, (p_ b3)), (16, (.slice ao ((clsR l k).length) co)), (17, (i_ ((clsR l k).length : Int))), (18, (i_ (j : Int))), (6, (.slice an (((sfi x2.pc (clsR l k) j).1).length) cn)), (7, (b_ ((sfi x2.pc (clsR l k) j).2))), (19, (b_ (decide ((j : Int) < ((clsR l k).length : Int))))), (45, (b_ (!((sfi x2.pc (clsR l k) j).2))))] [] T0 (by kernel_rfl) trivial ?_)
          refine A.tn ?_
          refine A.cond (E := !((sfi x2.pc (clsR l k) j).2)) rfl (fun e6 => ?_) (fun e6 => ?_)
          · skip
            have p6 := e6; try simp only [decide_eq_true_eq, decide_eq_false_iff_not, beq_iff_eq, beq_eq_false_iff_ne, bne_iff_ne, bne_eq_false_iff_eq, ne_eq, Bool.and_eq_true, Bool.or_eq_true, Bool.or_eq_false_iff, Bool.not_eq_true', Bool.not_eq_false', Int.not_lt, Int.not_le, gt_iff_lt, ge_iff_le, Classical.not_not] at p6
            refine A.region (A.goP [.p, .p, .ld 2] [(2, e_), (10, (.slice al l.length cl)), (11, (i_ (l.length : Int))), (12, (i_ (k : Int))), (3, (.slice ao ((clsR l k).length) co)), (5, (p_ b3)), (16, (.slice ao ((clsR l k).length) co)), (17, (i_ ((clsR l k).length : Int))), (18, (i_ (j : Int))), (6, (.slice an (((sfi x2.pc (clsR l k) j).1).length) cn)), (7, (b_ ((sfi x2.pc (clsR l k) j).2))), (19, (b_ (decide ((j : Int) < ((clsR l k).length : Int))))), (45, (b_ (!((sfi x2.pc (clsR l k) j).2)))), (46, (.slice an (((sfi x2.pc (clsR l k) j).1).length) cn)), (48, (i_ x2.pc))] [b3] T0 (by kernel_rfl) trivial ?_)
            refine A.cons (A.buildSlice 49 (e := 3) [(i_ x2.pc)] (by kernel_rfl) rfl (fun _ => by kernel_rfl) (fun b12 => [sl ao ((clsR l k).length) co 3 1 (V.flat encI (clsR l k)), sl an (((sfi x2.pc (clsR l k) j).1).length) cn 3 1 (V.flat encI ((sfi x2.pc (clsR l k) j).1)), blk b3 [(i_ x2.pc), (u_ x2.pa), (u_ x2.pd), (i_ x2.pl), (b_ x2.pr), (b_ x2.pg)] 33, blk b12 [(i_ x2.pc)] 3]) (fun _ => rfl) ?_)
            intro b12
            refine A.cons (A.appendC (enc := encI) (xs := (sfi x2.pc (clsR l k) j).1) ([x2.pc]) 1 50 (e := 3) (z := (i_ 0)) (sz := 1) (by_ := 8) (by kernel_rfl) rfl rfl rfl (by kernel_rfl) (by kernel_rfl) (by rfl) (by decide) encI_len encI_one rfl (rd_blk (i := 3) rfl) (by simp; omega) (fun A13 c13 => [sl ao ((clsR l k).length) co 3 1 (V.flat encI (clsR l k)), sl A13 ((((sfi x2.pc (clsR l k) j).1) ++ ([x2.pc])).length) c13 3 1 (V.flat encI (((sfi x2.pc (clsR l k) j).1) ++ ([x2.pc]))), blk b3 [(i_ x2.pc), (u_ x2.pa), (u_ x2.pd), (i_ x2.pl), (b_ x2.pr), (b_ x2.pg)] 33, blk b12 [(i_ x2.pc)] 3]) (fun _ _ => rfl) ?_)
            intro A13 c13
            refine A.goA [.p] [(2, e_), (10, (.slice al l.length cl)), (11, (i_ (l.length : Int))), (12, (i_ (k : Int))), (3, (.slice ao ((clsR l k).length) co)), (5, (p_ b3)), (16, (.slice ao ((clsR l k).length) co)), (17, (i_ ((clsR l k).length : Int))), (18, (i_ (j : Int))), (6, (.slice A13 ((((sfi x2.pc (clsR l k) j).1) ++ ([x2.pc])).length) c13)), (7, (b_ ((sfi x2.pc (clsR l k) j).2))), (19, (b_ (decide ((j : Int) < ((clsR l k).length : Int))))), (45, (b_ (!((sfi x2.pc (clsR l k) j).2))))] [] T0 (by kernel_rfl) trivial ?_
            refine A.tn ?_
            refine A.region (A.goA [.p, .p] [(2, e_), (10, (.slice al l.length cl)), (11, (i_ (l.length : Int))), (12, (i_ (k : Int))), (3, (.slice A13 ((((sfi x2.pc (clsR l k) j).1) ++ ([x2.pc])).length) c13)), (5, (p_ b3)), (16, (.slice ao ((clsR l k).length) co)), (17, (i_ ((clsR l k).length : Int))), (18, (i_ (j : Int))), (6, (.slice A13 ((((sfi x2.pc (clsR l k) j).1) ++ ([x2.pc])).length) c13)), (7, (b_ ((sfi x2.pc (clsR l k) j).2))), (19, (b_ (decide ((j : Int) < ((clsR l k).length : Int))))), (45, (b_ (!((sfi x2.pc (clsR l k) j).2))))] [] T0 (by kernel_rfl) trivial ?_)
            refine A.bn ?_
            refine A.tn ?_
            refine A.region (A.goA [.w ((k : Int) + 1), .p] [(2, e_), (10, (.slice al l.length cl)), (11, (i_ (l.length : Int))), (12, (i_ ((k : Int) + 1))), (3, (.slice A13 ((((sfi x2.pc (clsR l k) j).1) ++ ([x2.pc])).length) c13)), (5, (p_ b3)), (16, (.slice ao ((clsR l k).length) co)), (17, (i_ ((clsR l k).length : Int))), (18, (i_ (j : Int))), (6, (.slice A13 ((((sfi x2.pc (clsR l k) j).1) ++ ([x2.pc])).length) c13)), (7, (b_ ((sfi x2.pc (clsR l k) j).2))), (19, (b_ (decide ((j : Int) < ((clsR l k).length : Int))))), (45, (b_ (!((sfi x2.pc (clsR l k) j).2))))] [] (fun κ => (IntKind.i64.wrap ((k : Int) + 1) = ((k : Int) + 1)) ∧ True) (by kernel_rfl) ⟨(wrap_i64 (e := (k : Int) + 1) (by constructor <;> omega)), trivial⟩ ?_)
            refine A.tn ?_
            refine A.sub [(2, e_), (10, (.slice al l.length cl)), (11, (i_ (l.length : Int))), (12, (i_ ((k : Int) + 1))), (3, (.slice A13 ((((sfi x2.pc (clsR l k) j).1) ++ ([x2.pc])).length) c13)), (5, (p_ b3)), (17, (i_ ((clsR l k).length : Int))), (18, (i_ (j : Int))), (6, (.slice A13 ((((sfi x2.pc (clsR l k) j).1) ++ ([x2.pc])).length) c13)), (7, (b_ ((sfi x2.pc (clsR l k) j).2))), (19, (b_ (decide ((j : Int) < ((clsR l k).length : Int))))), (45, (b_ (!((sfi x2.pc (clsR l k) j).2))))] (by exact ⟨rfl, rfl, rfl, rfl, rfl, rfl, rfl, rfl, rfl, rfl, rfl, rfl, trivial⟩) ?_
            refine A.items [sl A13 ((((sfi x2.pc (clsR l k) j).1) ++ ([x2.pc])).length) c13 3 1 (V.flat encI (((sfi x2.pc (clsR l k) j).1) ++ ([x2.pc]))), blk b3 [(i_ x2.pc), (u_ x2.pa), (u_ x2.pd), (i_ x2.pl), (b_ x2.pr), (b_ x2.pg)] 33, blk b12 [(i_ x2.pc)] 3] (.cons _ (.cons_cons _ (.cons_cons _ (.cons_cons _ (List.Sublist.slnil))))) ?_
            refine A.setH [sl A13 ((clsR l (k + 1)).length) c13 3 1 (V.flat encI (clsR l (k + 1))), blk b3 [(i_ x2.pc), (u_ x2.pa), (u_ x2.pd), (i_ x2.pl), (b_ x2.pr), (b_ x2.pg)] 33, blk b12 [(i_ x2.pc)] 3] (cc (slC (by first | rfl | (rw [sfi_succ (by assumption)]; simp_all; done) | (rw [clsR_succ (by assumption)]; (have hj2 : j = (clsR l k).length := by omega); subst hj2; unfold insI; simp_all; done) | (rw [show k = l.length by omega]) : ((sfi x2.pc (clsR l k) j).1) ++ ([x2.pc]) = (clsR l (k + 1)))) rfl) ?_
            refine A.sub [(2, e_), (10, (.slice al l.length cl)), (11, (i_ (l.length : Int))), (12, (i_ ((k : Int) + 1))), (3, (.slice A13 ((clsR l (k + 1)).length) c13)), (5, (p_ b3)), (17, (i_ ((clsR l k).length : Int))), (18, (i_ (j : Int))), (6, (.slice A13 ((((sfi x2.pc (clsR l k) j).1) ++ ([x2.pc])).length) c13)), (7, (b_ ((sfi x2.pc (clsR l k) j).2))), (19, (b_ (decide ((j : Int) < ((clsR l k).length : Int))))), (45, (b_ (!((sfi x2.pc (clsR l k) j).2))))] (by exact ⟨rfl, rfl, rfl, rfl, (congrArg (fun z_ : List Int => some (Value.slice A13 z_.length c13)) (by first | rfl | (rw [sfi_succ (by assumption)]; simp_all; done) | (rw [clsR_succ (by assumption)]; (have hj2 : j = (clsR l k).length := by omega); subst hj2; unfold insI; simp_all; done) | (rw [show k = l.length by omega]) : ((sfi x2.pc (clsR l k) j).1) ++ ([x2.pc]) = (clsR l (k + 1)))), rfl, rfl, rfl, rfl, rfl, rfl, rfl, trivial⟩) ?_
            refine A.next (k + 1, A13, c13) (by first | assumption | omega | (simp_all; done) | (simp_all; omega) | grind) (by first | omega | (simp; omega) | (simp_all; omega)) ?_
            exact A.hereK [0] (by exact ⟨rfl, rfl, rfl, rfl, rfl, trivial⟩) (by kernel_rfl)
          · skip
            have p6 := e6; try simp only [decide_eq_true_eq, decide_eq_false_iff_not, beq_iff_eq, beq_eq_false_iff_ne, bne_iff_ne, bne_eq_false_iff_eq, ne_eq, Bool.and_eq_true, Bool.or_eq_true, Bool.or_eq_false_iff, Bool.not_eq_true', Bool.not_eq_false', Int.not_lt, Int.not_le, gt_iff_lt, ge_iff_le, Classical.not_not] at p6
            refine A.skip ?_
            refine A.tn ?_
            refine A.region (A.goA [.p, .p] [(2, e_), (10, (.slice al l.length cl)), (11, (i_ (l.length : Int))), (12, (i_ (k : Int))), (3, (.slice an (((sfi x2.pc (clsR l k) j).1).length) cn)), (5, (p_ b3)), (16, (.slice ao ((clsR l k).length) co)), (17, (i_ ((clsR l k).length : Int))), (18, (i_ (j : Int))), (6, (.slice an (((sfi x2.pc (clsR l k) j).1).length) cn)), (7, (b_ ((sfi x2.pc (clsR l k) j).2))), (19, (b_ (decide ((j : Int) < ((clsR l k).length : Int))))), (45, (b_ (!((sfi x2.pc (clsR l k) j).2))))] [] T0 (by kernel_rfl) trivial ?_)
            refine A.bn ?_
            refine A.tn ?_
            refine A.region (A.goA [.w ((k : Int) + 1), .p] [(2, e_), (10, (.slice al l.length cl)), (11, (i_ (l.length : Int))), (12, (i_ ((k : Int) + 1))), (3, (.slice an (((sfi x2.pc (clsR l k) j).1).length) cn)), (5, (p_ b3)), (16, (.slice ao ((clsR l k).length) co)), (17, (i_ ((clsR l k).length : Int))), (18, (i_ (j : Int))), (6, (.slice an (((sfi x2.pc (clsR l k) j).1).length) cn)), (7, (b_ ((sfi x2.pc (clsR l k) j).2))), (19, (b_ (decide ((j : Int) < ((clsR l k).length : Int))))), (45, (b_ (!((sfi x2.pc (clsR l k) j).2))))] [] (fun κ => (IntKind.i64.wrap ((k : Int) + 1) = ((k : Int) + 1)) ∧ True) (by kernel_rfl) ⟨(wrap_i64 (e := (k : Int) + 1) (by constructor <;> omega)), trivial⟩ ?_)
            refine A.tn ?_
            refine A.sub [(2, e_), (10, (.slice al l.length cl)), (11, (i_ (l.length : Int))), (12, (i_ ((k : Int) + 1))), (3, (.slice an (((sfi x2.pc (clsR l k) j).1).length) cn)), (5, (p_ b3)), (17, (i_ ((clsR l k).length : Int))), (18, (i_ (j : Int))), (6, (.slice an (((sfi x2.pc (clsR l k) j).1).length) cn)), (7, (b_ ((sfi x2.pc (clsR l k) j).2))), (19, (b_ (decide ((j : Int) < ((clsR l k).length : Int))))), (45, (b_ (!((sfi x2.pc (clsR l k) j).2))))] (by exact ⟨rfl, rfl, rfl, rfl, rfl, rfl, rfl, rfl, rfl, rfl, rfl, rfl, trivial⟩) ?_
            refine A.items [sl an (((sfi x2.pc (clsR l k) j).1).length) cn 3 1 (V.flat encI ((sfi x2.pc (clsR l k) j).1)), blk b3 [(i_ x2.pc), (u_ x2.pa), (u_ x2.pd), (i_ x2.pl), (b_ x2.pr), (b_ x2.pg)] 33] (.cons _ (.cons_cons _ (.cons_cons _ (List.Sublist.slnil)))) ?_
            refine A.setH [sl an ((clsR l (k + 1)).length) cn 3 1 (V.flat encI (clsR l (k + 1))), blk b3 [(i_ x2.pc), (u_ x2.pa), (u_ x2.pd), (i_ x2.pl), (b_ x2.pr), (b_ x2.pg)] 33] (cc (slC (by first | rfl | (rw [sfi_succ (by assumption)]; simp_all; done) | (rw [clsR_succ (by assumption)]; (have hj2 : j = (clsR l k).length := by omega); subst hj2; unfold insI; simp_all; done) | (rw [show k = l.length by omega]) : (sfi x2.pc (clsR l k) j).1 = (clsR l (k + 1)))) rfl) ?_
            refine A.sub [(2, e_), (10, (.slice al l.length cl)), (11, (i_ (l.length : Int))), (12, (i_ ((k : Int) + 1))), (3, (.slice an ((clsR l (k + 1)).length) cn)), (5, (p_ b3)), (17, (i_ ((clsR l k).length : Int))), (18, (i_ (j : Int))), (6, (.slice an (((sfi x2.pc (clsR l k) j).1).length) cn)), (7, (b_ ((sfi x2.pc (clsR l k) j).2))), (19, (b_ (decide ((j : Int) < ((clsR l k).length : Int))))), (45, (b_ (!((sfi x2.pc (clsR l k) j).2))))] (by exact ⟨rfl, rfl, rfl, rfl, (congrArg (fun z_ : List Int => some (Value.slice an z_.length cn)) (by first | rfl | (rw [sfi_succ (by assumption)]; simp_all; done) | (rw [clsR_succ (by assumption)]; (have hj2 : j = (clsR l k).length := by omega); subst hj2; unfold insI; simp_all; done) | (rw [show k = l.length by omega]) : (sfi x2.pc (clsR l k) j).1 = (clsR l (k + 1)))), rfl, rfl, rfl, rfl, rfl, rfl, rfl, trivial⟩) ?_
            refine A.next (k + 1, an, cn) (by first | assumption | omega | (simp_all; done) | (simp_all; omega) | grind) (by first | omega | (simp; omega) | (simp_all; omega)) ?_
            exact A.hereK [0] (by exact ⟨rfl, rfl, rfl, rfl, rfl, trivial⟩) (by kernel_rfl)
    · skip
      have p1 := of_decide_eq_false e1
      refine A.exit ?_
      refine A.te ?_
      refine A.te ?_
      refine A.bh ?_
      refine A.tn ?_
      refine A.seq ?_
      refine A.region (A.goA [.p, .p] [(2, (.slice ao ((clsR l k).length) co)), (10, (.slice al l.length cl)), (11, (i_ (l.length : Int))), (12, (i_ (k : Int))), (3, (.slice ao ((clsR l k).length) co)), (13, (b_ (decide ((k : Int) < (l.length : Int)))))] [] T0 (by kernel_rfl) trivial ?_)
      refine A.tn ?_
      refine A.ret ?_
      refine A.setH [sl ao ((clsR l l.length).length) co 3 1 (V.flat encI (clsR l l.length))] (cc (slC (by first | rfl | (rw [sfi_succ (by assumption)]; simp_all; done) | (rw [clsR_succ (by assumption)]; (have hj2 : j = (clsR l k).length := by omega); subst hj2; unfold insI; simp_all; done) | (rw [show k = l.length by omega]) : (clsR l k) = (clsR l l.length))) rfl) ?_
      refine A.postK [0] [(.slice ao ((clsR l k).length) co)] (fun aa ww rr ss => ⟨rv_tmp rr rfl, trivial⟩) (ao, co) ?_ ?_ (by kernel_rfl)
      · show ((.slice ao ((clsR l k).length) co) : Value) = (.slice ao ((clsR l l.length).length) co)
        rw [show k = l.length by omega]
      · trivial
end Go.Proofs.Ytlhchmmjkokamaa
