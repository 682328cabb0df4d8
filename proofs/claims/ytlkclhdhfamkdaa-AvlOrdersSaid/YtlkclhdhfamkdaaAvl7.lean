/- What the functions of this layer do, proved operation by operation, for all arguments, under the conditions that each theorem states. -/
import Derived.Test.YtlkclhdhfamkdaaProg
import Derived.Test.YtlkclhdhfamkdaaAvl6
namespace Go.Proofs.Ytlkclhdhfamkdaa
open Go V
set_option linter.unusedVariables false
set_option linter.unusedSimpArgs false

set_option maxHeartbeats 8000000 in
set_option maxRecDepth 100000 in
theorem each_items_step (t : T) (bo : Nat) (Ao : Option Addr) (xs : List It) (c : Nat) (ih : ∀ (t' : T) (bo' : Nat) (Ao' : Option Addr) (xs' : List It) (c' : Nat), SizeOf.sizeOf t' < SizeOf.sizeOf t → ∀ (hn : xs'.length + t'.toL.length ≤ 1000000) (w : World) (hs : HS w (feet [treeI 95 t', blk bo' [(.slice Ao' xs'.length c')] 39, sl Ao' (xs'.length) c' 36 4 (V.flat encIt xs')]) [treeI 95 t', blk bo' [(.slice Ao' xs'.length c')] 39, sl Ao' (xs'.length) c' 36 4 (V.flat encIt xs')] w), Calls Try.prog 51 #[(.pointer (T.ptr t')), (.func (.func 52) #[] #[(p_ bo')])] w fun e w' => ∃ zz, e = .returned ((fun (zz : (Option Addr) × Nat) => match zz with | (Ao', c') => (.tuple #[])) zz) ∧ (fun (zz : (Option Addr) × Nat) => match zz with | (Ao', c') => True) zz ∧ Turn [treeI 95 t', blk bo' [(.slice Ao' xs'.length c')] 39, sl Ao' (xs'.length) c' 36 4 (V.flat encIt xs')] ((fun (zz : (Option Addr) × Nat) => match zz with | (Ao', c') => [treeI 95 t', blk bo' [(.slice Ao' ((xs' ++ t'.toL).length) c')] 39, sl Ao' ((xs' ++ t'.toL).length) c' 36 4 (V.flat encIt (xs' ++ t'.toL))]) zz) w w')  (hn : xs.length + t.toL.length ≤ 1000000) (w : World) (hs : HS w (feet [treeI 95 t, blk bo [(.slice Ao xs.length c)] 39, sl Ao (xs.length) c 36 4 (V.flat encIt xs)]) [treeI 95 t, blk bo [(.slice Ao xs.length c)] 39, sl Ao (xs.length) c 36 4 (V.flat encIt xs)] w) :
    Calls Try.prog 51 #[(.pointer (T.ptr t)), (.func (.func 52) #[] #[(p_ bo)])] w fun e w' => ∃ zz, e = .returned ((fun (zz : (Option Addr) × Nat) => match zz with | (Ao', c') => (.tuple #[])) zz) ∧ (fun (zz : (Option Addr) × Nat) => match zz with | (Ao', c') => True) zz ∧ Turn [treeI 95 t, blk bo [(.slice Ao xs.length c)] 39, sl Ao (xs.length) c 36 4 (V.flat encIt xs)] ((fun (zz : (Option Addr) × Nat) => match zz with | (Ao', c') => [treeI 95 t, blk bo [(.slice Ao' ((xs ++ t.toL).length) c')] 39, sl Ao' ((xs ++ t.toL).length) c' 36 4 (V.flat encIt (xs ++ t.toL))]) zz) w w' := by
  refine calls_of (args := [(.pointer (T.ptr t)), (.func (.func 52) #[] #[(p_ bo)])]) (penv [(.pointer (T.ptr t)), (.func (.func 52) #[] #[(p_ bo)])]) (feet [treeI 95 t, blk bo [(.slice Ao xs.length c)] 39, sl Ao (xs.length) c 36 4 (V.flat encIt xs)]) [treeI 95 t, blk bo [(.slice Ao xs.length c)] 39, sl Ao (xs.length) c 36 4 (V.flat encIt xs)] Try.func51 rfl rfl (look_penv _) hs ?_
  refine A.norm [(0, (.pointer (T.ptr t))), (1, (.func (.func 52) #[] #[(p_ bo)]))] [treeI 95 t, blk bo [(.slice Ao xs.length c)] 39, sl Ao (xs.length) c 36 4 (V.flat encIt xs)] (by exact ⟨rfl, rfl, trivial⟩) rfl ?_
  refine A.seq ?_
  refine A.region (A.goP [.p] [(0, (.pointer (T.ptr t))), (1, (.func (.func 52) #[] #[(p_ bo)])), (4, (.pointer (T.ptr t)))] [] T0 (by kernel_rfl) trivial ?_)
  rcases t with _ | ⟨b1, x2, m3, h4, n5, l6, r7⟩
  · skip
    refine A.goA [.p] [(0, n_), (1, (.func (.func 52) #[] #[(p_ bo)])), (5, (b_ false))] [] T0 (by kernel_rfl) trivial ?_
    refine A.tn ?_
    refine A.cond_f rfl ?_
    refine A.skip ?_
    refine A.setH [treeI 95 T.nil, blk bo [(.slice Ao ((xs ++ T.nil.toL).length) c)] 39, sl Ao (xs.length) c 36 4 (V.flat encIt xs)] (cc rfl (cc (blkC (cc (congrArg (fun z_ : List It => Value.slice Ao z_.length c) (by simp [T.toL] : xs = (xs ++ T.nil.toL))) rfl)) rfl)) ?_
    refine A.setH [treeI 95 T.nil, blk bo [(.slice Ao ((xs ++ T.nil.toL).length) c)] 39, sl Ao ((xs ++ T.nil.toL).length) c 36 4 (V.flat encIt (xs ++ T.nil.toL))] (cc rfl (cc rfl (cc (slC (by simp [T.toL] : xs = (xs ++ T.nil.toL))) rfl))) ?_
    refine A.postKn [0, 0, 0] [] (fun aa ww rr ss => trivial) (Ao, c) ?_ ?_ (by kernel_rfl)
    · rfl
    · trivial
  · skip
    refine A.goA [.p] [(0, (p_ b1)), (1, (.func (.func 52) #[] #[(p_ bo)])), (5, (b_ true))] [] T0 (by kernel_rfl) trivial ?_
    refine A.tn ?_
    refine A.cond_t rfl ?_
    refine A.seq ?_
    refine A.region (A.goP [.p, .p, .p, .p] [(0, (p_ b1)), (1, (.func (.func 52) #[] #[(p_ bo)])), (5, (b_ true)), (9, (q_ b1 4))] [] T0 (by kernel_rfl) trivial ?_)
    refine A.reshape [0] (fun _ : Unit => True) (fun _ => [blk b1 [(u_ x2.ka), (i_ x2.ki), (u_ x2.va), (i_ x2.vi), (.pointer (T.ptr l6)), (.pointer (T.ptr r7)), (u_ m3.ka), (i_ m3.ki), (u_ m3.va), (i_ m3.vi), (i_ h4), (i_ n5)] 95, treeI 95 l6, treeI 95 r7]) (fun _ => [blk b1 [(u_ x2.ka), (i_ x2.ki), (u_ x2.va), (i_ x2.vi), (.pointer (T.ptr l6)), (.pointer (T.ptr r7)), (u_ m3.ka), (i_ m3.ki), (u_ m3.va), (i_ m3.vi), (i_ h4), (i_ n5)] 95, treeI 95 l6, treeI 95 r7, blk bo [(.slice Ao xs.length c)] 39, sl Ao (xs.length) c 36 4 (V.flat encIt xs)]) rfl (fun w hs => tree_open hs) (fun _ => rfl) (fun _ _ => ?_)
    refine A.goP [.ld 0, .p] [(0, (p_ b1)), (1, (.func (.func 52) #[] #[(p_ bo)])), (5, (b_ true)), (10, (.pointer (T.ptr l6))), (11, (.func (.func 52) #[] #[(p_ bo)]))] [b1] T0 (by kernel_rfl) trivial ?_
    refine A.cons (A.callT (some 12) [(.pointer (T.ptr l6)), (.func (.func 52) #[] #[(p_ bo)])] [1, 2, 2] ((fun zz => match zz with | (Ao'8, c'9) => (.tuple #[]))) ((fun zz => match zz with | (Ao'8, c'9) => True)) ((fun zz => match zz with | (Ao'8, c'9) => [treeI 95 l6, blk bo [(.slice Ao'8 ((xs ++ l6.toL).length) c'9)] 39, sl Ao'8 ((xs ++ l6.toL).length) c'9 36 4 (V.flat encIt (xs ++ l6.toL))])) (fun zz => match zz with | (Ao'8, c'9) => [treeI 95 l6, blk bo [(.slice Ao'8 ((xs ++ l6.toL).length) c'9)] 39, sl Ao'8 ((xs ++ l6.toL).length) c'9 36 4 (V.flat encIt (xs ++ l6.toL)), blk b1 [(u_ x2.ka), (i_ x2.ki), (u_ x2.va), (i_ x2.vi), (.pointer (T.ptr l6)), (.pointer (T.ptr r7)), (u_ m3.ka), (i_ m3.ki), (u_ m3.va), (i_ m3.vi), (i_ h4), (i_ n5)] 95, treeI 95 r7]) (by kernel_rfl) rfl rfl (fun ww ss hh => ih l6 bo Ao xs c (by first | (simp; done) | (simp; omega)) (by first | assumption | (simp only [T.toL, List.length_append, List.length_cons, List.length_nil] at *; omega)) ww hh) (fun _ => rfl) ?_)
    rintro ⟨Ao'8, c'9⟩ -
    refine A.done ?_
    refine A.sub [(0, (p_ b1)), (1, (.func (.func 52) #[] #[(p_ bo)])), (5, (b_ true))] (by exact ⟨rfl, rfl, rfl, trivial⟩) ?_
    refine A.tn ?_
    refine A.seq ?_
    refine A.region (A.goP [.p, .p, .p, .p, .ld 3] [(0, (p_ b1)), (1, (.func (.func 52) #[] #[(p_ bo)])), (5, (b_ true)), (13, (.func (.func 52) #[] #[(p_ bo)])), (17, (.agg #[(u_ x2.ka), (i_ x2.ki), (u_ x2.va), (i_ x2.vi)]))] [b1] T0 (by kernel_rfl) trivial ?_)
    refine A.cons (A.inlX (some 18) [(.agg #[(u_ x2.ka), (i_ x2.ki), (u_ x2.va), (i_ x2.vi)]), (p_ bo)] [(0, (.agg #[(u_ x2.ka), (i_ x2.ki), (u_ x2.va), (i_ x2.vi)])), (1, (p_ bo))] (by kernel_rfl) rfl Try.func52 rfl rfl ?_)
    refine A.seq ?_
    refine A.region (A.goA1 [.al] [0, 1, 2] (fun b11 => [(0, (.agg #[(u_ x2.ka), (i_ x2.ki), (u_ x2.va), (i_ x2.vi)])), (1, (p_ bo)), (2, (p_ b11))]) (fun b11 => [treeI 95 l6, blk bo [(.slice Ao'8 ((xs ++ l6.toL).length) c'9)] 39, sl Ao'8 ((xs ++ l6.toL).length) c'9 36 4 (V.flat encIt (xs ++ l6.toL)), blk b1 [(u_ x2.ka), (i_ x2.ki), (u_ x2.va), (i_ x2.vi), (.pointer (T.ptr l6)), (.pointer (T.ptr r7)), (u_ m3.ka), (i_ m3.ki), (u_ m3.va), (i_ m3.vi), (i_ h4), (i_ n5)] 95, treeI 95 r7, blk b11 [(u_ x2.ka), (i_ x2.ki), (u_ x2.va), (i_ x2.vi)] 36]) (fun b11 => []) (fun _ => T0) (fun _ => by kernel_rfl) (fun b11 => trivial) ?_)
    intro b11
    refine A.tn ?_
    refine A.region (A.goP [.ld 1, .ld 5] [(0, (.agg #[(u_ x2.ka), (i_ x2.ki), (u_ x2.va), (i_ x2.vi)])), (1, (p_ bo)), (2, (p_ b11)), (3, (.slice Ao'8 ((xs ++ l6.toL).length) c'9)), (4, (.agg #[(u_ x2.ka), (i_ x2.ki), (u_ x2.va), (i_ x2.vi)]))] [bo, b11] T0 (by kernel_rfl) trivial ?_)
    refine A.cons (A.buildSlice 5 (e := 36) [(u_ x2.ka), (i_ x2.ki), (u_ x2.va), (i_ x2.vi)] (by kernel_rfl) rfl (fun _ => by kernel_rfl) (fun b12 => [treeI 95 l6, blk bo [(.slice Ao'8 ((xs ++ l6.toL).length) c'9)] 39, sl Ao'8 ((xs ++ l6.toL).length) c'9 36 4 (V.flat encIt (xs ++ l6.toL)), blk b1 [(u_ x2.ka), (i_ x2.ki), (u_ x2.va), (i_ x2.vi), (.pointer (T.ptr l6)), (.pointer (T.ptr r7)), (u_ m3.ka), (i_ m3.ki), (u_ m3.va), (i_ m3.vi), (i_ h4), (i_ n5)] 95, treeI 95 r7, blk b11 [(u_ x2.ka), (i_ x2.ki), (u_ x2.va), (i_ x2.vi)] 36, blk b12 [(u_ x2.ka), (i_ x2.ki), (u_ x2.va), (i_ x2.vi)] 36]) (fun _ => rfl) ?_)
    intro b12
    refine A.cons (A.appendC (enc := encIt) (xs := (xs ++ l6.toL)) [x2] 2 6 (e := 36) (z := (.agg #[(u_ 0), (i_ 0), (u_ 0), (i_ 0)])) (sz := 4) (by_ := 32) (by kernel_rfl) rfl rfl rfl (by kernel_rfl) (by kernel_rfl) (by rfl) (by decide) encIt_len encIt_one rfl (rd_blk (i := 6) rfl) (by constructor <;> (first | decide | (simp only [T.toL, List.length_append, List.length_cons, List.length_nil] at *; omega))) (fun A13 c13 => [treeI 95 l6, blk bo [(.slice Ao'8 ((xs ++ l6.toL).length) c'9)] 39, sl A13 (((xs ++ l6.toL) ++ ([x2])).length) c13 36 4 (V.flat encIt ((xs ++ l6.toL) ++ ([x2]))), blk b1 [(u_ x2.ka), (i_ x2.ki), (u_ x2.va), (i_ x2.vi), (.pointer (T.ptr l6)), (.pointer (T.ptr r7)), (u_ m3.ka), (i_ m3.ki), (u_ m3.va), (i_ m3.vi), (i_ h4), (i_ n5)] 95, treeI 95 r7, blk b11 [(u_ x2.ka), (i_ x2.ki), (u_ x2.va), (i_ x2.vi)] 36, blk b12 [(u_ x2.ka), (i_ x2.ki), (u_ x2.va), (i_ x2.vi)] 36]) (fun _ _ => rfl) ?_)
    intro A13 c13
    refine A.goAS [.st 1] [(0, (.agg #[(u_ x2.ka), (i_ x2.ki), (u_ x2.va), (i_ x2.vi)])), (1, (p_ bo)), (2, (p_ b11))] [treeI 95 l6, blk bo [(.slice A13 (((xs ++ l6.toL) ++ ([x2])).length) c13)] 39, sl A13 (((xs ++ l6.toL) ++ ([x2])).length) c13 36 4 (V.flat encIt ((xs ++ l6.toL) ++ ([x2]))), blk b1 [(u_ x2.ka), (i_ x2.ki), (u_ x2.va), (i_ x2.vi), (.pointer (T.ptr l6)), (.pointer (T.ptr r7)), (u_ m3.ka), (i_ m3.ki), (u_ m3.va), (i_ m3.vi), (i_ h4), (i_ n5)] 95, treeI 95 r7, blk b11 [(u_ x2.ka), (i_ x2.ki), (u_ x2.va), (i_ x2.vi)] 36, blk b12 [(u_ x2.ka), (i_ x2.ki), (u_ x2.va), (i_ x2.vi)] 36] [bo] T0 (by kernel_rfl) trivial ?_
    refine A.postn [] (fun aa ww rr ss => trivial) (A.back (by kernel_rfl) ?_)
    refine A.items [treeI 95 l6, blk bo [(.slice A13 (((xs ++ l6.toL) ++ ([x2])).length) c13)] 39, sl A13 (((xs ++ l6.toL) ++ ([x2])).length) c13 36 4 (V.flat encIt ((xs ++ l6.toL) ++ ([x2]))), blk b1 [(u_ x2.ka), (i_ x2.ki), (u_ x2.va), (i_ x2.vi), (.pointer (T.ptr l6)), (.pointer (T.ptr r7)), (u_ m3.ka), (i_ m3.ki), (u_ m3.va), (i_ m3.vi), (i_ h4), (i_ n5)] 95, treeI 95 r7] (.cons_cons _ (.cons_cons _ (.cons_cons _ (.cons_cons _ (.cons_cons _ (.cons _ (.cons _ (List.Sublist.slnil)))))))) ?_
    refine A.done ?_
    refine A.sub [(0, (p_ b1)), (1, (.func (.func 52) #[] #[(p_ bo)])), (5, (b_ true))] (by exact ⟨rfl, rfl, rfl, trivial⟩) ?_
    refine A.tn ?_
    refine A.region (A.goP [.p, .p, .p, .p, .ld 3, .p] [(0, (p_ b1)), (1, (.func (.func 52) #[] #[(p_ bo)])), (5, (b_ true)), (23, (.pointer (T.ptr r7))), (24, (.func (.func 52) #[] #[(p_ bo)]))] [b1] T0 (by kernel_rfl) trivial ?_)
    refine A.cons (A.callT (some 25) [(.pointer (T.ptr r7)), (.func (.func 52) #[] #[(p_ bo)])] [4, 1, 1] ((fun zz => match zz with | (Ao'14, c'15) => (.tuple #[]))) ((fun zz => match zz with | (Ao'14, c'15) => True)) ((fun zz => match zz with | (Ao'14, c'15) => [treeI 95 r7, blk bo [(.slice Ao'14 ((((xs ++ l6.toL) ++ ([x2])) ++ r7.toL).length) c'15)] 39, sl Ao'14 ((((xs ++ l6.toL) ++ ([x2])) ++ r7.toL).length) c'15 36 4 (V.flat encIt (((xs ++ l6.toL) ++ ([x2])) ++ r7.toL))])) (fun zz => match zz with | (Ao'14, c'15) => [treeI 95 r7, blk bo [(.slice Ao'14 ((((xs ++ l6.toL) ++ ([x2])) ++ r7.toL).length) c'15)] 39, sl Ao'14 ((((xs ++ l6.toL) ++ ([x2])) ++ r7.toL).length) c'15 36 4 (V.flat encIt (((xs ++ l6.toL) ++ ([x2])) ++ r7.toL)), treeI 95 l6, blk b1 [(u_ x2.ka), (i_ x2.ki), (u_ x2.va), (i_ x2.vi), (.pointer (T.ptr l6)), (.pointer (T.ptr r7)), (u_ m3.ka), (i_ m3.ki), (u_ m3.va), (i_ m3.vi), (i_ h4), (i_ n5)] 95]) (by kernel_rfl) rfl rfl (fun ww ss hh => ih r7 bo A13 ((xs ++ l6.toL) ++ ([x2])) c13 (by first | (simp; done) | (simp; omega)) (by first | assumption | (simp only [T.toL, List.length_append, List.length_cons, List.length_nil] at *; omega)) ww hh) (fun _ => rfl) ?_)
    rintro ⟨Ao'14, c'15⟩ -
    refine A.done ?_
    refine A.sub [(0, (p_ b1)), (1, (.func (.func 52) #[] #[(p_ bo)])), (5, (b_ true))] (by exact ⟨rfl, rfl, rfl, trivial⟩) ?_
    refine A.reshape [4, 3, 0] (fun _ : Unit => True) (fun _ => [treeI 95 (T.node b1 x2 m3 h4 n5 l6 r7)]) (fun _ => [treeI 95 (T.node b1 x2 m3 h4 n5 l6 r7), blk bo [(.slice Ao'14 ((((xs ++ l6.toL) ++ ([x2])) ++ r7.toL).length) c'15)] 39, sl Ao'14 ((((xs ++ l6.toL) ++ ([x2])) ++ r7.toL).length) c'15 36 4 (V.flat encIt (((xs ++ l6.toL) ++ ([x2])) ++ r7.toL))]) rfl (fun w hs => tree_fold hs) (fun _ => rfl) (fun _ _ => ?_)
    refine A.setH [treeI 95 (T.node b1 x2 m3 h4 n5 l6 r7), blk bo [(.slice Ao'14 ((xs ++ (T.node b1 x2 m3 h4 n5 l6 r7).toL).length) c'15)] 39, sl Ao'14 ((((xs ++ l6.toL) ++ ([x2])) ++ r7.toL).length) c'15 36 4 (V.flat encIt (((xs ++ l6.toL) ++ ([x2])) ++ r7.toL))] (cc rfl (cc (blkC (cc (congrArg (fun z_ : List It => Value.slice Ao'14 z_.length c'15) (by simp [T.toL] : (((xs ++ l6.toL) ++ ([x2])) ++ r7.toL) = (xs ++ (T.node b1 x2 m3 h4 n5 l6 r7).toL))) rfl)) rfl)) ?_
    refine A.setH [treeI 95 (T.node b1 x2 m3 h4 n5 l6 r7), blk bo [(.slice Ao'14 ((xs ++ (T.node b1 x2 m3 h4 n5 l6 r7).toL).length) c'15)] 39, sl Ao'14 ((xs ++ (T.node b1 x2 m3 h4 n5 l6 r7).toL).length) c'15 36 4 (V.flat encIt (xs ++ (T.node b1 x2 m3 h4 n5 l6 r7).toL))] (cc rfl (cc rfl (cc (slC (by simp [T.toL] : (((xs ++ l6.toL) ++ ([x2])) ++ r7.toL) = (xs ++ (T.node b1 x2 m3 h4 n5 l6 r7).toL))) rfl))) ?_
    refine A.postKn [0, 0, 0] [] (fun aa ww rr ss => trivial) (Ao'14, c'15) ?_ ?_ (by kernel_rfl)
    · rfl
    · trivial

theorem each_items  (t : T) (bo : Nat) (Ao : Option Addr) (xs : List It) (c : Nat) (hn : xs.length + t.toL.length ≤ 1000000) (w : World) (hs : HS w (feet [treeI 95 t, blk bo [(.slice Ao xs.length c)] 39, sl Ao (xs.length) c 36 4 (V.flat encIt xs)]) [treeI 95 t, blk bo [(.slice Ao xs.length c)] 39, sl Ao (xs.length) c 36 4 (V.flat encIt xs)] w) :
    Calls Try.prog 51 #[(.pointer (T.ptr t)), (.func (.func 52) #[] #[(p_ bo)])] w fun e w' => ∃ zz, e = .returned ((fun (zz : (Option Addr) × Nat) => match zz with | (Ao', c') => (.tuple #[])) zz) ∧ (fun (zz : (Option Addr) × Nat) => match zz with | (Ao', c') => True) zz ∧ Turn [treeI 95 t, blk bo [(.slice Ao xs.length c)] 39, sl Ao (xs.length) c 36 4 (V.flat encIt xs)] ((fun (zz : (Option Addr) × Nat) => match zz with | (Ao', c') => [treeI 95 t, blk bo [(.slice Ao' ((xs ++ t.toL).length) c')] 39, sl Ao' ((xs ++ t.toL).length) c' 36 4 (V.flat encIt (xs ++ t.toL))]) zz) w w' :=
  each_items_step t bo Ao xs c (fun t' bo' Ao' xs' c' hlt_ g0_ w_  y_ => each_items t' bo' Ao' xs' c' g0_ w_  y_) hn w  hs
termination_by SizeOf.sizeOf t
decreasing_by exact hlt_

set_option maxHeartbeats 8000000 in
set_option maxRecDepth 100000 in
theorem items_nil (w : World) :
    Calls Try.prog 16 #[n_] w fun e w' => e = .returned e_ ∧ Fr [] w w' := by
  refine calls_of (args := [n_]) (penv [n_]) [] [] Try.func16 rfl rfl (look_penv _) (HS.nil w) ?_
  refine A.norm [(0, n_)] [] (by exact ⟨rfl, trivial⟩) rfl ?_
  refine A.seq ?_
  refine A.region (A.goA [.p] [(0, n_), (2, e_)] [] T0 (by kernel_rfl) trivial ?_)
  refine A.tn ?_
  refine A.seq ?_
  refine A.region (A.goA1 [.al] [0, 2, 3] (fun b1 => [(0, n_), (2, e_), (3, (p_ b1))]) (fun b1 => [blk b1 [e_] 39]) (fun b1 => []) (fun _ => T0) (fun _ => by kernel_rfl) (fun b1 => trivial) ?_)
  intro b1
  refine A.tn ?_
  refine A.seq ?_
  refine A.seq ?_
  refine A.region (A.goA [.p, .p] [(0, n_), (2, e_), (3, (p_ b1)), (5, (b_ false))] [] T0 (by kernel_rfl) trivial ?_)
  refine A.tn ?_
  refine A.cond_f rfl ?_
  refine A.skip ?_
  refine A.tn ?_
  refine A.seq ?_
  refine A.region (A.goA [.ld 0, .p] [(0, n_), (2, e_), (3, (p_ b1)), (5, (b_ false))] [b1] T0 (by kernel_rfl) trivial ?_)
  refine A.tn ?_
  refine A.ret ?_
  refine A.postQ [e_] (fun aa ww rr ss => ⟨rv_tmp rr rfl, trivial⟩) ?_
  rfl

set_option maxHeartbeats 8000000 in
set_option maxRecDepth 100000 in
theorem items_spec (bt : Nat) (t : T) (hn : t.toL.length ≤ 1000000) (w : World) (hs : HS w (feet [blk bt [(.pointer (T.ptr t))] 90, treeI 95 t]) [blk bt [(.pointer (T.ptr t))] 90, treeI 95 t] w) :
    Calls Try.prog 16 #[(p_ bt)] w fun e w' => ∃ zz, e = .returned ((fun (zz : (Option Addr) × Nat) => match zz with | (Ao', c') => (.slice Ao' ((T.toL t).length) c')) zz) ∧ (fun (zz : (Option Addr) × Nat) => match zz with | (Ao', c') => True) zz ∧ Turn [blk bt [(.pointer (T.ptr t))] 90, treeI 95 t] ((fun (zz : (Option Addr) × Nat) => match zz with | (Ao', c') => [blk bt [(.pointer (T.ptr t))] 90, treeI 95 t, sl Ao' ((T.toL t).length) c' 36 4 (V.flat encIt (T.toL t))]) zz) w w' := by
  refine calls_of (args := [(p_ bt)]) (penv [(p_ bt)]) (feet [blk bt [(.pointer (T.ptr t))] 90, treeI 95 t]) [blk bt [(.pointer (T.ptr t))] 90, treeI 95 t] Try.func16 rfl rfl (look_penv _) hs ?_
  refine A.norm [(0, (p_ bt))] [blk bt [(.pointer (T.ptr t))] 90, treeI 95 t] (by exact ⟨rfl, trivial⟩) rfl ?_
  refine A.seq ?_
  refine A.region (A.goA [.p] [(0, (p_ bt)), (2, e_)] [] T0 (by kernel_rfl) trivial ?_)
  refine A.tn ?_
  refine A.seq ?_
  refine A.region (A.goA1 [.al] [0, 2, 3] (fun b1 => [(0, (p_ bt)), (2, e_), (3, (p_ b1))]) (fun b1 => [blk bt [(.pointer (T.ptr t))] 90, treeI 95 t, blk b1 [e_] 39]) (fun b1 => []) (fun _ => T0) (fun _ => by kernel_rfl) (fun b1 => trivial) ?_)
  intro b1
  refine A.tn ?_
  refine A.seq ?_
  refine A.seq ?_
  refine A.region (A.goA [.p, .p] [(0, (p_ bt)), (2, e_), (3, (p_ b1)), (5, (b_ true))] [] T0 (by kernel_rfl) trivial ?_)
  refine A.tn ?_
  refine A.cond_t rfl ?_
  refine A.region (A.goP [.p, .p, .p, .ld 0, .p] [(0, (p_ bt)), (2, e_), (3, (p_ b1)), (5, (b_ true)), (9, (.pointer (T.ptr t))), (10, (.func (.func 52) #[] #[(p_ b1)]))] [bt] T0 (by kernel_rfl) trivial ?_)
  refine A.ownNil 36 4 [blk bt [(.pointer (T.ptr t))] 90, treeI 95 t, blk b1 [e_] 39, sl none (([] : List It).length) 0 36 4 (V.flat encIt ([] : List It))] rfl ?_
  refine A.cons (A.callT (some 11) [(.pointer (T.ptr t)), (.func (.func 52) #[] #[(p_ b1)])] [1, 1, 1] ((fun zz => match zz with | (Ao'3, c'4) => (.tuple #[]))) ((fun zz => match zz with | (Ao'3, c'4) => True)) ((fun zz => match zz with | (Ao'3, c'4) => [treeI 95 t, blk b1 [(.slice Ao'3 ((([] : List It) ++ t.toL).length) c'4)] 39, sl Ao'3 ((([] : List It) ++ t.toL).length) c'4 36 4 (V.flat encIt (([] : List It) ++ t.toL))])) (fun zz => match zz with | (Ao'3, c'4) => [treeI 95 t, blk b1 [(.slice Ao'3 ((([] : List It) ++ t.toL).length) c'4)] 39, sl Ao'3 ((([] : List It) ++ t.toL).length) c'4 36 4 (V.flat encIt (([] : List It) ++ t.toL)), blk bt [(.pointer (T.ptr t))] 90]) (by kernel_rfl) rfl rfl (fun ww ss hh => each_items t b1 none ([] : List It) 0 (by simpa using hn) ww hh) (fun _ => rfl) ?_)
  rintro ⟨Ao'3, c'4⟩ -
  refine A.done ?_
  refine A.sub [(0, (p_ bt)), (2, e_), (3, (p_ b1)), (5, (b_ true))] (by exact ⟨rfl, rfl, rfl, rfl, trivial⟩) ?_
  refine A.tn ?_
  refine A.seq ?_
  refine A.region (A.goA [.ld 1, .p] [(0, (p_ bt)), (2, (.slice Ao'3 ((([] : List It) ++ t.toL).length) c'4)), (3, (p_ b1)), (5, (b_ true))] [b1] T0 (by kernel_rfl) trivial ?_)
  refine A.tn ?_
  refine A.ret ?_
  refine A.setH [treeI 95 t, blk b1 [(.slice Ao'3 ((([] : List It) ++ t.toL).length) c'4)] 39, sl Ao'3 ((T.toL t).length) c'4 36 4 (V.flat encIt (T.toL t)), blk bt [(.pointer (T.ptr t))] 90] (cc rfl (cc rfl (cc (slC (by simp : (([] : List It) ++ t.toL) = (T.toL t))) rfl))) ?_
  refine A.postK [3, 0, 1] [(.slice Ao'3 ((([] : List It) ++ t.toL).length) c'4)] (fun aa ww rr ss => ⟨rv_tmp rr rfl, trivial⟩) (Ao'3, c'4) ?_ ?_ (by kernel_rfl)
  · show ((.slice Ao'3 ((([] : List It) ++ t.toL).length) c'4) : Value) = (.slice Ao'3 ((T.toL t).length) c'4)
    first | rfl | simp_all
  · trivial
end Go.Proofs.Ytlkclhdhfamkdaa
