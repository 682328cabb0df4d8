/- What the functions of this layer do, proved operation by operation, for all arguments, under the conditions that each theorem states. -/
import Derived.Test.YtkfmboicmdnjpaaProg
import Derived.Test.YtkfmboicmdnjpaaMatch5
namespace Go.Proofs.Ytkfmboicmdnjpaa
open Go V
set_option linter.unusedVariables false
set_option linter.unusedSimpArgs false
theorem any_t {l : List Rl} {k : Nat} {x : Rl} {c : Int} (h : l[k]? = some x) (e : x.cl = c) : true = (l.any fun y => y.cl == c) := by
  symm; rw [List.any_eq_true]; exact ⟨x, List.mem_of_getElem? h, by simp [e]⟩
theorem any_f {l : List Rl} {k : Nat} {c : Int} (hn : ∀ y ∈ l.take k, y.cl ≠ c) (e : l.length ≤ k) : false = (l.any fun y => y.cl == c) := by
  symm; rw [List.take_of_length_le e] at hn; rw [List.any_eq_false]; intro x hx; simp [hn x hx]

set_option maxHeartbeats 4000000 in
set_option maxRecDepth 100000 in
theorem rules_nil (w : World) :
    Calls Try.prog 37 #[n_] w fun e w' => e = .returned e_ ∧ Fr [] w w' := by
  refine calls_of (args := [n_]) (penv [n_]) [] [] Try.func37 rfl rfl (look_penv _) (HS.nil w) ?_
  refine A.norm [(0, n_)] [] (by exact ⟨rfl, trivial⟩) rfl ?_
  refine A.seq ?_
  refine A.region (A.goA [.p] [(0, n_), (2, e_)] [] T0 (by kernel_rfl) trivial ?_)
  refine A.tn ?_
  refine A.seq ?_
  refine A.seq ?_
  refine A.region (A.goA [.p, .p] [(0, n_), (2, e_), (4, (b_ true))] [] T0 (by kernel_rfl) trivial ?_)
  refine A.tn ?_
  refine A.cond_t rfl ?_
  refine A.seq ?_
  refine A.region (A.goA [.p] [(0, n_), (2, e_), (4, (b_ true))] [] T0 (by kernel_rfl) trivial ?_)
  refine A.tn ?_
  refine A.ret ?_
  refine A.tr ?_
  refine A.postQ [e_] (fun aa ww rr ss => ⟨rv_tmp rr rfl, trivial⟩) ?_
  rfl

set_option maxHeartbeats 4000000 in
set_option maxRecDepth 100000 in
theorem rules_ok (bt : Nat) (ar : Option Addr) (l : List Rl) (cr mb : Nat) (am : Option Addr) (ms : List Int) (cm : Nat) (hl : l.length ≤ 100000) (w : World) (r0 : (blk bt [(.slice ar l.length cr), (.map (some mb)), (.slice am ms.length cm)] 101).holds w) (r1 : arrAt w ar (V.flat encRl l)) (hs : HS w (feet []) [] w) :
    Calls Try.prog 37 #[(p_ bt)] w fun e w' => ∃ zz, e = .returned ((fun (zz : (Option Addr) × Nat) => match zz with | (al', cl') => (.slice al' l.length cl')) zz) ∧ (fun (zz : (Option Addr) × Nat) => match zz with | (al', cl') => True) zz ∧ Turn [] ((fun (zz : (Option Addr) × Nat) => match zz with | (al', cl') => [sl al' (l.length) cl' 65 9 (V.flat encRl l)]) zz) w w' := by
  refine calls_of (args := [(p_ bt)]) (penv [(p_ bt)]) (feet []) [] Try.func37 rfl rfl (look_penv _) hs ?_
  refine A.norm [(0, (p_ bt))] [] (by exact ⟨rfl, trivial⟩) rfl ?_
  refine A.seq ?_
  refine A.region (A.goA [.p] [(0, (p_ bt)), (2, e_)] [] T0 (by kernel_rfl) trivial ?_)
  refine A.tn ?_
  refine A.seq ?_
  refine A.seq ?_
  refine A.region (A.goA [.p, .p] [(0, (p_ bt)), (2, e_), (4, (b_ false))] [] T0 (by kernel_rfl) trivial ?_)
  refine A.tn ?_
  refine A.cond_f rfl ?_
  refine A.skip ?_
  refine A.tn ?_
  refine A.seq ?_
  refine A.region (A.goP [.p, .p, .p, .rd [(.slice ar l.length cr)]] [(0, (p_ bt)), (2, e_), (4, (b_ false)), (8, (.slice ar l.length cr))] [] (fun κ => κ.rd ⟨bt, 0, none⟩ [(.slice ar l.length cr)] ∧ True) (by kernel_rfl) ⟨(reads_oldblk r0 rfl), trivial⟩ ?_)
  refine A.cons (A.callT (some 9) [(.slice ar l.length cr)] [] ((fun zz => match zz with | (al'1, cl'2) => (.slice al'1 l.length cl'2))) ((fun zz => match zz with | (al'1, cl'2) => True)) ((fun zz => match zz with | (al'1, cl'2) => [sl al'1 (l.length) cl'2 65 9 (V.flat encRl l)])) (fun zz => match zz with | (al'1, cl'2) => [sl al'1 (l.length) cl'2 65 9 (V.flat encRl l)]) (by kernel_rfl) rfl rfl (fun ww ss hh => clone_spec ar l cr (by assumption) ww ((rd_old r1 (by simp [feet])) ww ss) hh) (fun _ => rfl) ?_)
  rintro ⟨al'1, cl'2⟩ -
  refine A.goA [.p] [(0, (p_ bt)), (2, (.slice al'1 l.length cl'2)), (4, (b_ false))] [] T0 (by kernel_rfl) trivial ?_
  refine A.tn ?_
  refine A.ret ?_
  refine A.postK [0] [(.slice al'1 l.length cl'2)] (fun aa ww rr ss => ⟨rv_tmp rr rfl, trivial⟩) (al'1, cl'2) ?_ ?_ (by kernel_rfl)
  · rfl
  · trivial

set_option maxHeartbeats 4000000 in
set_option maxRecDepth 100000 in
theorem uses_nil (c : Int) (w : World) :
    Calls Try.prog 40 #[n_, (i_ c)] w fun e w' => e = .returned (b_ false) ∧ Fr [] w w' := by
  refine calls_of (args := [n_, (i_ c)]) (penv [n_, (i_ c)]) [] [] Try.func40 rfl rfl (look_penv _) (HS.nil w) ?_
  refine A.norm [(0, n_), (1, (i_ c))] [] (by exact ⟨rfl, rfl, trivial⟩) rfl ?_
  refine A.seq ?_
  refine A.region (A.goA1 [.al, .p] [0, 1, 3, 4] (fun b1 => [(0, n_), (1, (i_ c)), (3, (p_ b1)), (4, (b_ false))]) (fun b1 => [blk b1 [(i_ c)] 3]) (fun b1 => []) (fun _ => T0) (fun _ => by kernel_rfl) (fun b1 => trivial) ?_)
  intro b1
  refine A.tn ?_
  refine A.seq ?_
  refine A.region (A.goP [.p, .cq e_, .p] [(0, n_), (1, (i_ c)), (3, (p_ b1)), (4, (b_ false)), (6, e_), (7, (.func (.func 62) #[] #[(p_ b1)]))] [] (fun κ => κ.call 37 [n_] e_ ∧ True) (by kernel_rfl) ⟨(fun ww ss => rules_nil ww), trivial⟩ ?_)
  refine A.cons (A.inlX (some 8) [e_, (.func (.func 62) #[] #[(p_ b1)])] [(0, e_), (1, (.func (.func 62) #[] #[(p_ b1)]))] (by kernel_rfl) rfl Try.func61 rfl rfl ?_)
  refine A.seq ?_
  refine A.region (A.goA [.p] [(0, e_), (1, (.func (.func 62) #[] #[(p_ b1)])), (4, (b_ false))] [] T0 (by kernel_rfl) trivial ?_)
  refine A.tn ?_
  refine A.seq ?_
  refine A.region (A.goP [.p, .p] [(0, e_), (1, (.func (.func 62) #[] #[(p_ b1)])), (4, (b_ false)), (5, e_), (6, (.func (.func 62) #[] #[(p_ b1)]))] [] T0 (by kernel_rfl) trivial ?_)
  refine A.cons (A.inlX (some 7) [e_, (.func (.func 62) #[] #[(p_ b1)])] [(0, e_), (1, (.func (.func 62) #[] #[(p_ b1)]))] (by kernel_rfl) rfl Try.func72 rfl rfl ?_)
  refine A.seq ?_
  refine A.region (A.goA [.p] [(0, e_), (1, (.func (.func 62) #[] #[(p_ b1)])), (4, (i_ 0))] [] T0 (by kernel_rfl) trivial ?_)
  refine A.tn ?_
  refine A.seq ?_
  refine A.seq ?_
  refine A.region (A.goA [.p, .p, .p] [(0, e_), (1, (.func (.func 62) #[] #[(p_ b1)])), (4, (i_ 0)), (7, (i_ 0)), (8, (i_ 0))] [] T0 (by kernel_rfl) trivial ?_)
  refine A.tn ?_
  refine A.block ?_
  refine A.unroll 400 ?_
  refine A.turnk (m := 399) ?_
  refine A.seq ?_
  refine A.region (A.goA [.p] [(0, e_), (1, (.func (.func 62) #[] #[(p_ b1)])), (4, (i_ 0)), (7, (i_ 0)), (8, (i_ 0)), (9, (b_ false))] [] T0 (by kernel_rfl) trivial ?_)
  refine A.tn ?_
  refine A.seq ?_
  refine A.cond_f rfl ?_
  refine A.exit ?_
  refine A.te ?_
  refine A.te ?_
  refine A.bh ?_
  refine A.tn ?_
  refine A.seq ?_
  refine A.region (A.goA [.p] [(0, e_), (1, (.func (.func 62) #[] #[(p_ b1)])), (4, (i_ (-1))), (7, (i_ 0)), (8, (i_ 0)), (9, (b_ false))] [] T0 (by kernel_rfl) trivial ?_)
  refine A.tn ?_
  refine A.ret ?_
  refine A.post [(i_ (-1))] (fun aa ww rr ss => ⟨rv_tmp rr rfl, trivial⟩) (A.back (by kernel_rfl) ?_)
  refine A.goA [.p, .p] [(0, e_), (1, (.func (.func 62) #[] #[(p_ b1)])), (4, (b_ false))] [] T0 (by kernel_rfl) trivial ?_
  refine A.tn ?_
  refine A.ret ?_
  refine A.post [(b_ false)] (fun aa ww rr ss => ⟨rv_tmp rr rfl, trivial⟩) (A.back (by kernel_rfl) ?_)
  refine A.goA [.p] [(0, n_), (1, (i_ c)), (3, (p_ b1)), (4, (b_ false))] [] T0 (by kernel_rfl) trivial ?_
  refine A.tn ?_
  refine A.ret ?_
  refine A.postQ [(b_ false)] (fun aa ww rr ss => ⟨rv_tmp rr rfl, trivial⟩) ?_
  rfl

set_option maxHeartbeats 4000000 in
set_option maxRecDepth 100000 in
theorem uses_ok (bt : Nat) (ar : Option Addr) (l : List Rl) (cr mb : Nat) (am : Option Addr) (ms : List Int) (cm : Nat) (c : Int) (hl : l.length ≤ 100000) (w : World) (r0 : (blk bt [(.slice ar l.length cr), (.map (some mb)), (.slice am ms.length cm)] 101).holds w) (r1 : arrAt w ar (V.flat encRl l)) :
    Calls Try.prog 40 #[(p_ bt), (i_ c)] w fun e w' => e = .returned (b_ (l.any fun y => y.cl == c)) ∧ Fr [] w w' := by
  refine calls_of (args := [(p_ bt), (i_ c)]) (penv [(p_ bt), (i_ c)]) [] [] Try.func40 rfl rfl (look_penv _) (HS.nil w) ?_
  refine A.norm [(0, (p_ bt)), (1, (i_ c))] [] (by exact ⟨rfl, rfl, trivial⟩) rfl ?_
  refine A.seq ?_
  refine A.region (A.goA1 [.al, .p] [0, 1, 3, 4] (fun b1 => [(0, (p_ bt)), (1, (i_ c)), (3, (p_ b1)), (4, (b_ false))]) (fun b1 => [blk b1 [(i_ c)] 3]) (fun b1 => []) (fun _ => T0) (fun _ => by kernel_rfl) (fun b1 => trivial) ?_)
  intro b1
  refine A.tn ?_
  refine A.seq ?_
  refine A.region (A.goP [.p] [(0, (p_ bt)), (1, (i_ c)), (3, (p_ b1)), (4, (b_ false)), (5, (p_ bt))] [] T0 (by kernel_rfl) trivial ?_)
  refine A.cons (A.callT (some 6) [(p_ bt)] [] ((fun zz => match zz with | (al'2, cl'3) => (.slice al'2 l.length cl'3))) ((fun zz => match zz with | (al'2, cl'3) => True)) ((fun zz => match zz with | (al'2, cl'3) => [sl al'2 (l.length) cl'3 65 9 (V.flat encRl l)])) (fun zz => match zz with | (al'2, cl'3) => [sl al'2 (l.length) cl'3 65 9 (V.flat encRl l), blk b1 [(i_ c)] 3]) (by kernel_rfl) rfl rfl (fun ww ss hh => rules_ok bt ar l cr mb am ms cm (by assumption) ww (old_item ss r0) ((rd_old r1 (by simp [feet])) ww ss) hh) (fun _ => rfl) ?_)
  rintro ⟨al'2, cl'3⟩ -
  refine A.goP [.p] [(0, (p_ bt)), (1, (i_ c)), (3, (p_ b1)), (4, (b_ false)), (6, (.slice al'2 l.length cl'3)), (7, (.func (.func 62) #[] #[(p_ b1)]))] [] T0 (by kernel_rfl) trivial ?_
  refine A.cons (A.inlX (some 8) [(.slice al'2 l.length cl'3), (.func (.func 62) #[] #[(p_ b1)])] [(0, (.slice al'2 l.length cl'3)), (1, (.func (.func 62) #[] #[(p_ b1)]))] (by kernel_rfl) rfl Try.func61 rfl rfl ?_)
  refine A.seq ?_
  refine A.region (A.goA [.p] [(0, (.slice al'2 l.length cl'3)), (1, (.func (.func 62) #[] #[(p_ b1)])), (4, (b_ false))] [] T0 (by kernel_rfl) trivial ?_)
  refine A.tn ?_
  refine A.seq ?_
  refine A.region (A.goP [.p, .p] [(0, (.slice al'2 l.length cl'3)), (1, (.func (.func 62) #[] #[(p_ b1)])), (4, (b_ false)), (5, (.slice al'2 l.length cl'3)), (6, (.func (.func 62) #[] #[(p_ b1)]))] [] T0 (by kernel_rfl) trivial ?_)
  refine A.cons (A.inlX (some 7) [(.slice al'2 l.length cl'3), (.func (.func 62) #[] #[(p_ b1)])] [(0, (.slice al'2 l.length cl'3)), (1, (.func (.func 62) #[] #[(p_ b1)]))] (by kernel_rfl) rfl Try.func72 rfl rfl ?_)
  refine A.seq ?_
  refine A.region (A.goA [.p] [(0, (.slice al'2 l.length cl'3)), (1, (.func (.func 62) #[] #[(p_ b1)])), (4, (i_ 0))] [] T0 (by kernel_rfl) trivial ?_)
  refine A.tn ?_
  refine A.seq ?_
  refine A.seq ?_
  refine A.region (A.goA [.p, .p, .p] [(0, (.slice al'2 l.length cl'3)), (1, (.func (.func 62) #[] #[(p_ b1)])), (4, (i_ 0)), (7, (i_ (l.length : Int))), (8, (i_ 0))] [] T0 (by kernel_rfl) trivial ?_)
  refine A.tn ?_
  refine A.block ?_
  refine A.loop (fun (zz : Nat) => match zz with | k => [(0, (.slice al'2 l.length cl'3)), (1, (.func (.func 62) #[] #[(p_ b1)])), (7, (i_ (l.length : Int))), (8, (i_ (k : Int)))]) (fun (zz : Nat) => match zz with | k => [sl al'2 (l.length) cl'3 65 9 (V.flat encRl l), blk b1 [(i_ c)] 3]) (fun (zz : Nat) => match zz with | k => (k ≤ l.length) ∧ (∀ y ∈ l.take k, y.cl ≠ c)) (fun (zz : Nat) => match zz with | k => l.length - k) (0 : Nat) ⟨(by first | assumption | omega | (simp_all; done) | (simp_all; omega) | grind), (by simp)⟩ ?_ ?_
  · exact A.hereK [0, 0] (by exact ⟨rfl, rfl, rfl, rfl, trivial⟩) (by kernel_rfl)
  · rintro k ⟨hk, hn⟩
    refine A.norm [(0, (.slice al'2 l.length cl'3)), (1, (.func (.func 62) #[] #[(p_ b1)])), (7, (i_ (l.length : Int))), (8, (i_ (k : Int)))] [sl al'2 (l.length) cl'3 65 9 (V.flat encRl l), blk b1 [(i_ c)] 3] (by exact ⟨rfl, rfl, rfl, rfl, trivial⟩) rfl ?_
    refine A.seq ?_
    refine A.region (A.goA [.p] [(0, (.slice al'2 l.length cl'3)), (1, (.func (.func 62) #[] #[(p_ b1)])), (7, (i_ (l.length : Int))), (8, (i_ (k : Int))), (9, (b_ (decide ((k : Int) < (l.length : Int)))))] [] T0 (by kernel_rfl) trivial ?_)
    refine A.tn ?_
    refine A.seq ?_
    refine A.cond (E := decide ((k : Int) < (l.length : Int))) rfl (fun e2 => ?_) (fun e2 => ?_)
    · skip
      have p2 := of_decide_eq_true e2
      refine A.skip ?_
      refine A.tn ?_
      refine A.seq ?_
      refine A.block ?_
      refine A.seq ?_
      refine A.region (A.goA [.p, .p] [(0, (.slice al'2 l.length cl'3)), (1, (.func (.func 62) #[] #[(p_ b1)])), (7, (i_ (l.length : Int))), (8, (i_ (k : Int))), (9, (b_ (decide ((k : Int) < (l.length : Int))))), (5, (i_ (k : Int)))] [] T0 (by kernel_rfl) trivial ?_)
      refine A.tn ?_
      refine A.seq ?_
      refine A.region (A.goP [.p, .p, .p, .ix] [(0, (.slice al'2 l.length cl'3)), (1, (.func (.func 62) #[] #[(p_ b1)])), (7, (i_ (l.length : Int))), (8, (i_ (k : Int))), (9, (b_ (decide ((k : Int) < (l.length : Int))))), (5, (i_ (k : Int))), (11, (.func (.func 62) #[] #[(p_ b1)])), (14, (.pointer (some ((at0 al'2).add (k * 9)))))] [] (fun κ => κ.ix al'2 l.length (k : Int) ∧ True) (by kernel_rfl) ⟨(ixOf encRl_len (by decide) (rd_sl (i := 0) rfl) (by first | omega | (simp; done))), trivial⟩ ?_)
      obtain ⟨x5, hx5⟩ : ∃ x, (l)[k]? = some x := ⟨_, List.getElem?_eq_getElem (by omega)⟩
      refine A.goP [.rd [(w_ x5.ma), (w_ x5.mb), (w_ x5.mc), (w_ x5.md), (w_ x5.wa), (w_ x5.wb), (w_ x5.wc), (w_ x5.wd), (i_ x5.cl)]] [(0, (.slice al'2 l.length cl'3)), (1, (.func (.func 62) #[] #[(p_ b1)])), (7, (i_ (l.length : Int))), (8, (i_ (k : Int))), (9, (b_ (decide ((k : Int) < (l.length : Int))))), (5, (i_ (k : Int))), (11, (.func (.func 62) #[] #[(p_ b1)])), (15, (.agg #[(w_ x5.ma), (w_ x5.mb), (w_ x5.mc), (w_ x5.md), (w_ x5.wa), (w_ x5.wb), (w_ x5.wc), (w_ x5.wd), (i_ x5.cl)]))] [] (fun κ => κ.rd ((at0 al'2).add (k * 9)) [(w_ x5.ma), (w_ x5.mb), (w_ x5.mc), (w_ x5.md), (w_ x5.wa), (w_ x5.wb), (w_ x5.wc), (w_ x5.wd), (i_ x5.cl)] ∧ True) (by kernel_rfl) ⟨(reads_at0 (vs := [(w_ x5.ma), (w_ x5.mb), (w_ x5.mc), (w_ x5.md), (w_ x5.wa), (w_ x5.wb), (w_ x5.wc), (w_ x5.wd), (i_ x5.cl)]) encRl_len (rd_sl (i := 0) rfl) hx5 (by simp) rfl), trivial⟩ ?_
      refine A.cons (A.inlX (some 16) [(.agg #[(w_ x5.ma), (w_ x5.mb), (w_ x5.mc), (w_ x5.md), (w_ x5.wa), (w_ x5.wb), (w_ x5.wc), (w_ x5.wd), (i_ x5.cl)]), (p_ b1)] [(0, (.agg #[(w_ x5.ma), (w_ x5.mb), (w_ x5.mc), (w_ x5.md), (w_ x5.wa), (w_ x5.wb), (w_ x5.wc), (w_ x5.wd), (i_ x5.cl)])), (1, (p_ b1))] (by kernel_rfl) rfl Try.func62 rfl rfl ?_)
      refine A.seq ?_
      refine A.region (A.goA1 [.al, .p] [0, 1, 2, 3] (fun b6 => [(0, (.agg #[(w_ x5.ma), (w_ x5.mb), (w_ x5.mc), (w_ x5.md), (w_ x5.wa), (w_ x5.wb), (w_ x5.wc), (w_ x5.wd), (i_ x5.cl)])), (1, (p_ b1)), (2, (p_ b6)), (3, (b_ false))]) (fun b6 => [sl al'2 (l.length) cl'3 65 9 (V.flat encRl l), blk b1 [(i_ c)] 3, blk b6 [(w_ x5.ma), (w_ x5.mb), (w_ x5.mc), (w_ x5.md), (w_ x5.wa), (w_ x5.wb), (w_ x5.wc), (w_ x5.wd), (i_ x5.cl)] 65]) (fun b6 => []) (fun _ => T0) (fun _ => by kernel_rfl) (fun b6 => trivial) ?_)
      intro b6
      refine A.tn ?_
      refine A.seq ?_
      refine A.region (A.goA [.p, .ld 2, .ld 1, .p, .p] [(0, (.agg #[(w_ x5.ma), (w_ x5.mb), (w_ x5.mc), (w_ x5.md), (w_ x5.wa), (w_ x5.wb), (w_ x5.wc), (w_ x5.wd), (i_ x5.cl)])), (1, (p_ b1)), (2, (p_ b6)), (3, (b_ (x5.cl == c)))] [b6, b1] T0 (by kernel_rfl) trivial ?_)
      refine A.tn ?_
      refine A.ret ?_
      refine A.post [(b_ (x5.cl == c))] (fun aa ww rr ss => ⟨rv_tmp rr rfl, trivial⟩) (A.back (by kernel_rfl) ?_)
      refine A.items [sl al'2 (l.length) cl'3 65 9 (V.flat encRl l), blk b1 [(i_ c)] 3] (.cons_cons _ (.cons_cons _ (.cons _ (List.Sublist.slnil)))) ?_
      refine A.done ?_
      refine A.sub [(0, (.slice al'2 l.length cl'3)), (1, (.func (.func 62) #[] #[(p_ b1)])), (7, (i_ (l.length : Int))), (8, (i_ (k : Int))), (9, (b_ (decide ((k : Int) < (l.length : Int))))), (5, (i_ (k : Int))), (16, (b_ (x5.cl == c)))] (by exact ⟨rfl, rfl, rfl, rfl, rfl, rfl, rfl, trivial⟩) ?_
      refine A.tn ?_
      refine A.cond (E := x5.cl == c) rfl (fun e3 => ?_) (fun e3 => ?_)
      · skip
        have p3 := e3; try simp only [decide_eq_true_eq, decide_eq_false_iff_not, beq_iff_eq, beq_eq_false_iff_ne, bne_iff_ne, bne_eq_false_iff_eq, ne_eq, Bool.and_eq_true, Bool.or_eq_true, Bool.or_eq_false_iff, Bool.not_eq_true', Bool.not_eq_false', Int.not_lt, Int.not_le, gt_iff_lt, ge_iff_le, Classical.not_not] at p3
        refine A.seq ?_
        refine A.region (A.goA [.p, .p] [(0, (.slice al'2 l.length cl'3)), (1, (.func (.func 62) #[] #[(p_ b1)])), (7, (i_ (l.length : Int))), (8, (i_ (k : Int))), (9, (b_ (decide ((k : Int) < (l.length : Int))))), (5, (i_ (k : Int))), (16, (b_ (x5.cl == c))), (4, (i_ (k : Int)))] [] T0 (by kernel_rfl) trivial ?_)
        refine A.tn ?_
        refine A.ret ?_
        refine A.br ?_
        refine A.tr ?_
        refine A.tr ?_
        refine A.br ?_
        refine A.tr ?_
        refine A.post [(i_ (k : Int))] (fun aa ww rr ss => ⟨rv_tmp rr rfl, trivial⟩) (A.back (by kernel_rfl) ?_)
        refine A.goA [.p, .p] [(0, (.slice al'2 l.length cl'3)), (1, (.func (.func 62) #[] #[(p_ b1)])), (4, (b_ (decide ((k : Int) ≥ 0))))] [] T0 (by kernel_rfl) trivial ?_
        refine A.tn ?_
        refine A.ret ?_
        refine A.post [(b_ (decide ((k : Int) ≥ 0)))] (fun aa ww rr ss => ⟨rv_tmp rr rfl, trivial⟩) (A.back (by kernel_rfl) ?_)
        refine A.goA [.p] [(0, (p_ bt)), (1, (i_ c)), (3, (p_ b1)), (4, (b_ (decide ((k : Int) ≥ 0))))] [] T0 (by kernel_rfl) trivial ?_
        refine A.tn ?_
        refine A.ret ?_
        refine A.postQ [(b_ (decide ((k : Int) ≥ 0)))] (fun aa ww rr ss => ⟨rv_tmp rr rfl, trivial⟩) ?_
        show ((b_ (decide ((k : Int) ≥ 0))) : Value) = (b_ (l.any fun y => y.cl == c))
        refine congrArg Value.bool ?_; first | exact any_t (by assumption) (by simp_all) | exact any_f (by assumption) (by omega)
      · skip
        have p3 := e3; try simp only [decide_eq_true_eq, decide_eq_false_iff_not, beq_iff_eq, beq_eq_false_iff_ne, bne_iff_ne, bne_eq_false_iff_eq, ne_eq, Bool.and_eq_true, Bool.or_eq_true, Bool.or_eq_false_iff, Bool.not_eq_true', Bool.not_eq_false', Int.not_lt, Int.not_le, gt_iff_lt, ge_iff_le, Classical.not_not] at p3
        refine A.skip ?_
        refine A.bn ?_
        refine A.tn ?_
        refine A.region (A.goA [.w ((k : Int) + 1), .p] [(0, (.slice al'2 l.length cl'3)), (1, (.func (.func 62) #[] #[(p_ b1)])), (7, (i_ (l.length : Int))), (8, (i_ ((k : Int) + 1))), (9, (b_ (decide ((k : Int) < (l.length : Int))))), (5, (i_ (k : Int))), (16, (b_ (x5.cl == c)))] [] (fun κ => (IntKind.i64.wrap ((k : Int) + 1) = ((k : Int) + 1)) ∧ True) (by kernel_rfl) ⟨(wrap_i64 (e := (k : Int) + 1) (by constructor <;> omega)), trivial⟩ ?_)
        refine A.tn ?_
        refine A.next (k + 1) ⟨(by first | assumption | omega | (simp_all; done) | (simp_all; omega) | grind), (by rw [take_snoc (by assumption)]; intro y hy; rcases List.mem_append.1 hy with hy | hy; exact hn y hy; (simp at hy; subst hy; simp_all))⟩ (by first | omega | (simp; omega) | (simp_all; omega)) ?_
        exact A.hereK [0, 0] (by exact ⟨rfl, rfl, rfl, rfl, trivial⟩) (by kernel_rfl)
    · skip
      have p2 := of_decide_eq_false e2
      refine A.exit ?_
      refine A.te ?_
      refine A.te ?_
      refine A.bh ?_
      refine A.tn ?_
      refine A.seq ?_
      refine A.region (A.goA [.p] [(0, (.slice al'2 l.length cl'3)), (1, (.func (.func 62) #[] #[(p_ b1)])), (7, (i_ (l.length : Int))), (8, (i_ (k : Int))), (9, (b_ (decide ((k : Int) < (l.length : Int))))), (4, (i_ (-1)))] [] T0 (by kernel_rfl) trivial ?_)
      refine A.tn ?_
      refine A.ret ?_
      refine A.post [(i_ (-1))] (fun aa ww rr ss => ⟨rv_tmp rr rfl, trivial⟩) (A.back (by kernel_rfl) ?_)
      refine A.goA [.p, .p] [(0, (.slice al'2 l.length cl'3)), (1, (.func (.func 62) #[] #[(p_ b1)])), (4, (b_ false))] [] T0 (by kernel_rfl) trivial ?_
      refine A.tn ?_
      refine A.ret ?_
      refine A.post [(b_ false)] (fun aa ww rr ss => ⟨rv_tmp rr rfl, trivial⟩) (A.back (by kernel_rfl) ?_)
      refine A.goA [.p] [(0, (p_ bt)), (1, (i_ c)), (3, (p_ b1)), (4, (b_ false))] [] T0 (by kernel_rfl) trivial ?_
      refine A.tn ?_
      refine A.ret ?_
      refine A.postQ [(b_ false)] (fun aa ww rr ss => ⟨rv_tmp rr rfl, trivial⟩) ?_
      show ((b_ false) : Value) = (b_ (l.any fun y => y.cl == c))
      refine congrArg Value.bool ?_; first | exact any_t (by assumption) (by simp_all) | exact any_f (by assumption) (by omega)
end Go.Proofs.Ytkfmboicmdnjpaa
