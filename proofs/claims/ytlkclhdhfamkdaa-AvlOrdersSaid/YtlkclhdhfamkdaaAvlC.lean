/- What the functions of this layer do, proved operation by operation, for all arguments, under the conditions that each theorem states. -/
import Derived.Test.YtlkclhdhfamkdaaProg
import Derived.Test.YtlkclhdhfamkdaaAvlB
namespace Go.Proofs.Ytlkclhdhfamkdaa
open Go V
set_option linter.unusedVariables false
set_option linter.unusedSimpArgs false
def itA (x : AAct) (j : Nat) : It := ⟨x.ak, (j : Int), x.av, x.aw⟩
def MemLo (l : List AAct) (L : List It) (k : Nat) : Prop := ∀ y, y ∈ L ↔ ∃ j x, j < k ∧ l[j]? = some x ∧ y = itA x j
def MemHi (l : List AAct) (L : List It) (k : Nat) : Prop := ∀ y, y ∈ L ↔ ∃ j x, k ≤ j ∧ l[j]? = some x ∧ y = itA x j
theorem lo_new {l : List AAct} {L : List It} {k : Nat} {a : Int} (h : MemLo l L k) : ∀ y ∈ L, ¬ (y.ka = a ∧ y.ki = (k : Int)) := by
  rintro y hy ⟨_, e⟩
  obtain ⟨j, x, hj, _, rfl⟩ := (h y).1 hy
  simp [itA] at e; omega
theorem hi_new {l : List AAct} {L : List It} {k : Nat} {a : Int} (hk : k < l.length) (h : MemHi l L (l.length - k)) : ∀ y ∈ L, ¬ (y.ka = a ∧ y.ki = ((l.length - 1 - k : Nat) : Int)) := by
  rintro y hy ⟨_, e⟩
  obtain ⟨j, x, hj, _, rfl⟩ := (h y).1 hy
  simp only [itA] at e; omega
theorem lo_step {l : List AAct} {L : List It} {k : Nat} {x : AAct} (h : MemLo l L k) (hx : l[k]? = some x) : MemLo l (insL (itA x k) L) (k + 1) := by
  intro y; rw [mem_insL, h y]
  constructor
  · rintro (rfl | ⟨j, z, hj, hz, rfl⟩)
    · exact ⟨k, x, by omega, hx, rfl⟩
    · exact ⟨j, z, by omega, hz, rfl⟩
  · rintro ⟨j, z, hj, hz, rfl⟩
    rcases Nat.lt_or_ge j k with h1 | h1
    · exact .inr ⟨j, z, h1, hz, rfl⟩
    · obtain rfl : j = k := by omega
      rw [hx] at hz; cases hz; exact .inl rfl
theorem hi_step {l : List AAct} {L : List It} {k : Nat} {x : AAct} (hk : k < l.length) (h : MemHi l L (l.length - k)) (hx : l[l.length - 1 - k]? = some x) : MemHi l (insL (itA x (l.length - 1 - k)) L) (l.length - (k + 1)) := by
  intro y; rw [mem_insL, h y]
  constructor
  · rintro (rfl | ⟨j, z, hj, hz, rfl⟩)
    · exact ⟨_, x, by omega, hx, rfl⟩
    · exact ⟨j, z, by omega, hz, rfl⟩
  · rintro ⟨j, z, hj, hz, rfl⟩
    rcases Nat.lt_or_ge j (l.length - k) with h1 | h1
    · obtain rfl : j = l.length - 1 - k := by omega
      rw [hx] at hz; cases hz; exact .inl rfl
    · exact .inr ⟨j, z, h1, hz, rfl⟩
theorem srt_ext : ∀ {a b : List It}, Srt a → Srt b → (∀ y, y ∈ a ↔ y ∈ b) → a = b
  | [], [], _, _, _ => rfl
  | [], y :: b, _, _, h => by have := (h y).2 (by simp); simp at this
  | x :: a, [], _, _, h => by have := (h x).1 (by simp); simp at this
  | x :: a, y :: b, ha, hb, h => by
    obtain ⟨a1, a2⟩ := List.pairwise_cons.1 ha
    obtain ⟨b1, b2⟩ := List.pairwise_cons.1 hb
    have hxy : x = y := by
      rcases List.mem_cons.1 ((h x).1 (by simp)) with e | e
      · exact e
      · rcases List.mem_cons.1 ((h y).2 (by simp)) with e' | e'
        · exact e'.symm
        · exact absurd (a1 y e') (kl_asym (b1 x e))
    subst hxy
    rw [srt_ext a2 b2 fun z => ?_]
    constructor
    · intro hz
      rcases List.mem_cons.1 ((h z).1 (by simp [hz])) with e | e
      · exact absurd (e ▸ a1 z hz) kl_irr
      · exact e
    · intro hz
      rcases List.mem_cons.1 ((h z).2 (by simp [hz])) with e | e
      · exact absurd (e ▸ b1 z hz) kl_irr
      · exact e
theorem ord_eq {l : List AAct} {t u : T} (ht : WF t) (hu : WF u) (h1 : MemLo l t.toL l.length) (h2 : MemHi l u.toL 0) : u.toL = t.toL :=
  srt_ext hu.srt ht.srt fun y => by
    rw [h1 y, h2 y]
    exact ⟨fun ⟨j, x, _, hx, e⟩ => ⟨j, x, (List.getElem?_eq_some_iff.1 hx).1, hx, e⟩, fun ⟨j, x, _, hx, e⟩ => ⟨j, x, Nat.zero_le _, hx, e⟩⟩
def Later (l : List AAct) (L : List It) (k : Nat) : Prop := ∀ j x, k ≤ j → l[j]? = some x → itA x j ∈ L
theorem later_0 {l : List AAct} {L : List It} (h : MemLo l L l.length) : Later l L 0 := fun j x _ hx => (h _).2 ⟨j, x, (List.getElem?_eq_some_iff.1 hx).1, hx, rfl⟩
theorem later_at {l : List AAct} {L : List It} {k : Nat} {x : AAct} (h : Later l L k) (hx : l[k]? = some x) : ∃ y ∈ L, y.ka = x.ak ∧ y.ki = (k : Int) := ⟨_, h k x (Nat.le_refl _) hx, rfl, rfl⟩
theorem later_del {l : List AAct} {L : List It} {k : Nat} {a : Int} (h : Later l L k) : Later l (delL a (k : Int) L) (k + 1) := fun j x hj hx =>
  List.mem_filter.2 ⟨h j x (by omega) hx, by rw [Bool.not_eq_true', decide_eq_false_iff_not]; rintro ⟨_, e⟩; simp only [itA] at e; omega⟩
theorem later_skip {l : List AAct} {L : List It} {k : Nat} (h : Later l L k) : Later l L (k + 1) := fun j x hj hx => h j x (by omega) hx

set_option maxHeartbeats 4000000 in
set_option maxRecDepth 100000 in
theorem avlOrders_walk (A0 : Option Addr) (l : List AAct) (c0 : Nat) (n : Int) (w : World) (r0 : arrAt w A0 (V.flat encAAct l)) :
    Calls Try.prog 3 #[(.slice A0 l.length c0), (u_ n)] w fun e w' => e = .returned (b_ true) ∧ Fr [] w w' := by
  refine calls_of (args := [(.slice A0 l.length c0), (u_ n)]) (penv [(.slice A0 l.length c0), (u_ n)]) [] [] Try.func3 rfl rfl (look_penv _) (HS.nil w) ?_
  refine A.norm [(0, (.slice A0 l.length c0)), (1, (u_ n))] [] (by exact ⟨rfl, rfl, trivial⟩) rfl ?_
  refine A.seq ?_
  refine A.region (A.goA [.p] [(0, (.slice A0 l.length c0)), (1, (u_ n)), (4, (b_ false))] [] T0 (by kernel_rfl) trivial ?_)
  refine A.tn ?_
  refine A.seq ?_
  refine A.seq ?_
  refine A.region (A.goA [.p, .p, .p] [(0, (.slice A0 l.length c0)), (1, (u_ n)), (4, (b_ false)), (28, (b_ (decide ((l.length : Int) > 80))))] [] T0 (by kernel_rfl) trivial ?_)
  refine A.tn ?_
  refine A.cond (E := decide ((l.length : Int) > 80)) rfl (fun e1 => ?_) (fun e1 => ?_)
  · skip
    have p1 := of_decide_eq_true e1
    refine A.seq ?_
    refine A.region (A.goA [.cq (b_ true), .p] [(0, (.slice A0 l.length c0)), (1, (u_ n)), (4, (b_ true)), (28, (b_ (decide ((l.length : Int) > 80))))] [] (fun κ => κ.call 9 [] (b_ true) ∧ True) (by kernel_rfl) ⟨(fun ww ss => three_spec ww), trivial⟩ ?_)
    refine A.tn ?_
    refine A.ret ?_
    refine A.tr ?_
    refine A.postQ [(b_ true)] (fun aa ww rr ss => ⟨rv_tmp rr rfl, trivial⟩) ?_
    rfl
  · skip
    have p1 := of_decide_eq_false e1
    refine A.skip ?_
    refine A.tn ?_
    refine A.seq ?_
    refine A.region ?_
    refine A.cons (A.callT (some 30) [] [] ((fun bt1 => (p_ bt1))) ((fun bt1 => True)) ((fun bt1 => [blk bt1 [(.pointer (T.ptr T.nil))] 90, treeI 95 T.nil])) (fun bt1 => [blk bt1 [(.pointer (T.ptr T.nil))] 90, treeI 95 T.nil]) (by kernel_rfl) rfl rfl (fun ww ss hh => new_spec ww hh) (fun _ => rfl) ?_)
    rintro bt1 -
    refine A.goA [.p] [(0, (.slice A0 l.length c0)), (1, (u_ n)), (4, (b_ false)), (28, (b_ (decide ((l.length : Int) > 80)))), (5, (p_ bt1))] [] T0 (by kernel_rfl) trivial ?_
    refine A.tn ?_
    refine A.seq ?_
    refine A.region ?_
    refine A.cons (A.callT (some 31) [] [] ((fun bt2 => (p_ bt2))) ((fun bt2 => True)) ((fun bt2 => [blk bt2 [(.pointer (T.ptr T.nil))] 90, treeI 95 T.nil])) (fun bt2 => [blk bt2 [(.pointer (T.ptr T.nil))] 90, treeI 95 T.nil, blk bt1 [(.pointer (T.ptr T.nil))] 90, treeI 95 T.nil]) (by kernel_rfl) rfl rfl (fun ww ss hh => new_spec ww hh) (fun _ => rfl) ?_)
    rintro bt2 -
    refine A.goA [.p] [(0, (.slice A0 l.length c0)), (1, (u_ n)), (4, (b_ false)), (28, (b_ (decide ((l.length : Int) > 80)))), (5, (p_ bt1)), (6, (p_ bt2))] [] T0 (by kernel_rfl) trivial ?_
    refine A.tn ?_
    refine A.seq ?_
    refine A.seq ?_
    refine A.region (A.goA [.p, .p, .p] [(0, (.slice A0 l.length c0)), (1, (u_ n)), (4, (b_ false)), (28, (b_ (decide ((l.length : Int) > 80)))), (5, (p_ bt1)), (6, (p_ bt2)), (32, (.slice A0 l.length c0)), (33, (i_ (l.length : Int))), (34, (i_ 0))] [] T0 (by kernel_rfl) trivial ?_)
    refine A.tn ?_
    refine A.block ?_
    refine A.loop (fun (zz : Nat × T × T) => match zz with | (k, t, u) => [(0, (.slice A0 l.length c0)), (1, (u_ n)), (5, (p_ bt1)), (6, (p_ bt2)), (32, (.slice A0 l.length c0)), (33, (i_ (l.length : Int))), (34, (i_ (k : Int)))]) (fun (zz : Nat × T × T) => match zz with | (k, t, u) => [blk bt1 [(.pointer (T.ptr t))] 90, treeI 95 t, blk bt2 [(.pointer (T.ptr u))] 90, treeI 95 u]) (fun (zz : Nat × T × T) => match zz with | (k, t, u) => (k ≤ l.length) ∧ (WF t) ∧ (WF u) ∧ (MemLo l t.toL k) ∧ (MemHi l u.toL (l.length - k)) ∧ (t.toL.length = k) ∧ (u.toL.length = k)) (fun (zz : Nat × T × T) => match zz with | (k, t, u) => l.length - k) (0, T.nil, T.nil) ⟨(by first | assumption | omega | (simp_all; done) | (simp_all; omega) | grind), (by exact wf_nil), (by exact wf_nil), (by intro y; simp [T.toL]), (by intro y; simp only [T.toL, List.not_mem_nil, false_iff]; rintro ⟨j, x, hj, hx, _⟩; have := (List.getElem?_eq_some_iff.1 hx).1; omega), (by rfl), (by rfl)⟩ ?_ ?_
    · exact A.hereK [2, 1, 0, 0] (by exact ⟨rfl, rfl, rfl, rfl, rfl, rfl, rfl, trivial⟩) (by kernel_rfl)
    · rintro ⟨k, t, u⟩ ⟨hk, hWt, hWu, hMt, hMu, hLt, hLu⟩
      refine A.norm [(0, (.slice A0 l.length c0)), (1, (u_ n)), (5, (p_ bt1)), (6, (p_ bt2)), (32, (.slice A0 l.length c0)), (33, (i_ (l.length : Int))), (34, (i_ (k : Int)))] [blk bt1 [(.pointer (T.ptr t))] 90, treeI 95 t, blk bt2 [(.pointer (T.ptr u))] 90, treeI 95 u] (by exact ⟨rfl, rfl, rfl, rfl, rfl, rfl, rfl, trivial⟩) rfl ?_
      refine A.seq ?_
      refine A.region (A.goA [.p] [(0, (.slice A0 l.length c0)), (1, (u_ n)), (5, (p_ bt1)), (6, (p_ bt2)), (32, (.slice A0 l.length c0)), (33, (i_ (l.length : Int))), (34, (i_ (k : Int))), (35, (b_ (decide ((k : Int) < (l.length : Int)))))] [] T0 (by kernel_rfl) trivial ?_)
      refine A.tn ?_
      refine A.seq ?_
      refine A.cond (E := decide ((k : Int) < (l.length : Int))) rfl (fun e4 => ?_) (fun e4 => ?_)
      · skip
        have p4 := of_decide_eq_true e4
        refine A.skip ?_
        refine A.tn ?_
        refine A.seq ?_
        refine A.block ?_
        refine A.seq ?_
        refine A.region (A.goP [.p, .ix] [(0, (.slice A0 l.length c0)), (1, (u_ n)), (5, (p_ bt1)), (6, (p_ bt2)), (32, (.slice A0 l.length c0)), (33, (i_ (l.length : Int))), (34, (i_ (k : Int))), (35, (b_ (decide ((k : Int) < (l.length : Int))))), (36, (i_ (k : Int))), (37, (.pointer (some ((at0 A0).add (k * 6)))))] [] (fun κ => κ.ix A0 l.length (k : Int) ∧ True) (by kernel_rfl) ⟨(ixOf encAAct_len (by decide) (rd_old r0 (by simp [feet])) (by first | omega | (simp; done))), trivial⟩ ?_)
        obtain ⟨x3, hx3⟩ : ∃ x, (l)[k]? = some x := ⟨_, List.getElem?_eq_getElem (by omega)⟩
        refine A.goA1 [.rd [(i_ x3.kd), (u_ x3.ak), (i_ x3.ai), (u_ x3.av), (i_ x3.aw), (u_ x3.tk)], .al, .p, .st 4] [0, 1, 5, 6, 32, 33, 34, 35, 8, 7] (fun b4 => [(0, (.slice A0 l.length c0)), (1, (u_ n)), (5, (p_ bt1)), (6, (p_ bt2)), (32, (.slice A0 l.length c0)), (33, (i_ (l.length : Int))), (34, (i_ (k : Int))), (35, (b_ (decide ((k : Int) < (l.length : Int))))), (8, (p_ b4)), (7, (i_ (k : Int)))]) (fun b4 => [blk bt1 [(.pointer (T.ptr t))] 90, treeI 95 t, blk bt2 [(.pointer (T.ptr u))] 90, treeI 95 u, blk b4 [(i_ x3.kd), (u_ x3.ak), (i_ x3.ai), (u_ x3.av), (i_ x3.aw), (u_ x3.tk)] 30]) (fun b4 => [b4]) (fun _ => (fun κ => κ.rd ((at0 A0).add (k * 6)) [(i_ x3.kd), (u_ x3.ak), (i_ x3.ai), (u_ x3.av), (i_ x3.aw), (u_ x3.tk)] ∧ True)) (fun _ => by kernel_rfl) (fun b4 => ⟨(reads_at0 (vs := [(i_ x3.kd), (u_ x3.ak), (i_ x3.ai), (u_ x3.av), (i_ x3.aw), (u_ x3.tk)]) encAAct_len (rd_old r0 (by simp [feet])) hx3 (by simp) rfl), trivial⟩) ?_
        intro b4
        refine A.tn ?_
        refine A.seq ?_
        refine A.region (A.goP [.p, .p, .p, .w ((l.length : Int) - 1), .p, .w ((l.length - 1 - k : Nat) : Int), .ix] [(0, (.slice A0 l.length c0)), (1, (u_ n)), (5, (p_ bt1)), (6, (p_ bt2)), (32, (.slice A0 l.length c0)), (33, (i_ (l.length : Int))), (34, (i_ (k : Int))), (35, (b_ (decide ((k : Int) < (l.length : Int))))), (8, (p_ b4)), (7, (i_ (k : Int))), (45, (.pointer (some ((at0 A0).add ((l.length - 1 - k : Nat) * 6)))))] [] (fun κ => (IntKind.i64.wrap ((l.length : Int) - 1) = ((l.length : Int) - 1)) ∧ (IntKind.i64.wrap (((l.length : Int) - 1) - (k : Int)) = ((l.length - 1 - k : Nat) : Int)) ∧ κ.ix A0 l.length ((l.length - 1 - k : Nat) : Int) ∧ True) (by kernel_rfl) ⟨(wrap_i64 (e := (l.length : Int) - 1) (by constructor <;> omega)), ((wrap_i64 (e := ((l.length : Int) - 1) - (k : Int)) (by constructor <;> omega)).trans (by first | rfl | omega : (((l.length : Int) - 1) - (k : Int) : Int) = ((l.length - 1 - k : Nat) : Int))), (ixOf encAAct_len (by decide) (rd_old r0 (by simp [feet])) (by first | omega | (simp; done))), trivial⟩ ?_)
        obtain ⟨x5, hx5⟩ : ∃ x, (l)[(l.length - 1 - k : Nat)]? = some x := ⟨_, List.getElem?_eq_getElem (by omega)⟩
        refine A.goA1 [.rd [(i_ x5.kd), (u_ x5.ak), (i_ x5.ai), (u_ x5.av), (i_ x5.aw), (u_ x5.tk)], .al, .st 5] [0, 1, 5, 6, 32, 33, 34, 35, 8, 7, 9] (fun b6 => [(0, (.slice A0 l.length c0)), (1, (u_ n)), (5, (p_ bt1)), (6, (p_ bt2)), (32, (.slice A0 l.length c0)), (33, (i_ (l.length : Int))), (34, (i_ (k : Int))), (35, (b_ (decide ((k : Int) < (l.length : Int))))), (8, (p_ b4)), (7, (i_ (k : Int))), (9, (p_ b6))]) (fun b6 => [blk bt1 [(.pointer (T.ptr t))] 90, treeI 95 t, blk bt2 [(.pointer (T.ptr u))] 90, treeI 95 u, blk b4 [(i_ x3.kd), (u_ x3.ak), (i_ x3.ai), (u_ x3.av), (i_ x3.aw), (u_ x3.tk)] 30, blk b6 [(i_ x5.kd), (u_ x5.ak), (i_ x5.ai), (u_ x5.av), (i_ x5.aw), (u_ x5.tk)] 30]) (fun b6 => [b6]) (fun _ => (fun κ => κ.rd ((at0 A0).add ((l.length - 1 - k : Nat) * 6)) [(i_ x5.kd), (u_ x5.ak), (i_ x5.ai), (u_ x5.av), (i_ x5.aw), (u_ x5.tk)] ∧ True)) (fun _ => by kernel_rfl) (fun b6 => ⟨(reads_at0 (vs := [(i_ x5.kd), (u_ x5.ak), (i_ x5.ai), (u_ x5.av), (i_ x5.aw), (u_ x5.tk)]) encAAct_len (rd_old r0 (by simp [feet])) hx5 (by simp) rfl), trivial⟩) ?_
        intro b6
        refine A.tn ?_
        refine A.seq ?_
        refine A.draw2 [8] 10 (by kernel_rfl) ?_
        refine A.drawP 2 [.p, .p, .p, .ld 4, .p, .cq (.agg #[(u_ x3.ak), (i_ (k : Int))]), .p, .ld 4] [0, 1, 2, 3, 4, 5, 6, 7] [(0, (.slice A0 l.length c0)), (1, (u_ n)), (5, (p_ bt1)), (6, (p_ bt2)), (32, (.slice A0 l.length c0)), (33, (i_ (l.length : Int))), (34, (i_ (k : Int))), (35, (b_ (decide ((k : Int) < (l.length : Int))))), (8, (p_ b4)), (7, (i_ (k : Int))), (9, (p_ b6)), (47, (p_ bt1)), (52, (.agg #[(u_ x3.ak), (i_ (k : Int))])), (54, (.agg #[(u_ x3.av), (i_ x3.aw)]))] [b4, b4] (fun κ => κ.call 12 [(u_ x3.ak), (i_ (k : Int))] (.agg #[(u_ x3.ak), (i_ (k : Int))]) ∧ True) (by kernel_rfl) ⟨(fun ww ss => key_spec x3.ak (k : Int) ww), trivial⟩ ?_
        refine A.only2 8 rfl (by kernel_rfl) (A.callT (some 55) [(p_ bt1), (.agg #[(u_ x3.ak), (i_ (k : Int))]), (.agg #[(u_ x3.av), (i_ x3.aw)])] [0, 0] ((fun zt7 => (i_ 0))) ((fun zt7 => WF zt7 ∧ T.toL zt7 = insL (⟨x3.ak, (k : Int), x3.av, x3.aw⟩ : It) t.toL)) ((fun zt7 => [blk bt1 [(.pointer (T.ptr zt7))] 90, treeI 95 zt7])) (fun zt7 => [blk bt1 [(.pointer (T.ptr zt7))] 90, treeI 95 zt7, blk bt2 [(.pointer (T.ptr u))] 90, treeI 95 u, blk b4 [(i_ x3.kd), (u_ x3.ak), (i_ x3.ai), (u_ x3.av), (i_ x3.aw), (u_ x3.tk)] 30, blk b6 [(i_ x5.kd), (u_ x5.ak), (i_ x5.ai), (u_ x5.av), (i_ x5.aw), (u_ x5.tk)] 30]) (by kernel_rfl) rfl rfl (fun ww ss hh => insert_new bt1 t x3.ak (k : Int) x3.av x3.aw (by first | assumption | omega | exact findT_ne (by assumption) (by assumption) | exact findT_eq (by assumption)) (by first | assumption | omega | exact lo_new (by assumption) | exact hi_new (by omega) (by assumption) | exact later_at hm (by assumption) | (rw [heq]; exact later_at hm (by assumption))) (by first | assumption | omega | exact findT_ne (by assumption) (by assumption) | exact findT_eq (by assumption)) ww hh) (fun _ => rfl) ?_)
        rintro zt7 hz5
        obtain ⟨hz5W, hz5L⟩ := id hz5
        refine A.stage ?_
        refine A.drawP 0 [.p] [9] [(0, (.slice A0 l.length c0)), (1, (u_ n)), (5, (p_ bt1)), (6, (p_ bt2)), (32, (.slice A0 l.length c0)), (33, (i_ (l.length : Int))), (34, (i_ (k : Int))), (35, (b_ (decide ((k : Int) < (l.length : Int))))), (8, (p_ b4)), (7, (i_ (k : Int))), (9, (p_ b6)), (10, (i_ 0))] [] T0 (by kernel_rfl) trivial ?_
        refine A.fin2 (by kernel_rfl) ?_
        refine A.tn ?_
        refine A.seq ?_
        refine A.draw2 [12] 14 (by kernel_rfl) ?_
        refine A.drawP 2 [.p, .p, .p, .ld 5, .p, .p, .w ((l.length : Int) - 1), .p, .w ((l.length - 1 - k : Nat) : Int), .cq (.agg #[(u_ x5.ak), (i_ ((l.length - 1 - k : Nat) : Int))]), .p, .ld 5] [0, 1, 2, 3, 4, 5, 6, 7, 8, 9, 10, 11] [(0, (.slice A0 l.length c0)), (1, (u_ n)), (5, (p_ bt1)), (6, (p_ bt2)), (32, (.slice A0 l.length c0)), (33, (i_ (l.length : Int))), (34, (i_ (k : Int))), (35, (b_ (decide ((k : Int) < (l.length : Int))))), (8, (p_ b4)), (7, (i_ (k : Int))), (9, (p_ b6)), (10, (i_ 0)), (56, (p_ bt2)), (65, (.agg #[(u_ x5.ak), (i_ ((l.length - 1 - k : Nat) : Int))])), (67, (.agg #[(u_ x5.av), (i_ x5.aw)]))] [b6, b6] (fun κ => (IntKind.i64.wrap ((l.length : Int) - 1) = ((l.length : Int) - 1)) ∧ (IntKind.i64.wrap (((l.length : Int) - 1) - (k : Int)) = ((l.length - 1 - k : Nat) : Int)) ∧ κ.call 12 [(u_ x5.ak), (i_ ((l.length - 1 - k : Nat) : Int))] (.agg #[(u_ x5.ak), (i_ ((l.length - 1 - k : Nat) : Int))]) ∧ True) (by kernel_rfl) ⟨(wrap_i64 (e := (l.length : Int) - 1) (by constructor <;> omega)), ((wrap_i64 (e := ((l.length : Int) - 1) - (k : Int)) (by constructor <;> omega)).trans (by first | rfl | omega : (((l.length : Int) - 1) - (k : Int) : Int) = ((l.length - 1 - k : Nat) : Int))), (fun ww ss => key_spec x5.ak ((l.length - 1 - k : Nat) : Int) ww), trivial⟩ ?_
        refine A.only2 12 rfl (by kernel_rfl) (A.callT (some 68) [(p_ bt2), (.agg #[(u_ x5.ak), (i_ ((l.length - 1 - k : Nat) : Int))]), (.agg #[(u_ x5.av), (i_ x5.aw)])] [2, 2] ((fun zt8 => (i_ 0))) ((fun zt8 => WF zt8 ∧ T.toL zt8 = insL (⟨x5.ak, ((l.length - 1 - k : Nat) : Int), x5.av, x5.aw⟩ : It) u.toL)) ((fun zt8 => [blk bt2 [(.pointer (T.ptr zt8))] 90, treeI 95 zt8])) (fun zt8 => [blk bt2 [(.pointer (T.ptr zt8))] 90, treeI 95 zt8, blk bt1 [(.pointer (T.ptr zt7))] 90, treeI 95 zt7, blk b4 [(i_ x3.kd), (u_ x3.ak), (i_ x3.ai), (u_ x3.av), (i_ x3.aw), (u_ x3.tk)] 30, blk b6 [(i_ x5.kd), (u_ x5.ak), (i_ x5.ai), (u_ x5.av), (i_ x5.aw), (u_ x5.tk)] 30]) (by kernel_rfl) rfl rfl (fun ww ss hh => insert_new bt2 u x5.ak ((l.length - 1 - k : Nat) : Int) x5.av x5.aw (by first | assumption | omega | exact findT_ne (by assumption) (by assumption) | exact findT_eq (by assumption)) (by first | assumption | omega | exact lo_new (by assumption) | exact hi_new (by omega) (by assumption) | exact later_at hm (by assumption) | (rw [heq]; exact later_at hm (by assumption))) (by first | assumption | omega | exact findT_ne (by assumption) (by assumption) | exact findT_eq (by assumption)) ww hh) (fun _ => rfl) ?_)
        rintro zt8 hz6
        obtain ⟨hz6W, hz6L⟩ := id hz6
        refine A.stage ?_
        refine A.drawP 0 [.p] [13] [(0, (.slice A0 l.length c0)), (1, (u_ n)), (5, (p_ bt1)), (6, (p_ bt2)), (32, (.slice A0 l.length c0)), (33, (i_ (l.length : Int))), (34, (i_ (k : Int))), (35, (b_ (decide ((k : Int) < (l.length : Int))))), (8, (p_ b4)), (7, (i_ (k : Int))), (9, (p_ b6)), (10, (i_ 0)), (11, (i_ 0))] [] T0 (by kernel_rfl) trivial ?_
        refine A.fin2 (by kernel_rfl) ?_
        refine A.tn ?_
        refine A.seq ?_
        refine A.region (A.goA [.p, .p, .p, .p, .p, .p] [(0, (.slice A0 l.length c0)), (1, (u_ n)), (5, (p_ bt1)), (6, (p_ bt2)), (32, (.slice A0 l.length c0)), (33, (i_ (l.length : Int))), (34, (i_ (k : Int))), (35, (b_ (decide ((k : Int) < (l.length : Int))))), (8, (p_ b4)), (7, (i_ (k : Int))), (9, (p_ b6)), (10, (i_ 0)), (11, (i_ 0)), (74, (b_ false))] [] T0 (by kernel_rfl) trivial ?_)
        refine A.tn ?_
        refine A.cond_f rfl ?_
        refine A.skip ?_
        refine A.bn ?_
        refine A.tn ?_
        refine A.region (A.goA [.w ((k : Int) + 1), .p] [(0, (.slice A0 l.length c0)), (1, (u_ n)), (5, (p_ bt1)), (6, (p_ bt2)), (32, (.slice A0 l.length c0)), (33, (i_ (l.length : Int))), (34, (i_ ((k : Int) + 1))), (35, (b_ (decide ((k : Int) < (l.length : Int))))), (8, (p_ b4)), (7, (i_ (k : Int))), (9, (p_ b6)), (10, (i_ 0)), (11, (i_ 0)), (74, (b_ false))] [] (fun κ => (IntKind.i64.wrap ((k : Int) + 1) = ((k : Int) + 1)) ∧ True) (by kernel_rfl) ⟨(wrap_i64 (e := (k : Int) + 1) (by constructor <;> omega)), trivial⟩ ?_)
        refine A.tn ?_
        refine A.next (k + 1, zt7, zt8) ⟨(by first | assumption | omega | (simp_all; done) | (simp_all; omega) | grind), (by assumption), (by assumption), (by (rw [(by assumption : T.toL _ = insL _ (T.toL t))]; exact lo_step hMt (by assumption))), (by (rw [(by assumption : T.toL _ = insL _ (T.toL u))]; exact hi_step (by omega) hMu (by assumption))), (by (rw [(by assumption : T.toL _ = insL _ (T.toL t)), insL_len]; omega)), (by (rw [(by assumption : T.toL _ = insL _ (T.toL u)), insL_len]; omega))⟩ (by first | omega | (simp; omega) | (simp_all; omega)) ?_
        exact A.hereK [2, 2, 0, 0] (by exact ⟨rfl, rfl, rfl, rfl, rfl, rfl, rfl, trivial⟩) (by kernel_rfl)
      · skip
        have p4 := of_decide_eq_false e4
        refine A.exit ?_
        refine A.te ?_
        refine A.te ?_
        refine A.bh ?_
        refine A.tn ?_
        refine A.seq ?_
        refine A.seq ?_
        refine A.region (A.goA [.p, .p, .p] [(0, (.slice A0 l.length c0)), (1, (u_ n)), (5, (p_ bt1)), (6, (p_ bt2)), (32, (.slice A0 l.length c0)), (33, (i_ (l.length : Int))), (34, (i_ (k : Int))), (35, (b_ (decide ((k : Int) < (l.length : Int))))), (76, (.slice A0 l.length c0)), (77, (i_ (l.length : Int))), (78, (i_ 0))] [] T0 (by kernel_rfl) trivial ?_)
        refine A.tn ?_
        refine A.block ?_
        have hkl : k = l.length := by omega
        have hMt1 : MemLo l t.toL l.length := by rw [← hkl]; exact hMt
        have hMu1 : MemHi l u.toL 0 := by have h_ := hMu; rw [hkl, Nat.sub_self] at h_; exact h_
        have he0 := ord_eq hWt hWu hMt1 hMu1
        refine A.loop (fun (zz : Nat × T × T) => match zz with | (k2, t2, u2) => [(1, (u_ n)), (5, (p_ bt1)), (6, (p_ bt2)), (76, (.slice A0 l.length c0)), (77, (i_ (l.length : Int))), (78, (i_ (k2 : Int)))]) (fun (zz : Nat × T × T) => match zz with | (k2, t2, u2) => [blk bt1 [(.pointer (T.ptr t2))] 90, treeI 95 t2, blk bt2 [(.pointer (T.ptr u2))] 90, treeI 95 u2]) (fun (zz : Nat × T × T) => match zz with | (k2, t2, u2) => (k2 ≤ l.length) ∧ (WF t2) ∧ (WF u2) ∧ (u2.toL = t2.toL) ∧ (Later l t2.toL k2) ∧ (t2.toL.length ≤ 80)) (fun (zz : Nat × T × T) => match zz with | (k2, t2, u2) => l.length - k2) (0, t, u) ⟨(by first | assumption | omega | (simp_all; done) | (simp_all; omega) | grind), (by assumption), (by assumption), (by exact he0), (by exact later_0 hMt1), (by omega)⟩ ?_ ?_
        · exact A.hereK [0, 0, 0, 0] (by exact ⟨rfl, rfl, rfl, rfl, rfl, rfl, trivial⟩) (by kernel_rfl)
        · rintro ⟨k2, t2, u2⟩ ⟨hk2, hWt2, hWu2, heq, hm, hL2⟩
          have hL3 : u2.toL.length ≤ 80 := by rw [heq]; exact hL2
          refine A.norm [(1, (u_ n)), (5, (p_ bt1)), (6, (p_ bt2)), (76, (.slice A0 l.length c0)), (77, (i_ (l.length : Int))), (78, (i_ (k2 : Int)))] [blk bt1 [(.pointer (T.ptr t2))] 90, treeI 95 t2, blk bt2 [(.pointer (T.ptr u2))] 90, treeI 95 u2] (by exact ⟨rfl, rfl, rfl, rfl, rfl, rfl, trivial⟩) rfl ?_
          refine A.seq ?_
          refine A.region (A.goA [.p] [(1, (u_ n)), (5, (p_ bt1)), (6, (p_ bt2)), (76, (.slice A0 l.length c0)), (77, (i_ (l.length : Int))), (78, (i_ (k2 : Int))), (79, (b_ (decide ((k2 : Int) < (l.length : Int)))))] [] T0 (by kernel_rfl) trivial ?_)
          refine A.tn ?_
          refine A.seq ?_
          refine A.cond (E := decide ((k2 : Int) < (l.length : Int))) rfl (fun e7 => ?_) (fun e7 => ?_)
          · skip
            have p7 := of_decide_eq_true e7
            refine A.skip ?_
            refine A.tn ?_
            refine A.seq ?_
            refine A.block ?_
            refine A.seq ?_
            refine A.region (A.goP [.p, .ix] [(1, (u_ n)), (5, (p_ bt1)), (6, (p_ bt2)), (76, (.slice A0 l.length c0)), (77, (i_ (l.length : Int))), (78, (i_ (k2 : Int))), (79, (b_ (decide ((k2 : Int) < (l.length : Int))))), (80, (i_ (k2 : Int))), (81, (.pointer (some ((at0 A0).add (k2 * 6)))))] [] (fun κ => κ.ix A0 l.length (k2 : Int) ∧ True) (by kernel_rfl) ⟨(ixOf encAAct_len (by decide) (rd_old r0 (by simp [feet])) (by first | omega | (simp; done))), trivial⟩ ?_)
            obtain ⟨x9, hx9⟩ : ∃ x, (l)[k2]? = some x := ⟨_, List.getElem?_eq_getElem (by omega)⟩
            refine A.goA1 [.rd [(i_ x9.kd), (u_ x9.ak), (i_ x9.ai), (u_ x9.av), (i_ x9.aw), (u_ x9.tk)], .al, .p, .st 4] [1, 5, 6, 76, 77, 78, 79, 13, 12] (fun b10 => [(1, (u_ n)), (5, (p_ bt1)), (6, (p_ bt2)), (76, (.slice A0 l.length c0)), (77, (i_ (l.length : Int))), (78, (i_ (k2 : Int))), (79, (b_ (decide ((k2 : Int) < (l.length : Int))))), (13, (p_ b10)), (12, (i_ (k2 : Int)))]) (fun b10 => [blk bt1 [(.pointer (T.ptr t2))] 90, treeI 95 t2, blk bt2 [(.pointer (T.ptr u2))] 90, treeI 95 u2, blk b10 [(i_ x9.kd), (u_ x9.ak), (i_ x9.ai), (u_ x9.av), (i_ x9.aw), (u_ x9.tk)] 30]) (fun b10 => [b10]) (fun _ => (fun κ => κ.rd ((at0 A0).add (k2 * 6)) [(i_ x9.kd), (u_ x9.ak), (i_ x9.ai), (u_ x9.av), (i_ x9.aw), (u_ x9.tk)] ∧ True)) (fun _ => by kernel_rfl) (fun b10 => ⟨(reads_at0 (vs := [(i_ x9.kd), (u_ x9.ak), (i_ x9.ai), (u_ x9.av), (i_ x9.aw), (u_ x9.tk)]) encAAct_len (rd_old r0 (by simp [feet])) hx9 (by simp) rfl), trivial⟩) ?_
            intro b10
            refine A.tn ?_
            refine A.seq ?_
            refine A.region (A.goP [.p, .ld 4, .p, .p] [(1, (u_ n)), (5, (p_ bt1)), (6, (p_ bt2)), (76, (.slice A0 l.length c0)), (77, (i_ (l.length : Int))), (78, (i_ (k2 : Int))), (79, (b_ (decide ((k2 : Int) < (l.length : Int))))), (13, (p_ b10)), (12, (i_ (k2 : Int))), (86, (b_ (x9.kd == 0)))] [b10] T0 (by kernel_rfl) trivial ?_)
            refine A.bool (x9.kd == 0) (fun e8 => ?_) (fun e8 => ?_)
            · skip
              refine A.sub [(1, (u_ n)), (5, (p_ bt1)), (6, (p_ bt2)), (76, (.slice A0 l.length c0)), (77, (i_ (l.length : Int))), (78, (i_ (k2 : Int))), (79, (b_ (decide ((k2 : Int) < (l.length : Int))))), (13, (p_ b10)), (12, (i_ (k2 : Int))), (86, (b_ true))] (by exact ⟨rfl, rfl, rfl, rfl, rfl, rfl, rfl, rfl, rfl, (congrArg (fun z => some (Value.bool z)) e8), trivial⟩) ?_
              refine A.goP [.p, .p, .p, .ld 4, .p, .cq (.agg #[(u_ x9.ak), (i_ (k2 : Int))])] [(1, (u_ n)), (5, (p_ bt1)), (6, (p_ bt2)), (76, (.slice A0 l.length c0)), (77, (i_ (l.length : Int))), (78, (i_ (k2 : Int))), (79, (b_ (decide ((k2 : Int) < (l.length : Int))))), (13, (p_ b10)), (12, (i_ (k2 : Int))), (86, (b_ true)), (87, (p_ bt1)), (92, (.agg #[(u_ x9.ak), (i_ (k2 : Int))]))] [b10] (fun κ => κ.call 12 [(u_ x9.ak), (i_ (k2 : Int))] (.agg #[(u_ x9.ak), (i_ (k2 : Int))]) ∧ True) (by kernel_rfl) ⟨(fun ww ss => key_spec x9.ak (k2 : Int) ww), trivial⟩ ?_
              refine A.cons (A.callT (some 93) [(p_ bt1), (.agg #[(u_ x9.ak), (i_ (k2 : Int))])] [0, 0] ((fun zt11 => (i_ 0))) ((fun zt11 => WF zt11 ∧ T.toL zt11 = delL x9.ak (k2 : Int) t2.toL)) ((fun zt11 => [blk bt1 [(.pointer (T.ptr zt11))] 90, treeI 95 zt11])) (fun zt11 => [blk bt1 [(.pointer (T.ptr zt11))] 90, treeI 95 zt11, blk bt2 [(.pointer (T.ptr u2))] 90, treeI 95 u2, blk b10 [(i_ x9.kd), (u_ x9.ak), (i_ x9.ai), (u_ x9.av), (i_ x9.aw), (u_ x9.tk)] 30]) (by kernel_rfl) rfl rfl (fun ww ss hh => delete_ok bt1 t2 x9.ak (k2 : Int) (by first | assumption | omega | exact findT_ne (by assumption) (by assumption) | exact findT_eq (by assumption)) (by first | assumption | omega | exact lo_new (by assumption) | exact hi_new (by omega) (by assumption) | exact later_at hm (by assumption) | (rw [heq]; exact later_at hm (by assumption))) (by first | assumption | omega | exact findT_ne (by assumption) (by assumption) | exact findT_eq (by assumption)) ww hh) (fun _ => rfl) ?_)
              rintro zt11 hz9
              obtain ⟨hz9W, hz9L⟩ := id hz9
              refine A.goP [.p, .p, .p, .p, .p, .ld 4, .p, .cq (.agg #[(u_ x9.ak), (i_ (k2 : Int))])] [(1, (u_ n)), (5, (p_ bt1)), (6, (p_ bt2)), (76, (.slice A0 l.length c0)), (77, (i_ (l.length : Int))), (78, (i_ (k2 : Int))), (79, (b_ (decide ((k2 : Int) < (l.length : Int))))), (13, (p_ b10)), (12, (i_ (k2 : Int))), (86, (b_ true)), (95, (b_ false)), (96, (p_ bt2)), (101, (.agg #[(u_ x9.ak), (i_ (k2 : Int))]))] [b10] (fun κ => κ.call 12 [(u_ x9.ak), (i_ (k2 : Int))] (.agg #[(u_ x9.ak), (i_ (k2 : Int))]) ∧ True) (by kernel_rfl) ⟨(fun ww ss => key_spec x9.ak (k2 : Int) ww), trivial⟩ ?_
              refine A.cons (A.callT (some 102) [(p_ bt2), (.agg #[(u_ x9.ak), (i_ (k2 : Int))])] [2, 2] ((fun zt12 => (i_ 0))) ((fun zt12 => WF zt12 ∧ T.toL zt12 = delL x9.ak (k2 : Int) u2.toL)) ((fun zt12 => [blk bt2 [(.pointer (T.ptr zt12))] 90, treeI 95 zt12])) (fun zt12 => [blk bt2 [(.pointer (T.ptr zt12))] 90, treeI 95 zt12, blk bt1 [(.pointer (T.ptr zt11))] 90, treeI 95 zt11, blk b10 [(i_ x9.kd), (u_ x9.ak), (i_ x9.ai), (u_ x9.av), (i_ x9.aw), (u_ x9.tk)] 30]) (by kernel_rfl) rfl rfl (fun ww ss hh => delete_ok bt2 u2 x9.ak (k2 : Int) (by first | assumption | omega | exact findT_ne (by assumption) (by assumption) | exact findT_eq (by assumption)) (by first | assumption | omega | exact lo_new (by assumption) | exact hi_new (by omega) (by assumption) | exact later_at hm (by assumption) | (rw [heq]; exact later_at hm (by assumption))) (by first | assumption | omega | exact findT_ne (by assumption) (by assumption) | exact findT_eq (by assumption)) ww hh) (fun _ => rfl) ?_)
              rintro zt12 hz10
              obtain ⟨hz10W, hz10L⟩ := id hz10
              refine A.goA [.p, .p, .p] [(1, (u_ n)), (5, (p_ bt1)), (6, (p_ bt2)), (76, (.slice A0 l.length c0)), (77, (i_ (l.length : Int))), (78, (i_ (k2 : Int))), (79, (b_ (decide ((k2 : Int) < (l.length : Int))))), (13, (p_ b10)), (12, (i_ (k2 : Int))), (105, (b_ false))] [] T0 (by kernel_rfl) trivial ?_
              refine A.tn ?_
              refine A.cond_f rfl ?_
              refine A.skip ?_
              refine A.bn ?_
              refine A.tn ?_
              refine A.region (A.goA [.w ((k2 : Int) + 1), .p] [(1, (u_ n)), (5, (p_ bt1)), (6, (p_ bt2)), (76, (.slice A0 l.length c0)), (77, (i_ (l.length : Int))), (78, (i_ ((k2 : Int) + 1))), (79, (b_ (decide ((k2 : Int) < (l.length : Int))))), (13, (p_ b10)), (12, (i_ (k2 : Int))), (105, (b_ false))] [] (fun κ => (IntKind.i64.wrap ((k2 : Int) + 1) = ((k2 : Int) + 1)) ∧ True) (by kernel_rfl) ⟨(wrap_i64 (e := (k2 : Int) + 1) (by constructor <;> omega)), trivial⟩ ?_)
              refine A.tn ?_
              refine A.next (k2 + 1, zt11, zt12) ⟨(by first | assumption | omega | (simp_all; done) | (simp_all; omega) | grind), (by assumption), (by assumption), (by first | assumption | simp_all), (by first | exact later_skip hm | (rw [(by assumption : T.toL _ = delL _ _ (T.toL t2))]; exact later_del hm)), (by first | assumption | (rw [(by assumption : T.toL _ = delL _ _ (T.toL t2))]; exact Nat.le_trans (delL_len _) hL2))⟩ (by first | omega | (simp; omega) | (simp_all; omega)) ?_
              exact A.hereK [2, 2, 0, 0] (by exact ⟨rfl, rfl, rfl, rfl, rfl, rfl, trivial⟩) (by kernel_rfl)
            · skip
              refine A.sub [(1, (u_ n)), (5, (p_ bt1)), (6, (p_ bt2)), (76, (.slice A0 l.length c0)), (77, (i_ (l.length : Int))), (78, (i_ (k2 : Int))), (79, (b_ (decide ((k2 : Int) < (l.length : Int))))), (13, (p_ b10)), (12, (i_ (k2 : Int))), (86, (b_ false))] (by exact ⟨rfl, rfl, rfl, rfl, rfl, rfl, rfl, rfl, rfl, (congrArg (fun z => some (Value.bool z)) e8), trivial⟩) ?_
              refine A.goA [.sk, .sk, .sk, .sk, .sk, .sk, .sk, .sk, .sk, .sk, .sk, .sk, .sk, .sk, .sk, .sk, .sk, .sk, .p] [(1, (u_ n)), (5, (p_ bt1)), (6, (p_ bt2)), (76, (.slice A0 l.length c0)), (77, (i_ (l.length : Int))), (78, (i_ (k2 : Int))), (79, (b_ (decide ((k2 : Int) < (l.length : Int))))), (13, (p_ b10)), (12, (i_ (k2 : Int))), (105, (b_ false))] [] T0 (by kernel_rfl) trivial ?_
              refine A.tn ?_
              refine A.cond_f rfl ?_
              refine A.skip ?_
              refine A.bn ?_
              refine A.tn ?_
              refine A.region (A.goA [.w ((k2 : Int) + 1), .p] [(1, (u_ n)), (5, (p_ bt1)), (6, (p_ bt2)), (76, (.slice A0 l.length c0)), (77, (i_ (l.length : Int))), (78, (i_ ((k2 : Int) + 1))), (79, (b_ (decide ((k2 : Int) < (l.length : Int))))), (13, (p_ b10)), (12, (i_ (k2 : Int))), (105, (b_ false))] [] (fun κ => (IntKind.i64.wrap ((k2 : Int) + 1) = ((k2 : Int) + 1)) ∧ True) (by kernel_rfl) ⟨(wrap_i64 (e := (k2 : Int) + 1) (by constructor <;> omega)), trivial⟩ ?_)
              refine A.tn ?_
              refine A.next (k2 + 1, t2, u2) ⟨(by first | assumption | omega | (simp_all; done) | (simp_all; omega) | grind), (by assumption), (by assumption), (by first | assumption | simp_all), (by first | exact later_skip hm | (rw [(by assumption : T.toL _ = delL _ _ (T.toL t2))]; exact later_del hm)), (by first | assumption | (rw [(by assumption : T.toL _ = delL _ _ (T.toL t2))]; exact Nat.le_trans (delL_len _) hL2))⟩ (by first | omega | (simp; omega) | (simp_all; omega)) ?_
              exact A.hereK [0, 0, 0, 0] (by exact ⟨rfl, rfl, rfl, rfl, rfl, rfl, trivial⟩) (by kernel_rfl)
          · skip
            have p7 := of_decide_eq_false e7
            refine A.exit ?_
            refine A.te ?_
            refine A.te ?_
            refine A.bh ?_
            refine A.tn ?_
            refine A.seq ?_
            refine A.region (A.goA1 [.p, .p, .cq (.tuple #[(.agg #[(u_ (((belowL n t2.toL).getD default).ka)), (i_ (((belowL n t2.toL).getD default).ki)), (u_ (((belowL n t2.toL).getD default).va)), (i_ (((belowL n t2.toL).getD default).vi))]), (b_ ((belowL n t2.toL).isSome))]), .p, .p, .p, .al, .st 4, .p] [1, 5, 6, 76, 77, 78, 79, 14, 15] (fun b13 => [(1, (u_ n)), (5, (p_ bt1)), (6, (p_ bt2)), (76, (.slice A0 l.length c0)), (77, (i_ (l.length : Int))), (78, (i_ (k2 : Int))), (79, (b_ (decide ((k2 : Int) < (l.length : Int))))), (14, (p_ b13)), (15, (b_ ((belowL n t2.toL).isSome)))]) (fun b13 => [blk bt1 [(.pointer (T.ptr t2))] 90, treeI 95 t2, blk bt2 [(.pointer (T.ptr u2))] 90, treeI 95 u2, blk b13 [(u_ (((belowL n t2.toL).getD default).ka)), (i_ (((belowL n t2.toL).getD default).ki)), (u_ (((belowL n t2.toL).getD default).va)), (i_ (((belowL n t2.toL).getD default).vi))] 36]) (fun b13 => [b13]) (fun _ => (fun κ => κ.call 14 [(p_ bt1), (u_ n)] (.tuple #[(.agg #[(u_ (((belowL n t2.toL).getD default).ka)), (i_ (((belowL n t2.toL).getD default).ki)), (u_ (((belowL n t2.toL).getD default).va)), (i_ (((belowL n t2.toL).getD default).vi))]), (b_ ((belowL n t2.toL).isSome))]) ∧ True)) (fun _ => by kernel_rfl) (fun b13 => ⟨(fun ww ss => below_spec bt1 t2 n (by first | assumption | omega | exact findT_ne (by assumption) (by assumption) | exact findT_eq (by assumption)) ww (ss.mem (i := 0) rfl) (ss.mem (i := 1) rfl)), trivial⟩) ?_)
            intro b13
            refine A.tn ?_
            refine A.seq ?_
            refine A.region (A.goA1 [.p, .p, .cq (.tuple #[(.agg #[(u_ (((belowL n u2.toL).getD default).ka)), (i_ (((belowL n u2.toL).getD default).ki)), (u_ (((belowL n u2.toL).getD default).va)), (i_ (((belowL n u2.toL).getD default).vi))]), (b_ ((belowL n u2.toL).isSome))]), .p, .p, .p, .al, .st 5, .p] [1, 5, 6, 76, 77, 78, 79, 14, 15, 16, 17] (fun b14 => [(1, (u_ n)), (5, (p_ bt1)), (6, (p_ bt2)), (76, (.slice A0 l.length c0)), (77, (i_ (l.length : Int))), (78, (i_ (k2 : Int))), (79, (b_ (decide ((k2 : Int) < (l.length : Int))))), (14, (p_ b13)), (15, (b_ ((belowL n t2.toL).isSome))), (16, (p_ b14)), (17, (b_ ((belowL n u2.toL).isSome)))]) (fun b14 => [blk bt1 [(.pointer (T.ptr t2))] 90, treeI 95 t2, blk bt2 [(.pointer (T.ptr u2))] 90, treeI 95 u2, blk b13 [(u_ (((belowL n t2.toL).getD default).ka)), (i_ (((belowL n t2.toL).getD default).ki)), (u_ (((belowL n t2.toL).getD default).va)), (i_ (((belowL n t2.toL).getD default).vi))] 36, blk b14 [(u_ (((belowL n u2.toL).getD default).ka)), (i_ (((belowL n u2.toL).getD default).ki)), (u_ (((belowL n u2.toL).getD default).va)), (i_ (((belowL n u2.toL).getD default).vi))] 36]) (fun b14 => [b14]) (fun _ => (fun κ => κ.call 14 [(p_ bt2), (u_ n)] (.tuple #[(.agg #[(u_ (((belowL n u2.toL).getD default).ka)), (i_ (((belowL n u2.toL).getD default).ki)), (u_ (((belowL n u2.toL).getD default).va)), (i_ (((belowL n u2.toL).getD default).vi))]), (b_ ((belowL n u2.toL).isSome))]) ∧ True)) (fun _ => by kernel_rfl) (fun b14 => ⟨(fun ww ss => below_spec bt2 u2 n (by first | assumption | omega | exact findT_ne (by assumption) (by assumption) | exact findT_eq (by assumption)) ww (ss.mem (i := 2) rfl) (ss.mem (i := 3) rfl)), trivial⟩) ?_)
            intro b14
            refine A.tn ?_
            refine A.seq ?_
            refine A.region (A.goA1 [.p, .p, .cq (.tuple #[(.agg #[(u_ (((firstL n t2.toL).getD default).ka)), (i_ (((firstL n t2.toL).getD default).ki)), (u_ (((firstL n t2.toL).getD default).va)), (i_ (((firstL n t2.toL).getD default).vi))]), (b_ ((firstL n t2.toL).isSome))]), .p, .p, .p, .al, .st 6, .p] [1, 5, 6, 76, 77, 78, 79, 14, 15, 16, 17, 18, 19] (fun b15 => [(1, (u_ n)), (5, (p_ bt1)), (6, (p_ bt2)), (76, (.slice A0 l.length c0)), (77, (i_ (l.length : Int))), (78, (i_ (k2 : Int))), (79, (b_ (decide ((k2 : Int) < (l.length : Int))))), (14, (p_ b13)), (15, (b_ ((belowL n t2.toL).isSome))), (16, (p_ b14)), (17, (b_ ((belowL n u2.toL).isSome))), (18, (p_ b15)), (19, (b_ ((firstL n t2.toL).isSome)))]) (fun b15 => [blk bt1 [(.pointer (T.ptr t2))] 90, treeI 95 t2, blk bt2 [(.pointer (T.ptr u2))] 90, treeI 95 u2, blk b13 [(u_ (((belowL n t2.toL).getD default).ka)), (i_ (((belowL n t2.toL).getD default).ki)), (u_ (((belowL n t2.toL).getD default).va)), (i_ (((belowL n t2.toL).getD default).vi))] 36, blk b14 [(u_ (((belowL n u2.toL).getD default).ka)), (i_ (((belowL n u2.toL).getD default).ki)), (u_ (((belowL n u2.toL).getD default).va)), (i_ (((belowL n u2.toL).getD default).vi))] 36, blk b15 [(u_ (((firstL n t2.toL).getD default).ka)), (i_ (((firstL n t2.toL).getD default).ki)), (u_ (((firstL n t2.toL).getD default).va)), (i_ (((firstL n t2.toL).getD default).vi))] 36]) (fun b15 => [b15]) (fun _ => (fun κ => κ.call 15 [(p_ bt1), (u_ n)] (.tuple #[(.agg #[(u_ (((firstL n t2.toL).getD default).ka)), (i_ (((firstL n t2.toL).getD default).ki)), (u_ (((firstL n t2.toL).getD default).va)), (i_ (((firstL n t2.toL).getD default).vi))]), (b_ ((firstL n t2.toL).isSome))]) ∧ True)) (fun _ => by kernel_rfl) (fun b15 => ⟨(fun ww ss => first_spec bt1 t2 n (by first | assumption | omega | exact findT_ne (by assumption) (by assumption) | exact findT_eq (by assumption)) ww (ss.mem (i := 0) rfl) (ss.mem (i := 1) rfl)), trivial⟩) ?_)
            intro b15
            refine A.tn ?_
            refine A.seq ?_
            refine A.region (A.goA1 [.p, .p, .cq (.tuple #[(.agg #[(u_ (((firstL n u2.toL).getD default).ka)), (i_ (((firstL n u2.toL).getD default).ki)), (u_ (((firstL n u2.toL).getD default).va)), (i_ (((firstL n u2.toL).getD default).vi))]), (b_ ((firstL n u2.toL).isSome))]), .p, .p, .p, .al, .st 7, .p] [1, 5, 6, 76, 77, 78, 79, 14, 15, 16, 17, 18, 19, 20, 21] (fun b16 => [(1, (u_ n)), (5, (p_ bt1)), (6, (p_ bt2)), (76, (.slice A0 l.length c0)), (77, (i_ (l.length : Int))), (78, (i_ (k2 : Int))), (79, (b_ (decide ((k2 : Int) < (l.length : Int))))), (14, (p_ b13)), (15, (b_ ((belowL n t2.toL).isSome))), (16, (p_ b14)), (17, (b_ ((belowL n u2.toL).isSome))), (18, (p_ b15)), (19, (b_ ((firstL n t2.toL).isSome))), (20, (p_ b16)), (21, (b_ ((firstL n u2.toL).isSome)))]) (fun b16 => [blk bt1 [(.pointer (T.ptr t2))] 90, treeI 95 t2, blk bt2 [(.pointer (T.ptr u2))] 90, treeI 95 u2, blk b13 [(u_ (((belowL n t2.toL).getD default).ka)), (i_ (((belowL n t2.toL).getD default).ki)), (u_ (((belowL n t2.toL).getD default).va)), (i_ (((belowL n t2.toL).getD default).vi))] 36, blk b14 [(u_ (((belowL n u2.toL).getD default).ka)), (i_ (((belowL n u2.toL).getD default).ki)), (u_ (((belowL n u2.toL).getD default).va)), (i_ (((belowL n u2.toL).getD default).vi))] 36, blk b15 [(u_ (((firstL n t2.toL).getD default).ka)), (i_ (((firstL n t2.toL).getD default).ki)), (u_ (((firstL n t2.toL).getD default).va)), (i_ (((firstL n t2.toL).getD default).vi))] 36, blk b16 [(u_ (((firstL n u2.toL).getD default).ka)), (i_ (((firstL n u2.toL).getD default).ki)), (u_ (((firstL n u2.toL).getD default).va)), (i_ (((firstL n u2.toL).getD default).vi))] 36]) (fun b16 => [b16]) (fun _ => (fun κ => κ.call 15 [(p_ bt2), (u_ n)] (.tuple #[(.agg #[(u_ (((firstL n u2.toL).getD default).ka)), (i_ (((firstL n u2.toL).getD default).ki)), (u_ (((firstL n u2.toL).getD default).va)), (i_ (((firstL n u2.toL).getD default).vi))]), (b_ ((firstL n u2.toL).isSome))]) ∧ True)) (fun _ => by kernel_rfl) (fun b16 => ⟨(fun ww ss => first_spec bt2 u2 n (by first | assumption | omega | exact findT_ne (by assumption) (by assumption) | exact findT_eq (by assumption)) ww (ss.mem (i := 2) rfl) (ss.mem (i := 3) rfl)), trivial⟩) ?_)
            intro b16
            refine A.tn ?_
            refine A.seq ?_
            refine A.region (A.goP [.p] [(1, (u_ n)), (5, (p_ bt1)), (6, (p_ bt2)), (76, (.slice A0 l.length c0)), (77, (i_ (l.length : Int))), (78, (i_ (k2 : Int))), (79, (b_ (decide ((k2 : Int) < (l.length : Int))))), (14, (p_ b13)), (15, (b_ ((belowL n t2.toL).isSome))), (16, (p_ b14)), (17, (b_ ((belowL n u2.toL).isSome))), (18, (p_ b15)), (19, (b_ ((firstL n t2.toL).isSome))), (20, (p_ b16)), (21, (b_ ((firstL n u2.toL).isSome))), (131, (p_ bt1))] [] T0 (by kernel_rfl) trivial ?_)
            refine A.cons (A.callT (some 132) [(p_ bt1)] [0, 0] ((fun zz => match zz with | (Ao'17, c'18) => (.slice Ao'17 ((T.toL t2).length) c'18))) ((fun zz => match zz with | (Ao'17, c'18) => True)) ((fun zz => match zz with | (Ao'17, c'18) => [blk bt1 [(.pointer (T.ptr t2))] 90, treeI 95 t2, sl Ao'17 ((T.toL t2).length) c'18 36 4 (V.flat encIt (T.toL t2))])) (fun zz => match zz with | (Ao'17, c'18) => [blk bt1 [(.pointer (T.ptr t2))] 90, treeI 95 t2, sl Ao'17 ((T.toL t2).length) c'18 36 4 (V.flat encIt (T.toL t2)), blk bt2 [(.pointer (T.ptr u2))] 90, treeI 95 u2, blk b13 [(u_ (((belowL n t2.toL).getD default).ka)), (i_ (((belowL n t2.toL).getD default).ki)), (u_ (((belowL n t2.toL).getD default).va)), (i_ (((belowL n t2.toL).getD default).vi))] 36, blk b14 [(u_ (((belowL n u2.toL).getD default).ka)), (i_ (((belowL n u2.toL).getD default).ki)), (u_ (((belowL n u2.toL).getD default).va)), (i_ (((belowL n u2.toL).getD default).vi))] 36, blk b15 [(u_ (((firstL n t2.toL).getD default).ka)), (i_ (((firstL n t2.toL).getD default).ki)), (u_ (((firstL n t2.toL).getD default).va)), (i_ (((firstL n t2.toL).getD default).vi))] 36, blk b16 [(u_ (((firstL n u2.toL).getD default).ka)), (i_ (((firstL n u2.toL).getD default).ki)), (u_ (((firstL n u2.toL).getD default).va)), (i_ (((firstL n u2.toL).getD default).vi))] 36]) (by kernel_rfl) rfl rfl (fun ww ss hh => items_spec bt1 t2 (by first | assumption | omega | exact findT_ne (by assumption) (by assumption) | exact findT_eq (by assumption)) ww hh) (fun _ => rfl) ?_)
            rintro ⟨Ao'17, c'18⟩ -
            refine A.goA [.p] [(1, (u_ n)), (5, (p_ bt1)), (6, (p_ bt2)), (76, (.slice A0 l.length c0)), (77, (i_ (l.length : Int))), (78, (i_ (k2 : Int))), (79, (b_ (decide ((k2 : Int) < (l.length : Int))))), (14, (p_ b13)), (15, (b_ ((belowL n t2.toL).isSome))), (16, (p_ b14)), (17, (b_ ((belowL n u2.toL).isSome))), (18, (p_ b15)), (19, (b_ ((firstL n t2.toL).isSome))), (20, (p_ b16)), (21, (b_ ((firstL n u2.toL).isSome))), (22, (.slice Ao'17 ((T.toL t2).length) c'18))] [] T0 (by kernel_rfl) trivial ?_
            refine A.tn ?_
            refine A.seq ?_
            refine A.region (A.goP [.p] [(1, (u_ n)), (5, (p_ bt1)), (6, (p_ bt2)), (76, (.slice A0 l.length c0)), (77, (i_ (l.length : Int))), (78, (i_ (k2 : Int))), (79, (b_ (decide ((k2 : Int) < (l.length : Int))))), (14, (p_ b13)), (15, (b_ ((belowL n t2.toL).isSome))), (16, (p_ b14)), (17, (b_ ((belowL n u2.toL).isSome))), (18, (p_ b15)), (19, (b_ ((firstL n t2.toL).isSome))), (20, (p_ b16)), (21, (b_ ((firstL n u2.toL).isSome))), (22, (.slice Ao'17 ((T.toL t2).length) c'18)), (133, (p_ bt2))] [] T0 (by kernel_rfl) trivial ?_)
            refine A.cons (A.callT (some 134) [(p_ bt2)] [3, 3] ((fun zz => match zz with | (Ao'20, c'21) => (.slice Ao'20 ((T.toL u2).length) c'21))) ((fun zz => match zz with | (Ao'20, c'21) => True)) ((fun zz => match zz with | (Ao'20, c'21) => [blk bt2 [(.pointer (T.ptr u2))] 90, treeI 95 u2, sl Ao'20 ((T.toL u2).length) c'21 36 4 (V.flat encIt (T.toL u2))])) (fun zz => match zz with | (Ao'20, c'21) => [blk bt2 [(.pointer (T.ptr u2))] 90, treeI 95 u2, sl Ao'20 ((T.toL u2).length) c'21 36 4 (V.flat encIt (T.toL u2)), blk bt1 [(.pointer (T.ptr t2))] 90, treeI 95 t2, sl Ao'17 ((T.toL t2).length) c'18 36 4 (V.flat encIt (T.toL t2)), blk b13 [(u_ (((belowL n t2.toL).getD default).ka)), (i_ (((belowL n t2.toL).getD default).ki)), (u_ (((belowL n t2.toL).getD default).va)), (i_ (((belowL n t2.toL).getD default).vi))] 36, blk b14 [(u_ (((belowL n u2.toL).getD default).ka)), (i_ (((belowL n u2.toL).getD default).ki)), (u_ (((belowL n u2.toL).getD default).va)), (i_ (((belowL n u2.toL).getD default).vi))] 36, blk b15 [(u_ (((firstL n t2.toL).getD default).ka)), (i_ (((firstL n t2.toL).getD default).ki)), (u_ (((firstL n t2.toL).getD default).va)), (i_ (((firstL n t2.toL).getD default).vi))] 36, blk b16 [(u_ (((firstL n u2.toL).getD default).ka)), (i_ (((firstL n u2.toL).getD default).ki)), (u_ (((firstL n u2.toL).getD default).va)), (i_ (((firstL n u2.toL).getD default).vi))] 36]) (by kernel_rfl) rfl rfl (fun ww ss hh => items_spec bt2 u2 (by first | assumption | omega | exact findT_ne (by assumption) (by assumption) | exact findT_eq (by assumption)) ww hh) (fun _ => rfl) ?_)
            rintro ⟨Ao'20, c'21⟩ -
            refine A.goA [.p] [(1, (u_ n)), (5, (p_ bt1)), (6, (p_ bt2)), (76, (.slice A0 l.length c0)), (77, (i_ (l.length : Int))), (78, (i_ (k2 : Int))), (79, (b_ (decide ((k2 : Int) < (l.length : Int))))), (14, (p_ b13)), (15, (b_ ((belowL n t2.toL).isSome))), (16, (p_ b14)), (17, (b_ ((belowL n u2.toL).isSome))), (18, (p_ b15)), (19, (b_ ((firstL n t2.toL).isSome))), (20, (p_ b16)), (21, (b_ ((firstL n u2.toL).isSome))), (22, (.slice Ao'17 ((T.toL t2).length) c'18)), (23, (.slice Ao'20 ((T.toL u2).length) c'21))] [] T0 (by kernel_rfl) trivial ?_
            refine A.tn ?_
            refine A.seq ?_
            refine A.seq ?_
            refine A.region (A.goA [.p, .p, .p, .p, .p] [(1, (u_ n)), (5, (p_ bt1)), (6, (p_ bt2)), (76, (.slice A0 l.length c0)), (77, (i_ (l.length : Int))), (78, (i_ (k2 : Int))), (79, (b_ (decide ((k2 : Int) < (l.length : Int))))), (14, (p_ b13)), (15, (b_ ((belowL n t2.toL).isSome))), (16, (p_ b14)), (17, (b_ ((belowL n u2.toL).isSome))), (18, (p_ b15)), (19, (b_ ((firstL n t2.toL).isSome))), (20, (p_ b16)), (21, (b_ ((firstL n u2.toL).isSome))), (22, (.slice Ao'17 ((T.toL t2).length) c'18)), (23, (.slice Ao'20 ((T.toL u2).length) c'21)), (139, (b_ (((T.toL t2).length : Int) != ((T.toL u2).length : Int))))] [] T0 (by kernel_rfl) trivial ?_)
            refine A.tn ?_
            refine A.cond (E := ((T.toL t2).length : Int) != ((T.toL u2).length : Int)) rfl (fun e13 => ?_) (fun e13 => ?_)
            · exact absurd e13 (by simp_all)
            · skip
              have p13 := e13; try simp only [decide_eq_true_eq, decide_eq_false_iff_not, beq_iff_eq, beq_eq_false_iff_ne, bne_iff_ne, bne_eq_false_iff_eq, ne_eq, Bool.and_eq_true, Bool.or_eq_true, Bool.or_eq_false_iff, Bool.not_eq_true', Bool.not_eq_false', Int.not_lt, Int.not_le, gt_iff_lt, ge_iff_le, Classical.not_not] at p13
              refine A.skip ?_
              refine A.tn ?_
              refine A.seq ?_
              refine A.seq ?_
              refine A.region (A.goA [.p, .p, .p] [(1, (u_ n)), (5, (p_ bt1)), (6, (p_ bt2)), (76, (.slice A0 l.length c0)), (77, (i_ (l.length : Int))), (78, (i_ (k2 : Int))), (79, (b_ (decide ((k2 : Int) < (l.length : Int))))), (14, (p_ b13)), (15, (b_ ((belowL n t2.toL).isSome))), (16, (p_ b14)), (17, (b_ ((belowL n u2.toL).isSome))), (18, (p_ b15)), (19, (b_ ((firstL n t2.toL).isSome))), (20, (p_ b16)), (21, (b_ ((firstL n u2.toL).isSome))), (22, (.slice Ao'17 ((T.toL t2).length) c'18)), (23, (.slice Ao'20 ((T.toL u2).length) c'21)), (139, (b_ (((T.toL t2).length : Int) != ((T.toL u2).length : Int)))), (140, (.slice Ao'17 ((T.toL t2).length) c'18)), (141, (i_ ((T.toL t2).length : Int))), (142, (i_ 0))] [] T0 (by kernel_rfl) trivial ?_)
              refine A.tn ?_
              refine A.block ?_
              refine A.loop (fun (zz : Nat) => match zz with | k3 => [(14, (p_ b13)), (15, (b_ ((belowL n t2.toL).isSome))), (16, (p_ b14)), (17, (b_ ((belowL n u2.toL).isSome))), (18, (p_ b15)), (19, (b_ ((firstL n t2.toL).isSome))), (20, (p_ b16)), (21, (b_ ((firstL n u2.toL).isSome))), (23, (.slice Ao'20 ((T.toL u2).length) c'21)), (140, (.slice Ao'17 ((T.toL t2).length) c'18)), (141, (i_ ((T.toL t2).length : Int))), (142, (i_ (k3 : Int)))]) (fun (zz : Nat) => match zz with | k3 => [blk bt2 [(.pointer (T.ptr u2))] 90, treeI 95 u2, sl Ao'20 ((T.toL u2).length) c'21 36 4 (V.flat encIt (T.toL u2)), blk bt1 [(.pointer (T.ptr t2))] 90, treeI 95 t2, sl Ao'17 ((T.toL t2).length) c'18 36 4 (V.flat encIt (T.toL t2)), blk b13 [(u_ (((belowL n t2.toL).getD default).ka)), (i_ (((belowL n t2.toL).getD default).ki)), (u_ (((belowL n t2.toL).getD default).va)), (i_ (((belowL n t2.toL).getD default).vi))] 36, blk b14 [(u_ (((belowL n u2.toL).getD default).ka)), (i_ (((belowL n u2.toL).getD default).ki)), (u_ (((belowL n u2.toL).getD default).va)), (i_ (((belowL n u2.toL).getD default).vi))] 36, blk b15 [(u_ (((firstL n t2.toL).getD default).ka)), (i_ (((firstL n t2.toL).getD default).ki)), (u_ (((firstL n t2.toL).getD default).va)), (i_ (((firstL n t2.toL).getD default).vi))] 36, blk b16 [(u_ (((firstL n u2.toL).getD default).ka)), (i_ (((firstL n u2.toL).getD default).ki)), (u_ (((firstL n u2.toL).getD default).va)), (i_ (((firstL n u2.toL).getD default).vi))] 36]) (fun (zz : Nat) => match zz with | k3 => (k3 ≤ (T.toL t2).length)) (fun (zz : Nat) => match zz with | k3 => (T.toL t2).length - k3) (0 : Nat) (by first | assumption | omega | (simp_all; done) | (simp_all; omega) | grind) ?_ ?_
              · exact A.hereK [0, 0, 0, 0, 0, 0, 0, 0, 0, 0] (by exact ⟨rfl, rfl, rfl, rfl, rfl, rfl, rfl, rfl, rfl, rfl, rfl, rfl, trivial⟩) (by kernel_rfl)
              · rintro k3 hk3
                have hk3 : k3 ≤ (T.toL t2).length := hk3
                refine A.norm [(14, (p_ b13)), (15, (b_ ((belowL n t2.toL).isSome))), (16, (p_ b14)), (17, (b_ ((belowL n u2.toL).isSome))), (18, (p_ b15)), (19, (b_ ((firstL n t2.toL).isSome))), (20, (p_ b16)), (21, (b_ ((firstL n u2.toL).isSome))), (23, (.slice Ao'20 ((T.toL u2).length) c'21)), (140, (.slice Ao'17 ((T.toL t2).length) c'18)), (141, (i_ ((T.toL t2).length : Int))), (142, (i_ (k3 : Int)))] [blk bt2 [(.pointer (T.ptr u2))] 90, treeI 95 u2, sl Ao'20 ((T.toL u2).length) c'21 36 4 (V.flat encIt (T.toL u2)), blk bt1 [(.pointer (T.ptr t2))] 90, treeI 95 t2, sl Ao'17 ((T.toL t2).length) c'18 36 4 (V.flat encIt (T.toL t2)), blk b13 [(u_ (((belowL n t2.toL).getD default).ka)), (i_ (((belowL n t2.toL).getD default).ki)), (u_ (((belowL n t2.toL).getD default).va)), (i_ (((belowL n t2.toL).getD default).vi))] 36, blk b14 [(u_ (((belowL n u2.toL).getD default).ka)), (i_ (((belowL n u2.toL).getD default).ki)), (u_ (((belowL n u2.toL).getD default).va)), (i_ (((belowL n u2.toL).getD default).vi))] 36, blk b15 [(u_ (((firstL n t2.toL).getD default).ka)), (i_ (((firstL n t2.toL).getD default).ki)), (u_ (((firstL n t2.toL).getD default).va)), (i_ (((firstL n t2.toL).getD default).vi))] 36, blk b16 [(u_ (((firstL n u2.toL).getD default).ka)), (i_ (((firstL n u2.toL).getD default).ki)), (u_ (((firstL n u2.toL).getD default).va)), (i_ (((firstL n u2.toL).getD default).vi))] 36] (by exact ⟨rfl, rfl, rfl, rfl, rfl, rfl, rfl, rfl, rfl, rfl, rfl, rfl, trivial⟩) rfl ?_
                refine A.seq ?_
                refine A.region (A.goA [.p] [(14, (p_ b13)), (15, (b_ ((belowL n t2.toL).isSome))), (16, (p_ b14)), (17, (b_ ((belowL n u2.toL).isSome))), (18, (p_ b15)), (19, (b_ ((firstL n t2.toL).isSome))), (20, (p_ b16)), (21, (b_ ((firstL n u2.toL).isSome))), (23, (.slice Ao'20 ((T.toL u2).length) c'21)), (140, (.slice Ao'17 ((T.toL t2).length) c'18)), (141, (i_ ((T.toL t2).length : Int))), (142, (i_ (k3 : Int))), (143, (b_ (decide ((k3 : Int) < ((T.toL t2).length : Int)))))] [] T0 (by kernel_rfl) trivial ?_)
                refine A.tn ?_
                refine A.seq ?_
                refine A.cond (E := decide ((k3 : Int) < ((T.toL t2).length : Int))) rfl (fun e14 => ?_) (fun e14 => ?_)
                · skip
                  have p14 := of_decide_eq_true e14
                  refine A.skip ?_
                  refine A.tn ?_
                  refine A.seq ?_
                  refine A.block ?_
                  refine A.seq ?_
                  refine A.region (A.goP [.p, .ix] [(14, (p_ b13)), (15, (b_ ((belowL n t2.toL).isSome))), (16, (p_ b14)), (17, (b_ ((belowL n u2.toL).isSome))), (18, (p_ b15)), (19, (b_ ((firstL n t2.toL).isSome))), (20, (p_ b16)), (21, (b_ ((firstL n u2.toL).isSome))), (23, (.slice Ao'20 ((T.toL u2).length) c'21)), (140, (.slice Ao'17 ((T.toL t2).length) c'18)), (141, (i_ ((T.toL t2).length : Int))), (142, (i_ (k3 : Int))), (143, (b_ (decide ((k3 : Int) < ((T.toL t2).length : Int))))), (144, (i_ (k3 : Int))), (145, (.pointer (some ((at0 Ao'17).add (k3 * 4)))))] [] (fun κ => κ.ix Ao'17 ((T.toL t2).length) (k3 : Int) ∧ True) (by kernel_rfl) ⟨(ixOf encIt_len (by decide) (rd_sl (i := 5) rfl) (by first | omega | (simp; done))), trivial⟩ ?_)
                  obtain ⟨x23, hx23⟩ : ∃ x, ((T.toL t2))[k3]? = some x := ⟨_, List.getElem?_eq_getElem (by omega)⟩
                  refine A.goA1 [.rd [(u_ x23.ka), (i_ x23.ki), (u_ x23.va), (i_ x23.vi)], .al, .p, .st 10] [14, 15, 16, 17, 18, 19, 20, 21, 23, 140, 141, 142, 143, 25, 24] (fun b24 => [(14, (p_ b13)), (15, (b_ ((belowL n t2.toL).isSome))), (16, (p_ b14)), (17, (b_ ((belowL n u2.toL).isSome))), (18, (p_ b15)), (19, (b_ ((firstL n t2.toL).isSome))), (20, (p_ b16)), (21, (b_ ((firstL n u2.toL).isSome))), (23, (.slice Ao'20 ((T.toL u2).length) c'21)), (140, (.slice Ao'17 ((T.toL t2).length) c'18)), (141, (i_ ((T.toL t2).length : Int))), (142, (i_ (k3 : Int))), (143, (b_ (decide ((k3 : Int) < ((T.toL t2).length : Int))))), (25, (p_ b24)), (24, (i_ (k3 : Int)))]) (fun b24 => [blk bt2 [(.pointer (T.ptr u2))] 90, treeI 95 u2, sl Ao'20 ((T.toL u2).length) c'21 36 4 (V.flat encIt (T.toL u2)), blk bt1 [(.pointer (T.ptr t2))] 90, treeI 95 t2, sl Ao'17 ((T.toL t2).length) c'18 36 4 (V.flat encIt (T.toL t2)), blk b13 [(u_ (((belowL n t2.toL).getD default).ka)), (i_ (((belowL n t2.toL).getD default).ki)), (u_ (((belowL n t2.toL).getD default).va)), (i_ (((belowL n t2.toL).getD default).vi))] 36, blk b14 [(u_ (((belowL n u2.toL).getD default).ka)), (i_ (((belowL n u2.toL).getD default).ki)), (u_ (((belowL n u2.toL).getD default).va)), (i_ (((belowL n u2.toL).getD default).vi))] 36, blk b15 [(u_ (((firstL n t2.toL).getD default).ka)), (i_ (((firstL n t2.toL).getD default).ki)), (u_ (((firstL n t2.toL).getD default).va)), (i_ (((firstL n t2.toL).getD default).vi))] 36, blk b16 [(u_ (((firstL n u2.toL).getD default).ka)), (i_ (((firstL n u2.toL).getD default).ki)), (u_ (((firstL n u2.toL).getD default).va)), (i_ (((firstL n u2.toL).getD default).vi))] 36, blk b24 [(u_ x23.ka), (i_ x23.ki), (u_ x23.va), (i_ x23.vi)] 36]) (fun b24 => [b24]) (fun _ => (fun κ => κ.rd ((at0 Ao'17).add (k3 * 4)) [(u_ x23.ka), (i_ x23.ki), (u_ x23.va), (i_ x23.vi)] ∧ True)) (fun _ => by kernel_rfl) (fun b24 => ⟨(reads_at0 (vs := [(u_ x23.ka), (i_ x23.ki), (u_ x23.va), (i_ x23.vi)]) encIt_len (rd_sl (i := 5) rfl) hx23 (by simp) rfl), trivial⟩) ?_
                  intro b24
                  refine A.tn ?_
                  refine A.seq ?_
                  obtain ⟨x25, hx25⟩ : ∃ x, ((T.toL u2))[k3]? = some x := ⟨_, List.getElem?_eq_getElem (by omega)⟩
                  refine A.drawA [.ld 10, .p, .p, .ix, .rd [(u_ x25.ka), (i_ x25.ki), (u_ x25.va), (i_ x25.vi)], .eq] [0, 1, 2, 3, 4, 5] [(14, (p_ b13)), (15, (b_ ((belowL n t2.toL).isSome))), (16, (p_ b14)), (17, (b_ ((belowL n u2.toL).isSome))), (18, (p_ b15)), (19, (b_ ((firstL n t2.toL).isSome))), (20, (p_ b16)), (21, (b_ ((firstL n u2.toL).isSome))), (23, (.slice Ao'20 ((T.toL u2).length) c'21)), (140, (.slice Ao'17 ((T.toL t2).length) c'18)), (141, (i_ ((T.toL t2).length : Int))), (142, (i_ (k3 : Int))), (143, (b_ (decide ((k3 : Int) < ((T.toL t2).length : Int))))), (25, (p_ b24)), (24, (i_ (k3 : Int))), (152, (b_ (!(((x23.ka == x25.ka) && (x23.ki == x25.ki)) && ((x23.va == x25.va) && (x23.vi == x25.vi))))))] [b24] (fun κ => κ.ix Ao'20 ((T.toL u2).length) (k3 : Int) ∧ κ.rd ((at0 Ao'20).add (k3 * 4)) [(u_ x25.ka), (i_ x25.ki), (u_ x25.va), (i_ x25.vi)] ∧ True) (by kernel_rfl) (by kernel_rfl) ⟨(ixOf encIt_len (by decide) (rd_sl (i := 2) rfl) (by first | omega | (simp; done))), (reads_at0 (vs := [(u_ x25.ka), (i_ x25.ki), (u_ x25.va), (i_ x25.vi)]) encIt_len (rd_sl (i := 2) rfl) hx25 (by simp) rfl), trivial⟩ ?_
                  refine A.tn ?_
                  refine A.cond (E := !(((x23.ka == x25.ka) && (x23.ki == x25.ki)) && ((x23.va == x25.va) && (x23.vi == x25.vi)))) rfl (fun e15 => ?_) (fun e15 => ?_)
                  · exact absurd e15 (by simp_all)
                  · skip
                    have p15 := e15; try simp only [decide_eq_true_eq, decide_eq_false_iff_not, beq_iff_eq, beq_eq_false_iff_ne, bne_iff_ne, bne_eq_false_iff_eq, ne_eq, Bool.and_eq_true, Bool.or_eq_true, Bool.or_eq_false_iff, Bool.not_eq_true', Bool.not_eq_false', Int.not_lt, Int.not_le, gt_iff_lt, ge_iff_le, Classical.not_not] at p15
                    refine A.skip ?_
                    refine A.bn ?_
                    refine A.tn ?_
                    refine A.region (A.goA [.w ((k3 : Int) + 1), .p] [(14, (p_ b13)), (15, (b_ ((belowL n t2.toL).isSome))), (16, (p_ b14)), (17, (b_ ((belowL n u2.toL).isSome))), (18, (p_ b15)), (19, (b_ ((firstL n t2.toL).isSome))), (20, (p_ b16)), (21, (b_ ((firstL n u2.toL).isSome))), (23, (.slice Ao'20 ((T.toL u2).length) c'21)), (140, (.slice Ao'17 ((T.toL t2).length) c'18)), (141, (i_ ((T.toL t2).length : Int))), (142, (i_ ((k3 : Int) + 1))), (143, (b_ (decide ((k3 : Int) < ((T.toL t2).length : Int))))), (25, (p_ b24)), (24, (i_ (k3 : Int))), (152, (b_ (!(((x23.ka == x25.ka) && (x23.ki == x25.ki)) && ((x23.va == x25.va) && (x23.vi == x25.vi))))))] [] (fun κ => (IntKind.i64.wrap ((k3 : Int) + 1) = ((k3 : Int) + 1)) ∧ True) (by kernel_rfl) ⟨(wrap_i64 (e := (k3 : Int) + 1) (by constructor <;> omega)), trivial⟩ ?_)
                    refine A.tn ?_
                    refine A.next (k3 + 1) (by first | assumption | omega | (simp_all; done) | (simp_all; omega) | grind) (by first | omega | (simp; omega) | (simp_all; omega)) ?_
                    exact A.hereK [0, 0, 0, 0, 0, 0, 0, 0, 0, 0] (by exact ⟨rfl, rfl, rfl, rfl, rfl, rfl, rfl, rfl, rfl, rfl, rfl, rfl, trivial⟩) (by kernel_rfl)
                · skip
                  have p14 := of_decide_eq_false e14
                  refine A.exit ?_
                  refine A.te ?_
                  refine A.te ?_
                  refine A.bh ?_
                  refine A.tn ?_
                  refine A.seq ?_
                  refine A.region (A.goA [.ld 6, .ld 7, .eq, .p, .o, .p, .p, .eq, .cl, .p, .o, .ld 8, .ld 9, .eq, .cl, .p, .o, .p, .p, .eq, .cl, .p, .o, .cq (b_ true), .cl, .p] [(14, (p_ b13)), (15, (b_ ((belowL n t2.toL).isSome))), (16, (p_ b14)), (17, (b_ ((belowL n u2.toL).isSome))), (18, (p_ b15)), (19, (b_ ((firstL n t2.toL).isSome))), (20, (p_ b16)), (21, (b_ ((firstL n u2.toL).isSome))), (23, (.slice Ao'20 ((T.toL u2).length) c'21)), (140, (.slice Ao'17 ((T.toL t2).length) c'18)), (141, (i_ ((T.toL t2).length : Int))), (142, (i_ (k3 : Int))), (143, (b_ (decide ((k3 : Int) < ((T.toL t2).length : Int))))), (4, (b_ ((((((((((belowL n t2.toL).getD default).ka) == (((belowL n u2.toL).getD default).ka)) && ((((belowL n t2.toL).getD default).ki) == (((belowL n u2.toL).getD default).ki))) && (((((belowL n t2.toL).getD default).va) == (((belowL n u2.toL).getD default).va)) && ((((belowL n t2.toL).getD default).vi) == (((belowL n u2.toL).getD default).vi)))) && (((belowL n t2.toL).isSome) == ((belowL n u2.toL).isSome))) && ((((((firstL n t2.toL).getD default).ka) == (((firstL n u2.toL).getD default).ka)) && ((((firstL n t2.toL).getD default).ki) == (((firstL n u2.toL).getD default).ki))) && (((((firstL n t2.toL).getD default).va) == (((firstL n u2.toL).getD default).va)) && ((((firstL n t2.toL).getD default).vi) == (((firstL n u2.toL).getD default).vi))))) && (((firstL n t2.toL).isSome) == ((firstL n u2.toL).isSome))) && true)))] [b13, b14, b15, b16] (fun κ => ((true && ((((((((((belowL n t2.toL).getD default).ka) == (((belowL n u2.toL).getD default).ka)) && ((((belowL n t2.toL).getD default).ki) == (((belowL n u2.toL).getD default).ki))) && (((((belowL n t2.toL).getD default).va) == (((belowL n u2.toL).getD default).va)) && ((((belowL n t2.toL).getD default).vi) == (((belowL n u2.toL).getD default).vi)))) && (((belowL n t2.toL).isSome) == ((belowL n u2.toL).isSome))) && ((((((firstL n t2.toL).getD default).ka) == (((firstL n u2.toL).getD default).ka)) && ((((firstL n t2.toL).getD default).ki) == (((firstL n u2.toL).getD default).ki))) && (((((firstL n t2.toL).getD default).va) == (((firstL n u2.toL).getD default).va)) && ((((firstL n t2.toL).getD default).vi) == (((firstL n u2.toL).getD default).vi))))) && (((firstL n t2.toL).isSome) == ((firstL n u2.toL).isSome))) == true)) = true → κ.call 9 [] (b_ true)) ∧ True) (by kernel_rfl) ⟨(fun h_ => (fun ww ss => three_spec ww)), trivial⟩ ?_)
                  refine A.tn ?_
                  refine A.ret ?_
                  refine A.postQ [(b_ ((((((((((belowL n t2.toL).getD default).ka) == (((belowL n u2.toL).getD default).ka)) && ((((belowL n t2.toL).getD default).ki) == (((belowL n u2.toL).getD default).ki))) && (((((belowL n t2.toL).getD default).va) == (((belowL n u2.toL).getD default).va)) && ((((belowL n t2.toL).getD default).vi) == (((belowL n u2.toL).getD default).vi)))) && (((belowL n t2.toL).isSome) == ((belowL n u2.toL).isSome))) && ((((((firstL n t2.toL).getD default).ka) == (((firstL n u2.toL).getD default).ka)) && ((((firstL n t2.toL).getD default).ki) == (((firstL n u2.toL).getD default).ki))) && (((((firstL n t2.toL).getD default).va) == (((firstL n u2.toL).getD default).va)) && ((((firstL n t2.toL).getD default).vi) == (((firstL n u2.toL).getD default).vi))))) && (((firstL n t2.toL).isSome) == ((firstL n u2.toL).isSome))) && true))] (fun aa ww rr ss => ⟨rv_tmp rr rfl, trivial⟩) ?_
                  show ((b_ ((((((((((belowL n t2.toL).getD default).ka) == (((belowL n u2.toL).getD default).ka)) && ((((belowL n t2.toL).getD default).ki) == (((belowL n u2.toL).getD default).ki))) && (((((belowL n t2.toL).getD default).va) == (((belowL n u2.toL).getD default).va)) && ((((belowL n t2.toL).getD default).vi) == (((belowL n u2.toL).getD default).vi)))) && (((belowL n t2.toL).isSome) == ((belowL n u2.toL).isSome))) && ((((((firstL n t2.toL).getD default).ka) == (((firstL n u2.toL).getD default).ka)) && ((((firstL n t2.toL).getD default).ki) == (((firstL n u2.toL).getD default).ki))) && (((((firstL n t2.toL).getD default).va) == (((firstL n u2.toL).getD default).va)) && ((((firstL n t2.toL).getD default).vi) == (((firstL n u2.toL).getD default).vi))))) && (((firstL n t2.toL).isSome) == ((firstL n u2.toL).isSome))) && true)) : Value) = (b_ true)
                  rw [heq]; simp
end Go.Proofs.Ytlkclhdhfamkdaa
