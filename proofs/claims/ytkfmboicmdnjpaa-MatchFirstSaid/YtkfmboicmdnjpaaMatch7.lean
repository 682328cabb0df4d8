/- What the functions of this layer do, proved operation by operation, for all arguments, under the conditions that each theorem states. -/
import Derived.Test.YtkfmboicmdnjpaaProg
import Derived.Test.YtkfmboicmdnjpaaMatch6
namespace Go.Proofs.Ytkfmboicmdnjpaa
open Go V
set_option linter.unusedVariables false
set_option linter.unusedSimpArgs false
def wrong (l : List Rl) : Int := if l.length > 32 then 2 else if l.all Rl.good then 0 else 1
def findC (l : List Rl) (h : Hd) : Int := match l.find? (fun r => mt r h) with | some r => r.cl | none => 0
theorem findC_t {l : List Rl} {k : Nat} {x : Rl} {h : Hd} (hx : l[k]? = some x) (hn : ∀ y ∈ l.take k, mt y h = false) (e : mt x h = true) : x.cl = findC l h := by
  unfold findC
  have : l.find? (fun r => mt r h) = some x := by
    rw [← List.take_append_drop k l, List.find?_append, List.find?_eq_none.2 (by intro y hy; simp [hn y hy])]
    have hk := (List.getElem?_eq_some_iff.1 hx)
    obtain ⟨hk1, hk2⟩ := hk
    rw [List.drop_eq_getElem_cons hk1, hk2]; simp [e]
  rw [this]
theorem findC_f {l : List Rl} {k : Nat} {h : Hd} (hn : ∀ y ∈ l.take k, mt y h = false) (e : l.length ≤ k) : 0 = findC l h := by
  rw [List.take_of_length_le e] at hn; unfold findC
  rw [List.find?_eq_none.2 (by intro y hy; simp [hn y hy])]
theorem wrong_1 {l : List Rl} {k : Nat} {x : Rl} (hx : l[k]? = some x) (hl : ¬ l.length > 32) (e : (((decide (x.cl < 1)) || (decide (x.cl > 65536))) || (!(mt x x.want))) = true) : 1 = wrong l := by
  unfold wrong; rw [if_neg hl, if_neg]; intro h
  have := List.all_eq_true.1 h x (List.mem_of_getElem? hx); unfold Rl.good at this; simp at this e; grind
theorem good_1 {x : Rl} (e : (((decide (x.cl < 1)) || (decide (x.cl > 65536))) || (!(mt x x.want))) = false) : x.good = true := by
  unfold Rl.good; simp at e ⊢; grind
theorem wrong_0 {l : List Rl} {k : Nat} (hl : ¬ l.length > 32) (hn : ∀ y ∈ l.take k, y.good = true) (e : l.length ≤ k) : 0 = wrong l := by
  rw [List.take_of_length_le e] at hn; unfold wrong; rw [if_neg hl, if_pos (List.all_eq_true.2 hn)]
theorem want_ok {r : Rl} (h : RlOk r) : HdOk r.want := by
  obtain ⟨h1, h2, h3, h4, h5, h6, h7, h8, h9⟩ := h; exact ⟨h5, h6, h7, h8⟩

set_option maxHeartbeats 4000000 in
set_option maxRecDepth 100000 in
theorem rwrong_spec (al : Option Addr) (l : List Rl) (cl : Nat) (hR : ∀ x ∈ l, RlOk x) (w : World) (r0 : arrAt w al (V.flat encRl l)) :
    Calls Try.prog 34 #[(.slice al l.length cl)] w fun e w' => e = .returned (i_ (wrong l)) ∧ Fr [] w w' := by
  refine calls_of (args := [(.slice al l.length cl)]) (penv [(.slice al l.length cl)]) [] [] Try.func34 rfl rfl (look_penv _) (HS.nil w) ?_
  refine A.norm [(0, (.slice al l.length cl))] [] (by exact ⟨rfl, trivial⟩) rfl ?_
  refine A.seq ?_
  refine A.region (A.goA [.p] [(0, (.slice al l.length cl)), (2, (i_ 0))] [] T0 (by kernel_rfl) trivial ?_)
  refine A.tn ?_
  refine A.seq ?_
  refine A.seq ?_
  refine A.region (A.goA [.p, .p, .p] [(0, (.slice al l.length cl)), (2, (i_ 0)), (7, (b_ (decide ((l.length : Int) > 32))))] [] T0 (by kernel_rfl) trivial ?_)
  refine A.tn ?_
  refine A.cond (E := decide ((l.length : Int) > 32)) rfl (fun e1 => ?_) (fun e1 => ?_)
  · skip
    have p1 := of_decide_eq_true e1
    refine A.seq ?_
    refine A.region (A.goA [.p] [(0, (.slice al l.length cl)), (2, (i_ 2)), (7, (b_ (decide ((l.length : Int) > 32))))] [] T0 (by kernel_rfl) trivial ?_)
    refine A.tn ?_
    refine A.ret ?_
    refine A.tr ?_
    refine A.postQ [(i_ 2)] (fun aa ww rr ss => ⟨rv_tmp rr rfl, trivial⟩) ?_
    show ((i_ 2) : Value) = (i_ (wrong l))
    refine congrArg (Value.int .i64) ?_; first | (unfold wrong; rw [if_pos (by omega)]; done) | exact wrong_1 (by assumption) (by omega) (by assumption) | exact wrong_0 (by omega) hn (by omega)
  · skip
    have p1 := of_decide_eq_false e1
    refine A.skip ?_
    refine A.tn ?_
    refine A.seq ?_
    refine A.seq ?_
    refine A.region (A.goA [.p, .p, .p] [(0, (.slice al l.length cl)), (2, (i_ 0)), (7, (b_ (decide ((l.length : Int) > 32)))), (8, (.slice al l.length cl)), (9, (i_ (l.length : Int))), (10, (i_ 0))] [] T0 (by kernel_rfl) trivial ?_)
    refine A.tn ?_
    refine A.block ?_
    refine A.loop (fun (zz : Nat) => match zz with | k => [(8, (.slice al l.length cl)), (9, (i_ (l.length : Int))), (10, (i_ (k : Int)))]) (fun (zz : Nat) => match zz with | k => []) (fun (zz : Nat) => match zz with | k => (k ≤ l.length) ∧ (∀ y ∈ l.take k, y.good = true)) (fun (zz : Nat) => match zz with | k => l.length - k) (0 : Nat) ⟨(by first | assumption | omega | (simp_all; done) | (simp_all; omega) | grind), (by simp)⟩ ?_ ?_
    · exact A.hereK [] (by exact ⟨rfl, rfl, rfl, trivial⟩) (by kernel_rfl)
    · rintro k ⟨hk, hn⟩
      refine A.norm [(8, (.slice al l.length cl)), (9, (i_ (l.length : Int))), (10, (i_ (k : Int)))] [] (by exact ⟨rfl, rfl, rfl, trivial⟩) rfl ?_
      refine A.seq ?_
      refine A.region (A.goA [.p] [(8, (.slice al l.length cl)), (9, (i_ (l.length : Int))), (10, (i_ (k : Int))), (11, (b_ (decide ((k : Int) < (l.length : Int)))))] [] T0 (by kernel_rfl) trivial ?_)
      refine A.tn ?_
      refine A.seq ?_
      refine A.cond (E := decide ((k : Int) < (l.length : Int))) rfl (fun e2 => ?_) (fun e2 => ?_)
      · skip
        have p2 := of_decide_eq_true e2
        refine A.skip ?_
        refine A.tn ?_
        refine A.seq ?_
        refine A.block ?_
        refine A.seq ?_
        refine A.region (A.goP [.ix] [(8, (.slice al l.length cl)), (9, (i_ (l.length : Int))), (10, (i_ (k : Int))), (11, (b_ (decide ((k : Int) < (l.length : Int))))), (12, (.pointer (some ((at0 al).add (k * 9)))))] [] (fun κ => κ.ix al l.length (k : Int) ∧ True) (by kernel_rfl) ⟨(ixOf encRl_len (by decide) (rd_old r0 (by simp [feet])) (by first | omega | (simp; done))), trivial⟩ ?_)
        obtain ⟨x1, hx1⟩ : ∃ x, (l)[k]? = some x := ⟨_, List.getElem?_eq_getElem (by omega)⟩
        refine A.goA1 [.rd [(w_ x1.ma), (w_ x1.mb), (w_ x1.mc), (w_ x1.md), (w_ x1.wa), (w_ x1.wb), (w_ x1.wc), (w_ x1.wd), (i_ x1.cl)], .al, .st 0] [8, 9, 10, 11, 4] (fun b2 => [(8, (.slice al l.length cl)), (9, (i_ (l.length : Int))), (10, (i_ (k : Int))), (11, (b_ (decide ((k : Int) < (l.length : Int))))), (4, (p_ b2))]) (fun b2 => [blk b2 [(w_ x1.ma), (w_ x1.mb), (w_ x1.mc), (w_ x1.md), (w_ x1.wa), (w_ x1.wb), (w_ x1.wc), (w_ x1.wd), (i_ x1.cl)] 65]) (fun b2 => [b2]) (fun _ => (fun κ => κ.rd ((at0 al).add (k * 9)) [(w_ x1.ma), (w_ x1.mb), (w_ x1.mc), (w_ x1.md), (w_ x1.wa), (w_ x1.wb), (w_ x1.wc), (w_ x1.wd), (i_ x1.cl)] ∧ True)) (fun _ => by kernel_rfl) (fun b2 => ⟨(reads_at0 (vs := [(w_ x1.ma), (w_ x1.mb), (w_ x1.mc), (w_ x1.md), (w_ x1.wa), (w_ x1.wb), (w_ x1.wc), (w_ x1.wd), (i_ x1.cl)]) encRl_len (rd_old r0 (by simp [feet])) hx1 (by simp) rfl), trivial⟩) ?_
        intro b2
        refine A.tn ?_
        refine A.seq ?_
        refine A.region (A.goA [.p, .ld 0, .p, .p, .o, .p, .ld 0, .p, .cl, .p, .o, .ld 0, .p, .ld 0, .cq (b_ (mt x1 (⟨x1.wa, x1.wb, x1.wc, x1.wd⟩ : Hd))), .p, .cl] [(8, (.slice al l.length cl)), (9, (i_ (l.length : Int))), (10, (i_ (k : Int))), (11, (b_ (decide ((k : Int) < (l.length : Int))))), (4, (p_ b2)), (28, (b_ (((decide (x1.cl < 1)) || (decide (x1.cl > 65536))) || (!(mt x1 (⟨x1.wa, x1.wb, x1.wc, x1.wd⟩ : Hd))))))] [b2, b2, b2, b2] (fun κ => ((true && (((decide (x1.cl < 1)) || (decide (x1.cl > 65536))) == false)) = true → κ.call 39 [(.agg #[(w_ x1.ma), (w_ x1.mb), (w_ x1.mc), (w_ x1.md), (w_ x1.wa), (w_ x1.wb), (w_ x1.wc), (w_ x1.wd), (i_ x1.cl)]), (.agg #[(w_ x1.wa), (w_ x1.wb), (w_ x1.wc), (w_ x1.wd)])] (b_ (mt x1 (⟨x1.wa, x1.wb, x1.wc, x1.wd⟩ : Hd)))) ∧ True) (by kernel_rfl) ⟨(fun h_ => (fun ww ss => rmatches_spec x1 (⟨x1.wa, x1.wb, x1.wc, x1.wd⟩ : Hd) (by first | assumption | exact hR _ (List.mem_of_getElem? (by assumption)) | exact want_ok (hR _ (List.mem_of_getElem? (by assumption)))) (by first | assumption | exact hR _ (List.mem_of_getElem? (by assumption)) | exact want_ok (hR _ (List.mem_of_getElem? (by assumption)))) ww)), trivial⟩ ?_)
        refine A.tn ?_
        refine A.cond (E := ((decide (x1.cl < 1)) || (decide (x1.cl > 65536))) || (!(mt x1 (⟨x1.wa, x1.wb, x1.wc, x1.wd⟩ : Hd)))) rfl (fun e3 => ?_) (fun e3 => ?_)
        · skip
          have p3 := e3; try simp only [decide_eq_true_eq, decide_eq_false_iff_not, beq_iff_eq, beq_eq_false_iff_ne, bne_iff_ne, bne_eq_false_iff_eq, ne_eq, Bool.and_eq_true, Bool.or_eq_true, Bool.or_eq_false_iff, Bool.not_eq_true', Bool.not_eq_false', Int.not_lt, Int.not_le, gt_iff_lt, ge_iff_le, Classical.not_not] at p3
          refine A.seq ?_
          refine A.region (A.goA [.p] [(8, (.slice al l.length cl)), (9, (i_ (l.length : Int))), (10, (i_ (k : Int))), (11, (b_ (decide ((k : Int) < (l.length : Int))))), (4, (p_ b2)), (28, (b_ (((decide (x1.cl < 1)) || (decide (x1.cl > 65536))) || (!(mt x1 (⟨x1.wa, x1.wb, x1.wc, x1.wd⟩ : Hd)))))), (2, (i_ 1))] [] T0 (by kernel_rfl) trivial ?_)
          refine A.tn ?_
          refine A.ret ?_
          refine A.br ?_
          refine A.tr ?_
          refine A.tr ?_
          refine A.br ?_
          refine A.tr ?_
          refine A.postQ [(i_ 1)] (fun aa ww rr ss => ⟨rv_tmp rr rfl, trivial⟩) ?_
          show ((i_ 1) : Value) = (i_ (wrong l))
          refine congrArg (Value.int .i64) ?_; first | (unfold wrong; rw [if_pos (by omega)]; done) | exact wrong_1 (by assumption) (by omega) (by assumption) | exact wrong_0 (by omega) hn (by omega)
        · skip
          have p3 := e3; try simp only [decide_eq_true_eq, decide_eq_false_iff_not, beq_iff_eq, beq_eq_false_iff_ne, bne_iff_ne, bne_eq_false_iff_eq, ne_eq, Bool.and_eq_true, Bool.or_eq_true, Bool.or_eq_false_iff, Bool.not_eq_true', Bool.not_eq_false', Int.not_lt, Int.not_le, gt_iff_lt, ge_iff_le, Classical.not_not] at p3
          refine A.skip ?_
          refine A.bn ?_
          refine A.tn ?_
          refine A.region (A.goA [.w ((k : Int) + 1), .p] [(8, (.slice al l.length cl)), (9, (i_ (l.length : Int))), (10, (i_ ((k : Int) + 1))), (11, (b_ (decide ((k : Int) < (l.length : Int))))), (4, (p_ b2)), (28, (b_ (((decide (x1.cl < 1)) || (decide (x1.cl > 65536))) || (!(mt x1 (⟨x1.wa, x1.wb, x1.wc, x1.wd⟩ : Hd))))))] [] (fun κ => (IntKind.i64.wrap ((k : Int) + 1) = ((k : Int) + 1)) ∧ True) (by kernel_rfl) ⟨(wrap_i64 (e := (k : Int) + 1) (by constructor <;> omega)), trivial⟩ ?_)
          refine A.tn ?_
          refine A.next (k + 1) ⟨(by first | assumption | omega | (simp_all; done) | (simp_all; omega) | grind), (by rw [take_snoc (by assumption)]; intro y hy; rcases List.mem_append.1 hy with hy | hy; exact hn y hy; (simp at hy; subst hy; exact good_1 (by assumption)))⟩ (by first | omega | (simp; omega) | (simp_all; omega)) ?_
          exact A.hereK [] (by exact ⟨rfl, rfl, rfl, trivial⟩) (by kernel_rfl)
      · skip
        have p2 := of_decide_eq_false e2
        refine A.exit ?_
        refine A.te ?_
        refine A.te ?_
        refine A.bh ?_
        refine A.tn ?_
        refine A.seq ?_
        refine A.region (A.goA [.p] [(8, (.slice al l.length cl)), (9, (i_ (l.length : Int))), (10, (i_ (k : Int))), (11, (b_ (decide ((k : Int) < (l.length : Int))))), (2, (i_ 0))] [] T0 (by kernel_rfl) trivial ?_)
        refine A.tn ?_
        refine A.ret ?_
        refine A.postQ [(i_ 0)] (fun aa ww rr ss => ⟨rv_tmp rr rfl, trivial⟩) ?_
        show ((i_ 0) : Value) = (i_ (wrong l))
        refine congrArg (Value.int .i64) ?_; first | (unfold wrong; rw [if_pos (by omega)]; done) | exact wrong_1 (by assumption) (by omega) (by assumption) | exact wrong_0 (by omega) hn (by omega)

set_option maxHeartbeats 4000000 in
set_option maxRecDepth 100000 in
theorem rfind_spec (al : Option Addr) (l : List Rl) (cl : Nat) (h : Hd) (hl : l.length ≤ 100000) (hR : ∀ x ∈ l, RlOk x) (hh : HdOk h) (w : World) (r0 : arrAt w al (V.flat encRl l)) :
    Calls Try.prog 36 #[(.slice al l.length cl), (.agg #[(w_ h.ha), (w_ h.hb), (w_ h.hc), (w_ h.hd)])] w fun e w' => e = .returned (i_ (findC l h)) ∧ Fr [] w w' := by
  refine calls_of (args := [(.slice al l.length cl), (.agg #[(w_ h.ha), (w_ h.hb), (w_ h.hc), (w_ h.hd)])]) (penv [(.slice al l.length cl), (.agg #[(w_ h.ha), (w_ h.hb), (w_ h.hc), (w_ h.hd)])]) [] [] Try.func36 rfl rfl (look_penv _) (HS.nil w) ?_
  refine A.norm [(0, (.slice al l.length cl)), (1, (.agg #[(w_ h.ha), (w_ h.hb), (w_ h.hc), (w_ h.hd)]))] [] (by exact ⟨rfl, rfl, trivial⟩) rfl ?_
  refine A.seq ?_
  refine A.region (A.goA1 [.al, .p] [0, 1, 3, 4] (fun b1 => [(0, (.slice al l.length cl)), (1, (.agg #[(w_ h.ha), (w_ h.hb), (w_ h.hc), (w_ h.hd)])), (3, (p_ b1)), (4, (i_ 0))]) (fun b1 => [blk b1 [(w_ h.ha), (w_ h.hb), (w_ h.hc), (w_ h.hd)] 56]) (fun b1 => []) (fun _ => T0) (fun _ => by kernel_rfl) (fun b1 => trivial) ?_)
  intro b1
  refine A.tn ?_
  refine A.seq ?_
  refine A.seq ?_
  refine A.region (A.goA [.p, .p, .p] [(0, (.slice al l.length cl)), (1, (.agg #[(w_ h.ha), (w_ h.hb), (w_ h.hc), (w_ h.hd)])), (3, (p_ b1)), (4, (i_ 0)), (7, (.slice al l.length cl)), (8, (i_ (l.length : Int))), (9, (i_ 0))] [] T0 (by kernel_rfl) trivial ?_)
  refine A.tn ?_
  refine A.block ?_
  refine A.loop (fun (zz : Nat) => match zz with | k => [(3, (p_ b1)), (7, (.slice al l.length cl)), (8, (i_ (l.length : Int))), (9, (i_ (k : Int)))]) (fun (zz : Nat) => match zz with | k => [blk b1 [(w_ h.ha), (w_ h.hb), (w_ h.hc), (w_ h.hd)] 56]) (fun (zz : Nat) => match zz with | k => (k ≤ l.length) ∧ (∀ y ∈ l.take k, mt y h = false)) (fun (zz : Nat) => match zz with | k => l.length - k) (0 : Nat) ⟨(by first | assumption | omega | (simp_all; done) | (simp_all; omega) | grind), (by simp)⟩ ?_ ?_
  · exact A.hereK [0] (by exact ⟨rfl, rfl, rfl, rfl, trivial⟩) (by kernel_rfl)
  · rintro k ⟨hk, hn⟩
    refine A.norm [(3, (p_ b1)), (7, (.slice al l.length cl)), (8, (i_ (l.length : Int))), (9, (i_ (k : Int)))] [blk b1 [(w_ h.ha), (w_ h.hb), (w_ h.hc), (w_ h.hd)] 56] (by exact ⟨rfl, rfl, rfl, rfl, trivial⟩) rfl ?_
    refine A.seq ?_
    refine A.region (A.goA [.p] [(3, (p_ b1)), (7, (.slice al l.length cl)), (8, (i_ (l.length : Int))), (9, (i_ (k : Int))), (10, (b_ (decide ((k : Int) < (l.length : Int)))))] [] T0 (by kernel_rfl) trivial ?_)
    refine A.tn ?_
    refine A.seq ?_
    refine A.cond (E := decide ((k : Int) < (l.length : Int))) rfl (fun e1 => ?_) (fun e1 => ?_)
    · skip
      have p1 := of_decide_eq_true e1
      refine A.skip ?_
      refine A.tn ?_
      refine A.seq ?_
      refine A.block ?_
      refine A.seq ?_
      refine A.region (A.goP [.ix] [(3, (p_ b1)), (7, (.slice al l.length cl)), (8, (i_ (l.length : Int))), (9, (i_ (k : Int))), (10, (b_ (decide ((k : Int) < (l.length : Int))))), (11, (.pointer (some ((at0 al).add (k * 9)))))] [] (fun κ => κ.ix al l.length (k : Int) ∧ True) (by kernel_rfl) ⟨(ixOf encRl_len (by decide) (rd_old r0 (by simp [feet])) (by first | omega | (simp; done))), trivial⟩ ?_)
      obtain ⟨x2, hx2⟩ : ∃ x, (l)[k]? = some x := ⟨_, List.getElem?_eq_getElem (by omega)⟩
      refine A.goA1 [.rd [(w_ x2.ma), (w_ x2.mb), (w_ x2.mc), (w_ x2.md), (w_ x2.wa), (w_ x2.wb), (w_ x2.wc), (w_ x2.wd), (i_ x2.cl)], .al, .st 1] [3, 7, 8, 9, 10, 6] (fun b3 => [(3, (p_ b1)), (7, (.slice al l.length cl)), (8, (i_ (l.length : Int))), (9, (i_ (k : Int))), (10, (b_ (decide ((k : Int) < (l.length : Int))))), (6, (p_ b3))]) (fun b3 => [blk b1 [(w_ h.ha), (w_ h.hb), (w_ h.hc), (w_ h.hd)] 56, blk b3 [(w_ x2.ma), (w_ x2.mb), (w_ x2.mc), (w_ x2.md), (w_ x2.wa), (w_ x2.wb), (w_ x2.wc), (w_ x2.wd), (i_ x2.cl)] 65]) (fun b3 => [b3]) (fun _ => (fun κ => κ.rd ((at0 al).add (k * 9)) [(w_ x2.ma), (w_ x2.mb), (w_ x2.mc), (w_ x2.md), (w_ x2.wa), (w_ x2.wb), (w_ x2.wc), (w_ x2.wd), (i_ x2.cl)] ∧ True)) (fun _ => by kernel_rfl) (fun b3 => ⟨(reads_at0 (vs := [(w_ x2.ma), (w_ x2.mb), (w_ x2.mc), (w_ x2.md), (w_ x2.wa), (w_ x2.wb), (w_ x2.wc), (w_ x2.wd), (i_ x2.cl)]) encRl_len (rd_old r0 (by simp [feet])) hx2 (by simp) rfl), trivial⟩) ?_
      intro b3
      refine A.tn ?_
      refine A.seq ?_
      refine A.region (A.goA [.ld 1, .ld 0, .cq (b_ (mt x2 h))] [(3, (p_ b1)), (7, (.slice al l.length cl)), (8, (i_ (l.length : Int))), (9, (i_ (k : Int))), (10, (b_ (decide ((k : Int) < (l.length : Int))))), (6, (p_ b3)), (15, (b_ (mt x2 h)))] [b3, b1] (fun κ => κ.call 39 [(.agg #[(w_ x2.ma), (w_ x2.mb), (w_ x2.mc), (w_ x2.md), (w_ x2.wa), (w_ x2.wb), (w_ x2.wc), (w_ x2.wd), (i_ x2.cl)]), (.agg #[(w_ h.ha), (w_ h.hb), (w_ h.hc), (w_ h.hd)])] (b_ (mt x2 h)) ∧ True) (by kernel_rfl) ⟨(fun ww ss => rmatches_spec x2 h (by first | assumption | exact hR _ (List.mem_of_getElem? (by assumption))) (by first | assumption | exact hR _ (List.mem_of_getElem? (by assumption))) ww), trivial⟩ ?_)
      refine A.tn ?_
      refine A.cond (E := (mt x2 h)) rfl (fun e2 => ?_) (fun e2 => ?_)
      · skip
        have p2 := e2; try simp only [decide_eq_true_eq, decide_eq_false_iff_not, beq_iff_eq, beq_eq_false_iff_ne, bne_iff_ne, bne_eq_false_iff_eq, ne_eq, Bool.and_eq_true, Bool.or_eq_true, Bool.or_eq_false_iff, Bool.not_eq_true', Bool.not_eq_false', Int.not_lt, Int.not_le, gt_iff_lt, ge_iff_le, Classical.not_not] at p2
        refine A.seq ?_
        refine A.region (A.goA [.p, .ld 1, .p] [(3, (p_ b1)), (7, (.slice al l.length cl)), (8, (i_ (l.length : Int))), (9, (i_ (k : Int))), (10, (b_ (decide ((k : Int) < (l.length : Int))))), (6, (p_ b3)), (15, (b_ (mt x2 h))), (4, (i_ x2.cl))] [b3] T0 (by kernel_rfl) trivial ?_)
        refine A.tn ?_
        refine A.ret ?_
        refine A.br ?_
        refine A.tr ?_
        refine A.tr ?_
        refine A.br ?_
        refine A.tr ?_
        refine A.postQ [(i_ x2.cl)] (fun aa ww rr ss => ⟨rv_tmp rr rfl, trivial⟩) ?_
        show ((i_ x2.cl) : Value) = (i_ (findC l h))
        refine congrArg (Value.int .i64) ?_; first | exact findC_t (by assumption) hn (by assumption) | exact findC_f hn (by omega)
      · skip
        have p2 := e2; try simp only [decide_eq_true_eq, decide_eq_false_iff_not, beq_iff_eq, beq_eq_false_iff_ne, bne_iff_ne, bne_eq_false_iff_eq, ne_eq, Bool.and_eq_true, Bool.or_eq_true, Bool.or_eq_false_iff, Bool.not_eq_true', Bool.not_eq_false', Int.not_lt, Int.not_le, gt_iff_lt, ge_iff_le, Classical.not_not] at p2
        refine A.skip ?_
        refine A.bn ?_
        refine A.tn ?_
        refine A.region (A.goA [.w ((k : Int) + 1), .p] [(3, (p_ b1)), (7, (.slice al l.length cl)), (8, (i_ (l.length : Int))), (9, (i_ ((k : Int) + 1))), (10, (b_ (decide ((k : Int) < (l.length : Int))))), (6, (p_ b3)), (15, (b_ (mt x2 h)))] [] (fun κ => (IntKind.i64.wrap ((k : Int) + 1) = ((k : Int) + 1)) ∧ True) (by kernel_rfl) ⟨(wrap_i64 (e := (k : Int) + 1) (by constructor <;> omega)), trivial⟩ ?_)
        refine A.tn ?_
        refine A.next (k + 1) ⟨(by first | assumption | omega | (simp_all; done) | (simp_all; omega) | grind), (by rw [take_snoc (by assumption)]; intro y hy; rcases List.mem_append.1 hy with hy | hy; exact hn y hy; (simp at hy; subst hy; assumption))⟩ (by first | omega | (simp; omega) | (simp_all; omega)) ?_
        exact A.hereK [0] (by exact ⟨rfl, rfl, rfl, rfl, trivial⟩) (by kernel_rfl)
    · skip
      have p1 := of_decide_eq_false e1
      refine A.exit ?_
      refine A.te ?_
      refine A.te ?_
      refine A.bh ?_
      refine A.tn ?_
      refine A.seq ?_
      refine A.region (A.goA [.p] [(3, (p_ b1)), (7, (.slice al l.length cl)), (8, (i_ (l.length : Int))), (9, (i_ (k : Int))), (10, (b_ (decide ((k : Int) < (l.length : Int))))), (4, (i_ 0))] [] T0 (by kernel_rfl) trivial ?_)
      refine A.tn ?_
      refine A.ret ?_
      refine A.postQ [(i_ 0)] (fun aa ww rr ss => ⟨rv_tmp rr rfl, trivial⟩) ?_
      show ((i_ 0) : Value) = (i_ (findC l h))
      refine congrArg (Value.int .i64) ?_; first | exact findC_t (by assumption) hn (by assumption) | exact findC_f hn (by omega)
end Go.Proofs.Ytkfmboicmdnjpaa
