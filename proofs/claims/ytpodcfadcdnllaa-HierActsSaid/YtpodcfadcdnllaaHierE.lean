/- What the functions of this layer do, proved operation by operation, for all arguments, under the conditions that each theorem states. -/
import Derived.Test.YtpodcfadcdnllaaProg
import Derived.Test.YtpodcfadcdnllaaHierD
namespace Go.Proofs.Ytpodcfadcdnllaa
open Go V
set_option linter.unusedVariables false
set_option linter.unusedSimpArgs false
theorem addLR_len (l : List Cl) (y : Cl) : (addLR l y).length ≤ l.length + 1 := by
  unfold addLR; split
  · exact setL_len _ _
  · omega
theorem delK_le (kv : List (Int × Cl)) (a : Int) : (delK kv a).length ≤ kv.length := by
  unfold delK; split
  · rename_i h; have := mdel_len (delE_0 h).1; omega
  · exact Nat.le_refl _
theorem mem_ids {kv : List (Int × Cl)} {k : Nat} {i : Int} (h : (keysF kv (fun v_ => true))[k]? = some i) : ∃ y, mget kv i = some y := by
  have hi := List.mem_of_getElem? h
  unfold keysF sortI at hi; rw [(List.mergeSort_perm _ _).mem_iff] at hi
  obtain ⟨p, hp, rfl⟩ := List.mem_map.1 hi
  have hp2 := (List.mem_filter.1 hp).1
  cases e : mget kv p.1 with
  | some y => exact ⟨y, rfl⟩
  | none =>
    exfalso
    have : ∀ (l : List (Int × Cl)), p ∈ l → mget l p.1 ≠ none := by
      intro l; induction l with
      | nil => intro h; cases h
      | cons q l ih =>
        intro h e2; simp only [mget] at e2
        split at e2
        · cases e2
        · rename_i hne; rcases List.mem_cons.1 h with rfl | h
          · exact hne rfl
          · exact ih h e2
    exact this kv hp2 e
theorem upL_at (kv : List (Int × Cl)) (i : Int) {d j : Nat} (h : j < d) : (upL kv i d)[j]? = some (upA kv i j) := by
  unfold upL; rw [List.getElem?_map, List.getElem?_range h]; rfl
/-- what a tree that is laid right tells of a class of it -/
theorem laid_at {kv : List (Int × Cl)} (h : Laid kv) {i : Int} {y : Cl} (hy : mget kv i = some y) : gce kv i = 0 ∧ gcl kv i = y ∧ 1 ≤ dep kv i ∧ dep kv i ≤ 16 ∧ gce kv (upA kv i (dep kv i - 1)) = 0 ∧ (gcl kv (upA kv i (dep kv i - 1))).hp = 0 := by
  have h1 : 1 ≤ dep kv i := by unfold dep; rw [depN, hy]; simp
  obtain ⟨g1, g2, _⟩ := h.dep.lt i
  have h3 := g1 (dep kv i - 1) (by omega)
  obtain ⟨z, hz⟩ : ∃ z, mget kv (upA kv i (dep kv i - 1)) = some z := by
    cases e : mget kv (upA kv i (dep kv i - 1)) with
    | none => exact absurd e h3
    | some z => exact ⟨z, rfl⟩
  have e : dep kv i = dep kv i - 1 + 1 := by omega
  rw [e] at g2; simp only [upA] at g2
  refine ⟨by unfold gce; rw [hy]; rfl, gcl_of hy, h1, h.dep i, by unfold gce; rw [hz]; rfl, ?_⟩
  rw [gcl_of hz] at g2 ⊢
  rcases h.par _ z hz with g | ⟨p, g, _⟩
  · exact g
  · rw [g2] at g; cases g
theorem ofC_0 {a b c : Int} (h : ¬(a = 0 ∧ b = 0 ∧ c = 0)) (h2 : ofC a b c ≠ 0) : ofC a b c > 1 := by
  have h3 := ofC_rng a b c
  have h4 : ofC a b c ≠ 1 := by unfold ofC; rw [if_neg h]; repeat' split
                                all_goals omega
  omega
theorem laid_above {kv : List (Int × Cl)} (h : Laid kv) {i : Int} {y : Cl} (hy : mget kv i = some y) (h0 : y.hp ≠ 0) : gce kv y.hp = 0 ∧ (gcl kv y.hp).hl = false ∧ (¬(y.la = 0 ∧ y.lb = 0 ∧ y.lc = 0) → ¬((gcl kv y.hp).la = 0 ∧ (gcl kv y.hp).lb = 0 ∧ (gcl kv y.hp).lc = 0)) := by
  rcases h.par i y hy with g | ⟨p, g, g2⟩
  · exact absurd g h0
  refine ⟨by unfold gce; rw [g]; rfl, by rw [gcl_of g]; exact g2, fun hn hz => ?_⟩
  have hw := (h.key i y hy).2
  have h1 : (ofC y.la y.lb y.lc) ≠ 0 := by
    intro e; unfold wrongC at hw; rw [e] at hw; simp at hw; split at hw <;> omega
  have h2 := h.shr i y hy (ofC_0 hn h1)
  unfold sharesH at h2; rw [hz.1, hz.2.1, hz.2.2] at h2
  have : (y.hp == 0) = false := by simpa using h0
  rw [this] at h2; simp [ofC] at h2

set_option maxHeartbeats 4000000 in
set_option maxRecDepth 100000 in
theorem hierActs_walk (A0 : Option Addr) (l : List Ac) (c0 : Nat) (hR : ∀ x ∈ l, AcOk x) (w : World) (r0 : arrAt w A0 (V.flat encAc l)) :
    Calls Try.prog 4 #[(.slice A0 l.length c0)] w fun e w' => e = .returned (b_ true) ∧ Fr [] w w' := by
  refine calls_of (args := [(.slice A0 l.length c0)]) (penv [(.slice A0 l.length c0)]) [] [] Try.func4 rfl rfl (look_penv _) (HS.nil w) ?_
  refine A.norm [(0, (.slice A0 l.length c0))] [] (by exact ⟨rfl, trivial⟩) rfl ?_
  refine A.seq ?_
  refine A.region (A.goA [.p] [(0, (.slice A0 l.length c0)), (2, (b_ false))] [] T0 (by kernel_rfl) trivial ?_)
  refine A.tn ?_
  refine A.seq ?_
  refine A.seq ?_
  refine A.region (A.goA [.p, .p, .p] [(0, (.slice A0 l.length c0)), (2, (b_ false)), (13, (b_ (decide ((l.length : Int) > 80))))] [] T0 (by kernel_rfl) trivial ?_)
  refine A.tn ?_
  refine A.cond (E := decide ((l.length : Int) > 80)) rfl (fun e1 => ?_) (fun e1 => ?_)
  · skip
    have p1 := of_decide_eq_true e1
    refine A.seq ?_
    refine A.region (A.goA [.cq (b_ true), .p] [(0, (.slice A0 l.length c0)), (2, (b_ true)), (13, (b_ (decide ((l.length : Int) > 80))))] [] (fun κ => κ.call 6 [] (b_ true) ∧ True) (by kernel_rfl) ⟨(fun ww ss => two_spec ww), trivial⟩ ?_)
    refine A.tn ?_
    refine A.ret ?_
    refine A.tr ?_
    refine A.postQ [(b_ true)] (fun aa ww rr ss => ⟨rv_tmp rr rfl, trivial⟩) ?_
    rfl
  · skip
    have p1 := of_decide_eq_false e1
    refine A.skip ?_
    refine A.tn ?_
    refine A.seq ?_
    refine A.region ?_
    refine A.cons (A.callT (some 15) [] [] ((fun zz => match zz with | (bt1, mb2) => (p_ bt1))) ((fun zz => match zz with | (bt1, mb2) => True)) ((fun zz => match zz with | (bt1, mb2) => [blk bt1 [(.map (some mb2))] 55, mapI (fun k : Int => i_ k) (fun v_ : Cl => (.agg (encCl v_).toArray)) mb2 ([] : List (Int × Cl))])) (fun zz => match zz with | (bt1, mb2) => [blk bt1 [(.map (some mb2))] 55, mapI (fun k : Int => i_ k) (fun v_ : Cl => (.agg (encCl v_).toArray)) mb2 ([] : List (Int × Cl))]) (by kernel_rfl) rfl rfl (fun ww ss hh => hnew_spec ww hh) (fun _ => rfl) ?_)
    rintro ⟨bt1, mb2⟩ -
    refine A.goA [.p] [(0, (.slice A0 l.length c0)), (2, (b_ false)), (13, (b_ (decide ((l.length : Int) > 80)))), (3, (p_ bt1))] [] T0 (by kernel_rfl) trivial ?_
    refine A.tn ?_
    refine A.seq ?_
    refine A.region (A.goA [.p] [(0, (.slice A0 l.length c0)), (2, (b_ false)), (13, (b_ (decide ((l.length : Int) > 80)))), (3, (p_ bt1)), (4, e_)] [] T0 (by kernel_rfl) trivial ?_)
    refine A.tn ?_
    refine A.seq ?_
    refine A.seq ?_
    refine A.region (A.goA [.p, .p, .p] [(0, (.slice A0 l.length c0)), (2, (b_ false)), (13, (b_ (decide ((l.length : Int) > 80)))), (3, (p_ bt1)), (4, e_), (16, (.slice A0 l.length c0)), (17, (i_ (l.length : Int))), (18, (i_ 0))] [] T0 (by kernel_rfl) trivial ?_)
    refine A.tn ?_
    refine A.block ?_
    refine A.ownNil 30 14 [blk bt1 [(.map (some mb2))] 55, mapI (fun k : Int => i_ k) (fun v_ : Cl => (.agg (encCl v_).toArray)) mb2 ([] : List (Int × Cl)), sl none (([] : List Cl).length) 0 30 14 (V.flat encCl ([] : List Cl))] rfl ?_
    refine A.loop (fun (zz : Nat × (List (Int × Cl)) × (List Cl) × (Option Addr) × Nat) => match zz with | (k, kv, R, ar, cr) => [(3, (p_ bt1)), (16, (.slice A0 l.length c0)), (17, (i_ (l.length : Int))), (18, (i_ (k : Int))), (4, (.slice ar R.length cr))]) (fun (zz : Nat × (List (Int × Cl)) × (List Cl) × (Option Addr) × Nat) => match zz with | (k, kv, R, ar, cr) => [blk bt1 [(.map (some mb2))] 55, mapI (fun k : Int => i_ k) (fun v_ : Cl => (.agg (encCl v_).toArray)) mb2 kv, sl ar (R.length) cr 30 14 (V.flat encCl R)]) (fun (zz : Nat × (List (Int × Cl)) × (List Cl) × (Option Addr) × Nat) => match zz with | (k, kv, R, ar, cr) => (k ≤ l.length) ∧ (KR kv R) ∧ (Laid kv)) (fun (zz : Nat × (List (Int × Cl)) × (List Cl) × (Option Addr) × Nat) => match zz with | (k, kv, R, ar, cr) => l.length - k) (0, ([] : List (Int × Cl)), ([] : List Cl), none, 0) ⟨(by first | assumption | omega | (simp_all; done) | (simp_all; omega) | grind), (by exact kr_nil), (by exact laid_nil)⟩ ?_ ?_
    · exact A.hereK [0, 0, 0] (by exact ⟨rfl, rfl, rfl, rfl, rfl, trivial⟩) (by kernel_rfl)
    · rintro ⟨k, kv, R, ar, cr⟩ ⟨hk, hK, hL⟩
      have hkl := kr_len hK; have hll := hL.len
      refine A.norm [(3, (p_ bt1)), (16, (.slice A0 l.length c0)), (17, (i_ (l.length : Int))), (18, (i_ (k : Int))), (4, (.slice ar R.length cr))] [blk bt1 [(.map (some mb2))] 55, mapI (fun k : Int => i_ k) (fun v_ : Cl => (.agg (encCl v_).toArray)) mb2 kv, sl ar (R.length) cr 30 14 (V.flat encCl R)] (by exact ⟨rfl, rfl, rfl, rfl, rfl, trivial⟩) rfl ?_
      refine A.seq ?_
      refine A.region (A.goA [.p] [(3, (p_ bt1)), (16, (.slice A0 l.length c0)), (17, (i_ (l.length : Int))), (18, (i_ (k : Int))), (4, (.slice ar R.length cr)), (19, (b_ (decide ((k : Int) < (l.length : Int)))))] [] T0 (by kernel_rfl) trivial ?_)
      refine A.tn ?_
      refine A.seq ?_
      refine A.cond (E := decide ((k : Int) < (l.length : Int))) rfl (fun e3 => ?_) (fun e3 => ?_)
      · skip
        have p3 := of_decide_eq_true e3
        refine A.skip ?_
        refine A.tn ?_
        refine A.seq ?_
        refine A.block ?_
        refine A.seq ?_
        refine A.region (A.goP [.ix] [(3, (p_ bt1)), (16, (.slice A0 l.length c0)), (17, (i_ (l.length : Int))), (18, (i_ (k : Int))), (4, (.slice ar R.length cr)), (19, (b_ (decide ((k : Int) < (l.length : Int))))), (20, (.pointer (some ((at0 A0).add (k * 15)))))] [] (fun κ => κ.ix A0 l.length (k : Int) ∧ True) (by kernel_rfl) ⟨(ixOf encAc_len (by decide) (rd_old r0 (by simp [feet])) (by first | omega | (simp; omega) | (simp; done))), trivial⟩ ?_)
        obtain ⟨x4, hx4⟩ : ∃ x, (l)[k]? = some x := ⟨_, List.getElem?_eq_getElem (by omega)⟩
        refine A.goA1 [.rd [(i_ x4.kd), (i_ x4.chi), (i_ x4.chp), (b_ x4.chl), (u_ x4.cra), (u_ x4.crb), (u_ x4.crc), (u_ x4.cla), (u_ x4.clb), (u_ x4.clc), (u_ x4.cua), (u_ x4.cub), (u_ x4.cuc), (i_ x4.chk), (i_ x4.chq)], .al, .st 3] [3, 16, 17, 18, 4, 19, 6] (fun b5 => [(3, (p_ bt1)), (16, (.slice A0 l.length c0)), (17, (i_ (l.length : Int))), (18, (i_ (k : Int))), (4, (.slice ar R.length cr)), (19, (b_ (decide ((k : Int) < (l.length : Int))))), (6, (p_ b5))]) (fun b5 => [blk bt1 [(.map (some mb2))] 55, mapI (fun k : Int => i_ k) (fun v_ : Cl => (.agg (encCl v_).toArray)) mb2 kv, sl ar (R.length) cr 30 14 (V.flat encCl R), blk b5 [(i_ x4.kd), (i_ x4.chi), (i_ x4.chp), (b_ x4.chl), (u_ x4.cra), (u_ x4.crb), (u_ x4.crc), (u_ x4.cla), (u_ x4.clb), (u_ x4.clc), (u_ x4.cua), (u_ x4.cub), (u_ x4.cuc), (i_ x4.chk), (i_ x4.chq)] 32]) (fun b5 => [b5]) (fun _ => (fun κ => κ.rd ((at0 A0).add (k * 15)) [(i_ x4.kd), (i_ x4.chi), (i_ x4.chp), (b_ x4.chl), (u_ x4.cra), (u_ x4.crb), (u_ x4.crc), (u_ x4.cla), (u_ x4.clb), (u_ x4.clc), (u_ x4.cua), (u_ x4.cub), (u_ x4.cuc), (i_ x4.chk), (i_ x4.chq)] ∧ True)) (fun _ => by kernel_rfl) (fun b5 => ⟨(reads_at0 (vs := [(i_ x4.kd), (i_ x4.chi), (i_ x4.chp), (b_ x4.chl), (u_ x4.cra), (u_ x4.crb), (u_ x4.crc), (u_ x4.cla), (u_ x4.clb), (u_ x4.clc), (u_ x4.cua), (u_ x4.cub), (u_ x4.cuc), (i_ x4.chk), (i_ x4.chq)]) encAc_len (rd_old r0 (by simp [feet])) hx4 (by simp) rfl), trivial⟩) ?_
        intro b5
        refine A.tn ?_
        refine A.seq ?_
        refine A.region (A.goP [.p, .ld 3] [(3, (p_ bt1)), (16, (.slice A0 l.length c0)), (17, (i_ (l.length : Int))), (18, (i_ (k : Int))), (4, (.slice ar R.length cr)), (19, (b_ (decide ((k : Int) < (l.length : Int))))), (6, (p_ b5)), (22, (.slice ar R.length cr)), (23, (.agg #[(i_ x4.kd), (i_ x4.chi), (i_ x4.chp), (b_ x4.chl), (u_ x4.cra), (u_ x4.crb), (u_ x4.crc), (u_ x4.cla), (u_ x4.clb), (u_ x4.clc), (u_ x4.cua), (u_ x4.cub), (u_ x4.cuc), (i_ x4.chk), (i_ x4.chq)]))] [b5] T0 (by kernel_rfl) trivial ?_)
        refine A.cons (A.callT (some 24) [(.slice ar R.length cr), (.agg #[(i_ x4.kd), (i_ x4.chi), (i_ x4.chp), (b_ x4.chl), (u_ x4.cra), (u_ x4.crb), (u_ x4.crc), (u_ x4.cla), (u_ x4.clb), (u_ x4.clc), (u_ x4.cua), (u_ x4.cub), (u_ x4.cuc), (i_ x4.chk), (i_ x4.chq)])] [2] ((fun zz => match zz with | (al'6, cl'7) => (.agg #[(.slice al'6 ((wantL R x4).length) cl'7), (i_ (wantE R x4))]))) ((fun zz => match zz with | (al'6, cl'7) => True)) ((fun zz => match zz with | (al'6, cl'7) => [sl al'6 ((wantL R x4).length) cl'7 30 14 (V.flat encCl (wantL R x4))])) (fun zz => match zz with | (al'6, cl'7) => [sl al'6 ((wantL R x4).length) cl'7 30 14 (V.flat encCl (wantL R x4)), blk bt1 [(.map (some mb2))] 55, mapI (fun k : Int => i_ k) (fun v_ : Cl => (.agg (encCl v_).toArray)) mb2 kv, blk b5 [(i_ x4.kd), (i_ x4.chi), (i_ x4.chp), (b_ x4.chl), (u_ x4.cra), (u_ x4.crb), (u_ x4.crc), (u_ x4.cla), (u_ x4.clb), (u_ x4.clc), (u_ x4.cua), (u_ x4.cub), (u_ x4.cuc), (i_ x4.chk), (i_ x4.chq)] 32]) (by kernel_rfl) rfl rfl (fun ww ss hh => want_spec ar R cr x4 (by first | assumption | omega | exact kr_done hK hL (hR _ (List.mem_of_getElem? (by assumption))) | exact laid_done hL _ | (rw [hkl]; omega) | (have h_ := kr_len hK; omega)) ww hh) (fun _ => rfl) ?_)
        rintro ⟨al'6, cl'7⟩ -
        refine A.goA1 [.al, .st 4] [3, 16, 17, 18, 4, 19, 6, 7] (fun b9 => [(3, (p_ bt1)), (16, (.slice A0 l.length c0)), (17, (i_ (l.length : Int))), (18, (i_ (k : Int))), (4, (.slice ar R.length cr)), (19, (b_ (decide ((k : Int) < (l.length : Int))))), (6, (p_ b5)), (7, (p_ b9))]) (fun b9 => [sl al'6 ((wantL R x4).length) cl'7 30 14 (V.flat encCl (wantL R x4)), blk bt1 [(.map (some mb2))] 55, mapI (fun k : Int => i_ k) (fun v_ : Cl => (.agg (encCl v_).toArray)) mb2 kv, blk b5 [(i_ x4.kd), (i_ x4.chi), (i_ x4.chp), (b_ x4.chl), (u_ x4.cra), (u_ x4.crb), (u_ x4.crc), (u_ x4.cla), (u_ x4.clb), (u_ x4.clc), (u_ x4.cua), (u_ x4.cub), (u_ x4.cuc), (i_ x4.chk), (i_ x4.chq)] 32, blk b9 [(.slice al'6 ((wantL R x4).length) cl'7), (i_ (wantE R x4))] 43]) (fun b9 => [b9]) (fun _ => T0) (fun _ => by kernel_rfl) (fun b9 => trivial) ?_
        intro b9
        refine A.tn ?_
        refine A.seq ?_
        refine A.seq ?_
        refine A.cutR (fun _ : Unit => [(3, (p_ bt1)), (16, (.slice A0 l.length c0)), (17, (i_ (l.length : Int))), (18, (i_ (k : Int))), (4, (.slice ar R.length cr)), (19, (b_ (decide ((k : Int) < (l.length : Int))))), (6, (p_ b5)), (7, (p_ b9)), (37, (b_ (((doneE kv x4) != (wantE R x4)) || false)))]) (fun _ : Unit => [blk bt1 [(.map (some mb2))] 55, mapI (fun k : Int => i_ k) (fun v_ : Cl => (.agg (encCl v_).toArray)) mb2 (doneK kv x4), sl al'6 ((wantL R x4).length) cl'7 30 14 (V.flat encCl (wantL R x4)), blk b5 [(i_ x4.kd), (i_ x4.chi), (i_ x4.chp), (b_ x4.chl), (u_ x4.cra), (u_ x4.crb), (u_ x4.crc), (u_ x4.cla), (u_ x4.clb), (u_ x4.clc), (u_ x4.cua), (u_ x4.cub), (u_ x4.cuc), (i_ x4.chk), (i_ x4.chq)] 32, blk b9 [(.slice al'6 ((wantL R x4).length) cl'7), (i_ (wantE R x4))] 43]) (fun _ => True) ?_ (fun zz_ _ => ?_)
        · skip
          refine A.draw2 [2] 13 (by kernel_rfl) ?_
          refine A.drawP 10 [.p, .ld 3, .p] [0, 1, 3] [(3, (p_ bt1)), (16, (.slice A0 l.length c0)), (17, (i_ (l.length : Int))), (18, (i_ (k : Int))), (4, (.slice ar R.length cr)), (19, (b_ (decide ((k : Int) < (l.length : Int))))), (6, (p_ b5)), (7, (p_ b9)), (25, (p_ bt1)), (26, (.agg #[(i_ x4.kd), (i_ x4.chi), (i_ x4.chp), (b_ x4.chl), (u_ x4.cra), (u_ x4.crb), (u_ x4.crc), (u_ x4.cla), (u_ x4.clb), (u_ x4.clc), (u_ x4.cua), (u_ x4.cub), (u_ x4.cuc), (i_ x4.chk), (i_ x4.chq)])), (28, (q_ b9 1))] [b5] T0 (by kernel_rfl) trivial ?_
          refine A.fork2r 4 2 rfl rfl (by kernel_rfl) ?_ ?_
          · skip
            refine A.q (some 29) (i_ (wantE R x4)) (by kernel_rfl) (qt_load1 rfl rfl (by kernel_rfl) (reads_blk (i := 4) rfl rfl)) ?_
            refine A.and (List.Sublist.refl _) ?_
            refine A.only2 2 rfl (by kernel_rfl) (A.callT (some 27) [(p_ bt1), (.agg #[(i_ x4.kd), (i_ x4.chi), (i_ x4.chp), (b_ x4.chl), (u_ x4.cra), (u_ x4.crb), (u_ x4.crc), (u_ x4.cla), (u_ x4.clb), (u_ x4.clc), (u_ x4.cua), (u_ x4.cub), (u_ x4.cuc), (i_ x4.chk), (i_ x4.chq)])] [1, 1] ((fun _ => (i_ (doneE kv x4)))) ((fun _ => True)) ((fun _ => [blk bt1 [(.map (some mb2))] 55, mapI (fun k : Int => i_ k) (fun v_ : Cl => (.agg (encCl v_).toArray)) mb2 (doneK kv x4)])) (fun _ => [blk bt1 [(.map (some mb2))] 55, mapI (fun k : Int => i_ k) (fun v_ : Cl => (.agg (encCl v_).toArray)) mb2 (doneK kv x4), sl al'6 ((wantL R x4).length) cl'7 30 14 (V.flat encCl (wantL R x4)), blk b5 [(i_ x4.kd), (i_ x4.chi), (i_ x4.chp), (b_ x4.chl), (u_ x4.cra), (u_ x4.crb), (u_ x4.crc), (u_ x4.cla), (u_ x4.clb), (u_ x4.clc), (u_ x4.cua), (u_ x4.cub), (u_ x4.cuc), (i_ x4.chk), (i_ x4.chq)] 32, blk b9 [(.slice al'6 ((wantL R x4).length) cl'7), (i_ (wantE R x4))] 43]) (by kernel_rfl) rfl rfl (fun ww ss hh => done_spec bt1 mb2 kv x4 (by first | assumption | omega | exact kr_done hK hL (hR _ (List.mem_of_getElem? (by assumption))) | exact laid_done hL _ | (rw [hkl]; omega) | (have h_ := kr_len hK; omega)) ww hh) (fun _ => rfl) ?_)
            rintro ⟨⟩ -
            refine A.stage ?_
            refine A.drawP 0 [.p, .p, .o, .p, .p, .ld 4, .cq (b_ true), .p, .cl] [5, 6, 7, 8, 9, 10, 11, 12] [(3, (p_ bt1)), (16, (.slice A0 l.length c0)), (17, (i_ (l.length : Int))), (18, (i_ (k : Int))), (4, (.slice ar R.length cr)), (19, (b_ (decide ((k : Int) < (l.length : Int))))), (6, (p_ b5)), (7, (p_ b9)), (37, (b_ (((doneE kv x4) != (wantE R x4)) || false)))] [b9] (fun κ => ((true && (((doneE kv x4) != (wantE R x4)) == false)) = true → κ.call 13 [(p_ bt1), (.slice al'6 ((wantL R x4).length) cl'7)] (b_ true)) ∧ True) (by kernel_rfl) ⟨(fun h_ => (fun ww ss => same_spec bt1 mb2 (doneK kv x4) al'6 (wantL R x4) cl'7 (by first | assumption | omega | exact kr_done hK hL (hR _ (List.mem_of_getElem? (by assumption))) | exact laid_done hL _ | (rw [hkl]; omega) | (have h_ := kr_len hK; omega)) (by first | assumption | omega | exact kr_done hK hL (hR _ (List.mem_of_getElem? (by assumption))) | exact laid_done hL _ | (rw [hkl]; omega) | (have h_ := kr_len hK; omega)) ww (ss.mem (i := 0) rfl) (ss.mem (i := 1) rfl) ((rd_sl (i := 2) rfl) ww ss))), trivial⟩ ?_
            refine A.fin2 (by kernel_rfl) ?_
            exact A.meet () trivial (A.here (by exact ⟨rfl, rfl, rfl, rfl, rfl, rfl, rfl, rfl, rfl, trivial⟩) (List.Sublist.refl _))
          · skip
            refine A.callT (some 27) [(p_ bt1), (.agg #[(i_ x4.kd), (i_ x4.chi), (i_ x4.chp), (b_ x4.chl), (u_ x4.cra), (u_ x4.crb), (u_ x4.crc), (u_ x4.cla), (u_ x4.clb), (u_ x4.clc), (u_ x4.cua), (u_ x4.cub), (u_ x4.cuc), (i_ x4.chk), (i_ x4.chq)])] [1, 1] ((fun _ => (i_ (doneE kv x4)))) ((fun _ => True)) ((fun _ => [blk bt1 [(.map (some mb2))] 55, mapI (fun k : Int => i_ k) (fun v_ : Cl => (.agg (encCl v_).toArray)) mb2 (doneK kv x4)])) (fun _ => [blk bt1 [(.map (some mb2))] 55, mapI (fun k : Int => i_ k) (fun v_ : Cl => (.agg (encCl v_).toArray)) mb2 (doneK kv x4), sl al'6 ((wantL R x4).length) cl'7 30 14 (V.flat encCl (wantL R x4)), blk b5 [(i_ x4.kd), (i_ x4.chi), (i_ x4.chp), (b_ x4.chl), (u_ x4.cra), (u_ x4.crb), (u_ x4.crc), (u_ x4.cla), (u_ x4.clb), (u_ x4.clc), (u_ x4.cua), (u_ x4.cub), (u_ x4.cuc), (i_ x4.chk), (i_ x4.chq)] 32, blk b9 [(.slice al'6 ((wantL R x4).length) cl'7), (i_ (wantE R x4))] 43]) (by kernel_rfl) rfl rfl (fun ww ss hh => done_spec bt1 mb2 kv x4 (by first | assumption | omega | exact kr_done hK hL (hR _ (List.mem_of_getElem? (by assumption))) | exact laid_done hL _ | (rw [hkl]; omega) | (have h_ := kr_len hK; omega)) ww hh) (fun _ => rfl) ?_
            rintro ⟨⟩ -
            refine A.stage ?_
            refine A.drawP 0 [.ld 4, .p, .p, .o, .p, .p, .ld 4, .cq (b_ true), .p, .cl] [4, 5, 6, 7, 8, 9, 10, 11, 12] [(3, (p_ bt1)), (16, (.slice A0 l.length c0)), (17, (i_ (l.length : Int))), (18, (i_ (k : Int))), (4, (.slice ar R.length cr)), (19, (b_ (decide ((k : Int) < (l.length : Int))))), (6, (p_ b5)), (7, (p_ b9)), (37, (b_ (((doneE kv x4) != (wantE R x4)) || false)))] [b9, b9] (fun κ => ((true && (((doneE kv x4) != (wantE R x4)) == false)) = true → κ.call 13 [(p_ bt1), (.slice al'6 ((wantL R x4).length) cl'7)] (b_ true)) ∧ True) (by kernel_rfl) ⟨(fun h_ => (fun ww ss => same_spec bt1 mb2 (doneK kv x4) al'6 (wantL R x4) cl'7 (by first | assumption | omega | exact kr_done hK hL (hR _ (List.mem_of_getElem? (by assumption))) | exact laid_done hL _ | (rw [hkl]; omega) | (have h_ := kr_len hK; omega)) (by first | assumption | omega | exact kr_done hK hL (hR _ (List.mem_of_getElem? (by assumption))) | exact laid_done hL _ | (rw [hkl]; omega) | (have h_ := kr_len hK; omega)) ww (ss.mem (i := 0) rfl) (ss.mem (i := 1) rfl) ((rd_sl (i := 2) rfl) ww ss))), trivial⟩ ?_
            refine A.fin2 (by kernel_rfl) ?_
            exact A.meet () trivial (A.here (by exact ⟨rfl, rfl, rfl, rfl, rfl, rfl, rfl, rfl, rfl, trivial⟩) (List.Sublist.refl _))
        · skip
          refine A.tn ?_
          refine A.cond (E := ((doneE kv x4) != (wantE R x4)) || false) rfl (fun e7 => ?_) (fun e7 => ?_)
          · exact absurd e7 (by (rw [done_eq hK hL (hR _ (List.mem_of_getElem? (by assumption)))]; simp))
          · skip
            have p7 := e7; try simp only [decide_eq_true_eq, decide_eq_false_iff_not, beq_iff_eq, beq_eq_false_iff_ne, bne_iff_ne, bne_eq_false_iff_eq, ne_eq, Bool.and_eq_true, Bool.or_eq_true, Bool.or_eq_false_iff, Bool.not_eq_true', Bool.not_eq_false', Int.not_lt, Int.not_le, gt_iff_lt, ge_iff_le, Classical.not_not] at p7
            refine A.skip ?_
            refine A.tn ?_
            refine A.region (A.goA [.p, .ld 4, .p] [(3, (p_ bt1)), (16, (.slice A0 l.length c0)), (17, (i_ (l.length : Int))), (18, (i_ (k : Int))), (4, (.slice al'6 ((wantL R x4).length) cl'7)), (19, (b_ (decide ((k : Int) < (l.length : Int))))), (6, (p_ b5)), (7, (p_ b9)), (37, (b_ (((doneE kv x4) != (wantE R x4)) || false)))] [b9] T0 (by kernel_rfl) trivial ?_)
            refine A.bn ?_
            refine A.tn ?_
            refine A.region (A.goA [.w ((k : Int) + 1), .p] [(3, (p_ bt1)), (16, (.slice A0 l.length c0)), (17, (i_ (l.length : Int))), (18, (i_ ((k : Int) + 1))), (4, (.slice al'6 ((wantL R x4).length) cl'7)), (19, (b_ (decide ((k : Int) < (l.length : Int))))), (6, (p_ b5)), (7, (p_ b9)), (37, (b_ (((doneE kv x4) != (wantE R x4)) || false)))] [] (fun κ => (IntKind.i64.wrap ((k : Int) + 1) = ((k : Int) + 1)) ∧ True) (by kernel_rfl) ⟨(wrap_i64 (e := (k : Int) + 1) (by constructor <;> omega)), trivial⟩ ?_)
            refine A.tn ?_
            refine A.next (k + 1, (doneK kv x4), (wantL R x4), al'6, cl'7) ⟨(by first | assumption | omega | (simp_all; done) | (simp_all; omega) | grind), (by exact kr_done hK hL (hR _ (List.mem_of_getElem? (by assumption)))), (by exact laid_done hL _)⟩ (by first | omega | (simp; omega) | (simp_all; omega)) ?_
            exact A.hereK [0, 0, 0] (by exact ⟨rfl, rfl, rfl, rfl, rfl, trivial⟩) (by kernel_rfl)
      · skip
        have p3 := of_decide_eq_false e3
        refine A.exit ?_
        refine A.te ?_
        refine A.te ?_
        refine A.bh ?_
        refine A.tn ?_
        refine A.seq ?_
        refine A.region (A.goP [.p] [(3, (p_ bt1)), (16, (.slice A0 l.length c0)), (17, (i_ (l.length : Int))), (18, (i_ (k : Int))), (4, (.slice ar R.length cr)), (19, (b_ (decide ((k : Int) < (l.length : Int))))), (41, (p_ bt1))] [] T0 (by kernel_rfl) trivial ?_)
        refine A.cons (A.callT (some 42) [(p_ bt1)] [] ((fun zz => match zz with | (bc10, mc11) => (p_ bc10))) ((fun zz => match zz with | (bc10, mc11) => True)) ((fun zz => match zz with | (bc10, mc11) => [blk bc10 [(.map (some mc11))] 55, mapI (fun k : Int => i_ k) (fun v_ : Cl => (.agg (encCl v_).toArray)) mc11 kv])) (fun zz => match zz with | (bc10, mc11) => [blk bc10 [(.map (some mc11))] 55, mapI (fun k : Int => i_ k) (fun v_ : Cl => (.agg (encCl v_).toArray)) mc11 kv, blk bt1 [(.map (some mb2))] 55, mapI (fun k : Int => i_ k) (fun v_ : Cl => (.agg (encCl v_).toArray)) mb2 kv, sl ar (R.length) cr 30 14 (V.flat encCl R)]) (by kernel_rfl) rfl rfl (fun ww ss hh => copy_ok bt1 mb2 kv ww (ss.mem (i := 0) rfl) (ss.mem (i := 1) rfl) hh) (fun _ => rfl) ?_)
        rintro ⟨bc10, mc11⟩ -
        refine A.goA [.p] [(3, (p_ bt1)), (16, (.slice A0 l.length c0)), (17, (i_ (l.length : Int))), (18, (i_ (k : Int))), (4, (.slice ar R.length cr)), (19, (b_ (decide ((k : Int) < (l.length : Int))))), (8, (p_ bc10))] [] T0 (by kernel_rfl) trivial ?_
        refine A.tn ?_
        refine A.seq ?_
        refine A.seq ?_
        refine A.region (A.goP [.p] [(3, (p_ bt1)), (16, (.slice A0 l.length c0)), (17, (i_ (l.length : Int))), (18, (i_ (k : Int))), (4, (.slice ar R.length cr)), (19, (b_ (decide ((k : Int) < (l.length : Int))))), (8, (p_ bc10)), (43, (p_ bt1))] [] T0 (by kernel_rfl) trivial ?_)
        refine A.cons (A.callT (some 44) [(p_ bt1)] [] ((fun zz => match zz with | (al'12, cl'13) => (.slice al'12 ((keysF kv (fun v_ => v_.hl)).length) cl'13))) ((fun zz => match zz with | (al'12, cl'13) => True)) ((fun zz => match zz with | (al'12, cl'13) => [sl al'12 ((keysF kv (fun v_ => v_.hl)).length) cl'13 3 1 (V.flat encI (keysF kv (fun v_ => v_.hl)))])) (fun zz => match zz with | (al'12, cl'13) => [sl al'12 ((keysF kv (fun v_ => v_.hl)).length) cl'13 3 1 (V.flat encI (keysF kv (fun v_ => v_.hl))), blk bc10 [(.map (some mc11))] 55, mapI (fun k : Int => i_ k) (fun v_ : Cl => (.agg (encCl v_).toArray)) mc11 kv, blk bt1 [(.map (some mb2))] 55, mapI (fun k : Int => i_ k) (fun v_ : Cl => (.agg (encCl v_).toArray)) mb2 kv, sl ar (R.length) cr 30 14 (V.flat encCl R)]) (by kernel_rfl) rfl rfl (fun ww ss hh => leaves_ok bt1 mb2 kv (by first | assumption | omega | exact kr_done hK hL (hR _ (List.mem_of_getElem? (by assumption))) | exact laid_done hL _ | (rw [hkl]; omega) | (have h_ := kr_len hK; omega)) ww (ss.mem (i := 2) rfl) (ss.mem (i := 3) rfl) hh) (fun _ => rfl) ?_)
        rintro ⟨al'12, cl'13⟩ -
        refine A.goA [.p, .p] [(3, (p_ bt1)), (16, (.slice A0 l.length c0)), (17, (i_ (l.length : Int))), (18, (i_ (k : Int))), (4, (.slice ar R.length cr)), (19, (b_ (decide ((k : Int) < (l.length : Int))))), (8, (p_ bc10)), (44, (.slice al'12 ((keysF kv (fun v_ => v_.hl)).length) cl'13)), (45, (i_ ((keysF kv (fun v_ => v_.hl)).length : Int))), (46, (i_ 0))] [] T0 (by kernel_rfl) trivial ?_
        refine A.tn ?_
        refine A.block ?_
        refine A.loop (fun (zz : Nat × (List (Int × Cl))) => match zz with | (j, kv2) => [(3, (p_ bt1)), (4, (.slice ar R.length cr)), (8, (p_ bc10)), (44, (.slice al'12 ((keysF kv (fun v_ => v_.hl)).length) cl'13)), (45, (i_ ((keysF kv (fun v_ => v_.hl)).length : Int))), (46, (i_ (j : Int)))]) (fun (zz : Nat × (List (Int × Cl))) => match zz with | (j, kv2) => [blk bt1 [(.map (some mb2))] 55, mapI (fun k : Int => i_ k) (fun v_ : Cl => (.agg (encCl v_).toArray)) mb2 kv2, sl al'12 ((keysF kv (fun v_ => v_.hl)).length) cl'13 3 1 (V.flat encI (keysF kv (fun v_ => v_.hl))), blk bc10 [(.map (some mc11))] 55, mapI (fun k : Int => i_ k) (fun v_ : Cl => (.agg (encCl v_).toArray)) mc11 kv, sl ar (R.length) cr 30 14 (V.flat encCl R)]) (fun (zz : Nat × (List (Int × Cl))) => match zz with | (j, kv2) => (j ≤ (keysF kv (fun v_ => v_.hl)).length) ∧ (kv2.length ≤ 64)) (fun (zz : Nat × (List (Int × Cl))) => match zz with | (j, kv2) => (keysF kv (fun v_ => v_.hl)).length - j) (0, kv) ⟨(by first | assumption | omega | (simp_all; done) | (simp_all; omega) | grind), (by first | assumption | omega | (simp_all; done) | (simp_all; omega) | grind)⟩ ?_ ?_
        · exact A.hereK [3, 3, 0, 0, 0, 0] (by exact ⟨rfl, rfl, rfl, rfl, rfl, rfl, trivial⟩) (by kernel_rfl)
        · rintro ⟨j, kv2⟩ ⟨hj, hl2⟩
          have hlvl := keysF_len kv (fun v_ => v_.hl)
          refine A.norm [(3, (p_ bt1)), (4, (.slice ar R.length cr)), (8, (p_ bc10)), (44, (.slice al'12 ((keysF kv (fun v_ => v_.hl)).length) cl'13)), (45, (i_ ((keysF kv (fun v_ => v_.hl)).length : Int))), (46, (i_ (j : Int)))] [blk bt1 [(.map (some mb2))] 55, mapI (fun k : Int => i_ k) (fun v_ : Cl => (.agg (encCl v_).toArray)) mb2 kv2, sl al'12 ((keysF kv (fun v_ => v_.hl)).length) cl'13 3 1 (V.flat encI (keysF kv (fun v_ => v_.hl))), blk bc10 [(.map (some mc11))] 55, mapI (fun k : Int => i_ k) (fun v_ : Cl => (.agg (encCl v_).toArray)) mc11 kv, sl ar (R.length) cr 30 14 (V.flat encCl R)] (by exact ⟨rfl, rfl, rfl, rfl, rfl, rfl, trivial⟩) rfl ?_
          refine A.seq ?_
          refine A.region (A.goA [.p] [(3, (p_ bt1)), (4, (.slice ar R.length cr)), (8, (p_ bc10)), (44, (.slice al'12 ((keysF kv (fun v_ => v_.hl)).length) cl'13)), (45, (i_ ((keysF kv (fun v_ => v_.hl)).length : Int))), (46, (i_ (j : Int))), (47, (b_ (decide ((j : Int) < ((keysF kv (fun v_ => v_.hl)).length : Int)))))] [] T0 (by kernel_rfl) trivial ?_)
          refine A.tn ?_
          refine A.seq ?_
          refine A.cond (E := decide ((j : Int) < ((keysF kv (fun v_ => v_.hl)).length : Int))) rfl (fun e10 => ?_) (fun e10 => ?_)
          · skip
            have p10 := of_decide_eq_true e10
            refine A.skip ?_
            refine A.tn ?_
            refine A.seq ?_
            refine A.block ?_
            refine A.seq ?_
            refine A.region (A.goP [.ix] [(3, (p_ bt1)), (4, (.slice ar R.length cr)), (8, (p_ bc10)), (44, (.slice al'12 ((keysF kv (fun v_ => v_.hl)).length) cl'13)), (45, (i_ ((keysF kv (fun v_ => v_.hl)).length : Int))), (46, (i_ (j : Int))), (47, (b_ (decide ((j : Int) < ((keysF kv (fun v_ => v_.hl)).length : Int))))), (48, (.pointer (some ((at0 al'12).add (j * 1)))))] [] (fun κ => κ.ix al'12 ((keysF kv (fun v_ => v_.hl)).length) (j : Int) ∧ True) (by kernel_rfl) ⟨(ixOf encI_len (by decide) (rd_sl (i := 2) rfl) (by first | omega | (simp; omega) | (simp; done))), trivial⟩ ?_)
            obtain ⟨x15, hx15⟩ : ∃ x, ((keysF kv (fun v_ => v_.hl)))[j]? = some x := ⟨_, List.getElem?_eq_getElem (by omega)⟩
            refine A.goA [.rd [(i_ x15)], .p] [(3, (p_ bt1)), (4, (.slice ar R.length cr)), (8, (p_ bc10)), (44, (.slice al'12 ((keysF kv (fun v_ => v_.hl)).length) cl'13)), (45, (i_ ((keysF kv (fun v_ => v_.hl)).length : Int))), (46, (i_ (j : Int))), (47, (b_ (decide ((j : Int) < ((keysF kv (fun v_ => v_.hl)).length : Int))))), (10, (i_ x15))] [] (fun κ => κ.rd ((at0 al'12).add (j * 1)) [(i_ x15)] ∧ True) (by kernel_rfl) ⟨(reads_at0 (vs := [(i_ x15)]) encI_len (rd_sl (i := 2) rfl) hx15 (by simp) rfl), trivial⟩ ?_
            refine A.tn ?_
            refine A.region (A.goP [.p, .p] [(3, (p_ bt1)), (4, (.slice ar R.length cr)), (8, (p_ bc10)), (44, (.slice al'12 ((keysF kv (fun v_ => v_.hl)).length) cl'13)), (45, (i_ ((keysF kv (fun v_ => v_.hl)).length : Int))), (46, (i_ (j : Int))), (47, (b_ (decide ((j : Int) < ((keysF kv (fun v_ => v_.hl)).length : Int))))), (10, (i_ x15)), (50, (p_ bt1)), (51, (i_ x15))] [] T0 (by kernel_rfl) trivial ?_)
            refine A.cons (A.callT (some 52) [(p_ bt1), (i_ x15)] [0, 0] ((fun kv'16 => (i_ (delE kv2 x15)))) ((fun kv'16 => kv'16 = delK kv2 x15)) ((fun kv'16 => [blk bt1 [(.map (some mb2))] 55, mapI (fun k : Int => i_ k) (fun v_ : Cl => (.agg (encCl v_).toArray)) mb2 kv'16])) (fun kv'16 => [blk bt1 [(.map (some mb2))] 55, mapI (fun k : Int => i_ k) (fun v_ : Cl => (.agg (encCl v_).toArray)) mb2 kv'16, sl al'12 ((keysF kv (fun v_ => v_.hl)).length) cl'13 3 1 (V.flat encI (keysF kv (fun v_ => v_.hl))), blk bc10 [(.map (some mc11))] 55, mapI (fun k : Int => i_ k) (fun v_ : Cl => (.agg (encCl v_).toArray)) mc11 kv, sl ar (R.length) cr 30 14 (V.flat encCl R)]) (by kernel_rfl) rfl rfl (fun ww ss hh => del_ok bt1 mb2 kv2 x15 (by first | assumption | omega | exact kr_done hK hL (hR _ (List.mem_of_getElem? (by assumption))) | exact laid_done hL _ | (rw [hkl]; omega) | (have h_ := kr_len hK; omega)) ww hh) (fun _ => rfl) ?_)
            rintro kv'16 hz11
            refine A.done ?_
            refine A.sub [(3, (p_ bt1)), (4, (.slice ar R.length cr)), (8, (p_ bc10)), (44, (.slice al'12 ((keysF kv (fun v_ => v_.hl)).length) cl'13)), (45, (i_ ((keysF kv (fun v_ => v_.hl)).length : Int))), (46, (i_ (j : Int))), (47, (b_ (decide ((j : Int) < ((keysF kv (fun v_ => v_.hl)).length : Int))))), (10, (i_ x15))] (by exact ⟨rfl, rfl, rfl, rfl, rfl, rfl, rfl, rfl, trivial⟩) ?_
            refine A.bn ?_
            refine A.tn ?_
            refine A.region (A.goA [.w ((j : Int) + 1), .p] [(3, (p_ bt1)), (4, (.slice ar R.length cr)), (8, (p_ bc10)), (44, (.slice al'12 ((keysF kv (fun v_ => v_.hl)).length) cl'13)), (45, (i_ ((keysF kv (fun v_ => v_.hl)).length : Int))), (46, (i_ ((j : Int) + 1))), (47, (b_ (decide ((j : Int) < ((keysF kv (fun v_ => v_.hl)).length : Int))))), (10, (i_ x15))] [] (fun κ => (IntKind.i64.wrap ((j : Int) + 1) = ((j : Int) + 1)) ∧ True) (by kernel_rfl) ⟨(wrap_i64 (e := (j : Int) + 1) (by constructor <;> omega)), trivial⟩ ?_)
            refine A.tn ?_
            refine A.next (j + 1, kv'16) ⟨(by first | assumption | omega | (simp_all; done) | (simp_all; omega) | grind), (by (subst_vars; exact Nat.le_trans (delK_le _ _) hl2))⟩ (by first | omega | (simp; omega) | (simp_all; omega)) ?_
            exact A.hereK [0, 0, 0, 0, 0, 0] (by exact ⟨rfl, rfl, rfl, rfl, rfl, rfl, trivial⟩) (by kernel_rfl)
          · skip
            have p10 := of_decide_eq_false e10
            refine A.exit ?_
            refine A.te ?_
            refine A.te ?_
            refine A.bh ?_
            refine A.tn ?_
            refine A.seq ?_
            refine A.region (A.goA [.p, .p, .cq (b_ true), .p, .cq (b_ true), .p, .p] [(3, (p_ bt1)), (4, (.slice ar R.length cr)), (8, (p_ bc10)), (44, (.slice al'12 ((keysF kv (fun v_ => v_.hl)).length) cl'13)), (45, (i_ ((keysF kv (fun v_ => v_.hl)).length : Int))), (46, (i_ (j : Int))), (47, (b_ (decide ((j : Int) < ((keysF kv (fun v_ => v_.hl)).length : Int))))), (2, (b_ true))] [] (fun κ => κ.call 13 [(p_ bc10), (.slice ar R.length cr)] (b_ true) ∧ κ.call 6 [] (b_ true) ∧ True) (by kernel_rfl) ⟨(fun ww ss => same_spec bc10 mc11 kv ar R cr (by first | assumption | omega | exact kr_done hK hL (hR _ (List.mem_of_getElem? (by assumption))) | exact laid_done hL _ | (rw [hkl]; omega) | (have h_ := kr_len hK; omega)) (by first | assumption | omega | exact kr_done hK hL (hR _ (List.mem_of_getElem? (by assumption))) | exact laid_done hL _ | (rw [hkl]; omega) | (have h_ := kr_len hK; omega)) ww (ss.mem (i := 3) rfl) (ss.mem (i := 4) rfl) ((rd_sl (i := 5) rfl) ww ss)), (fun ww ss => two_spec ww), trivial⟩ ?_)
            refine A.tn ?_
            refine A.ret ?_
            refine A.postQ [(b_ true)] (fun aa ww rr ss => ⟨rv_tmp rr rfl, trivial⟩) ?_
            rfl

set_option maxHeartbeats 4000000 in
set_option maxRecDepth 100000 in
theorem hierLaid_walk (A0 : Option Addr) (l : List Ac) (c0 : Nat) (w : World) (r0 : arrAt w A0 (V.flat encAc l)) :
    Calls Try.prog 3 #[(.slice A0 l.length c0)] w fun e w' => e = .returned (b_ true) ∧ Fr [] w w' := by
  refine calls_of (args := [(.slice A0 l.length c0)]) (penv [(.slice A0 l.length c0)]) [] [] Try.func3 rfl rfl (look_penv _) (HS.nil w) ?_
  refine A.norm [(0, (.slice A0 l.length c0))] [] (by exact ⟨rfl, trivial⟩) rfl ?_
  refine A.seq ?_
  refine A.region (A.goA [.p] [(0, (.slice A0 l.length c0)), (2, (b_ false))] [] T0 (by kernel_rfl) trivial ?_)
  refine A.tn ?_
  refine A.seq ?_
  refine A.seq ?_
  refine A.region (A.goA [.p, .p, .p] [(0, (.slice A0 l.length c0)), (2, (b_ false)), (18, (b_ (decide ((l.length : Int) > 200))))] [] T0 (by kernel_rfl) trivial ?_)
  refine A.tn ?_
  refine A.cond (E := decide ((l.length : Int) > 200)) rfl (fun e1 => ?_) (fun e1 => ?_)
  · skip
    have p1 := of_decide_eq_true e1
    refine A.seq ?_
    refine A.region (A.goA [.cq (b_ true), .p] [(0, (.slice A0 l.length c0)), (2, (b_ true)), (18, (b_ (decide ((l.length : Int) > 200))))] [] (fun κ => κ.call 6 [] (b_ true) ∧ True) (by kernel_rfl) ⟨(fun ww ss => two_spec ww), trivial⟩ ?_)
    refine A.tn ?_
    refine A.ret ?_
    refine A.tr ?_
    refine A.postQ [(b_ true)] (fun aa ww rr ss => ⟨rv_tmp rr rfl, trivial⟩) ?_
    rfl
  · skip
    have p1 := of_decide_eq_false e1
    refine A.skip ?_
    refine A.tn ?_
    refine A.seq ?_
    refine A.region ?_
    refine A.cons (A.callT (some 20) [] [] ((fun zz => match zz with | (bt1, mb2) => (p_ bt1))) ((fun zz => match zz with | (bt1, mb2) => True)) ((fun zz => match zz with | (bt1, mb2) => [blk bt1 [(.map (some mb2))] 55, mapI (fun k : Int => i_ k) (fun v_ : Cl => (.agg (encCl v_).toArray)) mb2 ([] : List (Int × Cl))])) (fun zz => match zz with | (bt1, mb2) => [blk bt1 [(.map (some mb2))] 55, mapI (fun k : Int => i_ k) (fun v_ : Cl => (.agg (encCl v_).toArray)) mb2 ([] : List (Int × Cl))]) (by kernel_rfl) rfl rfl (fun ww ss hh => hnew_spec ww hh) (fun _ => rfl) ?_)
    rintro ⟨bt1, mb2⟩ -
    refine A.goA [.p] [(0, (.slice A0 l.length c0)), (2, (b_ false)), (18, (b_ (decide ((l.length : Int) > 200)))), (3, (p_ bt1))] [] T0 (by kernel_rfl) trivial ?_
    refine A.tn ?_
    refine A.seq ?_
    refine A.seq ?_
    refine A.region (A.goA [.p, .p, .p] [(0, (.slice A0 l.length c0)), (2, (b_ false)), (18, (b_ (decide ((l.length : Int) > 200)))), (3, (p_ bt1)), (21, (.slice A0 l.length c0)), (22, (i_ (l.length : Int))), (23, (i_ 0))] [] T0 (by kernel_rfl) trivial ?_)
    refine A.tn ?_
    refine A.block ?_
    refine A.loop (fun (zz : Nat × (List (Int × Cl))) => match zz with | (k, kv) => [(2, (b_ false)), (3, (p_ bt1)), (21, (.slice A0 l.length c0)), (22, (i_ (l.length : Int))), (23, (i_ (k : Int)))]) (fun (zz : Nat × (List (Int × Cl))) => match zz with | (k, kv) => [blk bt1 [(.map (some mb2))] 55, mapI (fun k : Int => i_ k) (fun v_ : Cl => (.agg (encCl v_).toArray)) mb2 kv]) (fun (zz : Nat × (List (Int × Cl))) => match zz with | (k, kv) => (k ≤ l.length) ∧ (Laid kv)) (fun (zz : Nat × (List (Int × Cl))) => match zz with | (k, kv) => l.length - k) (0, ([] : List (Int × Cl))) ⟨(by first | assumption | omega | (simp_all; done) | (simp_all; omega) | grind), (by exact laid_nil)⟩ ?_ ?_
    · exact A.hereK [0, 0] (by exact ⟨rfl, rfl, rfl, rfl, rfl, trivial⟩) (by kernel_rfl)
    · rintro ⟨k, kv⟩ ⟨hk, hL⟩
      have hll := hL.len
      refine A.norm [(2, (b_ false)), (3, (p_ bt1)), (21, (.slice A0 l.length c0)), (22, (i_ (l.length : Int))), (23, (i_ (k : Int)))] [blk bt1 [(.map (some mb2))] 55, mapI (fun k : Int => i_ k) (fun v_ : Cl => (.agg (encCl v_).toArray)) mb2 kv] (by exact ⟨rfl, rfl, rfl, rfl, rfl, trivial⟩) rfl ?_
      refine A.seq ?_
      refine A.region (A.goA [.p] [(2, (b_ false)), (3, (p_ bt1)), (21, (.slice A0 l.length c0)), (22, (i_ (l.length : Int))), (23, (i_ (k : Int))), (24, (b_ (decide ((k : Int) < (l.length : Int)))))] [] T0 (by kernel_rfl) trivial ?_)
      refine A.tn ?_
      refine A.seq ?_
      refine A.cond (E := decide ((k : Int) < (l.length : Int))) rfl (fun e3 => ?_) (fun e3 => ?_)
      · skip
        have p3 := of_decide_eq_true e3
        refine A.skip ?_
        refine A.tn ?_
        refine A.seq ?_
        refine A.block ?_
        refine A.seq ?_
        refine A.region (A.goP [.ix] [(2, (b_ false)), (3, (p_ bt1)), (21, (.slice A0 l.length c0)), (22, (i_ (l.length : Int))), (23, (i_ (k : Int))), (24, (b_ (decide ((k : Int) < (l.length : Int))))), (25, (.pointer (some ((at0 A0).add (k * 15)))))] [] (fun κ => κ.ix A0 l.length (k : Int) ∧ True) (by kernel_rfl) ⟨(ixOf encAc_len (by decide) (rd_old r0 (by simp [feet])) (by first | omega | (simp; omega) | (simp; done))), trivial⟩ ?_)
        obtain ⟨x3, hx3⟩ : ∃ x, (l)[k]? = some x := ⟨_, List.getElem?_eq_getElem (by omega)⟩
        refine A.goA1 [.rd [(i_ x3.kd), (i_ x3.chi), (i_ x3.chp), (b_ x3.chl), (u_ x3.cra), (u_ x3.crb), (u_ x3.crc), (u_ x3.cla), (u_ x3.clb), (u_ x3.clc), (u_ x3.cua), (u_ x3.cub), (u_ x3.cuc), (i_ x3.chk), (i_ x3.chq)], .al, .st 2] [2, 3, 21, 22, 23, 24, 5] (fun b4 => [(2, (b_ false)), (3, (p_ bt1)), (21, (.slice A0 l.length c0)), (22, (i_ (l.length : Int))), (23, (i_ (k : Int))), (24, (b_ (decide ((k : Int) < (l.length : Int))))), (5, (p_ b4))]) (fun b4 => [blk bt1 [(.map (some mb2))] 55, mapI (fun k : Int => i_ k) (fun v_ : Cl => (.agg (encCl v_).toArray)) mb2 kv, blk b4 [(i_ x3.kd), (i_ x3.chi), (i_ x3.chp), (b_ x3.chl), (u_ x3.cra), (u_ x3.crb), (u_ x3.crc), (u_ x3.cla), (u_ x3.clb), (u_ x3.clc), (u_ x3.cua), (u_ x3.cub), (u_ x3.cuc), (i_ x3.chk), (i_ x3.chq)] 32]) (fun b4 => [b4]) (fun _ => (fun κ => κ.rd ((at0 A0).add (k * 15)) [(i_ x3.kd), (i_ x3.chi), (i_ x3.chp), (b_ x3.chl), (u_ x3.cra), (u_ x3.crb), (u_ x3.crc), (u_ x3.cla), (u_ x3.clb), (u_ x3.clc), (u_ x3.cua), (u_ x3.cub), (u_ x3.cuc), (i_ x3.chk), (i_ x3.chq)] ∧ True)) (fun _ => by kernel_rfl) (fun b4 => ⟨(reads_at0 (vs := [(i_ x3.kd), (i_ x3.chi), (i_ x3.chp), (b_ x3.chl), (u_ x3.cra), (u_ x3.crb), (u_ x3.crc), (u_ x3.cla), (u_ x3.clb), (u_ x3.clc), (u_ x3.cua), (u_ x3.cub), (u_ x3.cuc), (i_ x3.chk), (i_ x3.chq)]) encAc_len (rd_old r0 (by simp [feet])) hx3 (by simp) rfl), trivial⟩) ?_
        intro b4
        refine A.tn ?_
        refine A.region (A.goP [.p, .ld 2] [(2, (b_ false)), (3, (p_ bt1)), (21, (.slice A0 l.length c0)), (22, (i_ (l.length : Int))), (23, (i_ (k : Int))), (24, (b_ (decide ((k : Int) < (l.length : Int))))), (5, (p_ b4)), (27, (p_ bt1)), (28, (.agg #[(i_ x3.kd), (i_ x3.chi), (i_ x3.chp), (b_ x3.chl), (u_ x3.cra), (u_ x3.crb), (u_ x3.crc), (u_ x3.cla), (u_ x3.clb), (u_ x3.clc), (u_ x3.cua), (u_ x3.cub), (u_ x3.cuc), (i_ x3.chk), (i_ x3.chq)]))] [b4] T0 (by kernel_rfl) trivial ?_)
        refine A.cons (A.callT (some 29) [(p_ bt1), (.agg #[(i_ x3.kd), (i_ x3.chi), (i_ x3.chp), (b_ x3.chl), (u_ x3.cra), (u_ x3.crb), (u_ x3.crc), (u_ x3.cla), (u_ x3.clb), (u_ x3.clc), (u_ x3.cua), (u_ x3.cub), (u_ x3.cuc), (i_ x3.chk), (i_ x3.chq)])] [0, 0] ((fun _ => (i_ (doneE kv x3)))) ((fun _ => True)) ((fun _ => [blk bt1 [(.map (some mb2))] 55, mapI (fun k : Int => i_ k) (fun v_ : Cl => (.agg (encCl v_).toArray)) mb2 (doneK kv x3)])) (fun _ => [blk bt1 [(.map (some mb2))] 55, mapI (fun k : Int => i_ k) (fun v_ : Cl => (.agg (encCl v_).toArray)) mb2 (doneK kv x3), blk b4 [(i_ x3.kd), (i_ x3.chi), (i_ x3.chp), (b_ x3.chl), (u_ x3.cra), (u_ x3.crb), (u_ x3.crc), (u_ x3.cla), (u_ x3.clb), (u_ x3.clc), (u_ x3.cua), (u_ x3.cub), (u_ x3.cuc), (i_ x3.chk), (i_ x3.chq)] 32]) (by kernel_rfl) rfl rfl (fun ww ss hh => done_spec bt1 mb2 kv x3 (by first | assumption | omega | exact (hL.dep.lt _).1 | exact (hL.dep.lt _).2.1 | exact (hL.dep.lt _).2.2 | (exact Nat.le_trans (keysF_len _ _) (by omega))) ww hh) (fun _ => rfl) ?_)
        rintro ⟨⟩ -
        refine A.done ?_
        refine A.sub [(2, (b_ false)), (3, (p_ bt1)), (21, (.slice A0 l.length c0)), (22, (i_ (l.length : Int))), (23, (i_ (k : Int))), (24, (b_ (decide ((k : Int) < (l.length : Int))))), (5, (p_ b4))] (by exact ⟨rfl, rfl, rfl, rfl, rfl, rfl, rfl, trivial⟩) ?_
        refine A.bn ?_
        refine A.tn ?_
        refine A.region (A.goA [.w ((k : Int) + 1), .p] [(2, (b_ false)), (3, (p_ bt1)), (21, (.slice A0 l.length c0)), (22, (i_ (l.length : Int))), (23, (i_ ((k : Int) + 1))), (24, (b_ (decide ((k : Int) < (l.length : Int))))), (5, (p_ b4))] [] (fun κ => (IntKind.i64.wrap ((k : Int) + 1) = ((k : Int) + 1)) ∧ True) (by kernel_rfl) ⟨(wrap_i64 (e := (k : Int) + 1) (by constructor <;> omega)), trivial⟩ ?_)
        refine A.tn ?_
        refine A.next (k + 1, (doneK kv x3)) ⟨(by first | assumption | omega | (simp_all; done) | (simp_all; omega) | grind), (by exact laid_done hL _)⟩ (by first | omega | (simp; omega) | (simp_all; omega)) ?_
        exact A.hereK [0, 0] (by exact ⟨rfl, rfl, rfl, rfl, rfl, trivial⟩) (by kernel_rfl)
      · skip
        have p3 := of_decide_eq_false e3
        refine A.exit ?_
        refine A.te ?_
        refine A.te ?_
        refine A.bh ?_
        refine A.tn ?_
        refine A.seq ?_
        refine A.region (A.goP [.p] [(2, (b_ false)), (3, (p_ bt1)), (21, (.slice A0 l.length c0)), (22, (i_ (l.length : Int))), (23, (i_ (k : Int))), (24, (b_ (decide ((k : Int) < (l.length : Int))))), (31, (p_ bt1))] [] T0 (by kernel_rfl) trivial ?_)
        refine A.cons (A.callT (some 32) [(p_ bt1)] [] ((fun zz => match zz with | (al'5, cl'6) => (.slice al'5 ((keysF kv (fun v_ => true)).length) cl'6))) ((fun zz => match zz with | (al'5, cl'6) => True)) ((fun zz => match zz with | (al'5, cl'6) => [sl al'5 ((keysF kv (fun v_ => true)).length) cl'6 3 1 (V.flat encI (keysF kv (fun v_ => true)))])) (fun zz => match zz with | (al'5, cl'6) => [sl al'5 ((keysF kv (fun v_ => true)).length) cl'6 3 1 (V.flat encI (keysF kv (fun v_ => true))), blk bt1 [(.map (some mb2))] 55, mapI (fun k : Int => i_ k) (fun v_ : Cl => (.agg (encCl v_).toArray)) mb2 kv]) (by kernel_rfl) rfl rfl (fun ww ss hh => ids_ok bt1 mb2 kv (by first | assumption | omega | exact (hL.dep.lt _).1 | exact (hL.dep.lt _).2.1 | exact (hL.dep.lt _).2.2 | (exact Nat.le_trans (keysF_len _ _) (by omega))) ww (ss.mem (i := 0) rfl) (ss.mem (i := 1) rfl) hh) (fun _ => rfl) ?_)
        rintro ⟨al'5, cl'6⟩ -
        refine A.goA [.p] [(2, (b_ false)), (3, (p_ bt1)), (21, (.slice A0 l.length c0)), (22, (i_ (l.length : Int))), (23, (i_ (k : Int))), (24, (b_ (decide ((k : Int) < (l.length : Int))))), (6, (.slice al'5 ((keysF kv (fun v_ => true)).length) cl'6))] [] T0 (by kernel_rfl) trivial ?_
        refine A.tn ?_
        refine A.seq ?_
        refine A.seq ?_
        refine A.region (A.goA [.p, .p, .p] [(2, (b_ false)), (3, (p_ bt1)), (21, (.slice A0 l.length c0)), (22, (i_ (l.length : Int))), (23, (i_ (k : Int))), (24, (b_ (decide ((k : Int) < (l.length : Int))))), (6, (.slice al'5 ((keysF kv (fun v_ => true)).length) cl'6)), (33, (.slice al'5 ((keysF kv (fun v_ => true)).length) cl'6)), (34, (i_ ((keysF kv (fun v_ => true)).length : Int))), (35, (i_ 0))] [] T0 (by kernel_rfl) trivial ?_)
        refine A.tn ?_
        refine A.block ?_
        refine A.loop (fun (zz : Nat) => match zz with | j => [(3, (p_ bt1)), (6, (.slice al'5 ((keysF kv (fun v_ => true)).length) cl'6)), (33, (.slice al'5 ((keysF kv (fun v_ => true)).length) cl'6)), (34, (i_ ((keysF kv (fun v_ => true)).length : Int))), (35, (i_ (j : Int)))]) (fun (zz : Nat) => match zz with | j => [sl al'5 ((keysF kv (fun v_ => true)).length) cl'6 3 1 (V.flat encI (keysF kv (fun v_ => true))), blk bt1 [(.map (some mb2))] 55, mapI (fun k : Int => i_ k) (fun v_ : Cl => (.agg (encCl v_).toArray)) mb2 kv]) (fun (zz : Nat) => match zz with | j => (j ≤ (keysF kv (fun v_ => true)).length)) (fun (zz : Nat) => match zz with | j => (keysF kv (fun v_ => true)).length - j) (0 : Nat) (by first | assumption | omega | (simp_all; done) | (simp_all; omega) | grind) ?_ ?_
        · exact A.hereK [0, 0, 0] (by exact ⟨rfl, rfl, rfl, rfl, rfl, trivial⟩) (by kernel_rfl)
        · rintro j hj
          have hj : j ≤ (keysF kv (fun v_ => true)).length := hj
          have hidl := keysF_len kv (fun v_ => true)
          refine A.norm [(3, (p_ bt1)), (6, (.slice al'5 ((keysF kv (fun v_ => true)).length) cl'6)), (33, (.slice al'5 ((keysF kv (fun v_ => true)).length) cl'6)), (34, (i_ ((keysF kv (fun v_ => true)).length : Int))), (35, (i_ (j : Int)))] [sl al'5 ((keysF kv (fun v_ => true)).length) cl'6 3 1 (V.flat encI (keysF kv (fun v_ => true))), blk bt1 [(.map (some mb2))] 55, mapI (fun k : Int => i_ k) (fun v_ : Cl => (.agg (encCl v_).toArray)) mb2 kv] (by exact ⟨rfl, rfl, rfl, rfl, rfl, trivial⟩) rfl ?_
          refine A.seq ?_
          refine A.region (A.goA [.p] [(3, (p_ bt1)), (6, (.slice al'5 ((keysF kv (fun v_ => true)).length) cl'6)), (33, (.slice al'5 ((keysF kv (fun v_ => true)).length) cl'6)), (34, (i_ ((keysF kv (fun v_ => true)).length : Int))), (35, (i_ (j : Int))), (36, (b_ (decide ((j : Int) < ((keysF kv (fun v_ => true)).length : Int)))))] [] T0 (by kernel_rfl) trivial ?_)
          refine A.tn ?_
          refine A.seq ?_
          refine A.cond (E := decide ((j : Int) < ((keysF kv (fun v_ => true)).length : Int))) rfl (fun e6 => ?_) (fun e6 => ?_)
          · skip
            have p6 := of_decide_eq_true e6
            refine A.skip ?_
            refine A.tn ?_
            refine A.seq ?_
            refine A.block ?_
            refine A.seq ?_
            refine A.region (A.goP [.ix] [(3, (p_ bt1)), (6, (.slice al'5 ((keysF kv (fun v_ => true)).length) cl'6)), (33, (.slice al'5 ((keysF kv (fun v_ => true)).length) cl'6)), (34, (i_ ((keysF kv (fun v_ => true)).length : Int))), (35, (i_ (j : Int))), (36, (b_ (decide ((j : Int) < ((keysF kv (fun v_ => true)).length : Int))))), (37, (.pointer (some ((at0 al'5).add (j * 1)))))] [] (fun κ => κ.ix al'5 ((keysF kv (fun v_ => true)).length) (j : Int) ∧ True) (by kernel_rfl) ⟨(ixOf encI_len (by decide) (rd_sl (i := 0) rfl) (by first | omega | (simp; omega) | (simp; done))), trivial⟩ ?_)
            obtain ⟨x8, hx8⟩ : ∃ x, ((keysF kv (fun v_ => true)))[j]? = some x := ⟨_, List.getElem?_eq_getElem (by omega)⟩
            refine A.goA [.rd [(i_ x8)], .p] [(3, (p_ bt1)), (6, (.slice al'5 ((keysF kv (fun v_ => true)).length) cl'6)), (33, (.slice al'5 ((keysF kv (fun v_ => true)).length) cl'6)), (34, (i_ ((keysF kv (fun v_ => true)).length : Int))), (35, (i_ (j : Int))), (36, (b_ (decide ((j : Int) < ((keysF kv (fun v_ => true)).length : Int))))), (8, (i_ x8))] [] (fun κ => κ.rd ((at0 al'5).add (j * 1)) [(i_ x8)] ∧ True) (by kernel_rfl) ⟨(reads_at0 (vs := [(i_ x8)]) encI_len (rd_sl (i := 0) rfl) hx8 (by simp) rfl), trivial⟩ ?_
            refine A.tn ?_
            refine A.seq ?_
            obtain ⟨y, hy⟩ := mem_ids (by assumption : (keysF kv (fun v_ => true))[j]? = some x8); obtain ⟨q1, q2, q3, q4, q5, q6⟩ := laid_at hL hy; have hab := laid_above hL hy; have hul := upL_len kv x8 (dep kv x8)
            have hu0 : (upL kv x8 (dep kv x8))[0]? = some x8 := upL_at kv x8 (by omega); have hu1 : (upL kv x8 (dep kv x8))[(upL kv x8 (dep kv x8)).length - 1]? = some (upA kv x8 ((dep kv x8) - 1)) := by rw [hul]; exact upL_at kv _ (by omega)
            refine A.region (A.goA1 [.p, .p, .cq (.tuple #[(.agg #[(i_ ((gcl kv x8).hi)), (i_ ((gcl kv x8).hp)), (b_ ((gcl kv x8).hl)), (u_ ((gcl kv x8).ra)), (u_ ((gcl kv x8).rb)), (u_ ((gcl kv x8).rc)), (u_ ((gcl kv x8).la)), (u_ ((gcl kv x8).lb)), (u_ ((gcl kv x8).lc)), (u_ ((gcl kv x8).ua)), (u_ ((gcl kv x8).ub)), (u_ ((gcl kv x8).uc)), (i_ ((gcl kv x8).hk)), (i_ ((gcl kv x8).hq))]), (i_ (gce kv x8))]), .p, .p, .p, .al, .st 3, .p] [3, 6, 33, 34, 35, 36, 8, 9, 10] (fun b9 => [(3, (p_ bt1)), (6, (.slice al'5 ((keysF kv (fun v_ => true)).length) cl'6)), (33, (.slice al'5 ((keysF kv (fun v_ => true)).length) cl'6)), (34, (i_ ((keysF kv (fun v_ => true)).length : Int))), (35, (i_ (j : Int))), (36, (b_ (decide ((j : Int) < ((keysF kv (fun v_ => true)).length : Int))))), (8, (i_ x8)), (9, (p_ b9)), (10, (i_ (gce kv x8)))]) (fun b9 => [sl al'5 ((keysF kv (fun v_ => true)).length) cl'6 3 1 (V.flat encI (keysF kv (fun v_ => true))), blk bt1 [(.map (some mb2))] 55, mapI (fun k : Int => i_ k) (fun v_ : Cl => (.agg (encCl v_).toArray)) mb2 kv, blk b9 [(i_ ((gcl kv x8).hi)), (i_ ((gcl kv x8).hp)), (b_ ((gcl kv x8).hl)), (u_ ((gcl kv x8).ra)), (u_ ((gcl kv x8).rb)), (u_ ((gcl kv x8).rc)), (u_ ((gcl kv x8).la)), (u_ ((gcl kv x8).lb)), (u_ ((gcl kv x8).lc)), (u_ ((gcl kv x8).ua)), (u_ ((gcl kv x8).ub)), (u_ ((gcl kv x8).uc)), (i_ ((gcl kv x8).hk)), (i_ ((gcl kv x8).hq))] 30]) (fun b9 => [b9]) (fun _ => (fun κ => κ.call 10 [(p_ bt1), (i_ x8)] (.tuple #[(.agg #[(i_ ((gcl kv x8).hi)), (i_ ((gcl kv x8).hp)), (b_ ((gcl kv x8).hl)), (u_ ((gcl kv x8).ra)), (u_ ((gcl kv x8).rb)), (u_ ((gcl kv x8).rc)), (u_ ((gcl kv x8).la)), (u_ ((gcl kv x8).lb)), (u_ ((gcl kv x8).lc)), (u_ ((gcl kv x8).ua)), (u_ ((gcl kv x8).ub)), (u_ ((gcl kv x8).uc)), (i_ ((gcl kv x8).hk)), (i_ ((gcl kv x8).hq))]), (i_ (gce kv x8))]) ∧ True)) (fun _ => by kernel_rfl) (fun b9 => ⟨(fun ww ss => get_ok bt1 mb2 kv x8 ww (ss.mem (i := 1) rfl) (ss.mem (i := 2) rfl)), trivial⟩) ?_)
            intro b9
            refine A.tn ?_
            refine A.seq ?_
            refine A.region (A.goP [.p, .p] [(3, (p_ bt1)), (6, (.slice al'5 ((keysF kv (fun v_ => true)).length) cl'6)), (33, (.slice al'5 ((keysF kv (fun v_ => true)).length) cl'6)), (34, (i_ ((keysF kv (fun v_ => true)).length : Int))), (35, (i_ (j : Int))), (36, (b_ (decide ((j : Int) < ((keysF kv (fun v_ => true)).length : Int))))), (8, (i_ x8)), (9, (p_ b9)), (10, (i_ (gce kv x8))), (45, (p_ bt1)), (46, (i_ x8))] [] T0 (by kernel_rfl) trivial ?_)
            refine A.cons (A.callT (some 47) [(p_ bt1), (i_ x8)] [] ((fun zz => match zz with | (al'10, cl'11) => (.slice al'10 ((upL kv x8 (dep kv x8)).length) cl'11))) ((fun zz => match zz with | (al'10, cl'11) => True)) ((fun zz => match zz with | (al'10, cl'11) => [sl al'10 ((upL kv x8 (dep kv x8)).length) cl'11 3 1 (V.flat encI (upL kv x8 (dep kv x8)))])) (fun zz => match zz with | (al'10, cl'11) => [sl al'10 ((upL kv x8 (dep kv x8)).length) cl'11 3 1 (V.flat encI (upL kv x8 (dep kv x8))), sl al'5 ((keysF kv (fun v_ => true)).length) cl'6 3 1 (V.flat encI (keysF kv (fun v_ => true))), blk bt1 [(.map (some mb2))] 55, mapI (fun k : Int => i_ k) (fun v_ : Cl => (.agg (encCl v_).toArray)) mb2 kv, blk b9 [(i_ ((gcl kv x8).hi)), (i_ ((gcl kv x8).hp)), (b_ ((gcl kv x8).hl)), (u_ ((gcl kv x8).ra)), (u_ ((gcl kv x8).rb)), (u_ ((gcl kv x8).rc)), (u_ ((gcl kv x8).la)), (u_ ((gcl kv x8).lb)), (u_ ((gcl kv x8).lc)), (u_ ((gcl kv x8).ua)), (u_ ((gcl kv x8).ub)), (u_ ((gcl kv x8).uc)), (i_ ((gcl kv x8).hk)), (i_ ((gcl kv x8).hq))] 30]) (by kernel_rfl) rfl rfl (fun ww ss hh => up_ok bt1 mb2 kv x8 (dep kv x8) (by first | assumption | omega | exact (hL.dep.lt _).1 | exact (hL.dep.lt _).2.1 | exact (hL.dep.lt _).2.2 | (exact Nat.le_trans (keysF_len _ _) (by omega))) (by first | assumption | omega | exact (hL.dep.lt _).1 | exact (hL.dep.lt _).2.1 | exact (hL.dep.lt _).2.2 | (exact Nat.le_trans (keysF_len _ _) (by omega))) (by first | assumption | omega | exact (hL.dep.lt _).1 | exact (hL.dep.lt _).2.1 | exact (hL.dep.lt _).2.2 | (exact Nat.le_trans (keysF_len _ _) (by omega))) ww (ss.mem (i := 1) rfl) (ss.mem (i := 2) rfl) hh) (fun _ => rfl) ?_)
            rintro ⟨al'10, cl'11⟩ -
            refine A.goA [.p] [(3, (p_ bt1)), (6, (.slice al'5 ((keysF kv (fun v_ => true)).length) cl'6)), (33, (.slice al'5 ((keysF kv (fun v_ => true)).length) cl'6)), (34, (i_ ((keysF kv (fun v_ => true)).length : Int))), (35, (i_ (j : Int))), (36, (b_ (decide ((j : Int) < ((keysF kv (fun v_ => true)).length : Int))))), (8, (i_ x8)), (9, (p_ b9)), (10, (i_ (gce kv x8))), (11, (.slice al'10 ((upL kv x8 (dep kv x8)).length) cl'11))] [] T0 (by kernel_rfl) trivial ?_
            refine A.tn ?_
            refine A.seq ?_
            refine A.seq ?_
            refine A.region (A.goA [.p, .p, .p, .o, .p, .p, .p, .cl, .p, .o, .p, .p, .p, .cl, .p, .o, .p, .ix, .rd [(i_ x8)], .p, .p, .cl] [(3, (p_ bt1)), (6, (.slice al'5 ((keysF kv (fun v_ => true)).length) cl'6)), (33, (.slice al'5 ((keysF kv (fun v_ => true)).length) cl'6)), (34, (i_ ((keysF kv (fun v_ => true)).length : Int))), (35, (i_ (j : Int))), (36, (b_ (decide ((j : Int) < ((keysF kv (fun v_ => true)).length : Int))))), (8, (i_ x8)), (9, (p_ b9)), (10, (i_ (gce kv x8))), (11, (.slice al'10 ((upL kv x8 (dep kv x8)).length) cl'11)), (66, (b_ (((((gce kv x8) != 0) || (decide (((upL kv x8 (dep kv x8)).length : Int) < 1))) || (decide (((upL kv x8 (dep kv x8)).length : Int) > 16))) || (x8 != x8))))] [] (fun κ => ((true && (((((gce kv x8) != 0) || (decide (((upL kv x8 (dep kv x8)).length : Int) < 1))) || (decide (((upL kv x8 (dep kv x8)).length : Int) > 16))) == false)) = true → κ.ix al'10 ((upL kv x8 (dep kv x8)).length) (0 : Int)) ∧ ((true && (((((gce kv x8) != 0) || (decide (((upL kv x8 (dep kv x8)).length : Int) < 1))) || (decide (((upL kv x8 (dep kv x8)).length : Int) > 16))) == false)) = true → κ.rd ((at0 al'10).add (0 * 1)) [(i_ x8)]) ∧ True) (by kernel_rfl) ⟨(fun h_ => (ixOf encI_len (by decide) (rd_sl (i := 0) rfl) (by first | omega | (simp; omega) | (simp; done)))), (fun h_ => (reads_at0 (vs := [(i_ x8)]) encI_len (rd_sl (i := 0) rfl) hu0 (by simp) rfl)), trivial⟩ ?_)
            refine A.tn ?_
            refine A.cond (E := ((((gce kv x8) != 0) || (decide (((upL kv x8 (dep kv x8)).length : Int) < 1))) || (decide (((upL kv x8 (dep kv x8)).length : Int) > 16))) || (x8 != x8)) rfl (fun e8 => ?_) (fun e8 => ?_)
            · exact absurd e8 (by (simp only [q1, hul]; first | (simp; omega) | (simp; done)))
            · skip
              have p8 := e8; try simp only [decide_eq_true_eq, decide_eq_false_iff_not, beq_iff_eq, beq_eq_false_iff_ne, bne_iff_ne, bne_eq_false_iff_eq, ne_eq, Bool.and_eq_true, Bool.or_eq_true, Bool.or_eq_false_iff, Bool.not_eq_true', Bool.not_eq_false', Int.not_lt, Int.not_le, gt_iff_lt, ge_iff_le, Classical.not_not] at p8
              refine A.skip ?_
              refine A.tn ?_
              refine A.seq ?_
              refine A.region (A.goA1 [.p, .p, .p, .p, .w (↑((upL kv x8 (dep kv x8)).length - 1) : Int), .ix, .rd [(i_ (upA kv x8 ((dep kv x8) - 1)))], .cq (.tuple #[(.agg #[(i_ ((gcl kv (upA kv x8 ((dep kv x8) - 1))).hi)), (i_ ((gcl kv (upA kv x8 ((dep kv x8) - 1))).hp)), (b_ ((gcl kv (upA kv x8 ((dep kv x8) - 1))).hl)), (u_ ((gcl kv (upA kv x8 ((dep kv x8) - 1))).ra)), (u_ ((gcl kv (upA kv x8 ((dep kv x8) - 1))).rb)), (u_ ((gcl kv (upA kv x8 ((dep kv x8) - 1))).rc)), (u_ ((gcl kv (upA kv x8 ((dep kv x8) - 1))).la)), (u_ ((gcl kv (upA kv x8 ((dep kv x8) - 1))).lb)), (u_ ((gcl kv (upA kv x8 ((dep kv x8) - 1))).lc)), (u_ ((gcl kv (upA kv x8 ((dep kv x8) - 1))).ua)), (u_ ((gcl kv (upA kv x8 ((dep kv x8) - 1))).ub)), (u_ ((gcl kv (upA kv x8 ((dep kv x8) - 1))).uc)), (i_ ((gcl kv (upA kv x8 ((dep kv x8) - 1))).hk)), (i_ ((gcl kv (upA kv x8 ((dep kv x8) - 1))).hq))]), (i_ (gce kv (upA kv x8 ((dep kv x8) - 1))))]), .p, .p, .p, .al, .st 5, .p] [3, 6, 33, 34, 35, 36, 8, 9, 10, 11, 66, 12, 13] (fun b13 => [(3, (p_ bt1)), (6, (.slice al'5 ((keysF kv (fun v_ => true)).length) cl'6)), (33, (.slice al'5 ((keysF kv (fun v_ => true)).length) cl'6)), (34, (i_ ((keysF kv (fun v_ => true)).length : Int))), (35, (i_ (j : Int))), (36, (b_ (decide ((j : Int) < ((keysF kv (fun v_ => true)).length : Int))))), (8, (i_ x8)), (9, (p_ b9)), (10, (i_ (gce kv x8))), (11, (.slice al'10 ((upL kv x8 (dep kv x8)).length) cl'11)), (66, (b_ (((((gce kv x8) != 0) || (decide (((upL kv x8 (dep kv x8)).length : Int) < 1))) || (decide (((upL kv x8 (dep kv x8)).length : Int) > 16))) || (x8 != x8)))), (12, (p_ b13)), (13, (i_ (gce kv (upA kv x8 ((dep kv x8) - 1)))))]) (fun b13 => [sl al'10 ((upL kv x8 (dep kv x8)).length) cl'11 3 1 (V.flat encI (upL kv x8 (dep kv x8))), sl al'5 ((keysF kv (fun v_ => true)).length) cl'6 3 1 (V.flat encI (keysF kv (fun v_ => true))), blk bt1 [(.map (some mb2))] 55, mapI (fun k : Int => i_ k) (fun v_ : Cl => (.agg (encCl v_).toArray)) mb2 kv, blk b9 [(i_ ((gcl kv x8).hi)), (i_ ((gcl kv x8).hp)), (b_ ((gcl kv x8).hl)), (u_ ((gcl kv x8).ra)), (u_ ((gcl kv x8).rb)), (u_ ((gcl kv x8).rc)), (u_ ((gcl kv x8).la)), (u_ ((gcl kv x8).lb)), (u_ ((gcl kv x8).lc)), (u_ ((gcl kv x8).ua)), (u_ ((gcl kv x8).ub)), (u_ ((gcl kv x8).uc)), (i_ ((gcl kv x8).hk)), (i_ ((gcl kv x8).hq))] 30, blk b13 [(i_ ((gcl kv (upA kv x8 ((dep kv x8) - 1))).hi)), (i_ ((gcl kv (upA kv x8 ((dep kv x8) - 1))).hp)), (b_ ((gcl kv (upA kv x8 ((dep kv x8) - 1))).hl)), (u_ ((gcl kv (upA kv x8 ((dep kv x8) - 1))).ra)), (u_ ((gcl kv (upA kv x8 ((dep kv x8) - 1))).rb)), (u_ ((gcl kv (upA kv x8 ((dep kv x8) - 1))).rc)), (u_ ((gcl kv (upA kv x8 ((dep kv x8) - 1))).la)), (u_ ((gcl kv (upA kv x8 ((dep kv x8) - 1))).lb)), (u_ ((gcl kv (upA kv x8 ((dep kv x8) - 1))).lc)), (u_ ((gcl kv (upA kv x8 ((dep kv x8) - 1))).ua)), (u_ ((gcl kv (upA kv x8 ((dep kv x8) - 1))).ub)), (u_ ((gcl kv (upA kv x8 ((dep kv x8) - 1))).uc)), (i_ ((gcl kv (upA kv x8 ((dep kv x8) - 1))).hk)), (i_ ((gcl kv (upA kv x8 ((dep kv x8) - 1))).hq))] 30]) (fun b13 => [b13]) (fun _ => (fun κ => (IntKind.i64.wrap (((upL kv x8 (dep kv x8)).length : Int) - 1) = (↑((upL kv x8 (dep kv x8)).length - 1) : Int)) ∧ κ.ix al'10 ((upL kv x8 (dep kv x8)).length) (↑((upL kv x8 (dep kv x8)).length - 1) : Int) ∧ κ.rd ((at0 al'10).add ((↑((upL kv x8 (dep kv x8)).length - 1)) * 1)) [(i_ (upA kv x8 ((dep kv x8) - 1)))] ∧ κ.call 10 [(p_ bt1), (i_ (upA kv x8 ((dep kv x8) - 1)))] (.tuple #[(.agg #[(i_ ((gcl kv (upA kv x8 ((dep kv x8) - 1))).hi)), (i_ ((gcl kv (upA kv x8 ((dep kv x8) - 1))).hp)), (b_ ((gcl kv (upA kv x8 ((dep kv x8) - 1))).hl)), (u_ ((gcl kv (upA kv x8 ((dep kv x8) - 1))).ra)), (u_ ((gcl kv (upA kv x8 ((dep kv x8) - 1))).rb)), (u_ ((gcl kv (upA kv x8 ((dep kv x8) - 1))).rc)), (u_ ((gcl kv (upA kv x8 ((dep kv x8) - 1))).la)), (u_ ((gcl kv (upA kv x8 ((dep kv x8) - 1))).lb)), (u_ ((gcl kv (upA kv x8 ((dep kv x8) - 1))).lc)), (u_ ((gcl kv (upA kv x8 ((dep kv x8) - 1))).ua)), (u_ ((gcl kv (upA kv x8 ((dep kv x8) - 1))).ub)), (u_ ((gcl kv (upA kv x8 ((dep kv x8) - 1))).uc)), (i_ ((gcl kv (upA kv x8 ((dep kv x8) - 1))).hk)), (i_ ((gcl kv (upA kv x8 ((dep kv x8) - 1))).hq))]), (i_ (gce kv (upA kv x8 ((dep kv x8) - 1))))]) ∧ True)) (fun _ => by kernel_rfl) (fun b13 => ⟨((wrap_i64 (e := ((upL kv x8 (dep kv x8)).length : Int) - 1) (by (rw [hul]; constructor <;> omega))).trans (by first | rfl | omega : (((upL kv x8 (dep kv x8)).length : Int) - 1 : Int) = (↑((upL kv x8 (dep kv x8)).length - 1) : Int))), (ixOf encI_len (by decide) (rd_sl (i := 0) rfl) (by omega)), (reads_at0 (vs := [(i_ (upA kv x8 ((dep kv x8) - 1)))]) encI_len (rd_sl (i := 0) rfl) hu1 (by simp) rfl), (fun ww ss => get_ok bt1 mb2 kv (upA kv x8 ((dep kv x8) - 1)) ww (ss.mem (i := 2) rfl) (ss.mem (i := 3) rfl)), trivial⟩) ?_)
              intro b13
              refine A.tn ?_
              refine A.seq ?_
              refine A.seq ?_
              refine A.region (A.goA [.p, .p, .p, .o, .p, .ld 5, .p, .cl] [(3, (p_ bt1)), (6, (.slice al'5 ((keysF kv (fun v_ => true)).length) cl'6)), (33, (.slice al'5 ((keysF kv (fun v_ => true)).length) cl'6)), (34, (i_ ((keysF kv (fun v_ => true)).length : Int))), (35, (i_ (j : Int))), (36, (b_ (decide ((j : Int) < ((keysF kv (fun v_ => true)).length : Int))))), (8, (i_ x8)), (9, (p_ b9)), (10, (i_ (gce kv x8))), (11, (.slice al'10 ((upL kv x8 (dep kv x8)).length) cl'11)), (66, (b_ (((((gce kv x8) != 0) || (decide (((upL kv x8 (dep kv x8)).length : Int) < 1))) || (decide (((upL kv x8 (dep kv x8)).length : Int) > 16))) || (x8 != x8)))), (12, (p_ b13)), (13, (i_ (gce kv (upA kv x8 ((dep kv x8) - 1))))), (84, (b_ (((gce kv (upA kv x8 ((dep kv x8) - 1))) != 0) || (((gcl kv (upA kv x8 ((dep kv x8) - 1))).hp) != 0))))] [b13] T0 (by kernel_rfl) trivial ?_)
              refine A.tn ?_
              refine A.cond (E := ((gce kv (upA kv x8 ((dep kv x8) - 1))) != 0) || (((gcl kv (upA kv x8 ((dep kv x8) - 1))).hp) != 0)) rfl (fun e9 => ?_) (fun e9 => ?_)
              · exact absurd e9 (by (simp only [q5, q6]; simp))
              · skip
                have p9 := e9; try simp only [decide_eq_true_eq, decide_eq_false_iff_not, beq_iff_eq, beq_eq_false_iff_ne, bne_iff_ne, bne_eq_false_iff_eq, ne_eq, Bool.and_eq_true, Bool.or_eq_true, Bool.or_eq_false_iff, Bool.not_eq_true', Bool.not_eq_false', Int.not_lt, Int.not_le, gt_iff_lt, ge_iff_le, Classical.not_not] at p9
                refine A.skip ?_
                refine A.tn ?_
                refine A.seq ?_
                refine A.region (A.goA [.p, .ld 4, .p] [(3, (p_ bt1)), (6, (.slice al'5 ((keysF kv (fun v_ => true)).length) cl'6)), (33, (.slice al'5 ((keysF kv (fun v_ => true)).length) cl'6)), (34, (i_ ((keysF kv (fun v_ => true)).length : Int))), (35, (i_ (j : Int))), (36, (b_ (decide ((j : Int) < ((keysF kv (fun v_ => true)).length : Int))))), (8, (i_ x8)), (9, (p_ b9)), (10, (i_ (gce kv x8))), (11, (.slice al'10 ((upL kv x8 (dep kv x8)).length) cl'11)), (66, (b_ (((((gce kv x8) != 0) || (decide (((upL kv x8 (dep kv x8)).length : Int) < 1))) || (decide (((upL kv x8 (dep kv x8)).length : Int) > 16))) || (x8 != x8)))), (12, (p_ b13)), (13, (i_ (gce kv (upA kv x8 ((dep kv x8) - 1))))), (84, (b_ (((gce kv (upA kv x8 ((dep kv x8) - 1))) != 0) || (((gcl kv (upA kv x8 ((dep kv x8) - 1))).hp) != 0)))), (87, (b_ (((gcl kv x8).hp) != 0)))] [b9] T0 (by kernel_rfl) trivial ?_)
                refine A.tn ?_
                refine A.cond (E := ((gcl kv x8).hp) != 0) rfl (fun e10 => ?_) (fun e10 => ?_)
                · skip
                  have p10 := e10; try simp only [decide_eq_true_eq, decide_eq_false_iff_not, beq_iff_eq, beq_eq_false_iff_ne, bne_iff_ne, bne_eq_false_iff_eq, ne_eq, Bool.and_eq_true, Bool.or_eq_true, Bool.or_eq_false_iff, Bool.not_eq_true', Bool.not_eq_false', Int.not_lt, Int.not_le, gt_iff_lt, ge_iff_le, Classical.not_not] at p10
                  refine A.seq ?_
                  refine A.region (A.goA1 [.p, .p, .ld 4, .cq (.tuple #[(.agg #[(i_ ((gcl kv ((gcl kv x8).hp)).hi)), (i_ ((gcl kv ((gcl kv x8).hp)).hp)), (b_ ((gcl kv ((gcl kv x8).hp)).hl)), (u_ ((gcl kv ((gcl kv x8).hp)).ra)), (u_ ((gcl kv ((gcl kv x8).hp)).rb)), (u_ ((gcl kv ((gcl kv x8).hp)).rc)), (u_ ((gcl kv ((gcl kv x8).hp)).la)), (u_ ((gcl kv ((gcl kv x8).hp)).lb)), (u_ ((gcl kv ((gcl kv x8).hp)).lc)), (u_ ((gcl kv ((gcl kv x8).hp)).ua)), (u_ ((gcl kv ((gcl kv x8).hp)).ub)), (u_ ((gcl kv ((gcl kv x8).hp)).uc)), (i_ ((gcl kv ((gcl kv x8).hp)).hk)), (i_ ((gcl kv ((gcl kv x8).hp)).hq))]), (i_ (gce kv ((gcl kv x8).hp)))]), .p, .p, .p, .al, .st 6, .p] [3, 6, 33, 34, 35, 36, 8, 9, 10, 11, 66, 12, 13, 84, 87, 14, 15] (fun b14 => [(3, (p_ bt1)), (6, (.slice al'5 ((keysF kv (fun v_ => true)).length) cl'6)), (33, (.slice al'5 ((keysF kv (fun v_ => true)).length) cl'6)), (34, (i_ ((keysF kv (fun v_ => true)).length : Int))), (35, (i_ (j : Int))), (36, (b_ (decide ((j : Int) < ((keysF kv (fun v_ => true)).length : Int))))), (8, (i_ x8)), (9, (p_ b9)), (10, (i_ (gce kv x8))), (11, (.slice al'10 ((upL kv x8 (dep kv x8)).length) cl'11)), (66, (b_ (((((gce kv x8) != 0) || (decide (((upL kv x8 (dep kv x8)).length : Int) < 1))) || (decide (((upL kv x8 (dep kv x8)).length : Int) > 16))) || (x8 != x8)))), (12, (p_ b13)), (13, (i_ (gce kv (upA kv x8 ((dep kv x8) - 1))))), (84, (b_ (((gce kv (upA kv x8 ((dep kv x8) - 1))) != 0) || (((gcl kv (upA kv x8 ((dep kv x8) - 1))).hp) != 0)))), (87, (b_ (((gcl kv x8).hp) != 0))), (14, (p_ b14)), (15, (i_ (gce kv ((gcl kv x8).hp))))]) (fun b14 => [sl al'10 ((upL kv x8 (dep kv x8)).length) cl'11 3 1 (V.flat encI (upL kv x8 (dep kv x8))), sl al'5 ((keysF kv (fun v_ => true)).length) cl'6 3 1 (V.flat encI (keysF kv (fun v_ => true))), blk bt1 [(.map (some mb2))] 55, mapI (fun k : Int => i_ k) (fun v_ : Cl => (.agg (encCl v_).toArray)) mb2 kv, blk b9 [(i_ ((gcl kv x8).hi)), (i_ ((gcl kv x8).hp)), (b_ ((gcl kv x8).hl)), (u_ ((gcl kv x8).ra)), (u_ ((gcl kv x8).rb)), (u_ ((gcl kv x8).rc)), (u_ ((gcl kv x8).la)), (u_ ((gcl kv x8).lb)), (u_ ((gcl kv x8).lc)), (u_ ((gcl kv x8).ua)), (u_ ((gcl kv x8).ub)), (u_ ((gcl kv x8).uc)), (i_ ((gcl kv x8).hk)), (i_ ((gcl kv x8).hq))] 30, blk b13 [(i_ ((gcl kv (upA kv x8 ((dep kv x8) - 1))).hi)), (i_ ((gcl kv (upA kv x8 ((dep kv x8) - 1))).hp)), (b_ ((gcl kv (upA kv x8 ((dep kv x8) - 1))).hl)), (u_ ((gcl kv (upA kv x8 ((dep kv x8) - 1))).ra)), (u_ ((gcl kv (upA kv x8 ((dep kv x8) - 1))).rb)), (u_ ((gcl kv (upA kv x8 ((dep kv x8) - 1))).rc)), (u_ ((gcl kv (upA kv x8 ((dep kv x8) - 1))).la)), (u_ ((gcl kv (upA kv x8 ((dep kv x8) - 1))).lb)), (u_ ((gcl kv (upA kv x8 ((dep kv x8) - 1))).lc)), (u_ ((gcl kv (upA kv x8 ((dep kv x8) - 1))).ua)), (u_ ((gcl kv (upA kv x8 ((dep kv x8) - 1))).ub)), (u_ ((gcl kv (upA kv x8 ((dep kv x8) - 1))).uc)), (i_ ((gcl kv (upA kv x8 ((dep kv x8) - 1))).hk)), (i_ ((gcl kv (upA kv x8 ((dep kv x8) - 1))).hq))] 30, blk b14 [(i_ ((gcl kv ((gcl kv x8).hp)).hi)), (i_ ((gcl kv ((gcl kv x8).hp)).hp)), (b_ ((gcl kv ((gcl kv x8).hp)).hl)), (u_ ((gcl kv ((gcl kv x8).hp)).ra)), (u_ ((gcl kv ((gcl kv x8).hp)).rb)), (u_ ((gcl kv ((gcl kv x8).hp)).rc)), (u_ ((gcl kv ((gcl kv x8).hp)).la)), (u_ ((gcl kv ((gcl kv x8).hp)).lb)), (u_ ((gcl kv ((gcl kv x8).hp)).lc)), (u_ ((gcl kv ((gcl kv x8).hp)).ua)), (u_ ((gcl kv ((gcl kv x8).hp)).ub)), (u_ ((gcl kv ((gcl kv x8).hp)).uc)), (i_ ((gcl kv ((gcl kv x8).hp)).hk)), (i_ ((gcl kv ((gcl kv x8).hp)).hq))] 30]) (fun b14 => [b9, b14]) (fun _ => (fun κ => κ.call 10 [(p_ bt1), (i_ ((gcl kv x8).hp))] (.tuple #[(.agg #[(i_ ((gcl kv ((gcl kv x8).hp)).hi)), (i_ ((gcl kv ((gcl kv x8).hp)).hp)), (b_ ((gcl kv ((gcl kv x8).hp)).hl)), (u_ ((gcl kv ((gcl kv x8).hp)).ra)), (u_ ((gcl kv ((gcl kv x8).hp)).rb)), (u_ ((gcl kv ((gcl kv x8).hp)).rc)), (u_ ((gcl kv ((gcl kv x8).hp)).la)), (u_ ((gcl kv ((gcl kv x8).hp)).lb)), (u_ ((gcl kv ((gcl kv x8).hp)).lc)), (u_ ((gcl kv ((gcl kv x8).hp)).ua)), (u_ ((gcl kv ((gcl kv x8).hp)).ub)), (u_ ((gcl kv ((gcl kv x8).hp)).uc)), (i_ ((gcl kv ((gcl kv x8).hp)).hk)), (i_ ((gcl kv ((gcl kv x8).hp)).hq))]), (i_ (gce kv ((gcl kv x8).hp)))]) ∧ True)) (fun _ => by kernel_rfl) (fun b14 => ⟨(fun ww ss => get_ok bt1 mb2 kv ((gcl kv x8).hp) ww (ss.mem (i := 2) rfl) (ss.mem (i := 3) rfl)), trivial⟩) ?_)
                  intro b14
                  refine A.tn ?_
                  refine A.seq ?_
                  refine A.region (A.goA [.p, .p, .p, .o, .p, .ld 6, .cl, .p, .o, .p, .ld 4, .p, .eq, .p, .o, .p, .ld 6, .p, .eq, .cl, .cl] [(3, (p_ bt1)), (6, (.slice al'5 ((keysF kv (fun v_ => true)).length) cl'6)), (33, (.slice al'5 ((keysF kv (fun v_ => true)).length) cl'6)), (34, (i_ ((keysF kv (fun v_ => true)).length : Int))), (35, (i_ (j : Int))), (36, (b_ (decide ((j : Int) < ((keysF kv (fun v_ => true)).length : Int))))), (8, (i_ x8)), (9, (p_ b9)), (10, (i_ (gce kv x8))), (11, (.slice al'10 ((upL kv x8 (dep kv x8)).length) cl'11)), (66, (b_ (((((gce kv x8) != 0) || (decide (((upL kv x8 (dep kv x8)).length : Int) < 1))) || (decide (((upL kv x8 (dep kv x8)).length : Int) > 16))) || (x8 != x8)))), (12, (p_ b13)), (13, (i_ (gce kv (upA kv x8 ((dep kv x8) - 1))))), (84, (b_ (((gce kv (upA kv x8 ((dep kv x8) - 1))) != 0) || (((gcl kv (upA kv x8 ((dep kv x8) - 1))).hp) != 0)))), (87, (b_ (((gcl kv x8).hp) != 0))), (14, (p_ b14)), (15, (i_ (gce kv ((gcl kv x8).hp)))), (112, (b_ ((((gce kv ((gcl kv x8).hp)) != 0) || ((gcl kv ((gcl kv x8).hp)).hl)) || ((!((((gcl kv x8).la) == 0) && ((((gcl kv x8).lb) == 0) && (((gcl kv x8).lc) == 0)))) && ((((gcl kv ((gcl kv x8).hp)).la) == 0) && ((((gcl kv ((gcl kv x8).hp)).lb) == 0) && (((gcl kv ((gcl kv x8).hp)).lc) == 0)))))))] [b14, b9, b14] T0 (by kernel_rfl) trivial ?_)
                  refine A.tn ?_
                  refine A.cond (E := (((gce kv ((gcl kv x8).hp)) != 0) || ((gcl kv ((gcl kv x8).hp)).hl)) || ((!((((gcl kv x8).la) == 0) && ((((gcl kv x8).lb) == 0) && (((gcl kv x8).lc) == 0)))) && ((((gcl kv ((gcl kv x8).hp)).la) == 0) && ((((gcl kv ((gcl kv x8).hp)).lb) == 0) && (((gcl kv ((gcl kv x8).hp)).lc) == 0))))) rfl (fun e11 => ?_) (fun e11 => ?_)
                  · exact absurd e11 (by (obtain ⟨z1, z2, z3⟩ := hab (by first | assumption | (rw [← q2]; assumption)); rw [q2] at *; simp only [z1, z2]; simp; (try simp at z3); grind))
                  · skip
                    have p11 := e11; try simp only [decide_eq_true_eq, decide_eq_false_iff_not, beq_iff_eq, beq_eq_false_iff_ne, bne_iff_ne, bne_eq_false_iff_eq, ne_eq, Bool.and_eq_true, Bool.or_eq_true, Bool.or_eq_false_iff, Bool.not_eq_true', Bool.not_eq_false', Int.not_lt, Int.not_le, gt_iff_lt, ge_iff_le, Classical.not_not] at p11
                    refine A.skip ?_
                    refine A.bn ?_
                    refine A.tn ?_
                    refine A.region (A.goA [.w ((j : Int) + 1), .p] [(3, (p_ bt1)), (6, (.slice al'5 ((keysF kv (fun v_ => true)).length) cl'6)), (33, (.slice al'5 ((keysF kv (fun v_ => true)).length) cl'6)), (34, (i_ ((keysF kv (fun v_ => true)).length : Int))), (35, (i_ ((j : Int) + 1))), (36, (b_ (decide ((j : Int) < ((keysF kv (fun v_ => true)).length : Int))))), (8, (i_ x8)), (9, (p_ b9)), (10, (i_ (gce kv x8))), (11, (.slice al'10 ((upL kv x8 (dep kv x8)).length) cl'11)), (66, (b_ (((((gce kv x8) != 0) || (decide (((upL kv x8 (dep kv x8)).length : Int) < 1))) || (decide (((upL kv x8 (dep kv x8)).length : Int) > 16))) || (x8 != x8)))), (12, (p_ b13)), (13, (i_ (gce kv (upA kv x8 ((dep kv x8) - 1))))), (84, (b_ (((gce kv (upA kv x8 ((dep kv x8) - 1))) != 0) || (((gcl kv (upA kv x8 ((dep kv x8) - 1))).hp) != 0)))), (87, (b_ (((gcl kv x8).hp) != 0))), (14, (p_ b14)), (15, (i_ (gce kv ((gcl kv x8).hp)))), (112, (b_ ((((gce kv ((gcl kv x8).hp)) != 0) || ((gcl kv ((gcl kv x8).hp)).hl)) || ((!((((gcl kv x8).la) == 0) && ((((gcl kv x8).lb) == 0) && (((gcl kv x8).lc) == 0)))) && ((((gcl kv ((gcl kv x8).hp)).la) == 0) && ((((gcl kv ((gcl kv x8).hp)).lb) == 0) && (((gcl kv ((gcl kv x8).hp)).lc) == 0)))))))] [] (fun κ => (IntKind.i64.wrap ((j : Int) + 1) = ((j : Int) + 1)) ∧ True) (by kernel_rfl) ⟨(wrap_i64 (e := (j : Int) + 1) (by constructor <;> omega)), trivial⟩ ?_)
                    refine A.tn ?_
                    refine A.next (j + 1) (by first | assumption | omega | (simp_all; done) | (simp_all; omega) | grind) (by first | omega | (simp; omega) | (simp_all; omega)) ?_
                    exact A.hereK [1, 1, 1] (by exact ⟨rfl, rfl, rfl, rfl, rfl, trivial⟩) (by kernel_rfl)
                · skip
                  have p10 := e10; try simp only [decide_eq_true_eq, decide_eq_false_iff_not, beq_iff_eq, beq_eq_false_iff_ne, bne_iff_ne, bne_eq_false_iff_eq, ne_eq, Bool.and_eq_true, Bool.or_eq_true, Bool.or_eq_false_iff, Bool.not_eq_true', Bool.not_eq_false', Int.not_lt, Int.not_le, gt_iff_lt, ge_iff_le, Classical.not_not] at p10
                  refine A.skip ?_
                  refine A.bn ?_
                  refine A.tn ?_
                  refine A.region (A.goA [.w ((j : Int) + 1), .p] [(3, (p_ bt1)), (6, (.slice al'5 ((keysF kv (fun v_ => true)).length) cl'6)), (33, (.slice al'5 ((keysF kv (fun v_ => true)).length) cl'6)), (34, (i_ ((keysF kv (fun v_ => true)).length : Int))), (35, (i_ ((j : Int) + 1))), (36, (b_ (decide ((j : Int) < ((keysF kv (fun v_ => true)).length : Int))))), (8, (i_ x8)), (9, (p_ b9)), (10, (i_ (gce kv x8))), (11, (.slice al'10 ((upL kv x8 (dep kv x8)).length) cl'11)), (66, (b_ (((((gce kv x8) != 0) || (decide (((upL kv x8 (dep kv x8)).length : Int) < 1))) || (decide (((upL kv x8 (dep kv x8)).length : Int) > 16))) || (x8 != x8)))), (12, (p_ b13)), (13, (i_ (gce kv (upA kv x8 ((dep kv x8) - 1))))), (84, (b_ (((gce kv (upA kv x8 ((dep kv x8) - 1))) != 0) || (((gcl kv (upA kv x8 ((dep kv x8) - 1))).hp) != 0)))), (87, (b_ (((gcl kv x8).hp) != 0)))] [] (fun κ => (IntKind.i64.wrap ((j : Int) + 1) = ((j : Int) + 1)) ∧ True) (by kernel_rfl) ⟨(wrap_i64 (e := (j : Int) + 1) (by constructor <;> omega)), trivial⟩ ?_)
                  refine A.tn ?_
                  refine A.next (j + 1) (by first | assumption | omega | (simp_all; done) | (simp_all; omega) | grind) (by first | omega | (simp; omega) | (simp_all; omega)) ?_
                  exact A.hereK [1, 1, 1] (by exact ⟨rfl, rfl, rfl, rfl, rfl, trivial⟩) (by kernel_rfl)
          · skip
            have p6 := of_decide_eq_false e6
            refine A.exit ?_
            refine A.te ?_
            refine A.te ?_
            refine A.bh ?_
            refine A.tn ?_
            refine A.seq ?_
            refine A.region (A.goA [.p, .p, .p, .p, .o, .cq (b_ true), .cl, .p] [(3, (p_ bt1)), (6, (.slice al'5 ((keysF kv (fun v_ => true)).length) cl'6)), (33, (.slice al'5 ((keysF kv (fun v_ => true)).length) cl'6)), (34, (i_ ((keysF kv (fun v_ => true)).length : Int))), (35, (i_ (j : Int))), (36, (b_ (decide ((j : Int) < ((keysF kv (fun v_ => true)).length : Int))))), (2, (b_ ((decide (((keysF kv (fun v_ => true)).length : Int) ≤ 64)) && true)))] [] (fun κ => ((true && ((decide (((keysF kv (fun v_ => true)).length : Int) ≤ 64)) == true)) = true → κ.call 6 [] (b_ true)) ∧ True) (by kernel_rfl) ⟨(fun h_ => (fun ww ss => two_spec ww)), trivial⟩ ?_)
            refine A.tn ?_
            refine A.ret ?_
            refine A.postQ [(b_ ((decide (((keysF kv (fun v_ => true)).length : Int) ≤ 64)) && true))] (fun aa ww rr ss => ⟨rv_tmp rr rfl, trivial⟩) ?_
            show ((b_ ((decide (((keysF kv (fun v_ => true)).length : Int) ≤ 64)) && true)) : Value) = (b_ true)
            first | rfl | (refine congrArg Value.bool ?_; simp; omega)
end Go.Proofs.Ytpodcfadcdnllaa
