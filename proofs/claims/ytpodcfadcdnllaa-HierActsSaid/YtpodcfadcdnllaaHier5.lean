/- What the functions of this layer do, proved operation by operation, for all arguments, under the conditions that each theorem states. -/
import Derived.Test.YtpodcfadcdnllaaProg
import Derived.Test.YtpodcfadcdnllaaHier2
namespace Go.Proofs.Ytpodcfadcdnllaa
open Go V
set_option linter.unusedVariables false
set_option linter.unusedSimpArgs false
structure Cv where
  ka : Int
  kb : Int
  kc : Int
  deriving Inhabited, DecidableEq
def encCv (x : Cv) : List Value := [(u_ x.ka), (u_ x.kb), (u_ x.kc)]
theorem encCv_len (x : Cv) : (encCv x).length = 3 := rfl
theorem encCv_one (x : Cv) : (encCv x).all Value.oneCell' = true := rfl
def rtOf (y : Cl) : Cv := ⟨y.ra, y.rb, y.rc⟩
def realsK (kv : List (Int × Cl)) (k : Nat) : List Cv := ((keysF kv (fun y => decide ((ofC y.ra y.rb y.rc) > 1))).take k).map fun i => rtOf ((mget kv i).getD cl0)
def realsL (kv : List (Int × Cl)) : List Cv := (keysF kv (fun y => decide ((ofC y.ra y.rb y.rc) > 1))).map fun i => rtOf ((mget kv i).getD cl0)
theorem realsK_snoc {kv : List (Int × Cl)} {k : Nat} {i : Int} (h : (keysF kv (fun y => decide ((ofC y.ra y.rb y.rc) > 1)))[k]? = some i) : realsK kv k ++ [(⟨((mget kv i).getD cl0).ra, ((mget kv i).getD cl0).rb, ((mget kv i).getD cl0).rc⟩ : Cv)] = realsK kv (k + 1) := by
  unfold realsK; rw [List.take_add_one, h]; simp [rtOf]
theorem realsK_all {kv : List (Int × Cl)} {k : Nat} (h : (keysF kv (fun y => decide ((ofC y.ra y.rb y.rc) > 1))).length ≤ k) : realsK kv k = realsL kv := by unfold realsK realsL; rw [List.take_of_length_le h]
theorem realsK_len (kv : List (Int × Cl)) (k : Nat) : (realsK kv k).length ≤ k := by unfold realsK; simp; omega
theorem keysF_len (kv : List (Int × Cl)) (f : Cl → Bool) : (keysF kv f).length ≤ kv.length := by
  unfold keysF; rw [sortI_len, List.length_map]; exact List.length_filter_le _ _

set_option maxHeartbeats 4000000 in
set_option maxRecDepth 100000 in
theorem ids_nil (w : World) :
    Calls Try.prog 9 #[n_] w fun e w' => e = .returned e_ ∧ Fr [] w w' := by
  refine calls_of (args := [n_]) (penv [n_]) [] [] Try.func9 rfl rfl (look_penv _) (HS.nil w) ?_
  refine A.norm [(0, n_)] [] (by exact ⟨rfl, trivial⟩) rfl ?_
  refine A.seq ?_
  refine A.region (A.goA [.p] [(0, n_), (2, e_)] [] T0 (by kernel_rfl) trivial ?_)
  refine A.tn ?_
  refine A.seq ?_
  refine A.region (A.goP [.p] [(0, n_), (2, e_), (3, n_)] [] T0 (by kernel_rfl) trivial ?_)
  refine A.cons (A.inlX (some 4) [n_, (.func (.func 24) #[] #[])] [(0, n_), (1, (.func (.func 24) #[] #[]))] (by kernel_rfl) rfl Try.func23 rfl rfl ?_)
  refine A.seq ?_
  refine A.region (A.goA [.p] [(0, n_), (1, (.func (.func 24) #[] #[])), (4, e_)] [] T0 (by kernel_rfl) trivial ?_)
  refine A.tn ?_
  refine A.seq ?_
  refine A.seq ?_
  refine A.region (A.goA [.p, .p] [(0, n_), (1, (.func (.func 24) #[] #[])), (4, e_), (9, (b_ true))] [] T0 (by kernel_rfl) trivial ?_)
  refine A.tn ?_
  refine A.cond_t rfl ?_
  refine A.seq ?_
  refine A.region (A.goA [.p] [(0, n_), (1, (.func (.func 24) #[] #[])), (4, e_), (9, (b_ true))] [] T0 (by kernel_rfl) trivial ?_)
  refine A.tn ?_
  refine A.ret ?_
  refine A.tr ?_
  refine A.post [e_] (fun aa ww rr ss => ⟨rv_tmp rr rfl, trivial⟩) (A.back (by kernel_rfl) ?_)
  refine A.goA [.p] [(0, n_), (2, e_)] [] T0 (by kernel_rfl) trivial ?_
  refine A.tn ?_
  refine A.ret ?_
  refine A.postQ [e_] (fun aa ww rr ss => ⟨rv_tmp rr rfl, trivial⟩) ?_
  rfl

set_option maxHeartbeats 4000000 in
set_option maxRecDepth 100000 in
theorem ids_ok (bt mb : Nat) (kv : List (Int × Cl))  (hl : kv.length ≤ 1000) (w : World) (r0 : (blk bt [(.map (some mb))] 55).holds w) (r1 : (mapI (fun k : Int => i_ k) (fun y : Cl => (.agg (encCl y).toArray)) mb kv).holds w) (hs : HS w (feet []) [] w) :
    Calls Try.prog 9 #[(p_ bt)] w fun e w' => ∃ zz, e = .returned ((fun (zz : (Option Addr) × Nat) => match zz with | (al', cl') => (.slice al' ((keysF kv (fun y => true)).length) cl')) zz) ∧ (fun (zz : (Option Addr) × Nat) => match zz with | (al', cl') => True) zz ∧ Turn [] ((fun (zz : (Option Addr) × Nat) => match zz with | (al', cl') => [sl al' ((keysF kv (fun y => true)).length) cl' 3 1 (V.flat encI (keysF kv (fun y => true)))]) zz) w w' := by
  refine calls_of (args := [(p_ bt)]) (penv [(p_ bt)]) (feet []) [] Try.func9 rfl rfl (look_penv _) hs ?_
  refine A.norm [(0, (p_ bt))] [] (by exact ⟨rfl, trivial⟩) rfl ?_
  refine A.seq ?_
  refine A.region (A.goA [.p] [(0, (p_ bt)), (2, e_)] [] T0 (by kernel_rfl) trivial ?_)
  refine A.tn ?_
  refine A.seq ?_
  refine A.region (A.goP [.p] [(0, (p_ bt)), (2, e_), (3, (p_ bt))] [] T0 (by kernel_rfl) trivial ?_)
  refine A.cons (A.inlX (some 4) [(p_ bt), (.func (.func 24) #[] #[])] [(0, (p_ bt)), (1, (.func (.func 24) #[] #[]))] (by kernel_rfl) rfl Try.func23 rfl rfl ?_)
  refine A.seq ?_
  refine A.region (A.goA [.p] [(0, (p_ bt)), (1, (.func (.func 24) #[] #[])), (4, e_)] [] T0 (by kernel_rfl) trivial ?_)
  refine A.tn ?_
  refine A.seq ?_
  refine A.seq ?_
  refine A.region (A.goA [.p, .p] [(0, (p_ bt)), (1, (.func (.func 24) #[] #[])), (4, e_), (9, (b_ false))] [] T0 (by kernel_rfl) trivial ?_)
  refine A.tn ?_
  refine A.cond_f rfl ?_
  refine A.skip ?_
  refine A.tn ?_
  refine A.seq ?_
  refine A.region (A.goA [.p] [(0, (p_ bt)), (1, (.func (.func 24) #[] #[])), (4, e_), (9, (b_ false)), (5, e_)] [] T0 (by kernel_rfl) trivial ?_)
  refine A.tn ?_
  refine A.seq ?_
  refine A.seq ?_
  refine A.region (A.goP [.p, .p, .p, .rd [(.map (some mb))]] [(0, (p_ bt)), (1, (.func (.func 24) #[] #[])), (4, e_), (9, (b_ false)), (5, e_), (13, (.map (some mb)))] [] (fun κ => κ.rd ⟨bt, 0, none⟩ [(.map (some mb))] ∧ True) (by kernel_rfl) ⟨(reads_oldblk r0 rfl), trivial⟩ ?_)
  obtain ⟨⟨es1, cl1, hhp1, hEn1, hbo1, hnd1⟩, hkn1⟩ := id r1
  refine A.cons (A.rangeM (kt := 3) (et := 30) (es := es1) (clock := cl1) 14 (by kernel_rfl) rfl rfl (by kernel_rfl) (fun ww ss => old_heap ss hhp1 (by simp [feet])) (fun b2 => [iterI b2 mb es1 cl1 ([] : List Nat)]) (fun _ => rfl) ?_)
  intro b2
  refine A.done ?_
  refine A.sub [(0, (p_ bt)), (1, (.func (.func 24) #[] #[])), (4, e_), (9, (b_ false)), (5, e_), (14, (p_ b2))] (by exact ⟨rfl, rfl, rfl, rfl, rfl, rfl, trivial⟩) ?_
  refine A.tn ?_
  refine A.block ?_
  refine A.ownNil 3 1 [iterI b2 mb es1 cl1 ([] : List Nat), sl none (([] : List Int).length) 0 3 1 (V.flat encI ([] : List Int))] rfl ?_
  refine A.setH [iterI b2 mb es1 cl1 ([] : List Nat), sl none ((selK kv (fun y => true) ([] : List Nat)).length) 0 3 1 (V.flat encI (selK kv (fun y => true) ([] : List Nat)))] (cc rfl (cc (slC (by first | rfl | exact selK_t (by assumption) (by first | assumption | rfl) | exact selK_f (by assumption) (by assumption) | exact sel_all hn hb (by assumption) : ([] : List Int) = (selK kv (fun y => true) ([] : List Nat)))) rfl)) ?_
  refine A.sub [(0, (p_ bt)), (1, (.func (.func 24) #[] #[])), (4, e_), (9, (b_ false)), (5, (.slice none ((selK kv (fun y => true) ([] : List Nat)).length) 0)), (14, (p_ b2))] (by exact ⟨rfl, rfl, rfl, rfl, (congrArg (fun z_ : List Int => some (Value.slice none z_.length 0)) (by first | rfl | exact selK_t (by assumption) (by first | assumption | rfl) | exact selK_f (by assumption) (by assumption) | exact sel_all hn hb (by assumption) : ([] : List Int) = (selK kv (fun y => true) ([] : List Nat)))), rfl, trivial⟩) ?_
  refine A.loop (fun (zz : (List Nat) × (Option Addr) × Nat) => match zz with | (seen, ao, co) => [(1, (.func (.func 24) #[] #[])), (4, e_), (14, (p_ b2)), (5, (.slice ao ((selK kv (fun y => true) seen).length) co))]) (fun (zz : (List Nat) × (Option Addr) × Nat) => match zz with | (seen, ao, co) => [iterI b2 mb es1 cl1 seen, sl ao ((selK kv (fun y => true) seen).length) co 3 1 (V.flat encI (selK kv (fun y => true) seen))]) (fun (zz : (List Nat) × (Option Addr) × Nat) => match zz with | (seen, ao, co) => seen.Nodup ∧ (∀ j ∈ seen, j < kv.length)) (fun (zz : (List Nat) × (Option Addr) × Nat) => match zz with | (seen, ao, co) => kv.length - seen.length) (([] : List Nat), none, 0) ⟨(by simp), (by simp)⟩ ?_ ?_
  · exact A.hereK [0, 0] (by exact ⟨rfl, rfl, rfl, rfl, trivial⟩) (by kernel_rfl)
  · rintro ⟨seen, ao, co⟩ ⟨hn, hb⟩
    have hsl := nodup_le hn hb; have hsk := selK_len kv (fun y => true) seen
    refine A.norm [(1, (.func (.func 24) #[] #[])), (4, e_), (14, (p_ b2)), (5, (.slice ao ((selK kv (fun y => true) seen).length) co))] [iterI b2 mb es1 cl1 seen, sl ao ((selK kv (fun y => true) seen).length) co 3 1 (V.flat encI (selK kv (fun y => true) seen))] (by exact ⟨rfl, rfl, rfl, rfl, trivial⟩) rfl ?_
    refine A.seq ?_
    refine A.region ?_
    refine A.cons (A.nextM (enck := (fun k : Int => i_ k)) (encv := (fun y : Cl => (.agg (encCl y).toArray))) (kv := kv) 0 15 (by kernel_rfl) rfl rfl rfl (fun ww ss => old_heap ss hhp1 (by simp [feet])) hEn1 hbo1 hnd1 (by assumption) (fun j4 => [iterI b2 mb es1 cl1 (seen ++ [j4]), sl ao ((selK kv (fun y => true) seen).length) co 3 1 (V.flat encI (selK kv (fun y => true) seen))]) (fun _ => rfl) (fun hall4 => ?_) (fun j4 mk4 mv4 hj4 hn4 => ?_))
    · skip
      refine A.goA [.p] [(1, (.func (.func 24) #[] #[])), (4, e_), (14, (p_ b2)), (5, (.slice ao ((selK kv (fun y => true) seen).length) co)), (16, (b_ false))] [] T0 (by kernel_rfl) trivial ?_
      refine A.tn ?_
      refine A.seq ?_
      refine A.cond_f rfl ?_
      refine A.exit ?_
      refine A.te ?_
      refine A.te ?_
      refine A.bh ?_
      refine A.tn ?_
      refine A.seq ?_
      refine A.region (A.goP [.p] [(1, (.func (.func 24) #[] #[])), (4, e_), (14, (p_ b2)), (5, (.slice ao ((selK kv (fun y => true) seen).length) co)), (16, (b_ false)), (27, (.slice ao ((selK kv (fun y => true) seen).length) co))] [] T0 (by kernel_rfl) trivial ?_)
      refine A.cons (A.callT (some 28) [(.slice ao ((selK kv (fun y => true) seen).length) co)] [1] ((fun _ => (.tuple #[]))) ((fun _ => True)) ((fun _ => [sl ao ((sortI (selK kv (fun y => true) seen)).length) co 3 1 (V.flat encI (sortI (selK kv (fun y => true) seen)))])) (fun _ => [sl ao ((sortI (selK kv (fun y => true) seen)).length) co 3 1 (V.flat encI (sortI (selK kv (fun y => true) seen))), iterI b2 mb es1 cl1 seen]) (by kernel_rfl) rfl rfl (fun ww ss hh => sort_spec ao (selK kv (fun y => true) seen) co (by first | assumption | omega) ww hh) (fun _ => rfl) ?_)
      rintro ⟨⟩ -
      refine A.done ?_
      refine A.sub [(1, (.func (.func 24) #[] #[])), (4, e_), (14, (p_ b2)), (5, (.slice ao ((selK kv (fun y => true) seen).length) co)), (16, (b_ false))] (by exact ⟨rfl, rfl, rfl, rfl, rfl, trivial⟩) ?_
      refine A.tn ?_
      refine A.seq ?_
      refine A.region (A.goA [.p, .p] [(1, (.func (.func 24) #[] #[])), (4, (.slice ao ((selK kv (fun y => true) seen).length) co)), (14, (p_ b2)), (5, (.slice ao ((selK kv (fun y => true) seen).length) co)), (16, (b_ false))] [] T0 (by kernel_rfl) trivial ?_)
      refine A.tn ?_
      refine A.ret ?_
      refine A.post [(.slice ao ((selK kv (fun y => true) seen).length) co)] (fun aa ww rr ss => ⟨rv_tmp rr rfl, trivial⟩) (A.back (by kernel_rfl) ?_)
      refine A.goA [.p] [(0, (p_ bt)), (2, (.slice ao ((selK kv (fun y => true) seen).length) co))] [] T0 (by kernel_rfl) trivial ?_
      refine A.tn ?_
      refine A.ret ?_
      refine A.setH [sl ao ((keysF kv (fun y => true)).length) co 3 1 (V.flat encI (keysF kv (fun y => true))), iterI b2 mb es1 cl1 seen] (cc (slC (by first | rfl | exact selK_t (by assumption) (by first | assumption | rfl) | exact selK_f (by assumption) (by assumption) | exact sel_all hn hb (by assumption) : (sortI (selK kv (fun y => true) seen)) = (keysF kv (fun y => true)))) rfl) ?_
      refine A.postK [0] [(.slice ao ((selK kv (fun y => true) seen).length) co)] (fun aa ww rr ss => ⟨rv_tmp rr rfl, trivial⟩) (ao, co) ?_ ?_ (by kernel_rfl)
      · show ((.slice ao ((selK kv (fun y => true) seen).length) co) : Value) = (.slice ao ((keysF kv (fun y => true)).length) co)
        rw [← sel_all (f := fun y => true) hn hb (by assumption), sortI_len]
      · trivial
    · skip
      refine A.goA [.p] [(1, (.func (.func 24) #[] #[])), (4, e_), (14, (p_ b2)), (5, (.slice ao ((selK kv (fun y => true) seen).length) co)), (16, (b_ true))] [] T0 (by kernel_rfl) trivial ?_
      refine A.tn ?_
      refine A.seq ?_
      refine A.cond_t rfl ?_
      refine A.skip ?_
      refine A.tn ?_
      refine A.block ?_
      refine A.seq ?_
      refine A.region ?_
      refine A.cons (A.q (some 17) (.tuple #[(i_ mk4), (.agg #[(i_ mv4.hi), (i_ mv4.hp), (b_ mv4.hl), (u_ mv4.ra), (u_ mv4.rb), (u_ mv4.rc), (u_ mv4.la), (u_ mv4.lb), (u_ mv4.lc), (u_ mv4.ua), (u_ mv4.ub), (u_ mv4.uc), (i_ mv4.hk), (i_ mv4.hq)])]) (by kernel_rfl) (qt_entry (enck := (fun k : Int => i_ k)) (encv := (fun y : Cl => (.agg (encCl y).toArray))) (kv := kv) (k := mk4) (v := mv4) 0 j4 rfl rfl rfl (fun ww ss => old_heap ss hhp1 (by simp [feet])) hEn1 hnd1 hj4) ?_)
      refine A.goA1 [.p, .p, .al, .p, .st 2] [1, 4, 14, 5, 16, 7, 6] (fun b5 => [(1, (.func (.func 24) #[] #[])), (4, e_), (14, (p_ b2)), (5, (.slice ao ((selK kv (fun y => true) seen).length) co)), (16, (b_ true)), (7, (p_ b5)), (6, (i_ mk4))]) (fun b5 => [iterI b2 mb es1 cl1 (seen ++ [j4]), sl ao ((selK kv (fun y => true) seen).length) co 3 1 (V.flat encI (selK kv (fun y => true) seen)), blk b5 [(i_ mv4.hi), (i_ mv4.hp), (b_ mv4.hl), (u_ mv4.ra), (u_ mv4.rb), (u_ mv4.rc), (u_ mv4.la), (u_ mv4.lb), (u_ mv4.lc), (u_ mv4.ua), (u_ mv4.ub), (u_ mv4.uc), (i_ mv4.hk), (i_ mv4.hq)] 30]) (fun b5 => [b5]) (fun _ => T0) (fun _ => by kernel_rfl) (fun b5 => trivial) ?_
      intro b5
      refine A.tn ?_
      refine A.seq ?_
      refine A.region (A.goP [.p, .ld 2] [(1, (.func (.func 24) #[] #[])), (4, e_), (14, (p_ b2)), (5, (.slice ao ((selK kv (fun y => true) seen).length) co)), (16, (b_ true)), (7, (p_ b5)), (6, (i_ mk4)), (20, (.func (.func 24) #[] #[])), (21, (.agg #[(i_ mv4.hi), (i_ mv4.hp), (b_ mv4.hl), (u_ mv4.ra), (u_ mv4.rb), (u_ mv4.rc), (u_ mv4.la), (u_ mv4.lb), (u_ mv4.lc), (u_ mv4.ua), (u_ mv4.ub), (u_ mv4.uc), (i_ mv4.hk), (i_ mv4.hq)]))] [b5] T0 (by kernel_rfl) trivial ?_)
      refine A.cons (A.inlX (some 22) [(.agg #[(i_ mv4.hi), (i_ mv4.hp), (b_ mv4.hl), (u_ mv4.ra), (u_ mv4.rb), (u_ mv4.rc), (u_ mv4.la), (u_ mv4.lb), (u_ mv4.lc), (u_ mv4.ua), (u_ mv4.ub), (u_ mv4.uc), (i_ mv4.hk), (i_ mv4.hq)])] [(0, (.agg #[(i_ mv4.hi), (i_ mv4.hp), (b_ mv4.hl), (u_ mv4.ra), (u_ mv4.rb), (u_ mv4.rc), (u_ mv4.la), (u_ mv4.lb), (u_ mv4.lc), (u_ mv4.ua), (u_ mv4.ub), (u_ mv4.uc), (i_ mv4.hk), (i_ mv4.hq)]))] (by kernel_rfl) rfl Try.func24 rfl rfl ?_)
      refine A.seq ?_
      refine A.region (A.goA1 [.al, .p] [0, 2] (fun b6 => [(0, (.agg #[(i_ mv4.hi), (i_ mv4.hp), (b_ mv4.hl), (u_ mv4.ra), (u_ mv4.rb), (u_ mv4.rc), (u_ mv4.la), (u_ mv4.lb), (u_ mv4.lc), (u_ mv4.ua), (u_ mv4.ub), (u_ mv4.uc), (i_ mv4.hk), (i_ mv4.hq)])), (2, (b_ false))]) (fun b6 => [iterI b2 mb es1 cl1 (seen ++ [j4]), sl ao ((selK kv (fun y => true) seen).length) co 3 1 (V.flat encI (selK kv (fun y => true) seen)), blk b5 [(i_ mv4.hi), (i_ mv4.hp), (b_ mv4.hl), (u_ mv4.ra), (u_ mv4.rb), (u_ mv4.rc), (u_ mv4.la), (u_ mv4.lb), (u_ mv4.lc), (u_ mv4.ua), (u_ mv4.ub), (u_ mv4.uc), (i_ mv4.hk), (i_ mv4.hq)] 30, blk b6 [(i_ mv4.hi), (i_ mv4.hp), (b_ mv4.hl), (u_ mv4.ra), (u_ mv4.rb), (u_ mv4.rc), (u_ mv4.la), (u_ mv4.lb), (u_ mv4.lc), (u_ mv4.ua), (u_ mv4.ub), (u_ mv4.uc), (i_ mv4.hk), (i_ mv4.hq)] 30]) (fun b6 => []) (fun _ => T0) (fun _ => by kernel_rfl) (fun b6 => trivial) ?_)
      intro b6
      refine A.tn ?_
      refine A.seq ?_
      refine A.region (A.goA [.p] [(0, (.agg #[(i_ mv4.hi), (i_ mv4.hp), (b_ mv4.hl), (u_ mv4.ra), (u_ mv4.rb), (u_ mv4.rc), (u_ mv4.la), (u_ mv4.lb), (u_ mv4.lc), (u_ mv4.ua), (u_ mv4.ub), (u_ mv4.uc), (i_ mv4.hk), (i_ mv4.hq)])), (2, (b_ true))] [] T0 (by kernel_rfl) trivial ?_)
      refine A.tn ?_
      refine A.ret ?_
      refine A.post [(b_ true)] (fun aa ww rr ss => ⟨rv_tmp rr rfl, trivial⟩) (A.back (by kernel_rfl) ?_)
      refine A.items [iterI b2 mb es1 cl1 (seen ++ [j4]), sl ao ((selK kv (fun y => true) seen).length) co 3 1 (V.flat encI (selK kv (fun y => true) seen)), blk b5 [(i_ mv4.hi), (i_ mv4.hp), (b_ mv4.hl), (u_ mv4.ra), (u_ mv4.rb), (u_ mv4.rc), (u_ mv4.la), (u_ mv4.lb), (u_ mv4.lc), (u_ mv4.ua), (u_ mv4.ub), (u_ mv4.uc), (i_ mv4.hk), (i_ mv4.hq)] 30] (.cons_cons _ (.cons_cons _ (.cons_cons _ (.cons _ (List.Sublist.slnil))))) ?_
      refine A.done ?_
      refine A.sub [(1, (.func (.func 24) #[] #[])), (4, e_), (14, (p_ b2)), (5, (.slice ao ((selK kv (fun y => true) seen).length) co)), (16, (b_ true)), (7, (p_ b5)), (6, (i_ mk4)), (22, (b_ true))] (by exact ⟨rfl, rfl, rfl, rfl, rfl, rfl, rfl, rfl, trivial⟩) ?_
      refine A.tn ?_
      refine A.cond_t rfl ?_
      refine A.region (A.goP [.p, .p] [(1, (.func (.func 24) #[] #[])), (4, e_), (14, (p_ b2)), (5, (.slice ao ((selK kv (fun y => true) seen).length) co)), (16, (b_ true)), (7, (p_ b5)), (6, (i_ mk4)), (22, (b_ true)), (23, (.slice ao ((selK kv (fun y => true) seen).length) co)), (24, (i_ mk4))] [] T0 (by kernel_rfl) trivial ?_)
      refine A.cons (A.buildSlice 25 (e := 3) [(i_ mk4)] (by kernel_rfl) rfl (fun _ => by kernel_rfl) (fun b7 => [iterI b2 mb es1 cl1 (seen ++ [j4]), sl ao ((selK kv (fun y => true) seen).length) co 3 1 (V.flat encI (selK kv (fun y => true) seen)), blk b5 [(i_ mv4.hi), (i_ mv4.hp), (b_ mv4.hl), (u_ mv4.ra), (u_ mv4.rb), (u_ mv4.rc), (u_ mv4.la), (u_ mv4.lb), (u_ mv4.lc), (u_ mv4.ua), (u_ mv4.ub), (u_ mv4.uc), (i_ mv4.hk), (i_ mv4.hq)] 30, blk b7 [(i_ mk4)] 3]) (fun _ => rfl) ?_)
      intro b7
      refine A.cons (A.appendC (enc := encI) (xs := (selK kv (fun y => true) seen)) ([mk4]) 1 26 (e := 3) (z := (i_ 0)) (sz := 1) (by_ := 8) (by kernel_rfl) rfl rfl rfl (by kernel_rfl) (by kernel_rfl) (by rfl) (by decide) encI_len encI_one rfl (rd_blk (i := 3) rfl) (by simp; omega) (fun A8 c8 => [iterI b2 mb es1 cl1 (seen ++ [j4]), sl A8 (((selK kv (fun y => true) seen) ++ ([mk4])).length) c8 3 1 (V.flat encI ((selK kv (fun y => true) seen) ++ ([mk4]))), blk b5 [(i_ mv4.hi), (i_ mv4.hp), (b_ mv4.hl), (u_ mv4.ra), (u_ mv4.rb), (u_ mv4.rc), (u_ mv4.la), (u_ mv4.lb), (u_ mv4.lc), (u_ mv4.ua), (u_ mv4.ub), (u_ mv4.uc), (i_ mv4.hk), (i_ mv4.hq)] 30, blk b7 [(i_ mk4)] 3]) (fun _ _ => rfl) ?_)
      intro A8 c8
      refine A.goA [.p] [(1, (.func (.func 24) #[] #[])), (4, e_), (14, (p_ b2)), (5, (.slice A8 (((selK kv (fun y => true) seen) ++ ([mk4])).length) c8)), (16, (b_ true)), (7, (p_ b5)), (6, (i_ mk4)), (22, (b_ true))] [] T0 (by kernel_rfl) trivial ?_
      refine A.bn ?_
      refine A.tn ?_
      refine A.setH [iterI b2 mb es1 cl1 (seen ++ [j4]), sl A8 ((selK kv (fun y => true) (seen ++ [j4])).length) c8 3 1 (V.flat encI (selK kv (fun y => true) (seen ++ [j4]))), blk b5 [(i_ mv4.hi), (i_ mv4.hp), (b_ mv4.hl), (u_ mv4.ra), (u_ mv4.rb), (u_ mv4.rc), (u_ mv4.la), (u_ mv4.lb), (u_ mv4.lc), (u_ mv4.ua), (u_ mv4.ub), (u_ mv4.uc), (i_ mv4.hk), (i_ mv4.hq)] 30, blk b7 [(i_ mk4)] 3] (cc rfl (cc (slC (by first | rfl | exact selK_t (by assumption) (by first | assumption | rfl) | exact selK_f (by assumption) (by assumption) | exact sel_all hn hb (by assumption) : (selK kv (fun y => true) seen) ++ ([mk4]) = (selK kv (fun y => true) (seen ++ [j4])))) rfl)) ?_
      refine A.sub [(1, (.func (.func 24) #[] #[])), (4, e_), (14, (p_ b2)), (5, (.slice A8 ((selK kv (fun y => true) (seen ++ [j4])).length) c8)), (16, (b_ true)), (7, (p_ b5)), (6, (i_ mk4)), (22, (b_ true))] (by exact ⟨rfl, rfl, rfl, (congrArg (fun z_ : List Int => some (Value.slice A8 z_.length c8)) (by first | rfl | exact selK_t (by assumption) (by first | assumption | rfl) | exact selK_f (by assumption) (by assumption) | exact sel_all hn hb (by assumption) : (selK kv (fun y => true) seen) ++ ([mk4]) = (selK kv (fun y => true) (seen ++ [j4])))), rfl, rfl, rfl, rfl, trivial⟩) ?_
      refine A.next ((seen ++ [j4]), A8, c8) ⟨(by exact (walk_lt hn hb (by assumption) (by assumption)).1), (by exact (walk_lt hn hb (by assumption) (by assumption)).2.1)⟩ (by ((have h_ := (walk_lt hn hb (by assumption) (by assumption)).2.2); simp; omega)) ?_
      exact A.hereK [0, 0] (by exact ⟨rfl, rfl, rfl, rfl, trivial⟩) (by kernel_rfl)

set_option maxHeartbeats 4000000 in
set_option maxRecDepth 100000 in
theorem leaves_nil (w : World) :
    Calls Try.prog 15 #[n_] w fun e w' => e = .returned e_ ∧ Fr [] w w' := by
  refine calls_of (args := [n_]) (penv [n_]) [] [] Try.func15 rfl rfl (look_penv _) (HS.nil w) ?_
  refine A.norm [(0, n_)] [] (by exact ⟨rfl, trivial⟩) rfl ?_
  refine A.seq ?_
  refine A.region (A.goA [.p] [(0, n_), (2, e_)] [] T0 (by kernel_rfl) trivial ?_)
  refine A.tn ?_
  refine A.seq ?_
  refine A.region (A.goP [.p] [(0, n_), (2, e_), (3, n_)] [] T0 (by kernel_rfl) trivial ?_)
  refine A.cons (A.inlX (some 4) [n_, (.func (.func 32) #[] #[])] [(0, n_), (1, (.func (.func 32) #[] #[]))] (by kernel_rfl) rfl Try.func23 rfl rfl ?_)
  refine A.seq ?_
  refine A.region (A.goA [.p] [(0, n_), (1, (.func (.func 32) #[] #[])), (4, e_)] [] T0 (by kernel_rfl) trivial ?_)
  refine A.tn ?_
  refine A.seq ?_
  refine A.seq ?_
  refine A.region (A.goA [.p, .p] [(0, n_), (1, (.func (.func 32) #[] #[])), (4, e_), (9, (b_ true))] [] T0 (by kernel_rfl) trivial ?_)
  refine A.tn ?_
  refine A.cond_t rfl ?_
  refine A.seq ?_
  refine A.region (A.goA [.p] [(0, n_), (1, (.func (.func 32) #[] #[])), (4, e_), (9, (b_ true))] [] T0 (by kernel_rfl) trivial ?_)
  refine A.tn ?_
  refine A.ret ?_
  refine A.tr ?_
  refine A.post [e_] (fun aa ww rr ss => ⟨rv_tmp rr rfl, trivial⟩) (A.back (by kernel_rfl) ?_)
  refine A.goA [.p] [(0, n_), (2, e_)] [] T0 (by kernel_rfl) trivial ?_
  refine A.tn ?_
  refine A.ret ?_
  refine A.postQ [e_] (fun aa ww rr ss => ⟨rv_tmp rr rfl, trivial⟩) ?_
  rfl

set_option maxHeartbeats 4000000 in
set_option maxRecDepth 100000 in
theorem leaves_ok (bt mb : Nat) (kv : List (Int × Cl))  (hl : kv.length ≤ 1000) (w : World) (r0 : (blk bt [(.map (some mb))] 55).holds w) (r1 : (mapI (fun k : Int => i_ k) (fun y : Cl => (.agg (encCl y).toArray)) mb kv).holds w) (hs : HS w (feet []) [] w) :
    Calls Try.prog 15 #[(p_ bt)] w fun e w' => ∃ zz, e = .returned ((fun (zz : (Option Addr) × Nat) => match zz with | (al', cl') => (.slice al' ((keysF kv (fun y => y.hl)).length) cl')) zz) ∧ (fun (zz : (Option Addr) × Nat) => match zz with | (al', cl') => True) zz ∧ Turn [] ((fun (zz : (Option Addr) × Nat) => match zz with | (al', cl') => [sl al' ((keysF kv (fun y => y.hl)).length) cl' 3 1 (V.flat encI (keysF kv (fun y => y.hl)))]) zz) w w' := by
  refine calls_of (args := [(p_ bt)]) (penv [(p_ bt)]) (feet []) [] Try.func15 rfl rfl (look_penv _) hs ?_
  refine A.norm [(0, (p_ bt))] [] (by exact ⟨rfl, trivial⟩) rfl ?_
  refine A.seq ?_
  refine A.region (A.goA [.p] [(0, (p_ bt)), (2, e_)] [] T0 (by kernel_rfl) trivial ?_)
  refine A.tn ?_
  refine A.seq ?_
  refine A.region (A.goP [.p] [(0, (p_ bt)), (2, e_), (3, (p_ bt))] [] T0 (by kernel_rfl) trivial ?_)
  refine A.cons (A.inlX (some 4) [(p_ bt), (.func (.func 32) #[] #[])] [(0, (p_ bt)), (1, (.func (.func 32) #[] #[]))] (by kernel_rfl) rfl Try.func23 rfl rfl ?_)
  refine A.seq ?_
  refine A.region (A.goA [.p] [(0, (p_ bt)), (1, (.func (.func 32) #[] #[])), (4, e_)] [] T0 (by kernel_rfl) trivial ?_)
  refine A.tn ?_
  refine A.seq ?_
  refine A.seq ?_
  refine A.region (A.goA [.p, .p] [(0, (p_ bt)), (1, (.func (.func 32) #[] #[])), (4, e_), (9, (b_ false))] [] T0 (by kernel_rfl) trivial ?_)
  refine A.tn ?_
  refine A.cond_f rfl ?_
  refine A.skip ?_
  refine A.tn ?_
  refine A.seq ?_
  refine A.region (A.goA [.p] [(0, (p_ bt)), (1, (.func (.func 32) #[] #[])), (4, e_), (9, (b_ false)), (5, e_)] [] T0 (by kernel_rfl) trivial ?_)
  refine A.tn ?_
  refine A.seq ?_
  refine A.seq ?_
  refine A.region (A.goP [.p, .p, .p, .rd [(.map (some mb))]] [(0, (p_ bt)), (1, (.func (.func 32) #[] #[])), (4, e_), (9, (b_ false)), (5, e_), (13, (.map (some mb)))] [] (fun κ => κ.rd ⟨bt, 0, none⟩ [(.map (some mb))] ∧ True) (by kernel_rfl) ⟨(reads_oldblk r0 rfl), trivial⟩ ?_)
  obtain ⟨⟨es1, cl1, hhp1, hEn1, hbo1, hnd1⟩, hkn1⟩ := id r1
  refine A.cons (A.rangeM (kt := 3) (et := 30) (es := es1) (clock := cl1) 14 (by kernel_rfl) rfl rfl (by kernel_rfl) (fun ww ss => old_heap ss hhp1 (by simp [feet])) (fun b2 => [iterI b2 mb es1 cl1 ([] : List Nat)]) (fun _ => rfl) ?_)
  intro b2
  refine A.done ?_
  refine A.sub [(0, (p_ bt)), (1, (.func (.func 32) #[] #[])), (4, e_), (9, (b_ false)), (5, e_), (14, (p_ b2))] (by exact ⟨rfl, rfl, rfl, rfl, rfl, rfl, trivial⟩) ?_
  refine A.tn ?_
  refine A.block ?_
  refine A.ownNil 3 1 [iterI b2 mb es1 cl1 ([] : List Nat), sl none (([] : List Int).length) 0 3 1 (V.flat encI ([] : List Int))] rfl ?_
  refine A.setH [iterI b2 mb es1 cl1 ([] : List Nat), sl none ((selK kv (fun y => y.hl) ([] : List Nat)).length) 0 3 1 (V.flat encI (selK kv (fun y => y.hl) ([] : List Nat)))] (cc rfl (cc (slC (by first | rfl | exact selK_t (by assumption) (by first | assumption | rfl) | exact selK_f (by assumption) (by assumption) | exact sel_all hn hb (by assumption) : ([] : List Int) = (selK kv (fun y => y.hl) ([] : List Nat)))) rfl)) ?_
  refine A.sub [(0, (p_ bt)), (1, (.func (.func 32) #[] #[])), (4, e_), (9, (b_ false)), (5, (.slice none ((selK kv (fun y => y.hl) ([] : List Nat)).length) 0)), (14, (p_ b2))] (by exact ⟨rfl, rfl, rfl, rfl, (congrArg (fun z_ : List Int => some (Value.slice none z_.length 0)) (by first | rfl | exact selK_t (by assumption) (by first | assumption | rfl) | exact selK_f (by assumption) (by assumption) | exact sel_all hn hb (by assumption) : ([] : List Int) = (selK kv (fun y => y.hl) ([] : List Nat)))), rfl, trivial⟩) ?_
  refine A.loop (fun (zz : (List Nat) × (Option Addr) × Nat) => match zz with | (seen, ao, co) => [(1, (.func (.func 32) #[] #[])), (4, e_), (14, (p_ b2)), (5, (.slice ao ((selK kv (fun y => y.hl) seen).length) co))]) (fun (zz : (List Nat) × (Option Addr) × Nat) => match zz with | (seen, ao, co) => [iterI b2 mb es1 cl1 seen, sl ao ((selK kv (fun y => y.hl) seen).length) co 3 1 (V.flat encI (selK kv (fun y => y.hl) seen))]) (fun (zz : (List Nat) × (Option Addr) × Nat) => match zz with | (seen, ao, co) => seen.Nodup ∧ (∀ j ∈ seen, j < kv.length)) (fun (zz : (List Nat) × (Option Addr) × Nat) => match zz with | (seen, ao, co) => kv.length - seen.length) (([] : List Nat), none, 0) ⟨(by simp), (by simp)⟩ ?_ ?_
  · exact A.hereK [0, 0] (by exact ⟨rfl, rfl, rfl, rfl, trivial⟩) (by kernel_rfl)
  · rintro ⟨seen, ao, co⟩ ⟨hn, hb⟩
    have hsl := nodup_le hn hb; have hsk := selK_len kv (fun y => y.hl) seen
    refine A.norm [(1, (.func (.func 32) #[] #[])), (4, e_), (14, (p_ b2)), (5, (.slice ao ((selK kv (fun y => y.hl) seen).length) co))] [iterI b2 mb es1 cl1 seen, sl ao ((selK kv (fun y => y.hl) seen).length) co 3 1 (V.flat encI (selK kv (fun y => y.hl) seen))] (by exact ⟨rfl, rfl, rfl, rfl, trivial⟩) rfl ?_
    refine A.seq ?_
    refine A.region ?_
    refine A.cons (A.nextM (enck := (fun k : Int => i_ k)) (encv := (fun y : Cl => (.agg (encCl y).toArray))) (kv := kv) 0 15 (by kernel_rfl) rfl rfl rfl (fun ww ss => old_heap ss hhp1 (by simp [feet])) hEn1 hbo1 hnd1 (by assumption) (fun j4 => [iterI b2 mb es1 cl1 (seen ++ [j4]), sl ao ((selK kv (fun y => y.hl) seen).length) co 3 1 (V.flat encI (selK kv (fun y => y.hl) seen))]) (fun _ => rfl) (fun hall4 => ?_) (fun j4 mk4 mv4 hj4 hn4 => ?_))
    · skip
      refine A.goA [.p] [(1, (.func (.func 32) #[] #[])), (4, e_), (14, (p_ b2)), (5, (.slice ao ((selK kv (fun y => y.hl) seen).length) co)), (16, (b_ false))] [] T0 (by kernel_rfl) trivial ?_
      refine A.tn ?_
      refine A.seq ?_
      refine A.cond_f rfl ?_
      refine A.exit ?_
      refine A.te ?_
      refine A.te ?_
      refine A.bh ?_
      refine A.tn ?_
      refine A.seq ?_
      refine A.region (A.goP [.p] [(1, (.func (.func 32) #[] #[])), (4, e_), (14, (p_ b2)), (5, (.slice ao ((selK kv (fun y => y.hl) seen).length) co)), (16, (b_ false)), (27, (.slice ao ((selK kv (fun y => y.hl) seen).length) co))] [] T0 (by kernel_rfl) trivial ?_)
      refine A.cons (A.callT (some 28) [(.slice ao ((selK kv (fun y => y.hl) seen).length) co)] [1] ((fun _ => (.tuple #[]))) ((fun _ => True)) ((fun _ => [sl ao ((sortI (selK kv (fun y => y.hl) seen)).length) co 3 1 (V.flat encI (sortI (selK kv (fun y => y.hl) seen)))])) (fun _ => [sl ao ((sortI (selK kv (fun y => y.hl) seen)).length) co 3 1 (V.flat encI (sortI (selK kv (fun y => y.hl) seen))), iterI b2 mb es1 cl1 seen]) (by kernel_rfl) rfl rfl (fun ww ss hh => sort_spec ao (selK kv (fun y => y.hl) seen) co (by first | assumption | omega) ww hh) (fun _ => rfl) ?_)
      rintro ⟨⟩ -
      refine A.done ?_
      refine A.sub [(1, (.func (.func 32) #[] #[])), (4, e_), (14, (p_ b2)), (5, (.slice ao ((selK kv (fun y => y.hl) seen).length) co)), (16, (b_ false))] (by exact ⟨rfl, rfl, rfl, rfl, rfl, trivial⟩) ?_
      refine A.tn ?_
      refine A.seq ?_
      refine A.region (A.goA [.p, .p] [(1, (.func (.func 32) #[] #[])), (4, (.slice ao ((selK kv (fun y => y.hl) seen).length) co)), (14, (p_ b2)), (5, (.slice ao ((selK kv (fun y => y.hl) seen).length) co)), (16, (b_ false))] [] T0 (by kernel_rfl) trivial ?_)
      refine A.tn ?_
      refine A.ret ?_
      refine A.post [(.slice ao ((selK kv (fun y => y.hl) seen).length) co)] (fun aa ww rr ss => ⟨rv_tmp rr rfl, trivial⟩) (A.back (by kernel_rfl) ?_)
      refine A.goA [.p] [(0, (p_ bt)), (2, (.slice ao ((selK kv (fun y => y.hl) seen).length) co))] [] T0 (by kernel_rfl) trivial ?_
      refine A.tn ?_
      refine A.ret ?_
      refine A.setH [sl ao ((keysF kv (fun y => y.hl)).length) co 3 1 (V.flat encI (keysF kv (fun y => y.hl))), iterI b2 mb es1 cl1 seen] (cc (slC (by first | rfl | exact selK_t (by assumption) (by first | assumption | rfl) | exact selK_f (by assumption) (by assumption) | exact sel_all hn hb (by assumption) : (sortI (selK kv (fun y => y.hl) seen)) = (keysF kv (fun y => y.hl)))) rfl) ?_
      refine A.postK [0] [(.slice ao ((selK kv (fun y => y.hl) seen).length) co)] (fun aa ww rr ss => ⟨rv_tmp rr rfl, trivial⟩) (ao, co) ?_ ?_ (by kernel_rfl)
      · show ((.slice ao ((selK kv (fun y => y.hl) seen).length) co) : Value) = (.slice ao ((keysF kv (fun y => y.hl)).length) co)
        rw [← sel_all (f := fun y => y.hl) hn hb (by assumption), sortI_len]
      · trivial
    · skip
      refine A.goA [.p] [(1, (.func (.func 32) #[] #[])), (4, e_), (14, (p_ b2)), (5, (.slice ao ((selK kv (fun y => y.hl) seen).length) co)), (16, (b_ true))] [] T0 (by kernel_rfl) trivial ?_
      refine A.tn ?_
      refine A.seq ?_
      refine A.cond_t rfl ?_
      refine A.skip ?_
      refine A.tn ?_
      refine A.block ?_
      refine A.seq ?_
      refine A.region ?_
      refine A.cons (A.q (some 17) (.tuple #[(i_ mk4), (.agg #[(i_ mv4.hi), (i_ mv4.hp), (b_ mv4.hl), (u_ mv4.ra), (u_ mv4.rb), (u_ mv4.rc), (u_ mv4.la), (u_ mv4.lb), (u_ mv4.lc), (u_ mv4.ua), (u_ mv4.ub), (u_ mv4.uc), (i_ mv4.hk), (i_ mv4.hq)])]) (by kernel_rfl) (qt_entry (enck := (fun k : Int => i_ k)) (encv := (fun y : Cl => (.agg (encCl y).toArray))) (kv := kv) (k := mk4) (v := mv4) 0 j4 rfl rfl rfl (fun ww ss => old_heap ss hhp1 (by simp [feet])) hEn1 hnd1 hj4) ?_)
      refine A.goA1 [.p, .p, .al, .p, .st 2] [1, 4, 14, 5, 16, 7, 6] (fun b5 => [(1, (.func (.func 32) #[] #[])), (4, e_), (14, (p_ b2)), (5, (.slice ao ((selK kv (fun y => y.hl) seen).length) co)), (16, (b_ true)), (7, (p_ b5)), (6, (i_ mk4))]) (fun b5 => [iterI b2 mb es1 cl1 (seen ++ [j4]), sl ao ((selK kv (fun y => y.hl) seen).length) co 3 1 (V.flat encI (selK kv (fun y => y.hl) seen)), blk b5 [(i_ mv4.hi), (i_ mv4.hp), (b_ mv4.hl), (u_ mv4.ra), (u_ mv4.rb), (u_ mv4.rc), (u_ mv4.la), (u_ mv4.lb), (u_ mv4.lc), (u_ mv4.ua), (u_ mv4.ub), (u_ mv4.uc), (i_ mv4.hk), (i_ mv4.hq)] 30]) (fun b5 => [b5]) (fun _ => T0) (fun _ => by kernel_rfl) (fun b5 => trivial) ?_
      intro b5
      refine A.tn ?_
      refine A.seq ?_
      refine A.region (A.goP [.p, .ld 2] [(1, (.func (.func 32) #[] #[])), (4, e_), (14, (p_ b2)), (5, (.slice ao ((selK kv (fun y => y.hl) seen).length) co)), (16, (b_ true)), (7, (p_ b5)), (6, (i_ mk4)), (20, (.func (.func 32) #[] #[])), (21, (.agg #[(i_ mv4.hi), (i_ mv4.hp), (b_ mv4.hl), (u_ mv4.ra), (u_ mv4.rb), (u_ mv4.rc), (u_ mv4.la), (u_ mv4.lb), (u_ mv4.lc), (u_ mv4.ua), (u_ mv4.ub), (u_ mv4.uc), (i_ mv4.hk), (i_ mv4.hq)]))] [b5] T0 (by kernel_rfl) trivial ?_)
      refine A.cons (A.inlX (some 22) [(.agg #[(i_ mv4.hi), (i_ mv4.hp), (b_ mv4.hl), (u_ mv4.ra), (u_ mv4.rb), (u_ mv4.rc), (u_ mv4.la), (u_ mv4.lb), (u_ mv4.lc), (u_ mv4.ua), (u_ mv4.ub), (u_ mv4.uc), (i_ mv4.hk), (i_ mv4.hq)])] [(0, (.agg #[(i_ mv4.hi), (i_ mv4.hp), (b_ mv4.hl), (u_ mv4.ra), (u_ mv4.rb), (u_ mv4.rc), (u_ mv4.la), (u_ mv4.lb), (u_ mv4.lc), (u_ mv4.ua), (u_ mv4.ub), (u_ mv4.uc), (i_ mv4.hk), (i_ mv4.hq)]))] (by kernel_rfl) rfl Try.func32 rfl rfl ?_)
      refine A.seq ?_
      refine A.region (A.goA1 [.al, .p] [0, 1, 2] (fun b6 => [(0, (.agg #[(i_ mv4.hi), (i_ mv4.hp), (b_ mv4.hl), (u_ mv4.ra), (u_ mv4.rb), (u_ mv4.rc), (u_ mv4.la), (u_ mv4.lb), (u_ mv4.lc), (u_ mv4.ua), (u_ mv4.ub), (u_ mv4.uc), (i_ mv4.hk), (i_ mv4.hq)])), (1, (p_ b6)), (2, (b_ false))]) (fun b6 => [iterI b2 mb es1 cl1 (seen ++ [j4]), sl ao ((selK kv (fun y => y.hl) seen).length) co 3 1 (V.flat encI (selK kv (fun y => y.hl) seen)), blk b5 [(i_ mv4.hi), (i_ mv4.hp), (b_ mv4.hl), (u_ mv4.ra), (u_ mv4.rb), (u_ mv4.rc), (u_ mv4.la), (u_ mv4.lb), (u_ mv4.lc), (u_ mv4.ua), (u_ mv4.ub), (u_ mv4.uc), (i_ mv4.hk), (i_ mv4.hq)] 30, blk b6 [(i_ mv4.hi), (i_ mv4.hp), (b_ mv4.hl), (u_ mv4.ra), (u_ mv4.rb), (u_ mv4.rc), (u_ mv4.la), (u_ mv4.lb), (u_ mv4.lc), (u_ mv4.ua), (u_ mv4.ub), (u_ mv4.uc), (i_ mv4.hk), (i_ mv4.hq)] 30]) (fun b6 => []) (fun _ => T0) (fun _ => by kernel_rfl) (fun b6 => trivial) ?_)
      intro b6
      refine A.tn ?_
      refine A.seq ?_
      refine A.region (A.goA [.p, .ld 3, .p] [(0, (.agg #[(i_ mv4.hi), (i_ mv4.hp), (b_ mv4.hl), (u_ mv4.ra), (u_ mv4.rb), (u_ mv4.rc), (u_ mv4.la), (u_ mv4.lb), (u_ mv4.lc), (u_ mv4.ua), (u_ mv4.ub), (u_ mv4.uc), (i_ mv4.hk), (i_ mv4.hq)])), (1, (p_ b6)), (2, (b_ mv4.hl))] [b6] T0 (by kernel_rfl) trivial ?_)
      refine A.tn ?_
      refine A.ret ?_
      refine A.post [(b_ mv4.hl)] (fun aa ww rr ss => ⟨rv_tmp rr rfl, trivial⟩) (A.back (by kernel_rfl) ?_)
      refine A.items [iterI b2 mb es1 cl1 (seen ++ [j4]), sl ao ((selK kv (fun y => y.hl) seen).length) co 3 1 (V.flat encI (selK kv (fun y => y.hl) seen)), blk b5 [(i_ mv4.hi), (i_ mv4.hp), (b_ mv4.hl), (u_ mv4.ra), (u_ mv4.rb), (u_ mv4.rc), (u_ mv4.la), (u_ mv4.lb), (u_ mv4.lc), (u_ mv4.ua), (u_ mv4.ub), (u_ mv4.uc), (i_ mv4.hk), (i_ mv4.hq)] 30] (.cons_cons _ (.cons_cons _ (.cons_cons _ (.cons _ (List.Sublist.slnil))))) ?_
      refine A.done ?_
      refine A.sub [(1, (.func (.func 32) #[] #[])), (4, e_), (14, (p_ b2)), (5, (.slice ao ((selK kv (fun y => y.hl) seen).length) co)), (16, (b_ true)), (7, (p_ b5)), (6, (i_ mk4)), (22, (b_ mv4.hl))] (by exact ⟨rfl, rfl, rfl, rfl, rfl, rfl, rfl, rfl, trivial⟩) ?_
      refine A.tn ?_
      refine A.cond (E := mv4.hl) rfl (fun e2 => ?_) (fun e2 => ?_)
      · skip
        have p2 := e2; try simp only [decide_eq_true_eq, decide_eq_false_iff_not, beq_iff_eq, beq_eq_false_iff_ne, bne_iff_ne, bne_eq_false_iff_eq, ne_eq, Bool.and_eq_true, Bool.or_eq_true, Bool.or_eq_false_iff, Bool.not_eq_true', Bool.not_eq_false', Int.not_lt, Int.not_le, gt_iff_lt, ge_iff_le, Classical.not_not] at p2
        refine A.region (A.goP [.p, .p] [(1, (.func (.func 32) #[] #[])), (4, e_), (14, (p_ b2)), (5, (.slice ao ((selK kv (fun y => y.hl) seen).length) co)), (16, (b_ true)), (7, (p_ b5)), (6, (i_ mk4)), (22, (b_ mv4.hl)), (23, (.slice ao ((selK kv (fun y => y.hl) seen).length) co)), (24, (i_ mk4))] [] T0 (by kernel_rfl) trivial ?_)
        refine A.cons (A.buildSlice 25 (e := 3) [(i_ mk4)] (by kernel_rfl) rfl (fun _ => by kernel_rfl) (fun b7 => [iterI b2 mb es1 cl1 (seen ++ [j4]), sl ao ((selK kv (fun y => y.hl) seen).length) co 3 1 (V.flat encI (selK kv (fun y => y.hl) seen)), blk b5 [(i_ mv4.hi), (i_ mv4.hp), (b_ mv4.hl), (u_ mv4.ra), (u_ mv4.rb), (u_ mv4.rc), (u_ mv4.la), (u_ mv4.lb), (u_ mv4.lc), (u_ mv4.ua), (u_ mv4.ub), (u_ mv4.uc), (i_ mv4.hk), (i_ mv4.hq)] 30, blk b7 [(i_ mk4)] 3]) (fun _ => rfl) ?_)
        intro b7
        refine A.cons (A.appendC (enc := encI) (xs := (selK kv (fun y => y.hl) seen)) ([mk4]) 1 26 (e := 3) (z := (i_ 0)) (sz := 1) (by_ := 8) (by kernel_rfl) rfl rfl rfl (by kernel_rfl) (by kernel_rfl) (by rfl) (by decide) encI_len encI_one rfl (rd_blk (i := 3) rfl) (by simp; omega) (fun A8 c8 => [iterI b2 mb es1 cl1 (seen ++ [j4]), sl A8 (((selK kv (fun y => y.hl) seen) ++ ([mk4])).length) c8 3 1 (V.flat encI ((selK kv (fun y => y.hl) seen) ++ ([mk4]))), blk b5 [(i_ mv4.hi), (i_ mv4.hp), (b_ mv4.hl), (u_ mv4.ra), (u_ mv4.rb), (u_ mv4.rc), (u_ mv4.la), (u_ mv4.lb), (u_ mv4.lc), (u_ mv4.ua), (u_ mv4.ub), (u_ mv4.uc), (i_ mv4.hk), (i_ mv4.hq)] 30, blk b7 [(i_ mk4)] 3]) (fun _ _ => rfl) ?_)
        intro A8 c8
        refine A.goA [.p] [(1, (.func (.func 32) #[] #[])), (4, e_), (14, (p_ b2)), (5, (.slice A8 (((selK kv (fun y => y.hl) seen) ++ ([mk4])).length) c8)), (16, (b_ true)), (7, (p_ b5)), (6, (i_ mk4)), (22, (b_ mv4.hl))] [] T0 (by kernel_rfl) trivial ?_
        refine A.bn ?_
        refine A.tn ?_
        refine A.setH [iterI b2 mb es1 cl1 (seen ++ [j4]), sl A8 ((selK kv (fun y => y.hl) (seen ++ [j4])).length) c8 3 1 (V.flat encI (selK kv (fun y => y.hl) (seen ++ [j4]))), blk b5 [(i_ mv4.hi), (i_ mv4.hp), (b_ mv4.hl), (u_ mv4.ra), (u_ mv4.rb), (u_ mv4.rc), (u_ mv4.la), (u_ mv4.lb), (u_ mv4.lc), (u_ mv4.ua), (u_ mv4.ub), (u_ mv4.uc), (i_ mv4.hk), (i_ mv4.hq)] 30, blk b7 [(i_ mk4)] 3] (cc rfl (cc (slC (by first | rfl | exact selK_t (by assumption) (by first | assumption | rfl) | exact selK_f (by assumption) (by assumption) | exact sel_all hn hb (by assumption) : (selK kv (fun y => y.hl) seen) ++ ([mk4]) = (selK kv (fun y => y.hl) (seen ++ [j4])))) rfl)) ?_
        refine A.sub [(1, (.func (.func 32) #[] #[])), (4, e_), (14, (p_ b2)), (5, (.slice A8 ((selK kv (fun y => y.hl) (seen ++ [j4])).length) c8)), (16, (b_ true)), (7, (p_ b5)), (6, (i_ mk4)), (22, (b_ mv4.hl))] (by exact ⟨rfl, rfl, rfl, (congrArg (fun z_ : List Int => some (Value.slice A8 z_.length c8)) (by first | rfl | exact selK_t (by assumption) (by first | assumption | rfl) | exact selK_f (by assumption) (by assumption) | exact sel_all hn hb (by assumption) : (selK kv (fun y => y.hl) seen) ++ ([mk4]) = (selK kv (fun y => y.hl) (seen ++ [j4])))), rfl, rfl, rfl, rfl, trivial⟩) ?_
        refine A.next ((seen ++ [j4]), A8, c8) ⟨(by exact (walk_lt hn hb (by assumption) (by assumption)).1), (by exact (walk_lt hn hb (by assumption) (by assumption)).2.1)⟩ (by ((have h_ := (walk_lt hn hb (by assumption) (by assumption)).2.2); simp; omega)) ?_
        exact A.hereK [0, 0] (by exact ⟨rfl, rfl, rfl, rfl, trivial⟩) (by kernel_rfl)
      · skip
        have p2 := e2; try simp only [decide_eq_true_eq, decide_eq_false_iff_not, beq_iff_eq, beq_eq_false_iff_ne, bne_iff_ne, bne_eq_false_iff_eq, ne_eq, Bool.and_eq_true, Bool.or_eq_true, Bool.or_eq_false_iff, Bool.not_eq_true', Bool.not_eq_false', Int.not_lt, Int.not_le, gt_iff_lt, ge_iff_le, Classical.not_not] at p2
        refine A.skip ?_
        refine A.bn ?_
        refine A.tn ?_
        refine A.setH [iterI b2 mb es1 cl1 (seen ++ [j4]), sl ao ((selK kv (fun y => y.hl) (seen ++ [j4])).length) co 3 1 (V.flat encI (selK kv (fun y => y.hl) (seen ++ [j4]))), blk b5 [(i_ mv4.hi), (i_ mv4.hp), (b_ mv4.hl), (u_ mv4.ra), (u_ mv4.rb), (u_ mv4.rc), (u_ mv4.la), (u_ mv4.lb), (u_ mv4.lc), (u_ mv4.ua), (u_ mv4.ub), (u_ mv4.uc), (i_ mv4.hk), (i_ mv4.hq)] 30] (cc rfl (cc (slC (by first | rfl | exact selK_t (by assumption) (by first | assumption | rfl) | exact selK_f (by assumption) (by assumption) | exact sel_all hn hb (by assumption) : (selK kv (fun y => y.hl) seen) = (selK kv (fun y => y.hl) (seen ++ [j4])))) rfl)) ?_
        refine A.sub [(1, (.func (.func 32) #[] #[])), (4, e_), (14, (p_ b2)), (5, (.slice ao ((selK kv (fun y => y.hl) (seen ++ [j4])).length) co)), (16, (b_ true)), (7, (p_ b5)), (6, (i_ mk4)), (22, (b_ mv4.hl))] (by exact ⟨rfl, rfl, rfl, (congrArg (fun z_ : List Int => some (Value.slice ao z_.length co)) (by first | rfl | exact selK_t (by assumption) (by first | assumption | rfl) | exact selK_f (by assumption) (by assumption) | exact sel_all hn hb (by assumption) : (selK kv (fun y => y.hl) seen) = (selK kv (fun y => y.hl) (seen ++ [j4])))), rfl, rfl, rfl, rfl, trivial⟩) ?_
        refine A.next ((seen ++ [j4]), ao, co) ⟨(by exact (walk_lt hn hb (by assumption) (by assumption)).1), (by exact (walk_lt hn hb (by assumption) (by assumption)).2.1)⟩ (by ((have h_ := (walk_lt hn hb (by assumption) (by assumption)).2.2); simp; omega)) ?_
        exact A.hereK [0, 0] (by exact ⟨rfl, rfl, rfl, rfl, trivial⟩) (by kernel_rfl)

set_option maxHeartbeats 4000000 in
set_option maxRecDepth 100000 in
theorem reals_nil (w : World) :
    Calls Try.prog 21 #[n_] w fun e w' => e = .returned e_ ∧ Fr [] w w' := by
  refine calls_of (args := [n_]) (penv [n_]) [] [] Try.func21 rfl rfl (look_penv _) (HS.nil w) ?_
  refine A.norm [(0, n_)] [] (by exact ⟨rfl, trivial⟩) rfl ?_
  refine A.seq ?_
  refine A.region (A.goA [.p] [(0, n_), (2, e_)] [] T0 (by kernel_rfl) trivial ?_)
  refine A.tn ?_
  refine A.seq ?_
  refine A.region (A.goA [.p] [(0, n_), (2, e_), (3, e_)] [] T0 (by kernel_rfl) trivial ?_)
  refine A.tn ?_
  refine A.seq ?_
  refine A.seq ?_
  refine A.region (A.goP [.p] [(0, n_), (2, e_), (3, e_), (6, n_)] [] T0 (by kernel_rfl) trivial ?_)
  refine A.cons (A.inlX (some 7) [n_, (.func (.func 39) #[] #[])] [(0, n_), (1, (.func (.func 39) #[] #[]))] (by kernel_rfl) rfl Try.func23 rfl rfl ?_)
  refine A.seq ?_
  refine A.region (A.goA [.p] [(0, n_), (1, (.func (.func 39) #[] #[])), (4, e_)] [] T0 (by kernel_rfl) trivial ?_)
  refine A.tn ?_
  refine A.seq ?_
  refine A.seq ?_
  refine A.region (A.goA [.p, .p] [(0, n_), (1, (.func (.func 39) #[] #[])), (4, e_), (9, (b_ true))] [] T0 (by kernel_rfl) trivial ?_)
  refine A.tn ?_
  refine A.cond_t rfl ?_
  refine A.seq ?_
  refine A.region (A.goA [.p] [(0, n_), (1, (.func (.func 39) #[] #[])), (4, e_), (9, (b_ true))] [] T0 (by kernel_rfl) trivial ?_)
  refine A.tn ?_
  refine A.ret ?_
  refine A.tr ?_
  refine A.post [e_] (fun aa ww rr ss => ⟨rv_tmp rr rfl, trivial⟩) (A.back (by kernel_rfl) ?_)
  refine A.goA [.p, .p] [(0, n_), (2, e_), (3, e_), (7, e_), (8, (i_ 0)), (9, (i_ 0))] [] T0 (by kernel_rfl) trivial ?_
  refine A.tn ?_
  refine A.block ?_
  refine A.unroll 400 ?_
  refine A.turnk (m := 399) ?_
  refine A.seq ?_
  refine A.region (A.goA [.p] [(0, n_), (2, e_), (3, e_), (7, e_), (8, (i_ 0)), (9, (i_ 0)), (10, (b_ false))] [] T0 (by kernel_rfl) trivial ?_)
  refine A.tn ?_
  refine A.seq ?_
  refine A.cond_f rfl ?_
  refine A.exit ?_
  refine A.te ?_
  refine A.te ?_
  refine A.bh ?_
  refine A.tn ?_
  refine A.seq ?_
  refine A.region (A.goA [.p, .p] [(0, n_), (2, e_), (3, e_), (7, e_), (8, (i_ 0)), (9, (i_ 0)), (10, (b_ false))] [] T0 (by kernel_rfl) trivial ?_)
  refine A.tn ?_
  refine A.ret ?_
  refine A.postQ [e_] (fun aa ww rr ss => ⟨rv_tmp rr rfl, trivial⟩) ?_
  rfl

set_option maxHeartbeats 4000000 in
set_option maxRecDepth 100000 in
theorem reals_ok (bt mb : Nat) (kv : List (Int × Cl)) (hl : kv.length ≤ 1000) (w : World) (r0 : (blk bt [(.map (some mb))] 55).holds w) (r1 : (mapI (fun k : Int => i_ k) (fun y : Cl => (.agg (encCl y).toArray)) mb kv).holds w) (hs : HS w (feet []) [] w) :
    Calls Try.prog 21 #[(p_ bt)] w fun e w' => ∃ zz, e = .returned ((fun (zz : (Option Addr) × Nat) => match zz with | (al', cl') => (.slice al' ((realsL kv).length) cl')) zz) ∧ (fun (zz : (Option Addr) × Nat) => match zz with | (al', cl') => True) zz ∧ Turn [] ((fun (zz : (Option Addr) × Nat) => match zz with | (al', cl') => [sl al' ((realsL kv).length) cl' 28 3 (V.flat encCv (realsL kv))]) zz) w w' := by
  have hkl := keysF_len kv (fun y => decide ((ofC y.ra y.rb y.rc) > 1))
  refine calls_of (args := [(p_ bt)]) (penv [(p_ bt)]) (feet []) [] Try.func21 rfl rfl (look_penv _) hs ?_
  refine A.norm [(0, (p_ bt))] [] (by exact ⟨rfl, trivial⟩) rfl ?_
  refine A.seq ?_
  refine A.region (A.goA [.p] [(0, (p_ bt)), (2, e_)] [] T0 (by kernel_rfl) trivial ?_)
  refine A.tn ?_
  refine A.seq ?_
  refine A.region (A.goA [.p] [(0, (p_ bt)), (2, e_), (3, e_)] [] T0 (by kernel_rfl) trivial ?_)
  refine A.tn ?_
  refine A.seq ?_
  refine A.seq ?_
  refine A.region (A.goP [.p] [(0, (p_ bt)), (2, e_), (3, e_), (6, (p_ bt))] [] T0 (by kernel_rfl) trivial ?_)
  refine A.cons (A.inlX (some 7) [(p_ bt), (.func (.func 39) #[] #[])] [(0, (p_ bt)), (1, (.func (.func 39) #[] #[]))] (by kernel_rfl) rfl Try.func23 rfl rfl ?_)
  refine A.seq ?_
  refine A.region (A.goA [.p] [(0, (p_ bt)), (1, (.func (.func 39) #[] #[])), (4, e_)] [] T0 (by kernel_rfl) trivial ?_)
  refine A.tn ?_
  refine A.seq ?_
  refine A.seq ?_
  refine A.region (A.goA [.p, .p] [(0, (p_ bt)), (1, (.func (.func 39) #[] #[])), (4, e_), (9, (b_ false))] [] T0 (by kernel_rfl) trivial ?_)
  refine A.tn ?_
  refine A.cond_f rfl ?_
  refine A.skip ?_
  refine A.tn ?_
  refine A.seq ?_
  refine A.region (A.goA [.p] [(0, (p_ bt)), (1, (.func (.func 39) #[] #[])), (4, e_), (9, (b_ false)), (5, e_)] [] T0 (by kernel_rfl) trivial ?_)
  refine A.tn ?_
  refine A.seq ?_
  refine A.seq ?_
  refine A.region (A.goP [.p, .p, .p, .rd [(.map (some mb))]] [(0, (p_ bt)), (1, (.func (.func 39) #[] #[])), (4, e_), (9, (b_ false)), (5, e_), (13, (.map (some mb)))] [] (fun κ => κ.rd ⟨bt, 0, none⟩ [(.map (some mb))] ∧ True) (by kernel_rfl) ⟨(reads_oldblk r0 rfl), trivial⟩ ?_)
  obtain ⟨⟨es1, cl1, hhp1, hEn1, hbo1, hnd1⟩, hkn1⟩ := id r1
  refine A.cons (A.rangeM (kt := 3) (et := 30) (es := es1) (clock := cl1) 14 (by kernel_rfl) rfl rfl (by kernel_rfl) (fun ww ss => old_heap ss hhp1 (by simp [feet])) (fun b2 => [iterI b2 mb es1 cl1 ([] : List Nat)]) (fun _ => rfl) ?_)
  intro b2
  refine A.done ?_
  refine A.sub [(0, (p_ bt)), (1, (.func (.func 39) #[] #[])), (4, e_), (9, (b_ false)), (5, e_), (14, (p_ b2))] (by exact ⟨rfl, rfl, rfl, rfl, rfl, rfl, trivial⟩) ?_
  refine A.tn ?_
  refine A.block ?_
  refine A.ownNil 3 1 [iterI b2 mb es1 cl1 ([] : List Nat), sl none (([] : List Int).length) 0 3 1 (V.flat encI ([] : List Int))] rfl ?_
  refine A.setH [iterI b2 mb es1 cl1 ([] : List Nat), sl none ((selK kv (fun y => decide ((ofC y.ra y.rb y.rc) > 1)) ([] : List Nat)).length) 0 3 1 (V.flat encI (selK kv (fun y => decide ((ofC y.ra y.rb y.rc) > 1)) ([] : List Nat)))] (cc rfl (cc (slC (by first | rfl | exact selK_t (by assumption) (by first | assumption | rfl) | exact selK_f (by assumption) (by assumption) | exact sel_all hn hb (by assumption) | exact realsK_snoc (by assumption) | exact realsK_all (by omega) : ([] : List Int) = (selK kv (fun y => decide ((ofC y.ra y.rb y.rc) > 1)) ([] : List Nat)))) rfl)) ?_
  refine A.sub [(0, (p_ bt)), (1, (.func (.func 39) #[] #[])), (4, e_), (9, (b_ false)), (5, (.slice none ((selK kv (fun y => decide ((ofC y.ra y.rb y.rc) > 1)) ([] : List Nat)).length) 0)), (14, (p_ b2))] (by exact ⟨rfl, rfl, rfl, rfl, (congrArg (fun z_ : List Int => some (Value.slice none z_.length 0)) (by first | rfl | exact selK_t (by assumption) (by first | assumption | rfl) | exact selK_f (by assumption) (by assumption) | exact sel_all hn hb (by assumption) | exact realsK_snoc (by assumption) | exact realsK_all (by omega) : ([] : List Int) = (selK kv (fun y => decide ((ofC y.ra y.rb y.rc) > 1)) ([] : List Nat)))), rfl, trivial⟩) ?_
  refine A.loop (fun (zz : (List Nat) × (Option Addr) × Nat) => match zz with | (seen, ao, co) => [(1, (.func (.func 39) #[] #[])), (4, e_), (14, (p_ b2)), (5, (.slice ao ((selK kv (fun y => decide ((ofC y.ra y.rb y.rc) > 1)) seen).length) co))]) (fun (zz : (List Nat) × (Option Addr) × Nat) => match zz with | (seen, ao, co) => [iterI b2 mb es1 cl1 seen, sl ao ((selK kv (fun y => decide ((ofC y.ra y.rb y.rc) > 1)) seen).length) co 3 1 (V.flat encI (selK kv (fun y => decide ((ofC y.ra y.rb y.rc) > 1)) seen))]) (fun (zz : (List Nat) × (Option Addr) × Nat) => match zz with | (seen, ao, co) => seen.Nodup ∧ (∀ j ∈ seen, j < kv.length)) (fun (zz : (List Nat) × (Option Addr) × Nat) => match zz with | (seen, ao, co) => kv.length - seen.length) (([] : List Nat), none, 0) ⟨(by simp), (by simp)⟩ ?_ ?_
  · exact A.hereK [0, 0] (by exact ⟨rfl, rfl, rfl, rfl, trivial⟩) (by kernel_rfl)
  · rintro ⟨seen, ao, co⟩ ⟨hn, hb⟩
    have hsl := nodup_le hn hb; have hsk := selK_len kv (fun y => decide ((ofC y.ra y.rb y.rc) > 1)) seen
    refine A.norm [(1, (.func (.func 39) #[] #[])), (4, e_), (14, (p_ b2)), (5, (.slice ao ((selK kv (fun y => decide ((ofC y.ra y.rb y.rc) > 1)) seen).length) co))] [iterI b2 mb es1 cl1 seen, sl ao ((selK kv (fun y => decide ((ofC y.ra y.rb y.rc) > 1)) seen).length) co 3 1 (V.flat encI (selK kv (fun y => decide ((ofC y.ra y.rb y.rc) > 1)) seen))] (by exact ⟨rfl, rfl, rfl, rfl, trivial⟩) rfl ?_
    refine A.seq ?_
    refine A.region ?_
    refine A.cons (A.nextM (enck := (fun k : Int => i_ k)) (encv := (fun y : Cl => (.agg (encCl y).toArray))) (kv := kv) 0 15 (by kernel_rfl) rfl rfl rfl (fun ww ss => old_heap ss hhp1 (by simp [feet])) hEn1 hbo1 hnd1 (by assumption) (fun j4 => [iterI b2 mb es1 cl1 (seen ++ [j4]), sl ao ((selK kv (fun y => decide ((ofC y.ra y.rb y.rc) > 1)) seen).length) co 3 1 (V.flat encI (selK kv (fun y => decide ((ofC y.ra y.rb y.rc) > 1)) seen))]) (fun _ => rfl) (fun hall4 => ?_) (fun j4 mk4 mv4 hj4 hn4 => ?_))
    · skip
      refine A.goA [.p] [(1, (.func (.func 39) #[] #[])), (4, e_), (14, (p_ b2)), (5, (.slice ao ((selK kv (fun y => decide ((ofC y.ra y.rb y.rc) > 1)) seen).length) co)), (16, (b_ false))] [] T0 (by kernel_rfl) trivial ?_
      refine A.tn ?_
      refine A.seq ?_
      refine A.cond_f rfl ?_
      refine A.exit ?_
      refine A.te ?_
      refine A.te ?_
      refine A.bh ?_
      refine A.tn ?_
      refine A.seq ?_
      refine A.region (A.goP [.p] [(1, (.func (.func 39) #[] #[])), (4, e_), (14, (p_ b2)), (5, (.slice ao ((selK kv (fun y => decide ((ofC y.ra y.rb y.rc) > 1)) seen).length) co)), (16, (b_ false)), (27, (.slice ao ((selK kv (fun y => decide ((ofC y.ra y.rb y.rc) > 1)) seen).length) co))] [] T0 (by kernel_rfl) trivial ?_)
      refine A.cons (A.callT (some 28) [(.slice ao ((selK kv (fun y => decide ((ofC y.ra y.rb y.rc) > 1)) seen).length) co)] [1] ((fun _ => (.tuple #[]))) ((fun _ => True)) ((fun _ => [sl ao ((sortI (selK kv (fun y => decide ((ofC y.ra y.rb y.rc) > 1)) seen)).length) co 3 1 (V.flat encI (sortI (selK kv (fun y => decide ((ofC y.ra y.rb y.rc) > 1)) seen)))])) (fun _ => [sl ao ((sortI (selK kv (fun y => decide ((ofC y.ra y.rb y.rc) > 1)) seen)).length) co 3 1 (V.flat encI (sortI (selK kv (fun y => decide ((ofC y.ra y.rb y.rc) > 1)) seen))), iterI b2 mb es1 cl1 seen]) (by kernel_rfl) rfl rfl (fun ww ss hh => sort_spec ao (selK kv (fun y => decide ((ofC y.ra y.rb y.rc) > 1)) seen) co (by first | assumption | omega) ww hh) (fun _ => rfl) ?_)
      rintro ⟨⟩ -
      refine A.done ?_
      refine A.sub [(1, (.func (.func 39) #[] #[])), (4, e_), (14, (p_ b2)), (5, (.slice ao ((selK kv (fun y => decide ((ofC y.ra y.rb y.rc) > 1)) seen).length) co)), (16, (b_ false))] (by exact ⟨rfl, rfl, rfl, rfl, rfl, trivial⟩) ?_
      refine A.tn ?_
      refine A.seq ?_
      have hcv5 : (sortI (selK kv (fun y => decide ((ofC y.ra y.rb y.rc) > 1)) seen)) = (keysF kv (fun y => decide ((ofC y.ra y.rb y.rc) > 1))) := sel_all hn hb (by assumption)
      refine A.setH [sl ao ((keysF kv (fun y => decide ((ofC y.ra y.rb y.rc) > 1))).length) co 3 1 (V.flat encI (keysF kv (fun y => decide ((ofC y.ra y.rb y.rc) > 1)))), iterI b2 mb es1 cl1 seen] (cc (slC hcv5) rfl) ?_
      refine A.sub [(1, (.func (.func 39) #[] #[])), (4, e_), (14, (p_ b2)), (5, (.slice ao ((keysF kv (fun y => decide ((ofC y.ra y.rb y.rc) > 1))).length) co)), (16, (b_ false))] (by exact ⟨rfl, rfl, rfl, (congrArg (fun z_ : Nat => some (Value.slice ao z_ co)) (by rw [← hcv5, sortI_len])), rfl, trivial⟩) ?_
      refine A.region (A.goA [.p, .p] [(1, (.func (.func 39) #[] #[])), (4, (.slice ao ((keysF kv (fun y => decide ((ofC y.ra y.rb y.rc) > 1))).length) co)), (14, (p_ b2)), (5, (.slice ao ((keysF kv (fun y => decide ((ofC y.ra y.rb y.rc) > 1))).length) co)), (16, (b_ false))] [] T0 (by kernel_rfl) trivial ?_)
      refine A.tn ?_
      refine A.ret ?_
      refine A.post [(.slice ao ((keysF kv (fun y => decide ((ofC y.ra y.rb y.rc) > 1))).length) co)] (fun aa ww rr ss => ⟨rv_tmp rr rfl, trivial⟩) (A.back (by kernel_rfl) ?_)
      refine A.goA [.p, .p] [(0, (p_ bt)), (2, e_), (3, e_), (7, (.slice ao ((keysF kv (fun y => decide ((ofC y.ra y.rb y.rc) > 1))).length) co)), (8, (i_ ((keysF kv (fun y => decide ((ofC y.ra y.rb y.rc) > 1))).length : Int))), (9, (i_ 0))] [] T0 (by kernel_rfl) trivial ?_
      refine A.tn ?_
      refine A.block ?_
      refine A.ownNil 28 3 [sl ao ((keysF kv (fun y => decide ((ofC y.ra y.rb y.rc) > 1))).length) co 3 1 (V.flat encI (keysF kv (fun y => decide ((ofC y.ra y.rb y.rc) > 1)))), iterI b2 mb es1 cl1 seen, sl none (([] : List Cv).length) 0 28 3 (V.flat encCv ([] : List Cv))] rfl ?_
      refine A.setH [sl ao ((keysF kv (fun y => decide ((ofC y.ra y.rb y.rc) > 1))).length) co 3 1 (V.flat encI (keysF kv (fun y => decide ((ofC y.ra y.rb y.rc) > 1)))), iterI b2 mb es1 cl1 seen, sl none ((realsK kv 0).length) 0 28 3 (V.flat encCv (realsK kv 0))] (cc rfl (cc rfl (cc (slC (by first | rfl | exact selK_t (by assumption) (by first | assumption | rfl) | exact selK_f (by assumption) (by assumption) | exact sel_all hn hb (by assumption) | exact realsK_snoc (by assumption) | exact realsK_all (by omega) : ([] : List Cv) = (realsK kv 0))) rfl))) ?_
      refine A.sub [(0, (p_ bt)), (2, e_), (3, (.slice none ((realsK kv 0).length) 0)), (7, (.slice ao ((keysF kv (fun y => decide ((ofC y.ra y.rb y.rc) > 1))).length) co)), (8, (i_ ((keysF kv (fun y => decide ((ofC y.ra y.rb y.rc) > 1))).length : Int))), (9, (i_ 0))] (by exact ⟨rfl, rfl, (congrArg (fun z_ : List Cv => some (Value.slice none z_.length 0)) (by first | rfl | exact selK_t (by assumption) (by first | assumption | rfl) | exact selK_f (by assumption) (by assumption) | exact sel_all hn hb (by assumption) | exact realsK_snoc (by assumption) | exact realsK_all (by omega) : ([] : List Cv) = (realsK kv 0))), rfl, rfl, rfl, trivial⟩) ?_
      refine A.loop (fun (zz : Nat × (Option Addr) × Nat) => match zz with | (k, ar, cr) => [(0, (p_ bt)), (2, e_), (7, (.slice ao ((keysF kv (fun y => decide ((ofC y.ra y.rb y.rc) > 1))).length) co)), (8, (i_ ((keysF kv (fun y => decide ((ofC y.ra y.rb y.rc) > 1))).length : Int))), (9, (i_ (k : Int))), (3, (.slice ar ((realsK kv k).length) cr))]) (fun (zz : Nat × (Option Addr) × Nat) => match zz with | (k, ar, cr) => [sl ar ((realsK kv k).length) cr 28 3 (V.flat encCv (realsK kv k)), sl ao ((keysF kv (fun y => decide ((ofC y.ra y.rb y.rc) > 1))).length) co 3 1 (V.flat encI (keysF kv (fun y => decide ((ofC y.ra y.rb y.rc) > 1)))), iterI b2 mb es1 cl1 seen]) (fun (zz : Nat × (Option Addr) × Nat) => match zz with | (k, ar, cr) => (k ≤ (keysF kv (fun y => decide ((ofC y.ra y.rb y.rc) > 1))).length)) (fun (zz : Nat × (Option Addr) × Nat) => match zz with | (k, ar, cr) => (keysF kv (fun y => decide ((ofC y.ra y.rb y.rc) > 1))).length - k) (0, none, 0) (by first | assumption | omega | (simp_all; done) | (simp_all; omega) | grind) ?_ ?_
      · exact A.hereK [2, 0, 0] (by exact ⟨rfl, rfl, rfl, rfl, rfl, rfl, trivial⟩) (by kernel_rfl)
      · rintro ⟨k, ar, cr⟩ hk
        have hk : k ≤ (keysF kv (fun y => decide ((ofC y.ra y.rb y.rc) > 1))).length := hk
        have hrl := realsK_len kv k
        refine A.norm [(0, (p_ bt)), (2, e_), (7, (.slice ao ((keysF kv (fun y => decide ((ofC y.ra y.rb y.rc) > 1))).length) co)), (8, (i_ ((keysF kv (fun y => decide ((ofC y.ra y.rb y.rc) > 1))).length : Int))), (9, (i_ (k : Int))), (3, (.slice ar ((realsK kv k).length) cr))] [sl ar ((realsK kv k).length) cr 28 3 (V.flat encCv (realsK kv k)), sl ao ((keysF kv (fun y => decide ((ofC y.ra y.rb y.rc) > 1))).length) co 3 1 (V.flat encI (keysF kv (fun y => decide ((ofC y.ra y.rb y.rc) > 1)))), iterI b2 mb es1 cl1 seen] (by exact ⟨rfl, rfl, rfl, rfl, rfl, rfl, trivial⟩) rfl ?_
        refine A.seq ?_
        refine A.region (A.goA [.p] [(0, (p_ bt)), (2, e_), (7, (.slice ao ((keysF kv (fun y => decide ((ofC y.ra y.rb y.rc) > 1))).length) co)), (8, (i_ ((keysF kv (fun y => decide ((ofC y.ra y.rb y.rc) > 1))).length : Int))), (9, (i_ (k : Int))), (3, (.slice ar ((realsK kv k).length) cr)), (10, (b_ (decide ((k : Int) < ((keysF kv (fun y => decide ((ofC y.ra y.rb y.rc) > 1))).length : Int)))))] [] T0 (by kernel_rfl) trivial ?_)
        refine A.tn ?_
        refine A.seq ?_
        refine A.cond (E := decide ((k : Int) < ((keysF kv (fun y => decide ((ofC y.ra y.rb y.rc) > 1))).length : Int))) rfl (fun e2 => ?_) (fun e2 => ?_)
        · skip
          have p2 := of_decide_eq_true e2
          refine A.skip ?_
          refine A.tn ?_
          refine A.seq ?_
          refine A.block ?_
          refine A.seq ?_
          refine A.region (A.goP [.ix] [(0, (p_ bt)), (2, e_), (7, (.slice ao ((keysF kv (fun y => decide ((ofC y.ra y.rb y.rc) > 1))).length) co)), (8, (i_ ((keysF kv (fun y => decide ((ofC y.ra y.rb y.rc) > 1))).length : Int))), (9, (i_ (k : Int))), (3, (.slice ar ((realsK kv k).length) cr)), (10, (b_ (decide ((k : Int) < ((keysF kv (fun y => decide ((ofC y.ra y.rb y.rc) > 1))).length : Int))))), (11, (.pointer (some ((at0 ao).add (k * 1)))))] [] (fun κ => κ.ix ao ((keysF kv (fun y => decide ((ofC y.ra y.rb y.rc) > 1))).length) (k : Int) ∧ True) (by kernel_rfl) ⟨(ixOf encI_len (by decide) (rd_sl (i := 1) rfl) (by first | omega | (simp; omega) | (simp; done))), trivial⟩ ?_)
          obtain ⟨x7, hx7⟩ : ∃ x, ((keysF kv (fun y => decide ((ofC y.ra y.rb y.rc) > 1))))[k]? = some x := ⟨_, List.getElem?_eq_getElem (by omega)⟩
          refine A.goA [.rd [(i_ x7)], .p] [(0, (p_ bt)), (2, e_), (7, (.slice ao ((keysF kv (fun y => decide ((ofC y.ra y.rb y.rc) > 1))).length) co)), (8, (i_ ((keysF kv (fun y => decide ((ofC y.ra y.rb y.rc) > 1))).length : Int))), (9, (i_ (k : Int))), (3, (.slice ar ((realsK kv k).length) cr)), (10, (b_ (decide ((k : Int) < ((keysF kv (fun y => decide ((ofC y.ra y.rb y.rc) > 1))).length : Int))))), (5, (i_ x7))] [] (fun κ => κ.rd ((at0 ao).add (k * 1)) [(i_ x7)] ∧ True) (by kernel_rfl) ⟨(reads_at0 (vs := [(i_ x7)]) encI_len (rd_sl (i := 1) rfl) hx7 (by simp) rfl), trivial⟩ ?_
          refine A.tn ?_
          refine A.region (A.goP [.p, .p, .p, .p, .rd [(.map (some mb))], .p] [(0, (p_ bt)), (2, e_), (7, (.slice ao ((keysF kv (fun y => decide ((ofC y.ra y.rb y.rc) > 1))).length) co)), (8, (i_ ((keysF kv (fun y => decide ((ofC y.ra y.rb y.rc) > 1))).length : Int))), (9, (i_ (k : Int))), (3, (.slice ar ((realsK kv k).length) cr)), (10, (b_ (decide ((k : Int) < ((keysF kv (fun y => decide ((ofC y.ra y.rb y.rc) > 1))).length : Int))))), (5, (i_ x7)), (13, (.slice ar ((realsK kv k).length) cr)), (17, (.map (some mb))), (18, (i_ x7))] [] (fun κ => κ.rd ⟨bt, 0, none⟩ [(.map (some mb))] ∧ True) (by kernel_rfl) ⟨(reads_oldblk r0 rfl), trivial⟩ ?_)
          refine A.cons (A.q (some 19) (.agg #[(i_ (((mget kv x7).getD cl0).hi)), (i_ (((mget kv x7).getD cl0).hp)), (b_ (((mget kv x7).getD cl0).hl)), (u_ (((mget kv x7).getD cl0).ra)), (u_ (((mget kv x7).getD cl0).rb)), (u_ (((mget kv x7).getD cl0).rc)), (u_ (((mget kv x7).getD cl0).la)), (u_ (((mget kv x7).getD cl0).lb)), (u_ (((mget kv x7).getD cl0).lc)), (u_ (((mget kv x7).getD cl0).ua)), (u_ (((mget kv x7).getD cl0).ub)), (u_ (((mget kv x7).getD cl0).uc)), (i_ (((mget kv x7).getD cl0).hk)), (i_ (((mget kv x7).getD cl0).hq))]) (by kernel_rfl) (qt_lookup (kt := 3) (et := 30) (enck := (fun k : Int => i_ k)) (encv := (fun y : Cl => (.agg (encCl y).toArray))) (b := mb) (kv := kv) (k := x7) (d0 := cl0) (fun ww ss => old_item ss r1) rfl rfl rfl (by kernel_rfl) keyOk_I (by kernel_rfl) rfl) ?_)
          refine A.goP [.p] [(0, (p_ bt)), (2, e_), (7, (.slice ao ((keysF kv (fun y => decide ((ofC y.ra y.rb y.rc) > 1))).length) co)), (8, (i_ ((keysF kv (fun y => decide ((ofC y.ra y.rb y.rc) > 1))).length : Int))), (9, (i_ (k : Int))), (3, (.slice ar ((realsK kv k).length) cr)), (10, (b_ (decide ((k : Int) < ((keysF kv (fun y => decide ((ofC y.ra y.rb y.rc) > 1))).length : Int))))), (5, (i_ x7)), (13, (.slice ar ((realsK kv k).length) cr)), (20, (.agg #[(u_ (((mget kv x7).getD cl0).ra)), (u_ (((mget kv x7).getD cl0).rb)), (u_ (((mget kv x7).getD cl0).rc))]))] [] T0 (by kernel_rfl) trivial ?_
          refine A.cons (A.buildSlice 21 (e := 28) [(u_ (((mget kv x7).getD cl0).ra)), (u_ (((mget kv x7).getD cl0).rb)), (u_ (((mget kv x7).getD cl0).rc))] (by kernel_rfl) rfl (fun _ => by kernel_rfl) (fun b8 => [sl ar ((realsK kv k).length) cr 28 3 (V.flat encCv (realsK kv k)), sl ao ((keysF kv (fun y => decide ((ofC y.ra y.rb y.rc) > 1))).length) co 3 1 (V.flat encI (keysF kv (fun y => decide ((ofC y.ra y.rb y.rc) > 1)))), iterI b2 mb es1 cl1 seen, blk b8 [(u_ (((mget kv x7).getD cl0).ra)), (u_ (((mget kv x7).getD cl0).rb)), (u_ (((mget kv x7).getD cl0).rc))] 28]) (fun _ => rfl) ?_)
          intro b8
          refine A.cons (A.appendC (enc := encCv) (xs := (realsK kv k)) ([(⟨((mget kv x7).getD cl0).ra, ((mget kv x7).getD cl0).rb, ((mget kv x7).getD cl0).rc⟩ : Cv)]) 0 22 (e := 28) (z := (.agg #[(u_ 0), (u_ 0), (u_ 0)])) (sz := 3) (by_ := 24) (by kernel_rfl) rfl rfl rfl (by kernel_rfl) (by kernel_rfl) (by rfl) (by decide) encCv_len encCv_one rfl (rd_blk (i := 3) rfl) (by first | (simp only [List.length_append, List.length_cons, List.length_nil]; omega) | (simp; omega)) (fun A9 c9 => [sl A9 (((realsK kv k) ++ ([(⟨((mget kv x7).getD cl0).ra, ((mget kv x7).getD cl0).rb, ((mget kv x7).getD cl0).rc⟩ : Cv)])).length) c9 28 3 (V.flat encCv ((realsK kv k) ++ ([(⟨((mget kv x7).getD cl0).ra, ((mget kv x7).getD cl0).rb, ((mget kv x7).getD cl0).rc⟩ : Cv)]))), sl ao ((keysF kv (fun y => decide ((ofC y.ra y.rb y.rc) > 1))).length) co 3 1 (V.flat encI (keysF kv (fun y => decide ((ofC y.ra y.rb y.rc) > 1)))), iterI b2 mb es1 cl1 seen, blk b8 [(u_ (((mget kv x7).getD cl0).ra)), (u_ (((mget kv x7).getD cl0).rb)), (u_ (((mget kv x7).getD cl0).rc))] 28]) (fun _ _ => rfl) ?_)
          intro A9 c9
          refine A.goA [.p] [(0, (p_ bt)), (2, e_), (7, (.slice ao ((keysF kv (fun y => decide ((ofC y.ra y.rb y.rc) > 1))).length) co)), (8, (i_ ((keysF kv (fun y => decide ((ofC y.ra y.rb y.rc) > 1))).length : Int))), (9, (i_ (k : Int))), (3, (.slice A9 (((realsK kv k) ++ ([(⟨((mget kv x7).getD cl0).ra, ((mget kv x7).getD cl0).rb, ((mget kv x7).getD cl0).rc⟩ : Cv)])).length) c9)), (10, (b_ (decide ((k : Int) < ((keysF kv (fun y => decide ((ofC y.ra y.rb y.rc) > 1))).length : Int))))), (5, (i_ x7))] [] T0 (by kernel_rfl) trivial ?_
          refine A.bn ?_
          refine A.tn ?_
          refine A.region (A.goA [.w ((k : Int) + 1), .p] [(0, (p_ bt)), (2, e_), (7, (.slice ao ((keysF kv (fun y => decide ((ofC y.ra y.rb y.rc) > 1))).length) co)), (8, (i_ ((keysF kv (fun y => decide ((ofC y.ra y.rb y.rc) > 1))).length : Int))), (9, (i_ ((k : Int) + 1))), (3, (.slice A9 (((realsK kv k) ++ ([(⟨((mget kv x7).getD cl0).ra, ((mget kv x7).getD cl0).rb, ((mget kv x7).getD cl0).rc⟩ : Cv)])).length) c9)), (10, (b_ (decide ((k : Int) < ((keysF kv (fun y => decide ((ofC y.ra y.rb y.rc) > 1))).length : Int))))), (5, (i_ x7))] [] (fun κ => (IntKind.i64.wrap ((k : Int) + 1) = ((k : Int) + 1)) ∧ True) (by kernel_rfl) ⟨(wrap_i64 (e := (k : Int) + 1) (by constructor <;> omega)), trivial⟩ ?_)
          refine A.tn ?_
          refine A.setH [sl A9 ((realsK kv (k + 1)).length) c9 28 3 (V.flat encCv (realsK kv (k + 1))), sl ao ((keysF kv (fun y => decide ((ofC y.ra y.rb y.rc) > 1))).length) co 3 1 (V.flat encI (keysF kv (fun y => decide ((ofC y.ra y.rb y.rc) > 1)))), iterI b2 mb es1 cl1 seen, blk b8 [(u_ (((mget kv x7).getD cl0).ra)), (u_ (((mget kv x7).getD cl0).rb)), (u_ (((mget kv x7).getD cl0).rc))] 28] (cc (slC (by first | rfl | exact selK_t (by assumption) (by first | assumption | rfl) | exact selK_f (by assumption) (by assumption) | exact sel_all hn hb (by assumption) | exact realsK_snoc (by assumption) | exact realsK_all (by omega) : (realsK kv k) ++ ([(⟨((mget kv x7).getD cl0).ra, ((mget kv x7).getD cl0).rb, ((mget kv x7).getD cl0).rc⟩ : Cv)]) = (realsK kv (k + 1)))) rfl) ?_
          refine A.sub [(0, (p_ bt)), (2, e_), (7, (.slice ao ((keysF kv (fun y => decide ((ofC y.ra y.rb y.rc) > 1))).length) co)), (8, (i_ ((keysF kv (fun y => decide ((ofC y.ra y.rb y.rc) > 1))).length : Int))), (9, (i_ ((k : Int) + 1))), (3, (.slice A9 ((realsK kv (k + 1)).length) c9)), (10, (b_ (decide ((k : Int) < ((keysF kv (fun y => decide ((ofC y.ra y.rb y.rc) > 1))).length : Int))))), (5, (i_ x7))] (by exact ⟨rfl, rfl, rfl, rfl, rfl, (congrArg (fun z_ : List Cv => some (Value.slice A9 z_.length c9)) (by first | rfl | exact selK_t (by assumption) (by first | assumption | rfl) | exact selK_f (by assumption) (by assumption) | exact sel_all hn hb (by assumption) | exact realsK_snoc (by assumption) | exact realsK_all (by omega) : (realsK kv k) ++ ([(⟨((mget kv x7).getD cl0).ra, ((mget kv x7).getD cl0).rb, ((mget kv x7).getD cl0).rc⟩ : Cv)]) = (realsK kv (k + 1)))), rfl, rfl, trivial⟩) ?_
          refine A.next (k + 1, A9, c9) (by first | assumption | omega | (simp_all; done) | (simp_all; omega) | grind) (by first | omega | (simp; omega) | (simp_all; omega)) ?_
          exact A.hereK [0, 0, 0] (by exact ⟨rfl, rfl, rfl, rfl, rfl, rfl, trivial⟩) (by kernel_rfl)
        · skip
          have p2 := of_decide_eq_false e2
          refine A.exit ?_
          refine A.te ?_
          refine A.te ?_
          refine A.bh ?_
          refine A.tn ?_
          refine A.seq ?_
          refine A.region (A.goA [.p, .p] [(0, (p_ bt)), (2, (.slice ar ((realsK kv k).length) cr)), (7, (.slice ao ((keysF kv (fun y => decide ((ofC y.ra y.rb y.rc) > 1))).length) co)), (8, (i_ ((keysF kv (fun y => decide ((ofC y.ra y.rb y.rc) > 1))).length : Int))), (9, (i_ (k : Int))), (3, (.slice ar ((realsK kv k).length) cr)), (10, (b_ (decide ((k : Int) < ((keysF kv (fun y => decide ((ofC y.ra y.rb y.rc) > 1))).length : Int)))))] [] T0 (by kernel_rfl) trivial ?_)
          refine A.tn ?_
          refine A.ret ?_
          refine A.setH [sl ar ((realsL kv).length) cr 28 3 (V.flat encCv (realsL kv)), sl ao ((keysF kv (fun y => decide ((ofC y.ra y.rb y.rc) > 1))).length) co 3 1 (V.flat encI (keysF kv (fun y => decide ((ofC y.ra y.rb y.rc) > 1)))), iterI b2 mb es1 cl1 seen] (cc (slC (by first | rfl | exact selK_t (by assumption) (by first | assumption | rfl) | exact selK_f (by assumption) (by assumption) | exact sel_all hn hb (by assumption) | exact realsK_snoc (by assumption) | exact realsK_all (by omega) : (realsK kv k) = (realsL kv))) rfl) ?_
          refine A.postK [0] [(.slice ar ((realsK kv k).length) cr)] (fun aa ww rr ss => ⟨rv_tmp rr rfl, trivial⟩) (ar, cr) ?_ ?_ (by kernel_rfl)
          · show ((.slice ar ((realsK kv k).length) cr) : Value) = (.slice ar ((realsL kv).length) cr)
            rw [realsK_all (by omega)]
          · trivial
    · skip
      refine A.goA [.p] [(1, (.func (.func 39) #[] #[])), (4, e_), (14, (p_ b2)), (5, (.slice ao ((selK kv (fun y => decide ((ofC y.ra y.rb y.rc) > 1)) seen).length) co)), (16, (b_ true))] [] T0 (by kernel_rfl) trivial ?_
      refine A.tn ?_
      refine A.seq ?_
      refine A.cond_t rfl ?_
      refine A.skip ?_
      refine A.tn ?_
      refine A.block ?_
      refine A.seq ?_
      refine A.region ?_
      refine A.cons (A.q (some 17) (.tuple #[(i_ mk4), (.agg #[(i_ mv4.hi), (i_ mv4.hp), (b_ mv4.hl), (u_ mv4.ra), (u_ mv4.rb), (u_ mv4.rc), (u_ mv4.la), (u_ mv4.lb), (u_ mv4.lc), (u_ mv4.ua), (u_ mv4.ub), (u_ mv4.uc), (i_ mv4.hk), (i_ mv4.hq)])]) (by kernel_rfl) (qt_entry (enck := (fun k : Int => i_ k)) (encv := (fun y : Cl => (.agg (encCl y).toArray))) (kv := kv) (k := mk4) (v := mv4) 0 j4 rfl rfl rfl (fun ww ss => old_heap ss hhp1 (by simp [feet])) hEn1 hnd1 hj4) ?_)
      refine A.goA1 [.p, .p, .al, .p, .st 2] [1, 4, 14, 5, 16, 7, 6] (fun b10 => [(1, (.func (.func 39) #[] #[])), (4, e_), (14, (p_ b2)), (5, (.slice ao ((selK kv (fun y => decide ((ofC y.ra y.rb y.rc) > 1)) seen).length) co)), (16, (b_ true)), (7, (p_ b10)), (6, (i_ mk4))]) (fun b10 => [iterI b2 mb es1 cl1 (seen ++ [j4]), sl ao ((selK kv (fun y => decide ((ofC y.ra y.rb y.rc) > 1)) seen).length) co 3 1 (V.flat encI (selK kv (fun y => decide ((ofC y.ra y.rb y.rc) > 1)) seen)), blk b10 [(i_ mv4.hi), (i_ mv4.hp), (b_ mv4.hl), (u_ mv4.ra), (u_ mv4.rb), (u_ mv4.rc), (u_ mv4.la), (u_ mv4.lb), (u_ mv4.lc), (u_ mv4.ua), (u_ mv4.ub), (u_ mv4.uc), (i_ mv4.hk), (i_ mv4.hq)] 30]) (fun b10 => [b10]) (fun _ => T0) (fun _ => by kernel_rfl) (fun b10 => trivial) ?_
      intro b10
      refine A.tn ?_
      refine A.seq ?_
      refine A.region (A.goA [.p, .ld 2, .cq (b_ (decide ((ofC mv4.ra mv4.rb mv4.rc) > 1)))] [(1, (.func (.func 39) #[] #[])), (4, e_), (14, (p_ b2)), (5, (.slice ao ((selK kv (fun y => decide ((ofC y.ra y.rb y.rc) > 1)) seen).length) co)), (16, (b_ true)), (7, (p_ b10)), (6, (i_ mk4)), (22, (b_ (decide ((ofC mv4.ra mv4.rb mv4.rc) > 1))))] [b10] (fun κ => κ.call 39 [(.agg #[(i_ mv4.hi), (i_ mv4.hp), (b_ mv4.hl), (u_ mv4.ra), (u_ mv4.rb), (u_ mv4.rc), (u_ mv4.la), (u_ mv4.lb), (u_ mv4.lc), (u_ mv4.ua), (u_ mv4.ub), (u_ mv4.uc), (i_ mv4.hk), (i_ mv4.hq)])] (b_ (decide ((ofC mv4.ra mv4.rb mv4.rc) > 1))) ∧ True) (by kernel_rfl) ⟨(fun ww ss => real_spec mv4 ww), trivial⟩ ?_)
      refine A.tn ?_
      refine A.cond (E := decide ((ofC mv4.ra mv4.rb mv4.rc) > 1)) rfl (fun e3 => ?_) (fun e3 => ?_)
      · skip
        have p3 := of_decide_eq_true e3
        refine A.region (A.goP [.p, .p] [(1, (.func (.func 39) #[] #[])), (4, e_), (14, (p_ b2)), (5, (.slice ao ((selK kv (fun y => decide ((ofC y.ra y.rb y.rc) > 1)) seen).length) co)), (16, (b_ true)), (7, (p_ b10)), (6, (i_ mk4)), (22, (b_ (decide ((ofC mv4.ra mv4.rb mv4.rc) > 1)))), (23, (.slice ao ((selK kv (fun y => decide ((ofC y.ra y.rb y.rc) > 1)) seen).length) co)), (24, (i_ mk4))] [] T0 (by kernel_rfl) trivial ?_)
        refine A.cons (A.buildSlice 25 (e := 3) [(i_ mk4)] (by kernel_rfl) rfl (fun _ => by kernel_rfl) (fun b11 => [iterI b2 mb es1 cl1 (seen ++ [j4]), sl ao ((selK kv (fun y => decide ((ofC y.ra y.rb y.rc) > 1)) seen).length) co 3 1 (V.flat encI (selK kv (fun y => decide ((ofC y.ra y.rb y.rc) > 1)) seen)), blk b10 [(i_ mv4.hi), (i_ mv4.hp), (b_ mv4.hl), (u_ mv4.ra), (u_ mv4.rb), (u_ mv4.rc), (u_ mv4.la), (u_ mv4.lb), (u_ mv4.lc), (u_ mv4.ua), (u_ mv4.ub), (u_ mv4.uc), (i_ mv4.hk), (i_ mv4.hq)] 30, blk b11 [(i_ mk4)] 3]) (fun _ => rfl) ?_)
        intro b11
        refine A.cons (A.appendC (enc := encI) (xs := (selK kv (fun y => decide ((ofC y.ra y.rb y.rc) > 1)) seen)) ([mk4]) 1 26 (e := 3) (z := (i_ 0)) (sz := 1) (by_ := 8) (by kernel_rfl) rfl rfl rfl (by kernel_rfl) (by kernel_rfl) (by rfl) (by decide) encI_len encI_one rfl (rd_blk (i := 3) rfl) (by first | (simp only [List.length_append, List.length_cons, List.length_nil]; omega) | (simp; omega)) (fun A12 c12 => [iterI b2 mb es1 cl1 (seen ++ [j4]), sl A12 (((selK kv (fun y => decide ((ofC y.ra y.rb y.rc) > 1)) seen) ++ ([mk4])).length) c12 3 1 (V.flat encI ((selK kv (fun y => decide ((ofC y.ra y.rb y.rc) > 1)) seen) ++ ([mk4]))), blk b10 [(i_ mv4.hi), (i_ mv4.hp), (b_ mv4.hl), (u_ mv4.ra), (u_ mv4.rb), (u_ mv4.rc), (u_ mv4.la), (u_ mv4.lb), (u_ mv4.lc), (u_ mv4.ua), (u_ mv4.ub), (u_ mv4.uc), (i_ mv4.hk), (i_ mv4.hq)] 30, blk b11 [(i_ mk4)] 3]) (fun _ _ => rfl) ?_)
        intro A12 c12
        refine A.goA [.p] [(1, (.func (.func 39) #[] #[])), (4, e_), (14, (p_ b2)), (5, (.slice A12 (((selK kv (fun y => decide ((ofC y.ra y.rb y.rc) > 1)) seen) ++ ([mk4])).length) c12)), (16, (b_ true)), (7, (p_ b10)), (6, (i_ mk4)), (22, (b_ (decide ((ofC mv4.ra mv4.rb mv4.rc) > 1))))] [] T0 (by kernel_rfl) trivial ?_
        refine A.bn ?_
        refine A.tn ?_
        refine A.setH [iterI b2 mb es1 cl1 (seen ++ [j4]), sl A12 ((selK kv (fun y => decide ((ofC y.ra y.rb y.rc) > 1)) (seen ++ [j4])).length) c12 3 1 (V.flat encI (selK kv (fun y => decide ((ofC y.ra y.rb y.rc) > 1)) (seen ++ [j4]))), blk b10 [(i_ mv4.hi), (i_ mv4.hp), (b_ mv4.hl), (u_ mv4.ra), (u_ mv4.rb), (u_ mv4.rc), (u_ mv4.la), (u_ mv4.lb), (u_ mv4.lc), (u_ mv4.ua), (u_ mv4.ub), (u_ mv4.uc), (i_ mv4.hk), (i_ mv4.hq)] 30, blk b11 [(i_ mk4)] 3] (cc rfl (cc (slC (by first | rfl | exact selK_t (by assumption) (by first | assumption | rfl) | exact selK_f (by assumption) (by assumption) | exact sel_all hn hb (by assumption) | exact realsK_snoc (by assumption) | exact realsK_all (by omega) : (selK kv (fun y => decide ((ofC y.ra y.rb y.rc) > 1)) seen) ++ ([mk4]) = (selK kv (fun y => decide ((ofC y.ra y.rb y.rc) > 1)) (seen ++ [j4])))) rfl)) ?_
        refine A.sub [(1, (.func (.func 39) #[] #[])), (4, e_), (14, (p_ b2)), (5, (.slice A12 ((selK kv (fun y => decide ((ofC y.ra y.rb y.rc) > 1)) (seen ++ [j4])).length) c12)), (16, (b_ true)), (7, (p_ b10)), (6, (i_ mk4)), (22, (b_ (decide ((ofC mv4.ra mv4.rb mv4.rc) > 1))))] (by exact ⟨rfl, rfl, rfl, (congrArg (fun z_ : List Int => some (Value.slice A12 z_.length c12)) (by first | rfl | exact selK_t (by assumption) (by first | assumption | rfl) | exact selK_f (by assumption) (by assumption) | exact sel_all hn hb (by assumption) | exact realsK_snoc (by assumption) | exact realsK_all (by omega) : (selK kv (fun y => decide ((ofC y.ra y.rb y.rc) > 1)) seen) ++ ([mk4]) = (selK kv (fun y => decide ((ofC y.ra y.rb y.rc) > 1)) (seen ++ [j4])))), rfl, rfl, rfl, rfl, trivial⟩) ?_
        refine A.next ((seen ++ [j4]), A12, c12) ⟨(by exact (walk_lt hn hb (by assumption) (by assumption)).1), (by exact (walk_lt hn hb (by assumption) (by assumption)).2.1)⟩ (by ((have h_ := (walk_lt hn hb (by assumption) (by assumption)).2.2); simp; omega)) ?_
        exact A.hereK [0, 0] (by exact ⟨rfl, rfl, rfl, rfl, trivial⟩) (by kernel_rfl)
      · skip
        have p3 := of_decide_eq_false e3
        refine A.skip ?_
        refine A.bn ?_
        refine A.tn ?_
        refine A.setH [iterI b2 mb es1 cl1 (seen ++ [j4]), sl ao ((selK kv (fun y => decide ((ofC y.ra y.rb y.rc) > 1)) (seen ++ [j4])).length) co 3 1 (V.flat encI (selK kv (fun y => decide ((ofC y.ra y.rb y.rc) > 1)) (seen ++ [j4]))), blk b10 [(i_ mv4.hi), (i_ mv4.hp), (b_ mv4.hl), (u_ mv4.ra), (u_ mv4.rb), (u_ mv4.rc), (u_ mv4.la), (u_ mv4.lb), (u_ mv4.lc), (u_ mv4.ua), (u_ mv4.ub), (u_ mv4.uc), (i_ mv4.hk), (i_ mv4.hq)] 30] (cc rfl (cc (slC (by first | rfl | exact selK_t (by assumption) (by first | assumption | rfl) | exact selK_f (by assumption) (by assumption) | exact sel_all hn hb (by assumption) | exact realsK_snoc (by assumption) | exact realsK_all (by omega) : (selK kv (fun y => decide ((ofC y.ra y.rb y.rc) > 1)) seen) = (selK kv (fun y => decide ((ofC y.ra y.rb y.rc) > 1)) (seen ++ [j4])))) rfl)) ?_
        refine A.sub [(1, (.func (.func 39) #[] #[])), (4, e_), (14, (p_ b2)), (5, (.slice ao ((selK kv (fun y => decide ((ofC y.ra y.rb y.rc) > 1)) (seen ++ [j4])).length) co)), (16, (b_ true)), (7, (p_ b10)), (6, (i_ mk4)), (22, (b_ (decide ((ofC mv4.ra mv4.rb mv4.rc) > 1))))] (by exact ⟨rfl, rfl, rfl, (congrArg (fun z_ : List Int => some (Value.slice ao z_.length co)) (by first | rfl | exact selK_t (by assumption) (by first | assumption | rfl) | exact selK_f (by assumption) (by assumption) | exact sel_all hn hb (by assumption) | exact realsK_snoc (by assumption) | exact realsK_all (by omega) : (selK kv (fun y => decide ((ofC y.ra y.rb y.rc) > 1)) seen) = (selK kv (fun y => decide ((ofC y.ra y.rb y.rc) > 1)) (seen ++ [j4])))), rfl, rfl, rfl, rfl, trivial⟩) ?_
        refine A.next ((seen ++ [j4]), ao, co) ⟨(by exact (walk_lt hn hb (by assumption) (by assumption)).1), (by exact (walk_lt hn hb (by assumption) (by assumption)).2.1)⟩ (by ((have h_ := (walk_lt hn hb (by assumption) (by assumption)).2.2); simp; omega)) ?_
        exact A.hereK [0, 0] (by exact ⟨rfl, rfl, rfl, rfl, trivial⟩) (by kernel_rfl)
end Go.Proofs.Ytpodcfadcdnllaa
