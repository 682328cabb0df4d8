/- The functions of the scheduler, layer by layer, proved operation by operation for all arguments, under the conditions that each theorem states: part 5. -/
import Derived.Test.YtobgjpigngoggaaGreatProg
import Derived.Lib.SliceRun
import Derived.Test.YtobgjpigngoggaaGreatJ4
set_option linter.unusedVariables false
set_option linter.unusedSimpArgs false
set_option maxHeartbeats 4000000
set_option maxRecDepth 100000
namespace Go.Proofs.YtobgjpigngoggaaGreat
open Go V
variable{on:List (Int×Int)}{ka:List (Int×MB)}{kb:List (Int×En)}{L:List Int}{k:Nat}{i:Int}{kk kk':List (Int×Vt)}
theorem Rr(hk:L[k]? =some i)(hA:fc on ka i=false)(h:jv on ka kb (L.drop (k+1)) kk kk'):jv on ka kb (L.drop k) kk kk':=by
 obtain⟨h1,h2⟩:=List.getElem?_eq_some_iff.1 hk
 rw[List.drop_eq_getElem_cons h1,h2];exact .inl ⟨hA,h⟩
variable{m:En}{v:Vt}
theorem Rt{t:T}(hk:L[k]? =some i)(hA:fc on ka i=true)(hm:cw kb i=some m)(hv:cw kk m.ec.hp=some v)(he:eQ t (s7 on ka kk m i v t).kv)
  (h:jv on ka kb (L.drop (k+1)) (dD kk m.ec.hp (s7 on ka kk m i v t)) kk'):jv on ka kb (L.drop k) kk kk':=by
 obtain⟨h1,h2⟩:=List.getElem?_eq_some_iff.1 hk
 rw[List.drop_eq_getElem_cons h1,h2];exact .inr ⟨hA,m,v,t,hm,hv,he,h⟩
variable{kc:List (Int×Cl)}
theorem F6(hL:eA kc): ∀(n:Nat)(i z:Int),dep kc i≤n→z∈dc kc i→ ∃c,cw kc z=some c
 |0,i,z,hn,hz=>by unfold dc at hz;rw[show dep kc i=0 by omega] at hz;simp[gG] at hz
 |n+1,i,z,hn,hz=>by
  cases e:cw kc i with
  |none=>rw[mY e] at hz;cases hz
  |some c=>
   rw[jH hL e] at hz
   rcases List.mem_cons.1 hz with rfl|hz
   ·exact⟨c,e⟩
   ·exact F6 hL n _ z (by rw[iq hL e] at hn;omega) hz
variable{z:Int}
theorem Gy(hL:eA kc)(hB:fG kc kb)(hk:(dc kc i)[k]? =some z): ∃m,cw kb z=some m∧jy m:=by
 obtain⟨c,hc⟩:=F6 hL _ i z (Nat.le_refl _) (List.mem_of_getElem? hk)
 obtain⟨m,h1,-,h2⟩:=sR hB hc
 exact⟨m,h1,h2⟩
abbrev AX(p0)(p1)(p2)(p3)(p4)(p5:Ac)(p6)(p7)(p8)(p9)(p10)(p11)(p12)(p13)(p14)(p15):=([cz p0 [i_ p1,i_ p2,p_ p3,.map (some p4),p_ p5.bs,p_ p6,.map (some p7),u_ p8,u_ p9] 141,cz p3 [.map (some p10)] 185,di p10 p11,eN p4 p12,eS p5 p13 p14,eP p7 p15]:List V.dC)
theorem vU(sb:Nat)(lt lm:Int)(bt mc:Nat)(kc:List (Int×Cl))(my:Nat)(kb:List (Int×En))(a:Ac)(on:List (Int×Int))(ka:List (Int×MB))(eb:Nat)(mk:Nat)(kk:List (Int×Vt))(ck ac:Int)(ci:Int)(hL:eA kc)(hB:fG kc kb)(hK:j7 kc 600 kk)(w:World)(hs:HI w (AX sb lt lm bt my a eb mk ck ac mc kc kb on ka kk)):
  CV 151 #[p_ sb,i_ ci] w (AX sb lt lm bt my a eb mk ck ac mc kc kb on ka kk) (fun(kk':(List (Int×Vt)))=>(.tuple #[])) (fun kk'=>jv on ka kb (dc kc ci) kk kk') fun kk'=>(AX sb lt lm bt my a eb mk ck ac mc kc kb on ka kk'):=by
 have hul:=zR hL ci
 refine A.C Tryz.func151 rfl hs (A.c (A.gm [.p,.p,.p,.ld 0,.p] [1] [(10,p_ bt),(11,i_ ci)] [sb] (A.j (A.J (some 12) [] (fun ww ss hh=>CH bt mc kc ci ‹_› ww (ss.mem (i:=1) rfl) (ss.mem (i:=2) rfl) hh) ?_))))
 rintro⟨al'1,cl'2⟩-
 refine A.g [.p,.p] [10,11] [(12,vS al'1 (dc kc ci) cl'2),(13,i_ ((dc kc ci).length:Int)),(14,i_ 0)] (A.y (A.lp (σ:=Nat×(List (Int×Vt))) [] (fun(k,kkk)=>[(14,c_ k)]) [6] (fun(k,kkk)=>[eP mk kkk]) (fun(k,kkk)=>(k≤(dc kc ci).length)∧(∀kk',jv on ka kb ((dc kc ci).drop k) kkk kk'→jv on ka kb (dc kc ci) kk kk')∧(j7 kc (600+k) kkk)) (fun(k,kkk)=>(dc kc ci).length-k) (0,kk) ⟨(by omega),(fun _ h=>h),hK⟩ ?_ ?_))
 ·exact A.I [6,0,0,0,0,0,0]
 rintro⟨k,kkk⟩ ⟨hk,hS,hKk⟩
 refine A.c (A.g [.p] [] [(15,b_ (decide ((k:Int)<((dc kc ci).length:Int))))] (A.d (A.v rfl (fun e2=> ?_) (fun e2=> ?_))))
 ·have p2:=of_decide_eq_true e2
  refine A.p (A.d (A.y (A.c (A.kp [.ix] [15] [(16,.pointer (some ((dV al'1).add (k*1))))] [] (o1 (dY 1 k fE rfl (by omega))) ?_))))
  obtain⟨x4,hx4⟩: ∃x,((dc kc ci))[k]? =some x:=⟨_,List.getElem?_eq_getElem (by omega)⟩
  refine A.k [.rd [i_ x4],.p] [16] [(5,i_ x4)] [] (o1 (ro ((dV al'1).add (k*1)) (fY (vs:=[i_ x4]) fE (fa (i:=1) rfl) hx4 (Nat.le_of_ble_eq_true rfl) rfl))) (A.c (A.gm [.p,.p,.p,.ld 2,.p] [] [(21,.map (some my)),(22,i_ x4)] [sb] ?_))
  obtain⟨m5,hk5,hEO5⟩:=Gy hL hB ‹_›
  refine A.j (A.u (some 23) _ (jc (kt:=3) (et:=167) (k:=x4) (fun ww ss=>mG (ss.mem (i:=5) rfl)) hk5 rfl rfl rfl (by kernel_rfl) (ee (by kernel_rfl)) rfl) (A.g [.p] [21,22,23] [(6,p_ m5.eb)] (A.c (A.k [.p,.p,.p,.ld 2,.p,.cq (b_ (fc on ka x4))] [] [(29,b_ (fc on ka x4))] [sb] (o1 (qo (fun ww ss=>Ij a on ka x4 ww (ss.mem (i:=6) rfl)))) (A.v rfl (fun e3=> ?_) (fun e3=> ?_))))))
  ·obtain⟨m6,hk6,hE6,hl6⟩:=wm hL hB hKk hk5
   refine A.W [19] 20 (A.kd 2 [.p,.p,.p,.ld 2,.p,.p,.p,.p,.rd [i_ m5.ec.hp],.p,.p,.p,.p,.p,.rd [u_ m5.sh.sq11],.p,.p,.cq (u_ (lJ on ka kkk m5))] [0,1,2,3,4,5,6,7,8,10,11,12,13,14,15,16,17,18] [5,6,29] [(33,.map (some mk)),(38,i_ m5.ec.hp),(40,i_ x4),(45,u_ m5.sh.sq11),(48,u_ (lJ on ka kkk m5))] [sb] (oc (ro ⟨m5.eb,2,none⟩ (vs:=[i_ m5.ec.hp]) (ft (fun ww ss=>(gP (ss.mem (i:=5) rfl) hk5:)) rfl)) (oc (ro ⟨m5.eb,48,none⟩ (vs:=[u_ m5.sh.sq11]) (ft (fun ww ss=>(gP (ss.mem (i:=5) rfl) hk5:)) rfl)) (o1 (qo (fun ww ss=>Rq sb lt lm bt mc kc my kb a on ka eb mk kkk ck ac x4 m5 hk5 ‹_› ‹_› ‹_› ww (ss.mem (i:=2) rfl) (ss.mem (i:=3) rfl) (ss.mem (i:=4) rfl) (ss.mem (i:=5) rfl) (ss.mem (i:=6) rfl) (ss.mem (i:=0) rfl)))))) (A.aT 9 (some 39) (p_ m6.be) rfl (by kernel_rfl) (by kernel_rfl) (jc (kt:=3) (et:=136) (k:=m5.ec.hp) (fun ww ss=>oK (ss.mem (i:=0) rfl)) hk6 rfl rfl rfl (by kernel_rfl) (ee (by kernel_rfl)) rfl) (A.F 19 rfl (A.J (some 49) [0] (fun ww ss hh=>Rm mk kkk m5.ec.hp m6 x4 m5.sh.sq11 (lJ on ka kkk m5) hk6 ‹_› (by omega) ww hh) ?_))))
   rintro zt7 hz4
   refine A.E (A.M (A.s (A.hk [.w ((k:Int)+1),.p] [(0,p_ sb),(12,vS al'1 (dc kc ci) cl'2),(13,i_ ((dc kc ci).length:Int)),(14,i_ ((k:Int)+1))] [] (o1 (wj ((k:Int)+1) (by omega))) ?_)))
   refine A.aA (k+1,dD kkk m5.ec.hp {m6 with t:=zt7,kv:=dD m6.kv x4 ⟨m5.sh.sq11,x4,lJ on ka kkk m5,x4⟩}) ⟨(by omega),(fun _ h=>hS _ (Rt ‹_› ‹_› ‹_› ‹_› ‹_› h)),(PI hKk ‹_› (Nat.le_trans (yq _ _ _) (Nat.succ_le_succ ‹_›)))⟩ (by(show(dc kc ci).length-(k+1)<(dc kc ci).length-k;omega)) ?_
   exact A.I [0,0,0,0,0,0,0]
  have p3:=e3
  refine A.p (A.s (A.k [.w ((k:Int)+1),.p] [5,6,29] [(14,i_ ((k:Int)+1))] [] (o1 (wj ((k:Int)+1) (by omega))) (A.aA (k+1,kkk) ⟨(by omega),(fun _ h=>hS _ (Rr ‹_› ‹_› h)),(fun p hp=>(hKk p hp).imp fun v h=>⟨h.1,h.2.1,by omega⟩)⟩ (by(show(dc kc ci).length-(k+1)<(dc kc ci).length-k;omega)) ?_)))
  exact A.I [0,0,0,0,0,0,0]
 have p2:=of_decide_eq_false e2
 refine A.aB (A.aQ [2,2,2,2,2,0] [] (fun aa ww rr ss=>trivial) (kkk) ?_ ?_ (by kernel_rfl))
 ·rfl
 exact hS _ (by rw[List.drop_eq_nil_of_le (by omega)];rfl)
theorem Gz(hL:eA kc): ∀(n:Nat)(i:Int)(F:Int→List (Int×Int)),fH kc i=true→ ∀z∈(fX (fL kc) F n i).1,fH kc z=true
 |0,i,F,hs,z,hz=>by simp[fX] at hz;rw[hz];exact hs
 |n+1,i,F,hs,z,hz=>by
  unfold fX at hz
  split at hz
  ·simp at hz;rw[hz];exact hs
  ·rename_i hp
   rcases List.mem_cons.1 hz with rfl|hz
   ·exact hs
   ·refine Gz hL n _ _ ?_ z hz
    rw[tc,if_pos hs] at hp⊢
    rcases q7 hL hs with h0|h0
    ·exact absurd (.inr h0) hp
    ·exact h0.1
variable{on':List (Int×Int)}{ka':List (Int×MB)}{ym:List (Int×Pl)}{c er:Int}{l:List Int}
theorem F7(hL:eA kc)(hy:ym=fL kc)(h:nj ym on ka c on' ka' l er): ∀z∈l,fH kc z=true:=by
 intro z hz
 rcases h with⟨h1,-,-,h2,-⟩|⟨-,-,h2,-⟩
 ·rw[hy] at h1 h2
  rw[h2] at hz
  refine Gz hL 40 c _ ?_ z hz
  rw[tu] at h1;simp at h1;exact h1.1
 ·rw[h2] at hz;cases hz
theorem F8(h:nj ym on ka c on' ka' l er):l.length≤41:=by
 have: ∀(n:Nat)(i:Int)(F:Int→List (Int×Int)),(fX ym F n i).1.length≤n+1:=fun n=>by
  induction n with
  |zero=>intro i F;simp[fX]
  |succ n ih=>intro i F;unfold fX;split<;>simp;exact ih _ _
 rcases h with⟨-,-,-,h2,-⟩|⟨-,-,h2,-⟩
 ·rw[h2];exact this 40 _ _
 ·rw[h2];simp
theorem Bc(hB:fG kc kb)(h:fH kc z=true): ∃m,cw kb z=some m∧jy m:=by
 obtain⟨c,h1,-⟩:=jr h
 obtain⟨m,h2,-,h3⟩:=sR hB h1
 exact⟨m,h2,h3⟩
def s9(kk:List (Int×Vt))(p:Int):Int:=((((cw kk p).map fun v:Vt=>v.t.toL).getD []).head?.getD default).ka
def pq(kk:List (Int×Vt))(now:Int)(m:En):En:={m with sh:=j6 m.sh (kr m.ec) (s9 kk m.ec.hp) m.tot,li:=k7 m.li (mn m.ec) now m.tot}
def kP(kk:List (Int×Vt))(now:Int):List Int→List (Int×En)→List (Int×En)
 |[],kb=>kb
 |i::l,kb=>kP kk now l (match cw kb i with|some m=>dD kb i (pq kk now m)|none=>kb)
variable{now:Int}{m':En}
theorem E2(hk:L[k]? =some i)(hm:cw kb i=some m)(e:pq kk now m=m'):kP kk now (L.drop (k+1)) (dD kb i m')=kP kk now (L.drop k) kb:=by
 obtain⟨h1,h2⟩:=List.getElem?_eq_some_iff.1 hk
 rw[List.drop_eq_getElem_cons h1,h2,kP,hm];subst e;rfl
theorem wq(h:fG kc kb)(hm:cw kb i=some m)(he:m'.ec=m.ec)(ho:jy m'):fG kc (dD kb i m'):=fun j=>by
 rw[gA];by_cases e:i=j
 ·rw[if_pos e];subst e
  refine⟨?_,fun m2 h2=>by cases h2;exact ho⟩
  have:=mK h hm;rw[this];simp[he]
 ·rw[if_neg e];exact h j
theorem HA(h:jy m)(h1:m'.ec=m.ec)(h2:m'.qb=m.qb)(h3:m'.q=m.q):jy m':=⟨by rw[h1,h2];exact h.lf,by rw[h2,h3];exact h.no,by rw[h2,h3];exact h.qu⟩
theorem rV(h:fG kc kb)(hm:cw kb i=some m)(h1:m'.ec=m.ec)(h2:m'.qb=m.qb)(h3:m'.q=m.q):fG kc (dD kb i m'):=wq h hm h1 (HA ((h i).2 m hm) h1 h2 h3)
def jE(c:Cl):Bool:=decide (dM c.ra c.rb c.rc>1)
def oa(c:Cl):Bool:=decide (dM c.la c.lb c.lc>1)
def IV(kc:List (Int×Cl))(now h i:Int)(m:En)(kb:List (Int×En))(ym:List (Int×Pl))(on:List (Int×Int))(ka:List (Int×MB))(et:T)(ek:List (Int×It))(kk:List (Int×Vt))(kb':List (Int×En))(on':List (Int×Int))(ka':List (Int×MB))(et':T)(ek':List (Int×It))(kk':List (Int×Vt)):Prop:=
 ∃kb1,((jE m.ec=true∧kb1=dD kb i {m with du:=fp m.du (fz m.ec) now h}∧ek'=dD (dL ek m.ec.hi) m.ec.hi ⟨(fp m.du (fz m.ec) now h).dq21,m.ec.hi,(fp m.du (fz m.ec) now h).dq22,m.ec.hi⟩∧eQ et' ek')∨(jE m.ec=false∧kb1=kb∧ek'=ek∧et'=et))∧
  ((oa m.ec=true∧ ∃l er,nj ym on ka m.ec.hi on' ka' l er∧kb'=kP kk now l kb1∧jv on' ka' kb' (dc kc m.ec.hi) kk kk')∨(oa m.ec=false∧kb'=kb1∧on'=on∧ka'=ka∧kk'=kk))
abbrev wt(p0:En)(p1)(p2):=(u_ ((fp p0.du (fz p0.ec) p1 p2).dq22):Value)
abbrev wy(p0:En)(p1)(p2):=(u_ ((fp p0.du (fz p0.ec) p1 p2).dq21):Value)
abbrev HC(p0:En):=((b_ (decide (dM p0.ec.la p0.ec.lb p0.ec.lc>1))):Value)
abbrev sA(p0:En)(p1):=(gY (k7 p0.li (mn p0.ec) p1 p0.tot))
abbrev kV(p0)(p1):=(cz p0 [.map (some p1)] 185:V.dC)
abbrev kW(p0)(p1)(p2)(p3)(p4)(p5:Ac)(p6:Vt)(p7)(p8)(p9):=(cz p0 [i_ p1,i_ p2,p_ p3,.map (some p4),p_ p5.bs,p_ p6.be,.map (some p7),u_ p8,u_ p9] 141:V.dC)
theorem NN(sb:Nat)(lt lm:Int)(bt mc:Nat)(kc:List (Int×Cl))(my:Nat)(kb:List (Int×En))(a:Ac)(on:List (Int×Int))(ka:List (Int×MB))(tl:Vt)(et:T)(ek:List (Int×It))(mk:Nat)(kk:List (Int×Vt))(ck ac:Int)(now i:Int)(m:En)(h:Int)(hm:cw kb i=some m)(hL:eA kc)(hB:fG kc kb)(hK:j7 kc 600 kk)(hy:a.ym=fL kc)(hE:eQ et ek)(hl:ek.length≤600):
  CS 113 #[p_ sb,u_ now,p_ m.eb,i_ h] [kW sb lt lm bt my a tl mk ck ac,kV bt mc,di mc kc,eN my kb,eS a on ka,ew tl et ek,eP mk kk] (fun((kb',on',ka',et',ek',kk'):(List (Int×En))×(List (Int×Int))×(List (Int×MB))×T×(List (Int×It))×(List (Int×Vt)))=>(.tuple #[])) (fun(kb',on',ka',et',ek',kk')=>IV kc now h i m kb a.ym on ka et ek kk kb' on' ka' et' ek' kk') fun(kb',on',ka',et',ek',kk')=>[kW sb lt lm bt my a tl mk ck ac,kV bt mc,di mc kc,eN my kb',eS a on' ka',ew tl et' ek',eP mk kk']:=by
 intro w hs
 have hdp:=fun i=>hy▸tQ hL i
 refine A.C Tryz.func113 rfl hs (A.d (A.s (A.hk [.p,.p,.p,.p,.rd [i_ m.ec.hi],.p] [(0,p_ sb),(1,u_ now),(2,p_ m.eb),(3,i_ h),(8,i_ m.ec.hi)] [] (o1 (ro ⟨m.eb,1,none⟩ (vs:=[i_ m.ec.hi]) (ft (fun ww ss=>(gP (ss.mem (i:=3) rfl) hm:)) rfl))) (A.d (A.d (A.s (A.hk [.p,.p,.p,.rd (dt m.ec),.cq (b_ (decide (dM m.ec.ra m.ec.rb m.ec.rc>1)))] [(0,p_ sb),(1,u_ now),(2,p_ m.eb),(3,i_ h),(8,i_ m.ec.hi),(25,b_ (decide (dM m.ec.ra m.ec.rb m.ec.rc>1)))] [] (oc (ro ⟨m.eb,1,none⟩ (vs:=(dt m.ec)) (ft (fun ww ss=>(gP (ss.mem (i:=3) rfl) hm:)) rfl)) (o1 (qo (fun ww ss=>qI m.ec ww)))) (A.v (E:=decide (dM m.ec.ra m.ec.rb m.ec.rc>1)) rfl (fun e1=> ?_) (fun e1=> ?_)))))))))
 ·have p1:=of_decide_eq_true e1
  refine A.d (A.bC 3 rfl hm rfl (A.W [15] 16 (A.pO 1 [.p,.p,.p,.p,.ld 1,.p,.p,.p,.p,.ld 1,.p,.p,.cq (.agg (fi (fp m.du (fz m.ec) now h)).toArray),.p,.p] [0,1,2,3,4,5,6,7,8,9,10,11,12,13,14] [(0,p_ sb),(1,u_ now),(2,p_ m.eb),(8,i_ m.ec.hi),(38,.agg (fi (fp m.du (fz m.ec) now h)).toArray),(40,q_ m.eb 16)] [m.eb,m.eb] (o1 (qo (fun ww ss=>Q4 m.du (fz m.ec) now h ww))) (A.F 15 rfl (A.sT 1 (fi (fp m.du (fz m.ec) now h)) rfl (A.E (A.M (A.bB (m':=({m with du:=(fp m.du (fz m.ec) now h)}:En)) [0,0] rfl hm ⟨rfl,rfl,rfl⟩ rfl rfl ?_))))))))
  have hk1:=jN kb i ({m with du:=(fp m.du (fz m.ec) now h)}:En)
  refine A.W [15] 16 (A.pO 1 [.p,.p,.p,.ld 1,.p,.p,.p,.p,.p,.rd [wy m now h],.p,.p,.p,.p,.rd [wt m now h]] [0,1,2,3,4,5,6,7,8,9,10,11,12,13,14] [(0,p_ sb),(1,u_ now),(2,p_ m.eb),(8,i_ m.ec.hi),(44,p_ tl.be),(45,i_ m.ec.hi),(50,wy m now h),(55,wt m now h)] [sb] (oc (ro ⟨m.eb,36,none⟩ (vs:=[wy m now h]) (ft (fun ww ss=>(gP (ss.mem (i:=0) rfl) hk1:)) rfl)) (o1 (ro ⟨m.eb,37,none⟩ (vs:=[wt m now h]) (ft (fun ww ss=>(gP (ss.mem (i:=0) rfl) hk1:)) rfl)))) (A.F 15 rfl (A.aX (some 56) [p_ tl.be,i_ m.ec.hi,wy m now h,wt m now h] [5] ((fun zt2=>(i_ 0))) ((fun zt2=>eQ zt2 (dD (dL ek m.ec.hi) m.ec.hi ⟨((fp m.du (fz m.ec) now h).dq21),m.ec.hi,(fp m.du (fz m.ec) now h).dq22,m.ec.hi⟩))) ((fun zt2=>[ew tl zt2 (dD (dL ek m.ec.hi) m.ec.hi ⟨((fp m.du (fz m.ec) now h).dq21),m.ec.hi,(fp m.du (fz m.ec) now h).dq22,m.ec.hi⟩)])) (fun zt2=>[ew tl zt2 (dD (dL ek m.ec.hi) m.ec.hi ⟨((fp m.du (fz m.ec) now h).dq21),m.ec.hi,(fp m.du (fz m.ec) now h).dq22,m.ec.hi⟩),eN my (dD kb i ({m with du:=(fp m.du (fz m.ec) now h)}:En)),kW sb lt lm bt my a tl mk ck ac,kV bt mc,di mc kc,eS a on ka,eP mk kk]) (by kernel_rfl) rfl rfl (fun ww ss hh=>B9 tl et ek m.ec.hi ((fp m.du (fz m.ec) now h).dq21) ((fp m.du (fz m.ec) now h).dq22) (by assumption) (by omega) ww hh) (fun _=>rfl) ?_)))
  rintro zt2 hz2
  refine A.E (A.M (A.d (A.d (A.s (A.hk [.p,.p,.p,.rd (dt m.ec),.cq (HC m),.p] [(0,p_ sb),(1,u_ now),(8,i_ m.ec.hi),(62,b_ (!(decide (dM m.ec.la m.ec.lb m.ec.lc>1))))] [] (oc (ro ⟨m.eb,1,none⟩ (vs:=(dt m.ec)) (ft (fun ww ss=>(gP (ss.mem (i:=1) rfl) hk1:)) rfl)) (o1 (qo (fun ww ss=>nA m.ec ww)))) (A.v (E:= !(decide (dM m.ec.la m.ec.lb m.ec.lc>1))) rfl (fun e3=> ?_) (fun e3=> ?_)))))))
  ·refine A.e (A.aG [2,2,2,1,1,0,0] [] (fun aa ww rr ss=>trivial) ((dD kb i ({m with du:=(fp m.du (fz m.ec) now h)}:En)),on,ka,zt2,dD (dL ek m.ec.hi) m.ec.hi ⟨((fp m.du (fz m.ec) now h).dq21),m.ec.hi,(fp m.du (fz m.ec) now h).dq22,m.ec.hi⟩,kk) ?_ ?_ (by kernel_rfl))
   ·rfl
   exact⟨_,.inl ⟨(by unfold jE;(simp_all;done)),rfl,rfl,by assumption⟩,.inr ⟨(by unfold oa;(simp_all;done)),rfl,rfl,rfl,rfl⟩⟩
  refine A.p (A.c (A.hp [.p,.p,.p,.ld 2,.p] [(0,p_ sb),(1,u_ now),(8,i_ m.ec.hi),(67,p_ a.bs),(68,i_ m.ec.hi)] [sb] (A.j (A.aX (some 69) [p_ a.bs,i_ m.ec.hi] [5] ((fun((on'3,ka'4,al'5,l'6,cl'7,er8):List (Int×Int)×List (Int×MB)×Option Addr×List Int×Nat×Int)=>(.tuple #[vS al'5 l'6 cl'7,i_ er8]))) ((fun((on'3,ka'4,al'5,l'6,cl'7,er8):List (Int×Int)×List (Int×MB)×Option Addr×List Int×Nat×Int)=>nj a.ym on ka m.ec.hi on'3 ka'4 l'6 er8)) ((fun((on'3,ka'4,al'5,l'6,cl'7,er8):List (Int×Int)×List (Int×MB)×Option Addr×List Int×Nat×Int)=>[eS a on'3 ka'4,sI al'5 l'6 cl'7])) (fun((on'3,ka'4,al'5,l'6,cl'7,er8):List (Int×Int)×List (Int×MB)×Option Addr×List Int×Nat×Int)=>[eS a on'3 ka'4,sI al'5 l'6 cl'7,ew tl zt2 (dD (dL ek m.ec.hi) m.ec.hi ⟨((fp m.du (fz m.ec) now h).dq21),m.ec.hi,(fp m.du (fz m.ec) now h).dq22,m.ec.hi⟩),eN my (dD kb i ({m with du:=(fp m.du (fz m.ec) now h)}:En)),kW sb lt lm bt my a tl mk ck ac,kV bt mc,di mc kc,eP mk kk]) (by kernel_rfl) rfl rfl (fun ww ss hh=>CG a on ka m.ec.hi (hdp _) ww hh) (fun _=>rfl) ?_))))
  rintro⟨on'3,ka'4,al'5,l'6,cl'7,er8⟩ hz4
  refine A.h [.p,.p,.p,.p,.p] [(0,p_ sb),(1,u_ now),(8,i_ m.ec.hi),(9,vS al'5 l'6 cl'7)] [] (A.d (A.d ?_))
  have hmem:=F7 hL hy ‹_›
  have hlen:=F8 ‹_›
  refine A.s (A.h [.p,.p,.p] [(0,p_ sb),(1,u_ now),(8,i_ m.ec.hi),(72,vS al'5 l'6 cl'7),(73,c_ l'6.length),(74,i_ 0)] [] (A.y (A.ag (fun((k,kbk):Nat×(List (Int×En)))=>[(0,p_ sb),(1,u_ now),(8,i_ m.ec.hi),(72,vS al'5 l'6 cl'7),(73,c_ l'6.length),(74,c_ k)]) (fun((k,kbk):Nat×(List (Int×En)))=>[eN my kbk,eS a on'3 ka'4,sI al'5 l'6 cl'7,ew tl zt2 (dD (dL ek m.ec.hi) m.ec.hi ⟨((fp m.du (fz m.ec) now h).dq21),m.ec.hi,(fp m.du (fz m.ec) now h).dq22,m.ec.hi⟩),kW sb lt lm bt my a tl mk ck ac,kV bt mc,di mc kc,eP mk kk]) (fun((k,kbk):Nat×(List (Int×En)))=>(k≤l'6.length)∧(kP kk now (l'6.drop k) kbk=kP kk now l'6 (dD kb i ({m with du:=(fp m.du (fz m.ec) now h)}:En)))∧(fG kc kbk)) (fun((k,kbk):Nat×(List (Int×En)))=>l'6.length-k) (0,dD kb i ({m with du:=(fp m.du (fz m.ec) now h)}:En)) ⟨(by omega),(by rfl),(rV hB hm rfl rfl rfl)⟩ ?_ ?_)))
  ·exact A.aL [3,0,0,0,0,0,0,0] ⟨rfl,rfl,rfl,rfl,rfl,rfl,trivial⟩ (by kernel_rfl)
  rintro⟨k,kbk⟩ ⟨hk,hU,hBk⟩
  refine A.aO [(0,p_ sb),(1,u_ now),(8,i_ m.ec.hi),(72,vS al'5 l'6 cl'7),(73,c_ l'6.length),(74,c_ k)] [eN my kbk,eS a on'3 ka'4,sI al'5 l'6 cl'7,ew tl zt2 (dD (dL ek m.ec.hi) m.ec.hi ⟨((fp m.du (fz m.ec) now h).dq21),m.ec.hi,(fp m.du (fz m.ec) now h).dq22,m.ec.hi⟩),kW sb lt lm bt my a tl mk ck ac,kV bt mc,di mc kc,eP mk kk] ⟨rfl,rfl,rfl,rfl,rfl,rfl,trivial⟩ rfl (A.c (A.h [.p] [(0,p_ sb),(1,u_ now),(8,i_ m.ec.hi),(72,vS al'5 l'6 cl'7),(73,c_ l'6.length),(74,c_ k),(75,b_ (decide ((k:Int)<(l'6.length:Int))))] [] (A.d (A.v (E:=decide ((k:Int)<(l'6.length:Int))) rfl (fun e5=> ?_) (fun e5=> ?_)))))
  ·have p5:=of_decide_eq_true e5
   refine A.p (A.d (A.y (A.c (A.hq [.ix] [(0,p_ sb),(1,u_ now),(8,i_ m.ec.hi),(72,vS al'5 l'6 cl'7),(73,c_ l'6.length),(74,c_ k),(76,.pointer (some ((dV al'5).add (k*1))))] [] (o1 (dY 2 k fE rfl (by omega))) ?_))))
   obtain⟨x10,hx10⟩: ∃x,(l'6)[k]? =some x:=⟨_,List.getElem?_eq_getElem (by omega)⟩
   refine A.hk [.rd [i_ x10],.p] [(0,p_ sb),(1,u_ now),(8,i_ m.ec.hi),(72,vS al'5 l'6 cl'7),(73,c_ l'6.length),(74,c_ k),(12,i_ x10)] [] (o1 (ro ((dV al'5).add (k*1)) (fY (vs:=[i_ x10]) fE (fa (i:=2) rfl) hx10 (Nat.le_of_ble_eq_true rfl) rfl))) (A.c (A.hp [.p,.p,.p,.ld 4,.p] [(0,p_ sb),(1,u_ now),(8,i_ m.ec.hi),(72,vS al'5 l'6 cl'7),(73,c_ l'6.length),(74,c_ k),(81,.map (some my)),(82,i_ x10)] [sb] ?_))
   obtain⟨m11,hk11,hec11,hEO11⟩:=Bc hBk (hmem _ (List.mem_of_getElem? hx10))
   refine A.j (A.u (some 83) _ (jc (kt:=3) (et:=167) (k:=x10) (fun ww ss=>mG (ss.mem (i:=0) rfl)) hk11 rfl rfl rfl (by kernel_rfl) (ee (by kernel_rfl)) rfl) (A.h [.p] [(0,p_ sb),(1,u_ now),(8,i_ m.ec.hi),(72,vS al'5 l'6 cl'7),(73,c_ l'6.length),(74,c_ k),(13,p_ m11.eb)] [] (A.d ?_)))
   obtain⟨m12,hk12,hE12,hl12⟩:=wm hL hBk hK hk11
   refine A.W [] 16 (A.pO 7 [.p,.p,.p,.ld 4,.p,.p,.p,.p,.rd [i_ m11.ec.hp]] [0,1,2,3,4,5,6,7,8] [(0,p_ sb),(1,u_ now),(8,i_ m.ec.hi),(72,vS al'5 l'6 cl'7),(73,c_ l'6.length),(74,c_ k),(13,p_ m11.eb),(88,.map (some mk)),(93,i_ m11.ec.hp)] [sb] (o1 (ro ⟨m11.eb,2,none⟩ (vs:=[i_ m11.ec.hp]) (ft (fun ww ss=>(gP (ss.mem (i:=0) rfl) hk11:)) rfl))) (A.aT 9 (some 94) (p_ m12.be) rfl (by kernel_rfl) (by kernel_rfl) (jc (kt:=3) (et:=136) (k:=m11.ec.hp) (fun ww ss=>oK (ss.mem (i:=7) rfl)) hk12 rfl rfl rfl (by kernel_rfl) (ee (by kernel_rfl)) rfl) (A.pO 0 [.cq (.tuple #[u_ ((m12.t.toL.head?.getD default).ka),b_ (m12.t.toL.head?.isSome)]),.p,.p,.p,.p,.p] [10,11,12,13,14,15] [(0,p_ sb),(1,u_ now),(8,i_ m.ec.hi),(72,vS al'5 l'6 cl'7),(73,c_ l'6.length),(74,c_ k),(13,p_ m11.eb),(14,u_ ((m12.t.toL.head?.getD default).ka))] [] (o1 (qo (fun ww ss=>IT mk kk m11.ec.hp m12 hk12 (by assumption) ww (ss.mem (i:=7) rfl)))) (A.M (A.d (A.bC 0 rfl hk11 rfl ?_))))))
   refine A.bW [ni my kbk x10 m11,cz m11.eb (nW m11) 225,eS a on'3 ka'4,sI al'5 l'6 cl'7,ew tl zt2 (dD (dL ek m.ec.hi) m.ec.hi ⟨((fp m.du (fz m.ec) now h).dq21),m.ec.hi,(fp m.du (fz m.ec) now h).dq22,m.ec.hi⟩),kW sb lt lm bt my a tl mk ck ac,kV bt mc,di mc kc,eP mk kk] rfl (A.W [18] 19 (A.pO 1 [.p,.p,.p,.p,.ld 1,.p,.p,.p,.p,.ld 1,.p,.p,.p,.p,.ld 1,.cq (.agg (gy (j6 m11.sh (kr m11.ec) ((m12.t.toL.head?.getD default).ka) m11.tot)).toArray),.p,.p] [0,1,2,3,4,5,6,7,8,9,10,11,12,13,14,15,16,17] [(0,p_ sb),(1,u_ now),(8,i_ m.ec.hi),(72,vS al'5 l'6 cl'7),(73,c_ l'6.length),(74,c_ k),(13,p_ m11.eb),(113,.agg (gy (j6 m11.sh (kr m11.ec) ((m12.t.toL.head?.getD default).ka) m11.tot)).toArray),(115,q_ m11.eb 38)] [m11.eb,m11.eb,m11.eb] (o1 (qo (fun ww ss=>Hk m11.sh (kr m11.ec) ((m12.t.toL.head?.getD default).ka) m11.tot ww))) ?_))
   refine A.F 18 rfl (A.sT 1 (gy (j6 m11.sh (kr m11.ec) ((m12.t.toL.head?.getD default).ka) m11.tot)) rfl ?_)
   refine A.E (A.M (A.W [18] 19 (A.pO 1 [.p,.p,.p,.p,.ld 1,.p,.p,.p,.p,.ld 1,.p,.p,.p,.p,.ld 1,.cq (.agg (sA m11 now).toArray),.p,.p] [0,1,2,3,4,5,6,7,8,9,10,11,12,13,14,15,16,17] [(0,p_ sb),(1,u_ now),(8,i_ m.ec.hi),(72,vS al'5 l'6 cl'7),(73,c_ l'6.length),(74,c_ k),(131,.agg (sA m11 now).toArray),(133,q_ m11.eb 49)] [m11.eb,m11.eb,m11.eb] (o1 (qo (fun ww ss=>Ho m11.li (mn m11.ec) now m11.tot ww))) ?_)))
   refine A.F 18 rfl (A.sT 1 (sA m11 now) rfl ?_)
   refine A.E (A.M (A.bB (m':=({m11 with sh:=(j6 m11.sh (kr m11.ec) ((m12.t.toL.head?.getD default).ka) m11.tot),li:=(k7 m11.li (mn m11.ec) now m11.tot)}:En)) [0,0] rfl hk11 ⟨rfl,rfl,rfl⟩ rfl rfl ?_))
   have hk13:=jN kbk x10 ({m11 with sh:=(j6 m11.sh (kr m11.ec) ((m12.t.toL.head?.getD default).ka) m11.tot),li:=(k7 m11.li (mn m11.ec) now m11.tot)}:En)
   refine(A.s (A.hk [.w ((k:Int)+1),.p] [(0,p_ sb),(1,u_ now),(8,i_ m.ec.hi),(72,vS al'5 l'6 cl'7),(73,c_ l'6.length),(74,i_ ((k:Int)+1))] [] (o1 (wj ((k:Int)+1) (by omega))) (A.aA (k+1,dD kbk x10 ({m11 with sh:=(j6 m11.sh (kr m11.ec) ((m12.t.toL.head?.getD default).ka) m11.tot),li:=(k7 m11.li (mn m11.ec) now m11.tot)}:En)) ⟨(by omega),(by exact(E2 ‹_› ‹_› (by unfold pq s9;simp_all)).trans hU),(by apply rV hBk<;>first|assumption|rfl)⟩ (by(show l'6.length-(k+1)<l'6.length-k;omega)) ?_)))
   exact A.aL [0,0,0,0,0,0,0,0] ⟨rfl,rfl,rfl,rfl,rfl,rfl,trivial⟩ (by kernel_rfl)
  have p5:=of_decide_eq_false e5
  refine A.aB (A.s (A.hp [.p,.p] [(135,p_ sb),(136,i_ m.ec.hi)] [] (A.j (A.aX (some 137) [p_ sb,i_ m.ec.hi] [4,4,4,0,0,2] ((fun kk'14=>(.tuple #[]))) ((fun kk'14=>jv on'3 ka'4 kbk (dc kc m.ec.hi) kk kk'14)) ((fun kk'14=>[kW sb lt lm bt my a tl mk ck ac,kV bt mc,di mc kc,eN my kbk,eS a on'3 ka'4,eP mk kk'14])) (fun kk'14=>[kW sb lt lm bt my a tl mk ck ac,kV bt mc,di mc kc,eN my kbk,eS a on'3 ka'4,eP mk kk'14,sI al'5 l'6 cl'7,ew tl zt2 (dD (dL ek m.ec.hi) m.ec.hi ⟨((fp m.du (fz m.ec) now h).dq21),m.ec.hi,(fp m.du (fz m.ec) now h).dq22,m.ec.hi⟩)]) (by kernel_rfl) rfl rfl (fun ww ss hh=>vU sb lt lm bt mc kc my kbk a on'3 ka'4 tl.be mk kk ck ac m.ec.hi ‹_› ‹_› ‹_› ww hh) (fun _=>rfl) ?_))))
  rintro kk'14 hz6
  refine A.aC (A.aQ [0,0,0,0,0,2,0] [] (fun aa ww rr ss=>trivial) (kbk,on'3,ka'4,zt2,dD (dL ek m.ec.hi) m.ec.hi ⟨((fp m.du (fz m.ec) now h).dq21),m.ec.hi,(fp m.du (fz m.ec) now h).dq22,m.ec.hi⟩,kk'14) ?_ ?_ (by kernel_rfl))
  ·rfl
  exact⟨_,.inl ⟨(by unfold jE;(simp_all;done)),rfl,rfl,by assumption⟩,.inl ⟨(by unfold oa;(simp_all;done)),_,_,by assumption,(by rw[←hU,List.drop_eq_nil_of_le (by omega)];rfl),by assumption⟩⟩
 have p1:=of_decide_eq_false e1
 refine A.p (A.d (A.d (A.s (A.hk [.p,.p,.p,.rd (dt m.ec),.cq (HC m),.p] [(0,p_ sb),(1,u_ now),(8,i_ m.ec.hi),(62,b_ (!(decide (dM m.ec.la m.ec.lb m.ec.lc>1))))] [] (oc (ro ⟨m.eb,1,none⟩ (vs:=(dt m.ec)) (ft (fun ww ss=>(gP (ss.mem (i:=3) rfl) hm:)) rfl)) (o1 (qo (fun ww ss=>nA m.ec ww)))) (A.v (E:= !(decide (dM m.ec.la m.ec.lb m.ec.lc>1))) rfl (fun e7=> ?_) (fun e7=> ?_))))))
 ·refine A.e (A.aG [0,0,0,0,0,0,0] [] (fun aa ww rr ss=>trivial) (kb,on,ka,et,ek,kk) ?_ ?_ (by kernel_rfl))
  ·rfl
  exact⟨_,.inr ⟨(by unfold jE;(simp_all;done)),rfl,rfl,rfl⟩,.inr ⟨(by unfold oa;(simp_all;done)),rfl,rfl,rfl,rfl⟩⟩
 refine A.p (A.c (A.hp [.p,.p,.p,.ld 0,.p] [(0,p_ sb),(1,u_ now),(8,i_ m.ec.hi),(67,p_ a.bs),(68,i_ m.ec.hi)] [sb] (A.j (A.aX (some 69) [p_ a.bs,i_ m.ec.hi] [4] ((fun((on'15,ka'16,al'17,l'18,cl'19,er20):List (Int×Int)×List (Int×MB)×Option Addr×List Int×Nat×Int)=>(.tuple #[vS al'17 l'18 cl'19,i_ er20]))) ((fun((on'15,ka'16,al'17,l'18,cl'19,er20):List (Int×Int)×List (Int×MB)×Option Addr×List Int×Nat×Int)=>nj a.ym on ka m.ec.hi on'15 ka'16 l'18 er20)) ((fun((on'15,ka'16,al'17,l'18,cl'19,er20):List (Int×Int)×List (Int×MB)×Option Addr×List Int×Nat×Int)=>[eS a on'15 ka'16,sI al'17 l'18 cl'19])) (fun((on'15,ka'16,al'17,l'18,cl'19,er20):List (Int×Int)×List (Int×MB)×Option Addr×List Int×Nat×Int)=>[eS a on'15 ka'16,sI al'17 l'18 cl'19,kW sb lt lm bt my a tl mk ck ac,kV bt mc,di mc kc,eN my kb,ew tl et ek,eP mk kk]) (by kernel_rfl) rfl rfl (fun ww ss hh=>CG a on ka m.ec.hi (hdp _) ww hh) (fun _=>rfl) ?_))))
 rintro⟨on'15,ka'16,al'17,l'18,cl'19,er20⟩ hz8
 refine A.h [.p,.p,.p,.p,.p] [(0,p_ sb),(1,u_ now),(8,i_ m.ec.hi),(9,vS al'17 l'18 cl'19)] [] (A.d (A.d ?_))
 have hmem:=F7 hL hy ‹_›
 have hlen:=F8 ‹_›
 refine A.s (A.h [.p,.p,.p] [(0,p_ sb),(1,u_ now),(8,i_ m.ec.hi),(72,vS al'17 l'18 cl'19),(73,c_ l'18.length),(74,i_ 0)] [] (A.y (A.ag (fun((k,kbk):Nat×(List (Int×En)))=>[(0,p_ sb),(1,u_ now),(8,i_ m.ec.hi),(72,vS al'17 l'18 cl'19),(73,c_ l'18.length),(74,c_ k)]) (fun((k,kbk):Nat×(List (Int×En)))=>[eN my kbk,eS a on'15 ka'16,sI al'17 l'18 cl'19,kW sb lt lm bt my a tl mk ck ac,kV bt mc,di mc kc,ew tl et ek,eP mk kk]) (fun((k,kbk):Nat×(List (Int×En)))=>(k≤l'18.length)∧(kP kk now (l'18.drop k) kbk=kP kk now l'18 kb)∧(fG kc kbk)) (fun((k,kbk):Nat×(List (Int×En)))=>l'18.length-k) (0,kb) ⟨(by omega),(by rfl),hB⟩ ?_ ?_)))
 ·exact A.aL [5,0,0,0,0,0,0,0] ⟨rfl,rfl,rfl,rfl,rfl,rfl,trivial⟩ (by kernel_rfl)
 rintro⟨k,kbk⟩ ⟨hk,hU,hBk⟩
 refine A.aO [(0,p_ sb),(1,u_ now),(8,i_ m.ec.hi),(72,vS al'17 l'18 cl'19),(73,c_ l'18.length),(74,c_ k)] [eN my kbk,eS a on'15 ka'16,sI al'17 l'18 cl'19,kW sb lt lm bt my a tl mk ck ac,kV bt mc,di mc kc,ew tl et ek,eP mk kk] ⟨rfl,rfl,rfl,rfl,rfl,rfl,trivial⟩ rfl (A.c (A.h [.p] [(0,p_ sb),(1,u_ now),(8,i_ m.ec.hi),(72,vS al'17 l'18 cl'19),(73,c_ l'18.length),(74,c_ k),(75,b_ (decide ((k:Int)<(l'18.length:Int))))] [] (A.d (A.v (E:=decide ((k:Int)<(l'18.length:Int))) rfl (fun e9=> ?_) (fun e9=> ?_)))))
 ·have p9:=of_decide_eq_true e9
  refine A.p (A.d (A.y (A.c (A.hq [.ix] [(0,p_ sb),(1,u_ now),(8,i_ m.ec.hi),(72,vS al'17 l'18 cl'19),(73,c_ l'18.length),(74,c_ k),(76,.pointer (some ((dV al'17).add (k*1))))] [] (o1 (dY 2 k fE rfl (by omega))) ?_))))
  obtain⟨x22,hx22⟩: ∃x,(l'18)[k]? =some x:=⟨_,List.getElem?_eq_getElem (by omega)⟩
  refine A.hk [.rd [i_ x22],.p] [(0,p_ sb),(1,u_ now),(8,i_ m.ec.hi),(72,vS al'17 l'18 cl'19),(73,c_ l'18.length),(74,c_ k),(12,i_ x22)] [] (o1 (ro ((dV al'17).add (k*1)) (fY (vs:=[i_ x22]) fE (fa (i:=2) rfl) hx22 (Nat.le_of_ble_eq_true rfl) rfl))) (A.c (A.hp [.p,.p,.p,.ld 3,.p] [(0,p_ sb),(1,u_ now),(8,i_ m.ec.hi),(72,vS al'17 l'18 cl'19),(73,c_ l'18.length),(74,c_ k),(81,.map (some my)),(82,i_ x22)] [sb] ?_))
  obtain⟨m23,hk23,hec23,hEO23⟩:=Bc hBk (hmem _ (List.mem_of_getElem? hx22))
  refine A.j (A.u (some 83) _ (jc (kt:=3) (et:=167) (k:=x22) (fun ww ss=>mG (ss.mem (i:=0) rfl)) hk23 rfl rfl rfl (by kernel_rfl) (ee (by kernel_rfl)) rfl) (A.h [.p] [(0,p_ sb),(1,u_ now),(8,i_ m.ec.hi),(72,vS al'17 l'18 cl'19),(73,c_ l'18.length),(74,c_ k),(13,p_ m23.eb)] [] (A.d ?_)))
  obtain⟨m24,hk24,hE24,hl24⟩:=wm hL hBk hK hk23
  refine A.W [] 16 (A.pO 7 [.p,.p,.p,.ld 3,.p,.p,.p,.p,.rd [i_ m23.ec.hp]] [0,1,2,3,4,5,6,7,8] [(0,p_ sb),(1,u_ now),(8,i_ m.ec.hi),(72,vS al'17 l'18 cl'19),(73,c_ l'18.length),(74,c_ k),(13,p_ m23.eb),(88,.map (some mk)),(93,i_ m23.ec.hp)] [sb] (o1 (ro ⟨m23.eb,2,none⟩ (vs:=[i_ m23.ec.hp]) (ft (fun ww ss=>(gP (ss.mem (i:=0) rfl) hk23:)) rfl))) (A.aT 9 (some 94) (p_ m24.be) rfl (by kernel_rfl) (by kernel_rfl) (jc (kt:=3) (et:=136) (k:=m23.ec.hp) (fun ww ss=>oK (ss.mem (i:=7) rfl)) hk24 rfl rfl rfl (by kernel_rfl) (ee (by kernel_rfl)) rfl) (A.pO 0 [.cq (.tuple #[u_ ((m24.t.toL.head?.getD default).ka),b_ (m24.t.toL.head?.isSome)]),.p,.p,.p,.p,.p] [10,11,12,13,14,15] [(0,p_ sb),(1,u_ now),(8,i_ m.ec.hi),(72,vS al'17 l'18 cl'19),(73,c_ l'18.length),(74,c_ k),(13,p_ m23.eb),(14,u_ ((m24.t.toL.head?.getD default).ka))] [] (o1 (qo (fun ww ss=>IT mk kk m23.ec.hp m24 hk24 (by assumption) ww (ss.mem (i:=7) rfl)))) (A.M (A.d (A.bC 0 rfl hk23 rfl ?_))))))
  refine A.bW [ni my kbk x22 m23,cz m23.eb (nW m23) 225,eS a on'15 ka'16,sI al'17 l'18 cl'19,kW sb lt lm bt my a tl mk ck ac,kV bt mc,di mc kc,ew tl et ek,eP mk kk] rfl (A.W [18] 19 (A.pO 1 [.p,.p,.p,.p,.ld 1,.p,.p,.p,.p,.ld 1,.p,.p,.p,.p,.ld 1,.cq (.agg (gy (j6 m23.sh (kr m23.ec) ((m24.t.toL.head?.getD default).ka) m23.tot)).toArray),.p,.p] [0,1,2,3,4,5,6,7,8,9,10,11,12,13,14,15,16,17] [(0,p_ sb),(1,u_ now),(8,i_ m.ec.hi),(72,vS al'17 l'18 cl'19),(73,c_ l'18.length),(74,c_ k),(13,p_ m23.eb),(113,.agg (gy (j6 m23.sh (kr m23.ec) ((m24.t.toL.head?.getD default).ka) m23.tot)).toArray),(115,q_ m23.eb 38)] [m23.eb,m23.eb,m23.eb] (o1 (qo (fun ww ss=>Hk m23.sh (kr m23.ec) ((m24.t.toL.head?.getD default).ka) m23.tot ww))) ?_))
  refine A.F 18 rfl (A.sT 1 (gy (j6 m23.sh (kr m23.ec) ((m24.t.toL.head?.getD default).ka) m23.tot)) rfl ?_)
  refine A.E (A.M (A.W [18] 19 (A.pO 1 [.p,.p,.p,.p,.ld 1,.p,.p,.p,.p,.ld 1,.p,.p,.p,.p,.ld 1,.cq (.agg (sA m23 now).toArray),.p,.p] [0,1,2,3,4,5,6,7,8,9,10,11,12,13,14,15,16,17] [(0,p_ sb),(1,u_ now),(8,i_ m.ec.hi),(72,vS al'17 l'18 cl'19),(73,c_ l'18.length),(74,c_ k),(131,.agg (sA m23 now).toArray),(133,q_ m23.eb 49)] [m23.eb,m23.eb,m23.eb] (o1 (qo (fun ww ss=>Ho m23.li (mn m23.ec) now m23.tot ww))) ?_)))
  refine A.F 18 rfl (A.sT 1 (sA m23 now) rfl ?_)
  refine A.E (A.M (A.bB (m':=({m23 with sh:=(j6 m23.sh (kr m23.ec) ((m24.t.toL.head?.getD default).ka) m23.tot),li:=(k7 m23.li (mn m23.ec) now m23.tot)}:En)) [0,0] rfl hk23 ⟨rfl,rfl,rfl⟩ rfl rfl ?_))
  have hk25:=jN kbk x22 ({m23 with sh:=(j6 m23.sh (kr m23.ec) ((m24.t.toL.head?.getD default).ka) m23.tot),li:=(k7 m23.li (mn m23.ec) now m23.tot)}:En)
  refine(A.s (A.hk [.w ((k:Int)+1),.p] [(0,p_ sb),(1,u_ now),(8,i_ m.ec.hi),(72,vS al'17 l'18 cl'19),(73,c_ l'18.length),(74,i_ ((k:Int)+1))] [] (o1 (wj ((k:Int)+1) (by omega))) (A.aA (k+1,dD kbk x22 ({m23 with sh:=(j6 m23.sh (kr m23.ec) ((m24.t.toL.head?.getD default).ka) m23.tot),li:=(k7 m23.li (mn m23.ec) now m23.tot)}:En)) ⟨(by omega),(by exact(E2 ‹_› ‹_› (by unfold pq s9;simp_all)).trans hU),(by apply rV hBk<;>first|assumption|rfl)⟩ (by(show l'18.length-(k+1)<l'18.length-k;omega)) ?_)))
  exact A.aL [0,0,0,0,0,0,0,0] ⟨rfl,rfl,rfl,rfl,rfl,rfl,trivial⟩ (by kernel_rfl)
 have p9:=of_decide_eq_false e9
 refine A.aB (A.s (A.hp [.p,.p] [(135,p_ sb),(136,i_ m.ec.hi)] [] (A.j (A.aX (some 137) [p_ sb,i_ m.ec.hi] [3,3,3,0,0,2] ((fun kk'26=>(.tuple #[]))) ((fun kk'26=>jv on'15 ka'16 kbk (dc kc m.ec.hi) kk kk'26)) ((fun kk'26=>[kW sb lt lm bt my a tl mk ck ac,kV bt mc,di mc kc,eN my kbk,eS a on'15 ka'16,eP mk kk'26])) (fun kk'26=>[kW sb lt lm bt my a tl mk ck ac,kV bt mc,di mc kc,eN my kbk,eS a on'15 ka'16,eP mk kk'26,sI al'17 l'18 cl'19,ew tl et ek]) (by kernel_rfl) rfl rfl (fun ww ss hh=>vU sb lt lm bt mc kc my kbk a on'15 ka'16 tl.be mk kk ck ac m.ec.hi ‹_› ‹_› ‹_› ww hh) (fun _=>rfl) ?_))))
 rintro kk'26 hz10
 refine A.aC (A.aQ [0,0,0,0,0,2,0] [] (fun aa ww rr ss=>trivial) (kbk,on'15,ka'16,et,ek,kk'26) ?_ ?_ (by kernel_rfl))
 ·rfl
 exact⟨_,.inr ⟨(by unfold jE;(simp_all;done)),rfl,rfl,rfl⟩,.inl ⟨(by unfold oa;(simp_all;done)),_,_,by assumption,(by rw[←hU,List.drop_eq_nil_of_le (by omega)];rfl),by assumption⟩⟩
def mL(kk:List (Int×Vt))(now:Int)(i:Int):Option It:=eV (dU now 9223372036854775807) (((cw kk i).map fun v:Vt=>v.t.toL).getD [])
theorem vV(h:cw kk i=some v):eV (dU now 9223372036854775807) v.t.toL=mL kk now i:=by unfold mL;rw[h];rfl
def qm(kb:List (Int×En))(i:Int):Bool:=((cw kb i).map fun m:En=>m.ec.hl).getD false
def oL(kb:List (Int×En))(kk:List (Int×Vt))(now:Int):Nat→Int→Prop
 |0,_=>False
 |f+1,i=>(∃v,cw kk i=some v∧eQ v.t v.kv)∧ ∀y,mL kk now i=some y→ ∃m,cw kb y.ki=some m∧(m.ec.hl=true∨oL kb kk now f y.ki)
def jf(kb:List (Int×En))(kk:List (Int×Vt))(now:Int):Nat→Int→Option Int
 |0,_=>none
 |f+1,i=>match mL kk now i with
  |none=>none
  |some y=>if qm kb y.ki then some y.ki else jf kb kk now f y.ki
variable{f:Nat}
theorem KO(hk:cw kk i=some v)(h:(eV (dU now 9223372036854775807) v.t.toL).isSome=false):jf kb kk now (f+1) i=none:=by
 rw[vV hk] at h
 unfold jf;cases e:mL kk now i with
 |none=>rfl
 |some y=>rw[e] at h;cases h
theorem KP(hk:cw kk i=some v)(h:(eV (dU now 9223372036854775807) v.t.toL).isSome=true)(hm:cw kb ((eV (dU now 9223372036854775807) v.t.toL).getD default).ki=some m)(hl:m.ec.hl=true):jf kb kk now (f+1) i=some ((eV (dU now 9223372036854775807) v.t.toL).getD default).ki:=by
 rw[vV hk] at h hm⊢
 unfold jf;cases e:mL kk now i with
 |none=>rw[e] at h;cases h
 |some y=>rw[e] at hm;simp only[Option.getD_some] at hm⊢;unfold qm;rw[hm];simp[hl]
theorem F9(hk:cw kk i=some v)(h:(eV (dU now 9223372036854775807) v.t.toL).isSome=true)(hm:cw kb ((eV (dU now 9223372036854775807) v.t.toL).getD default).ki=some m)(hl:m.ec.hl=false)(hd:oL kb kk now (f+1) i):jf kb kk now (f+1) i=jf kb kk now f ((eV (dU now 9223372036854775807) v.t.toL).getD default).ki∧oL kb kk now f ((eV (dU now 9223372036854775807) v.t.toL).getD default).ki:=by
 rw[vV hk] at h hm⊢
 cases e:mL kk now i with
 |none=>rw[e] at h;cases h
 |some y=>
  rw[e] at hm;simp only[Option.getD_some] at hm⊢
  obtain⟨m2,h1,h2⟩:=hd.2 y e
  rw[hm] at h1;cases h1
  rw[hl] at h2
  refine⟨?_,h2.resolve_left (by simp)⟩
  conv=>lhs;unfold jf
  rw[e];unfold qm;simp[hm,hl]
theorem NP(hk:cw kk i=some v)(h:(eV (dU now 9223372036854775807) v.t.toL).isSome=true)(hd:oL kb kk now (f+1) i): ∃m,cw kb ((eV (dU now 9223372036854775807) v.t.toL).getD default).ki=some m:=by
 rw[vV hk] at h⊢
 cases e:mL kk now i with
 |none=>rw[e] at h;cases h
 |some y=>obtain⟨m,h1,-⟩:=hd.2 y e;exact⟨m,h1⟩
def JD(o:Option Int):Int×Bool×Bool:=match o with|some i=>(i,false,true)|none=>(0,false,false)
def eY(et:T)(kb:List (Int×En))(kk:List (Int×Vt))(now:Int):Int×Bool×Bool:=
 match eW (dU now 9223372036854775807) et.toL with
 |some y=>(y.ki,true,true)
 |none=>JD (jf kb kk now 17 0)
variable{et:T}
theorem NQ(h:(eW (dU now 9223372036854775807) et.toL).isSome=true):eY et kb kk now=(((eW (dU now 9223372036854775807) et.toL).getD default).ki,true,true):=by
 unfold eY;cases e:eW (dU now 9223372036854775807) et.toL with
 |none=>rw[e] at h;cases h
 |some y=>rfl
theorem Fa{o:Option Int}(h:(eW (dU now 9223372036854775807) et.toL).isSome=false)(hd:jf kb kk now 17 0=o):eY et kb kk now=JD o:=by
 subst hd;unfold eY;cases e:eW (dU now 9223372036854775807) et.toL with
 |none=>rfl
 |some y=>rw[e] at h;cases h
theorem LV(sb:Nat)(lt lm:Int)(bt mc:Nat)(kc:List (Int×Cl))(my:Nat)(kb:List (Int×En))(a:Ac)(on:List (Int×Int))(ka:List (Int×MB))(tl:Vt)(et:T)(ek:List (Int×It))(mk:Nat)(kk:List (Int×Vt))(ck ac:Int)(now:Int)(hE:eQ et ek)(hD:oL kb kk now 17 0)(w:World)(r0:(cz sb [i_ lt,i_ lm,p_ bt,.map (some my),p_ a.bs,p_ tl.be,.map (some mk),u_ ck,u_ ac] 141).holds w)(r1:(cz bt [.map (some mc)] 185).holds w)(r2:(di mc kc).holds w)(r3:(eN my kb).holds w)(r4:(eS a on ka).holds w)(r5:(ew tl et ek).holds w)(r6:(eP mk kk).holds w):
  CW 152 #[p_ sb,u_ now] w (.tuple #[i_ ((eY et kb kk now).1),b_ ((eY et kb kk now).2.1),b_ ((eY et kb kk now).2.2)]):=by
 refine A.C Tryz.func152 rfl (HS.nil w) (A.c (A.g [.p,.p,.p] [] [] (A.d (A.c (A.k [.p,.p,.p,.rd [p_ tl.be],.p,.cq (.tuple #[i_ (((eW (dU now 9223372036854775807) et.toL).getD default).ki),b_ ((eW (dU now 9223372036854775807) et.toL).isSome)]),.p,.p,.p,.p,.p] [] [(7,i_ (((eW (dU now 9223372036854775807) et.toL).getD default).ki)),(8,b_ ((eW (dU now 9223372036854775807) et.toL).isSome))] [] (oc (ro ⟨sb,5,none⟩ (vs:=[p_ tl.be]) (dj r0 rfl)) (o1 (qo (fun ww ss=>PG tl et ek now ‹_› ww (da ss r5))))) (A.c (A.g [.p] [8] [(21,b_ ((eW (dU now 9223372036854775807) et.toL).isSome))] (A.v rfl (fun e1=> ?_) (fun e1=> ?_)))))))))
 ·refine A.c (A.g [.p,.p,.p,.p] [0,1,7,21] [(4,i_ (((eW (dU now 9223372036854775807) et.toL).getD default).ki)),(5,b_ true),(6,b_ true)] (A.e (A.N [i_ (((eW (dU now 9223372036854775807) et.toL).getD default).ki),b_ true,b_ true] ?_)))
  show((.tuple #[i_ (((eW (dU now 9223372036854775807) et.toL).getD default).ki),b_ true,b_ true]):Value)=(.tuple #[i_ ((eY et kb kk now).1),b_ ((eY et kb kk now).2.1),b_ ((eY et kb kk now).2.2)])
  (rw[NQ (by(simp_all;done))];done)
 refine A.p (A.c (A.g [.p] [7,21] [(9,i_ 0)] (A.y (A.lp (σ:=Nat×Int) [] (fun(n,i)=>[(9,i_ i)]) [] (fun(n,i)=>[]) (fun(n,i)=>(oL kb kk now n i)∧(jf kb kk now n i=jf kb kk now 17 0)) (fun(n,i)=>n) (17,0) ⟨hD,(by rfl)⟩ ?_ ?_))))
 ·exact A.I []
 rintro⟨n,i⟩ ⟨hd,hv⟩
 obtain⟨n,rfl⟩: ∃m,n=m+1:=by cases n with|zero=>exact hd.elim|succ m=>exact⟨m,rfl⟩
 refine A.y (A.c (A.kp [.p,.p,.p,.rd [.map (some mk)],.p] [9] [(27,.map (some mk)),(28,i_ i)] [] (o1 (ro ⟨sb,6,none⟩ (vs:=[.map (some mk)]) (dj r0 rfl))) ?_))
 obtain⟨m1,hk1,hER1⟩:=hd.1
 refine A.j (A.u (some 29) _ (jc (kt:=3) (et:=136) (k:=i) (fun ww ss=>oK (da ss r6)) hk1 rfl rfl rfl (by kernel_rfl) (ee (by kernel_rfl)) rfl) (A.k [.p,.cq (.tuple #[i_ (((eV (dU now 9223372036854775807) m1.t.toL).getD default).ki),b_ ((eV (dU now 9223372036854775807) m1.t.toL).isSome)]),.p,.p,.p,.p,.p] [27,28,29] [(10,i_ (((eV (dU now 9223372036854775807) m1.t.toL).getD default).ki)),(11,b_ ((eV (dU now 9223372036854775807) m1.t.toL).isSome))] [] (o1 (qo (fun ww ss=>PD mk kk i m1 now hk1 ‹_› ww (da ss r6)))) (A.d (A.c (A.g [.p,.p] [11] [(35,b_ (!((eV (dU now 9223372036854775807) m1.t.toL).isSome)))] (A.v rfl (fun e2=> ?_) (fun e2=> ?_)))))))
 ·refine A.c (A.g [.p,.p,.p] [0,1,10,35] [(4,i_ 0),(5,b_ false),(6,b_ false)] (A.e (A.N [i_ 0,b_ false,b_ false] ?_)))
  (rw[Fa (by(simp_all;done)) (hv.symm.trans (KO ‹_› (by(simp_all;done))))];rfl)
 refine A.p (A.c (A.g [.p,.p] [10,35] [(9,i_ (((eV (dU now 9223372036854775807) m1.t.toL).getD default).ki))] (A.c (A.kp [.p,.p,.p,.rd [.map (some my)],.p] [] [(40,.map (some my)),(41,i_ (((eV (dU now 9223372036854775807) m1.t.toL).getD default).ki))] [] (o1 (ro ⟨sb,3,none⟩ (vs:=[.map (some my)]) (dj r0 rfl))) ?_))))
 obtain⟨m2,hk2⟩:=NP ‹_› (by simp_all) hd
 refine A.j (A.u (some 42) _ (jc (kt:=3) (et:=167) (k:=((eV (dU now 9223372036854775807) m1.t.toL).getD default).ki) (fun ww ss=>mG (da ss r3)) hk2 rfl rfl rfl (by kernel_rfl) (ee (by kernel_rfl)) rfl) (A.k [.p,.p,.p,.rd [b_ m2.ec.hl]] [40,41,42] [(46,b_ m2.ec.hl)] [] (o1 (ro ⟨m2.eb,3,none⟩ (vs:=[b_ m2.ec.hl]) (ft (fun ww ss=>(gP (da ss r3) hk2:)) rfl))) (A.v rfl (fun e3=> ?_) (fun e3=> ?_))))
 ·refine A.c (A.g [.p,.p,.p,.p] [0,1,9,46] [(4,i_ (((eV (dU now 9223372036854775807) m1.t.toL).getD default).ki)),(5,b_ false),(6,b_ true)] (A.e (A.N [i_ (((eV (dU now 9223372036854775807) m1.t.toL).getD default).ki),b_ false,b_ true] ?_)))
  (rw[Fa (by(simp_all;done)) (hv.symm.trans (KP ‹_› (by(simp_all;done)) ‹_› ‹_›))];rfl)
 refine A.p (A.aA (n,((eV (dU now 9223372036854775807) m1.t.toL).getD default).ki) ⟨((F9 ‹_› (by simp_all) ‹_› (by simp_all) hd).2),((F9 ‹_› (by simp_all) ‹_› (by simp_all) hd).1.symm.trans hv)⟩ (by(show n<n+1;omega)) ?_)
 exact A.I []
def ue(ek:List (Int×It))(i:Int)(d:Du):List (Int×It):=dD (dL ek i) i ⟨d.dq21,i,d.dq22,i⟩
def qz(i:Int)(m:En)(kb:List (Int×En))(et:T)(ek:List (Int×It))(kb':List (Int×En))(et':T)(ek':List (Int×It)):Prop:=
 (jE m.ec=true∧ ∃d,kb'=dD kb i {m with du:=d}∧eQ et' ek'∧((qC m.q≠[]∧ek'=ue ek m.ec.hi d)∨(qC m.q=[]∧ek'=dL (ue ek m.ec.hi d) m.ec.hi)))∨(jE m.ec=false∧kb'=kb∧et'=et∧ek'=ek)
theorem tP{β:Type}(k:Int): ∀kv:List (Int×β),(dL kv k).length≤kv.length
 |[]=>by simp[dL]
 |p::kv=>by unfold dL;split<;>simp;exact tP k kv
theorem zS(ek:List (Int×It))(i:Int)(d:It):(dD (dL ek i) i d).length≤ek.length+1:=Nat.le_trans (yq _ _ _) (by have:=tP i ek;omega)
variable{q:Qu}
theorem sV:((qC q).length:Int)=0↔qC q=[]:=by simp
abbrev HD(p0)(p1):=(cz p0 [.map (some p1)] 185:V.dC)
abbrev HE(p0)(p1)(p2)(p3)(p4)(p5:Ac)(p6:Vt)(p7)(p8)(p9):=(cz p0 [i_ p1,i_ p2,p_ p3,.map (some p4),p_ p5.bs,p_ p6.be,.map (some p7),u_ p8,u_ p9] 141:V.dC)
theorem Rw(sb:Nat)(lt lm:Int)(bt mc:Nat)(kc:List (Int×Cl))(my:Nat)(kb:List (Int×En))(a:Ac)(on:List (Int×Int))(ka:List (Int×MB))(tl:Vt)(et:T)(ek:List (Int×It))(mk:Nat)(kk:List (Int×Vt))(ck ac:Int)(i:Int)(m:En)(sn:Int)(br:Bool)(hm:cw kb i=some m)(ho:jy m)(hE:eQ et ek)(hl:ek.length≤600):
  CS 156 #[p_ sb,p_ m.eb,i_ sn,b_ br] [HE sb lt lm bt my a tl mk ck ac,HD bt mc,di mc kc,eN my kb,eS a on ka,ew tl et ek,eP mk kk] (fun((kb',et',ek'):(List (Int×En))×T×(List (Int×It)))=>(.tuple #[])) (fun(kb',et',ek')=>qz i m kb et ek kb' et' ek') fun(kb',et',ek')=>[HE sb lt lm bt my a tl mk ck ac,HD bt mc,di mc kc,eN my kb',eS a on ka,ew tl et' ek',eP mk kk]:=by
 intro w hs
 have hlk:=fun i d=>zS ek i d
 refine A.C Tryz.func156 rfl hs (A.d (A.c (A.k [.p,.p,.p,.rd (dt m.ec),.cq (b_ (decide (dM m.ec.ra m.ec.rb m.ec.rc>1))),.p] [] [(13,b_ (!(decide (dM m.ec.ra m.ec.rb m.ec.rc>1))))] [] (oc (ro ⟨m.eb,1,none⟩ (vs:=(dt m.ec)) (ft (fun ww ss=>(gP (ss.mem (i:=3) rfl) hm:)) rfl)) (o1 (qo (fun ww ss=>qI m.ec ww)))) (A.v rfl (fun e1=> ?_) (fun e1=> ?_)))))
 ·refine A.e (A.aG [0,0,0,0,0,0,0] [] (fun aa ww rr ss=>trivial) (kb,et,ek) ?_ ?_ (by kernel_rfl))
  ·rfl
  exact .inr ⟨(by unfold jE;(simp_all;done)),rfl,rfl,rfl⟩
 refine A.p (A.d (A.c (A.g [.p] [3,13] [(14,b_ br)] (A.cn br (fun e2=> ?_) (fun e2=> ?_)))))
 ·refine A.bC 3 rfl hm rfl ?_
  refine A.W [14] 15 ?_
  refine A.pO 1 [.p,.p,.p,.p,.ld 1,.p,.p,.p,.p,.ld 1,.cq (i_ (ei m.qb m.q)),.cq (.agg (fi (iM m.du sn (ei m.qb m.q))).toArray),.p,.p] [0,1,2,3,4,5,6,7,8,9,10,11,12,13] [(0,p_ sb),(1,p_ m.eb),(26,.agg (fi (iM m.du sn (ei m.qb m.q))).toArray),(28,q_ m.eb 16)] [m.eb,m.eb] (oc (qo (fun ww ss=>F4 my kb i m (qp m.qb) (by rfl) ‹_› ww (ss.mem (i:=0) rfl))) (o1 (qo (fun ww ss=>Q5 m.du sn (ei m.qb m.q) ww)))) (A.F 14 rfl (A.sT 1 (fi (iM m.du sn (ei m.qb m.q))) rfl (A.E (A.M (A.bB (m':=({m with du:=(iM m.du sn (ei m.qb m.q))}:En)) [0,0] rfl hm ⟨rfl,rfl,rfl⟩ rfl rfl ?_)))))
  have hk1:=jN kb i ({m with du:=(iM m.du sn (ei m.qb m.q))}:En)
  refine A.d (A.W [19] 20 (A.pO 1 [.p,.p,.p,.ld 1,.p,.p,.p,.p,.rd [i_ m.ec.hi],.p,.p,.p,.p,.rd [u_ ((iM m.du sn (ei m.qb m.q)).dq21)],.p,.p,.p,.p,.rd [u_ ((iM m.du sn (ei m.qb m.q)).dq22)]] [0,1,2,3,4,5,6,7,8,9,10,11,12,13,14,15,16,17,18] [(0,p_ sb),(1,p_ m.eb),(45,p_ tl.be),(50,i_ m.ec.hi),(55,u_ ((iM m.du sn (ei m.qb m.q)).dq21)),(60,u_ ((iM m.du sn (ei m.qb m.q)).dq22))] [sb] (oc (ro ⟨m.eb,1,none⟩ (vs:=[i_ m.ec.hi]) (ft (fun ww ss=>(gP (ss.mem (i:=0) rfl) hk1:)) rfl)) (oc (ro ⟨m.eb,36,none⟩ (vs:=[u_ ((iM m.du sn (ei m.qb m.q)).dq21)]) (ft (fun ww ss=>(gP (ss.mem (i:=0) rfl) hk1:)) rfl)) (o1 (ro ⟨m.eb,37,none⟩ (vs:=[u_ ((iM m.du sn (ei m.qb m.q)).dq22)]) (ft (fun ww ss=>(gP (ss.mem (i:=0) rfl) hk1:)) rfl))))) (A.F 19 rfl (A.J (some 61) [5] (fun ww ss hh=>B9 tl et ek m.ec.hi ((iM m.du sn (ei m.qb m.q)).dq21) ((iM m.du sn (ei m.qb m.q)).dq22) (by assumption) (by omega) ww hh) ?_))))
  rintro zt2 hz3
  refine A.E (A.M (A.c (A.k [.p,.p,.p,.rd [qp m.qb],.cq (i_ ((qC ({m with du:=(iM m.du sn (ei m.qb m.q))}:En).q).length:Int)),.p] [45,50,55,60,61] [(67,b_ (((qC ({m with du:=(iM m.du sn (ei m.qb m.q))}:En).q).length:Int)==0))] [] (oc (ro ⟨m.eb,0,none⟩ (vs:=[qp m.qb]) (ft (fun ww ss=>(gP (ss.mem (i:=1) rfl) hk1:)) rfl)) (o1 (qo (fun ww ss=>uZ my (dD kb i ({m with du:=(iM m.du sn (ei m.qb m.q))}:En)) i ({m with du:=(iM m.du sn (ei m.qb m.q))}:En) (qp m.qb) hk1 (by rfl) ⟨ho.lf,ho.no,ho.qu⟩ ww (ss.mem (i:=1) rfl))))) (A.v rfl (fun e4=> ?_) (fun e4=> ?_)))))
  ·refine A.W [9] 10 (A.kd 1 [.p,.p,.p,.ld 2,.p,.p,.p,.p,.rd [i_ m.ec.hi]] [0,1,2,3,4,5,6,7,8] [0,1,67] [(71,p_ tl.be),(76,i_ m.ec.hi)] [sb] (o1 (ro ⟨m.eb,1,none⟩ (vs:=[i_ m.ec.hi]) (ft (fun ww ss=>(gP (ss.mem (i:=1) rfl) hk1:)) rfl))) (A.F 9 rfl (A.J (some 77) [0] (fun ww ss hh=>Gw tl zt2 (dD (dL ek m.ec.hi) m.ec.hi ⟨((iM m.du sn (ei m.qb m.q)).dq21),m.ec.hi,(iM m.du sn (ei m.qb m.q)).dq22,m.ec.hi⟩) m.ec.hi ‹_› (Nat.le_trans (zS _ _ _) (by omega)) ww hh) ?_)))
   rintro⟨zi3,zt4⟩ hz5
   refine A.E (A.M (A.aQ [2,2,2,1,1,0,0] [] (fun aa ww rr ss=>trivial) ((dD kb i ({m with du:=(iM m.du sn (ei m.qb m.q))}:En)),zt4,dL (dD (dL ek m.ec.hi) m.ec.hi ⟨((iM m.du sn (ei m.qb m.q)).dq21),m.ec.hi,(iM m.du sn (ei m.qb m.q)).dq22,m.ec.hi⟩) m.ec.hi) ?_ ?_ (by kernel_rfl)))
   ·rfl
   exact .inl ⟨(by unfold jE;(simp_all;done)),_,rfl,by assumption,.inr ⟨(by(simp_all[sV];done)),rfl⟩⟩
  refine A.p (A.aQ [2,2,2,1,1,0,0] [] (fun aa ww rr ss=>trivial) ((dD kb i ({m with du:=(iM m.du sn (ei m.qb m.q))}:En)),zt2,dD (dL ek m.ec.hi) m.ec.hi ⟨((iM m.du sn (ei m.qb m.q)).dq21),m.ec.hi,(iM m.du sn (ei m.qb m.q)).dq22,m.ec.hi⟩) ?_ ?_ (by kernel_rfl))
  ·rfl
  exact .inl ⟨(by unfold jE;(simp_all;done)),_,rfl,by assumption,.inl ⟨(by(simp_all[sV];done)),rfl⟩⟩
 refine A.bC 3 rfl hm rfl ?_
 refine A.W [13] 14 ?_
 refine A.pO 1 [.p,.p,.p,.p,.ld 1,.p,.p,.p,.ld 1,.cq (i_ (ei m.qb m.q)),.cq (.agg (fi (headD m.du (ei m.qb m.q))).toArray),.p,.p] [0,1,2,3,4,5,6,7,8,9,10,11,12] [(0,p_ sb),(1,p_ m.eb),(39,.agg (fi (headD m.du (ei m.qb m.q))).toArray),(41,q_ m.eb 16)] [m.eb,m.eb] (oc (qo (fun ww ss=>F4 my kb i m (qp m.qb) (by rfl) ‹_› ww (ss.mem (i:=0) rfl))) (o1 (qo (fun ww ss=>Q6 m.du (ei m.qb m.q) ww)))) (A.F 13 rfl (A.sT 1 (fi (headD m.du (ei m.qb m.q))) rfl (A.E (A.M (A.bB (m':=({m with du:=(headD m.du (ei m.qb m.q))}:En)) [0,0] rfl hm ⟨rfl,rfl,rfl⟩ rfl rfl ?_)))))
 have hk5:=jN kb i ({m with du:=(headD m.du (ei m.qb m.q))}:En)
 refine A.d (A.W [19] 20 (A.pO 1 [.p,.p,.p,.ld 1,.p,.p,.p,.p,.rd [i_ m.ec.hi],.p,.p,.p,.p,.rd [u_ ((headD m.du (ei m.qb m.q)).dq21)],.p,.p,.p,.p,.rd [u_ ((headD m.du (ei m.qb m.q)).dq22)]] [0,1,2,3,4,5,6,7,8,9,10,11,12,13,14,15,16,17,18] [(0,p_ sb),(1,p_ m.eb),(45,p_ tl.be),(50,i_ m.ec.hi),(55,u_ ((headD m.du (ei m.qb m.q)).dq21)),(60,u_ ((headD m.du (ei m.qb m.q)).dq22))] [sb] (oc (ro ⟨m.eb,1,none⟩ (vs:=[i_ m.ec.hi]) (ft (fun ww ss=>(gP (ss.mem (i:=0) rfl) hk5:)) rfl)) (oc (ro ⟨m.eb,36,none⟩ (vs:=[u_ ((headD m.du (ei m.qb m.q)).dq21)]) (ft (fun ww ss=>(gP (ss.mem (i:=0) rfl) hk5:)) rfl)) (o1 (ro ⟨m.eb,37,none⟩ (vs:=[u_ ((headD m.du (ei m.qb m.q)).dq22)]) (ft (fun ww ss=>(gP (ss.mem (i:=0) rfl) hk5:)) rfl))))) (A.F 19 rfl (A.J (some 61) [5] (fun ww ss hh=>B9 tl et ek m.ec.hi ((headD m.du (ei m.qb m.q)).dq21) ((headD m.du (ei m.qb m.q)).dq22) (by assumption) (by omega) ww hh) ?_))))
 rintro zt6 hz6
 refine A.E (A.M (A.c (A.k [.p,.p,.p,.rd [qp m.qb],.cq (i_ ((qC ({m with du:=(headD m.du (ei m.qb m.q))}:En).q).length:Int)),.p] [45,50,55,60,61] [(67,b_ (((qC ({m with du:=(headD m.du (ei m.qb m.q))}:En).q).length:Int)==0))] [] (oc (ro ⟨m.eb,0,none⟩ (vs:=[qp m.qb]) (ft (fun ww ss=>(gP (ss.mem (i:=1) rfl) hk5:)) rfl)) (o1 (qo (fun ww ss=>uZ my (dD kb i ({m with du:=(headD m.du (ei m.qb m.q))}:En)) i ({m with du:=(headD m.du (ei m.qb m.q))}:En) (qp m.qb) hk5 (by rfl) ⟨ho.lf,ho.no,ho.qu⟩ ww (ss.mem (i:=1) rfl))))) (A.v rfl (fun e7=> ?_) (fun e7=> ?_)))))
 ·refine A.W [9] 10 (A.kd 1 [.p,.p,.p,.ld 2,.p,.p,.p,.p,.rd [i_ m.ec.hi]] [0,1,2,3,4,5,6,7,8] [0,1,67] [(71,p_ tl.be),(76,i_ m.ec.hi)] [sb] (o1 (ro ⟨m.eb,1,none⟩ (vs:=[i_ m.ec.hi]) (ft (fun ww ss=>(gP (ss.mem (i:=1) rfl) hk5:)) rfl))) (A.F 9 rfl (A.J (some 77) [0] (fun ww ss hh=>Gw tl zt6 (dD (dL ek m.ec.hi) m.ec.hi ⟨((headD m.du (ei m.qb m.q)).dq21),m.ec.hi,(headD m.du (ei m.qb m.q)).dq22,m.ec.hi⟩) m.ec.hi ‹_› (Nat.le_trans (zS _ _ _) (by omega)) ww hh) ?_)))
  rintro⟨zi7,zt8⟩ hz8
  refine A.E (A.M (A.aQ [2,2,2,1,1,0,0] [] (fun aa ww rr ss=>trivial) ((dD kb i ({m with du:=(headD m.du (ei m.qb m.q))}:En)),zt8,dL (dD (dL ek m.ec.hi) m.ec.hi ⟨((headD m.du (ei m.qb m.q)).dq21),m.ec.hi,(headD m.du (ei m.qb m.q)).dq22,m.ec.hi⟩) m.ec.hi) ?_ ?_ (by kernel_rfl)))
  ·rfl
  exact .inl ⟨(by unfold jE;(simp_all;done)),_,rfl,by assumption,.inr ⟨(by(simp_all[sV];done)),rfl⟩⟩
 refine A.p (A.aQ [2,2,2,1,1,0,0] [] (fun aa ww rr ss=>trivial) ((dD kb i ({m with du:=(headD m.du (ei m.qb m.q))}:En)),zt6,dD (dL ek m.ec.hi) m.ec.hi ⟨((headD m.du (ei m.qb m.q)).dq21),m.ec.hi,(headD m.du (ei m.qb m.q)).dq22,m.ec.hi⟩) ?_ ?_ (by kernel_rfl))
 ·rfl
 exact .inl ⟨(by unfold jE;(simp_all;done)),_,rfl,by assumption,.inl ⟨(by(simp_all[sV];done)),rfl⟩⟩
def mq:Sh:=⟨false,0,0,0,0,0,0,0,0,false,0⟩
def pZ(kb kb':List (Int×En)):Prop:=(∀j,(cw kb' j).map (fun m:En=>{m with sh:=mq})=(cw kb j).map (fun m:En=>{m with sh:=mq}))∧ ∀j m',cw kb' j=some m'→m'.sh=mq∨ ∃m,cw kb j=some m∧m'.sh=m.sh
variable{kb':List (Int×En)}
theorem LW(h:pZ kb kb')(hm:cw kb' i=some m)(e:{m' with sh:=mq}={m with sh:=mq})(e2:m'.sh=mq):pZ kb (dD kb' i m'):=by
 refine⟨fun j=> ?_,fun j x hx=> ?_⟩
 ·rw[←h.1 j,gA];by_cases q:i=j
  ·rw[if_pos q];subst q;rw[hm];simp[e]
  ·rw[if_neg q]
 ·rw[gA] at hx;by_cases q:i=j
  ·rw[if_pos q] at hx;cases hx;exact .inl e2
  ·rw[if_neg q] at hx;exact h.2 j x hx
theorem Fb(hL:eA kc): ∀(n:Nat)(i:Int)(F:Int→List (Int×Int)),fH kc i=true→ ∀z∈(fw (fL kc) F n i).1,fH kc z=true
 |0,i,F,hs,z,hz=>by simp[fw] at hz;rw[hz];exact hs
 |n+1,i,F,hs,z,hz=>by
  unfold fw at hz
  split at hz
  ·simp at hz;rw[hz];exact hs
  ·rename_i hp
   rcases List.mem_cons.1 hz with rfl|hz
   ·exact hs
   ·refine Fb hL n _ _ ?_ z hz
    rw[tc,if_pos hs] at hp⊢
    rcases q7 hL hs with h0|h0
    ·exact absurd (.inr h0) hp
    ·exact h0.1
theorem LX(hL:eA kc)(hy:ym=fL kc)(h:qy ym on ka c on' ka' l er): ∀z∈l,fH kc z=true:=by
 intro z hz
 rcases h with⟨h1,-,-,h2,-⟩|⟨-,-,h2,-⟩
 ·rw[hy] at h1 h2
  rw[h2] at hz
  refine Fb hL 40 c _ ?_ z hz
  rw[tu] at h1;simp at h1;exact h1.1
 ·rw[h2] at hz;cases hz
theorem LY(h:qy ym on ka c on' ka' l er):l.length≤41:=by
 have: ∀(n:Nat)(i:Int)(F:Int→List (Int×Int)),(fw ym F n i).1.length≤n+1:=fun n=>by
  induction n with
  |zero=>intro i F;simp[fw]
  |succ n ih=>intro i F;unfold fw;split<;>simp;exact ih _ _
 rcases h with⟨-,-,-,h2,-⟩|⟨-,-,h2,-⟩
 ·rw[h2];exact this 40 _ _
 ·rw[h2];simp
def nX(kc:List (Int×Cl)):List Int→List (Int×Vt)→List (Int×Vt)→Prop
 |[],kk,kk'=>kk'=kk
 |i::l,kk,kk'=> ∃c v t,cw kc i=some c∧cw kk c.hp=some v∧eQ t (dL v.kv i)∧nX kc l (dD kk c.hp {v with t:=t,kv:=dL v.kv i}) kk'
theorem Dm{c:Cl}{t:T}(hk:L[k]? =some i)(hc:cw kc i=some c)(hv:cw kk c.hp=some v)(he:eQ t (dL v.kv i))
  (h:nX kc (L.drop (k+1)) (dD kk c.hp {v with t:=t,kv:=dL v.kv i}) kk'):nX kc (L.drop k) kk kk':=by
 obtain⟨h1,h2⟩:=List.getElem?_eq_some_iff.1 hk
 rw[List.drop_eq_getElem_cons h1,h2];exact⟨c,v,t,hc,hv,he,h⟩
theorem Fe{n:Nat}(h:j7 kc n kk){p:Int}(he:eQ v.t v.kv)(hl:v.kv.length≤n):j7 kc n (dD kk p v):=fun q hq=>by
 rw[gA];by_cases e:p=q
 ·rw[if_pos e];exact⟨v,rfl,he,hl⟩
 ·rw[if_neg e];exact h q hq
theorem IW{f:Cl→Bool}(hB:fG kc kb)(h:(dI kc f)[k]? =some z): ∃m,cw kb z=some m:=by
 have h:=List.mem_of_getElem? h
 unfold dI gg at h;rw[(List.mergeSort_perm _ _).mem_iff,List.mem_map] at h
 obtain⟨p,h1,h2⟩:=h
 cases e:cw kb z with
 |some m=>exact⟨m,rfl⟩
 |none=>
  have h3:=(hB z).1;rw[e] at h3
  have h4:cw kc z≠none:=fun h5=>mget_no h5 p (List.mem_filter.1 h1).1 h2
  exact absurd h3.symm h4
where
 mget_no {kc:List (Int×Cl)} {z:Int} (h:cw kc z=none): ∀p∈kc,p.1≠z:=by
  induction kc with
  |nil=>intro p hp;cases hp
  |cons q kc ih=>
   intro p hp
   simp only[cw] at h
   split at h
   ·cases h
   ·rename_i hq
    rcases List.mem_cons.1 hp with rfl|hp
    ·exact hq
    ·exact ih h p hp
def wz(kc:List (Int×Cl))(i:Int)(kb:List (Int×En))(ym:List (Int×Pl))(on:List (Int×Int))(ka:List (Int×MB))(kk:List (Int×Vt))(kb':List (Int×En))(on':List (Int×Int))(ka':List (Int×MB))(kk':List (Int×Vt)):Prop:=
 ∃l er,qy ym on ka i on' ka' l er∧pZ kb kb'∧fG kc kb'∧nX kc l kk kk'
abbrev nQ(p0)(p1):=(cz p0 [.map (some p1)] 185:V.dC)
abbrev nR(p0)(p1)(p2)(p3)(p4)(p5:Ac)(p6:Vt)(p7)(p8)(p9):=(cz p0 [i_ p1,i_ p2,p_ p3,.map (some p4),p_ p5.bs,p_ p6.be,.map (some p7),u_ p8,u_ p9] 141:V.dC)
theorem NR(sb:Nat)(lt lm:Int)(bt mc:Nat)(kc:List (Int×Cl))(my:Nat)(kb:List (Int×En))(a:Ac)(on:List (Int×Int))(ka:List (Int×MB))(tl:Vt)(et:T)(ek:List (Int×It))(mk:Nat)(kk:List (Int×Vt))(ck ac:Int)(ci:Int)(hL:eA kc)(hB:fG kc kb)(hK:j7 kc 600 kk)(hy:a.ym=fL kc):
  CS 157 #[p_ sb,i_ ci] [nR sb lt lm bt my a tl mk ck ac,nQ bt mc,di mc kc,eN my kb,eS a on ka,ew tl et ek,eP mk kk] (fun((kb',on',ka',kk'):(List (Int×En))×(List (Int×Int))×(List (Int×MB))×(List (Int×Vt)))=>(.tuple #[])) (fun(kb',on',ka',kk')=>wz kc ci kb a.ym on ka kk kb' on' ka' kk') fun(kb',on',ka',kk')=>[nR sb lt lm bt my a tl mk ck ac,nQ bt mc,di mc kc,eN my kb',eS a on' ka',ew tl et ek,eP mk kk']:=by
 intro w hs
 have hdp:=fun i=>hy▸tQ hL i
 have hkl:=hL.len
 refine A.C Tryz.func157 rfl hs (A.c (A.hp [.p,.p,.p,.ld 0,.p] [(0,p_ sb),(15,p_ a.bs),(16,i_ ci)] [sb] (A.j (A.aX (some 17) [p_ a.bs,i_ ci] [4] ((fun((on'1,ka'2,al'3,l'4,cl'5,er6):List (Int×Int)×List (Int×MB)×Option Addr×List Int×Nat×Int)=>(.tuple #[vS al'3 l'4 cl'5,i_ er6]))) ((fun((on'1,ka'2,al'3,l'4,cl'5,er6):List (Int×Int)×List (Int×MB)×Option Addr×List Int×Nat×Int)=>qy a.ym on ka ci on'1 ka'2 l'4 er6)) ((fun((on'1,ka'2,al'3,l'4,cl'5,er6):List (Int×Int)×List (Int×MB)×Option Addr×List Int×Nat×Int)=>[eS a on'1 ka'2,sI al'3 l'4 cl'5])) (fun((on'1,ka'2,al'3,l'4,cl'5,er6):List (Int×Int)×List (Int×MB)×Option Addr×List Int×Nat×Int)=>[eS a on'1 ka'2,sI al'3 l'4 cl'5,nR sb lt lm bt my a tl mk ck ac,nQ bt mc,di mc kc,eN my kb,ew tl et ek,eP mk kk]) (by kernel_rfl) rfl rfl (fun ww ss hh=>Ro a on ka ci (hdp _) ww hh) (fun _=>rfl) ?_))))
 rintro⟨on'1,ka'2,al'3,l'4,cl'5,er6⟩ hz1
 refine A.h [.p,.p,.p,.p,.p] [(0,p_ sb),(4,vS al'3 l'4 cl'5),(5,i_ er6)] [] (A.d (A.c (A.h [.p,.p] [(0,p_ sb),(4,vS al'3 l'4 cl'5),(21,b_ (er6 !=0))] [] (A.v (E:=er6 !=0) rfl (fun e2=> ?_) (fun e2=> ?_)))))
 ·refine A.e (A.aG [2,2,2,2,0,1,1] [] (fun aa ww rr ss=>trivial) (kb,on'1,ka'2,kk) ?_ ?_ (by kernel_rfl))
  ·rfl
  exact⟨_,_,by assumption,⟨fun _=>rfl,fun _ _ h_=> .inr ⟨_,h_,rfl⟩⟩,hB,(by(rcases(by assumption:qy _ _ _ _ _ _ _ _) with⟨_,_,h_,_⟩|⟨_,_,h_,_⟩<;>simp_all[nX];done))⟩
 refine A.p (A.d ?_)
 have hmem:=LX hL hy ‹_›
 have hlen:=LY ‹_›
 refine A.s (A.h [.p,.p,.p] [(0,p_ sb),(22,vS al'3 l'4 cl'5),(23,c_ l'4.length),(24,i_ 0)] [] (A.y (A.ag (fun((k,kbk,kkk):Nat×(List (Int×En))×(List (Int×Vt)))=>[(0,p_ sb),(22,vS al'3 l'4 cl'5),(23,c_ l'4.length),(24,c_ k)]) (fun((k,kbk,kkk):Nat×(List (Int×En))×(List (Int×Vt)))=>[eN my kbk,eP mk kkk,eS a on'1 ka'2,sI al'3 l'4 cl'5,nR sb lt lm bt my a tl mk ck ac,nQ bt mc,di mc kc,ew tl et ek]) (fun((k,kbk,kkk):Nat×(List (Int×En))×(List (Int×Vt)))=>(k≤l'4.length)∧(pZ kb kbk)∧(fG kc kbk)∧(j7 kc 600 kkk)∧(∀kk',nX kc (l'4.drop k) kkk kk'→nX kc l'4 kk kk')) (fun((k,kbk,kkk):Nat×(List (Int×En))×(List (Int×Vt)))=>l'4.length-k) (0,kb,kk) ⟨(by omega),⟨fun _=>rfl,fun _ _ h_=> .inr ⟨_,h_,rfl⟩⟩,hB,hK,(fun _ h=>h)⟩ ?_ ?_)))
 ·exact A.aL [5,6,0,0,0,0,0,0] ⟨rfl,rfl,rfl,rfl,trivial⟩ (by kernel_rfl)
 rintro⟨k,kbk,kkk⟩ ⟨hk,hS,hBk,hKk,hD⟩
 refine A.aO [(0,p_ sb),(22,vS al'3 l'4 cl'5),(23,c_ l'4.length),(24,c_ k)] [eN my kbk,eP mk kkk,eS a on'1 ka'2,sI al'3 l'4 cl'5,nR sb lt lm bt my a tl mk ck ac,nQ bt mc,di mc kc,ew tl et ek] ⟨rfl,rfl,rfl,rfl,trivial⟩ rfl (A.c (A.h [.p] [(0,p_ sb),(22,vS al'3 l'4 cl'5),(23,c_ l'4.length),(24,c_ k),(25,b_ (decide ((k:Int)<(l'4.length:Int))))] [] (A.d (A.v (E:=decide ((k:Int)<(l'4.length:Int))) rfl (fun e3=> ?_) (fun e3=> ?_)))))
 ·have p3:=of_decide_eq_true e3
  refine A.p (A.d (A.y (A.c (A.hq [.ix] [(0,p_ sb),(22,vS al'3 l'4 cl'5),(23,c_ l'4.length),(24,c_ k),(26,.pointer (some ((dV al'3).add (k*1))))] [] (o1 (dY 3 k fE rfl (by omega))) ?_))))
  obtain⟨x8,hx8⟩: ∃x,(l'4)[k]? =some x:=⟨_,List.getElem?_eq_getElem (by omega)⟩
  refine A.hk [.rd [i_ x8],.p] [(0,p_ sb),(22,vS al'3 l'4 cl'5),(23,c_ l'4.length),(24,c_ k),(7,i_ x8)] [] (o1 (ro ((dV al'3).add (k*1)) (fY (vs:=[i_ x8]) fE (fa (i:=3) rfl) hx8 (Nat.le_of_ble_eq_true rfl) rfl))) (A.c (A.hp [.p,.p,.p,.ld 4,.p] [(0,p_ sb),(22,vS al'3 l'4 cl'5),(23,c_ l'4.length),(24,c_ k),(7,i_ x8),(31,.map (some my)),(32,i_ x8)] [sb] ?_))
  obtain⟨m9,hk9,hEO9⟩:=Bc hBk (hmem _ (List.mem_of_getElem? hx8))
  refine A.j (A.q (some 33) _ (by kernel_rfl) (jc (kt:=3) (et:=167) (k:=x8) (fun ww ss=>mG (ss.mem (i:=0) rfl)) hk9 rfl rfl rfl (by kernel_rfl) (ee (by kernel_rfl)) rfl) (A.hk [.p,.p,.p,.rd [i_ m9.ec.hp],.p] [(0,p_ sb),(22,vS al'3 l'4 cl'5),(23,c_ l'4.length),(24,c_ k),(7,i_ x8),(8,i_ m9.ec.hp)] [] (o1 (ro ⟨m9.eb,2,none⟩ (vs:=[i_ m9.ec.hp]) (ft (fun ww ss=>(gP (ss.mem (i:=0) rfl) hk9:)) rfl))) (A.d (A.s (A.hp [.p,.p,.p,.ld 4,.p] [(0,p_ sb),(22,vS al'3 l'4 cl'5),(23,c_ l'4.length),(24,c_ k),(7,i_ x8),(8,i_ m9.ec.hp),(41,.map (some mk)),(42,i_ m9.ec.hp)] [sb] ?_)))))
  obtain⟨m10,hk10,hE10,hl10⟩:=wm hL hBk hKk ‹_›
  refine A.j (A.u (some 43) _ (jc (kt:=3) (et:=136) (k:=m9.ec.hp) (fun ww ss=>oK (ss.mem (i:=1) rfl)) hk10 rfl rfl rfl (by kernel_rfl) (ee (by kernel_rfl)) rfl) (A.hp [.p] [(0,p_ sb),(22,vS al'3 l'4 cl'5),(23,c_ l'4.length),(24,c_ k),(8,i_ m9.ec.hp),(43,p_ m10.be),(44,i_ x8)] [] (A.j (A.aX (some 45) [p_ m10.be,i_ x8] [1] ((fun((zi11,zt12):Int×T)=>(i_ zi11))) ((fun((zi11,zt12):Int×T)=>eQ zt12 (dL m10.kv x8))) ((fun((zi11,zt12):Int×T)=>[eP mk (dD kkk m9.ec.hp {m10 with t:=zt12,kv:=dL m10.kv x8})])) (fun((zi11,zt12):Int×T)=>[eP mk (dD kkk m9.ec.hp {m10 with t:=zt12,kv:=dL m10.kv x8}),eN my kbk,eS a on'1 ka'2,sI al'3 l'4 cl'5,nR sb lt lm bt my a tl mk ck ac,nQ bt mc,di mc kc,ew tl et ek]) (by kernel_rfl) rfl rfl (fun ww ss hh=>PE mk kkk m9.ec.hp m10 x8 hk10 ‹_› (by omega) ww hh) (fun _=>rfl) ?_))))
  rintro⟨zi11,zt12⟩ hz4
  refine A.aC (A.d (A.c (A.hp [.p,.p,.p,.ld 4,.p] [(0,p_ sb),(22,vS al'3 l'4 cl'5),(23,c_ l'4.length),(24,c_ k),(8,i_ m9.ec.hp),(49,.map (some mk)),(50,i_ m9.ec.hp)] [sb] ?_)))
  obtain⟨m13,hk13⟩:=(⟨_,jN _ _ _⟩: ∃m_:Vt,cw (dD kkk m9.ec.hp {m10 with t:=zt12,kv:=dL m10.kv x8}) m9.ec.hp=some m_)
  refine A.j (A.u (some 51) _ (jc (kt:=3) (et:=136) (k:=m9.ec.hp) (fun ww ss=>oK (ss.mem (i:=0) rfl)) hk13 rfl rfl rfl (by kernel_rfl) (ee (by kernel_rfl)) rfl) (A.hk [.cq (c_ m13.kv.length),.p] [(0,p_ sb),(22,vS al'3 l'4 cl'5),(23,c_ l'4.length),(24,c_ k),(8,i_ m9.ec.hp),(53,b_ (decide ((m13.kv.length:Int)>0)))] [] (o1 (qo (fun ww ss=>Rk mk (dD kkk m9.ec.hp {m10 with t:=zt12,kv:=dL m10.kv x8}) m9.ec.hp m13 hk13 ww (ss.mem (i:=0) rfl)))) (A.v (E:=decide ((m13.kv.length:Int)>0)) rfl (fun e5=> ?_) (fun e5=> ?_))))
  ·have p5:=of_decide_eq_true e5
   refine A.aB (A.s (A.hk [.w ((k:Int)+1),.p] [(0,p_ sb),(22,vS al'3 l'4 cl'5),(23,c_ l'4.length),(24,i_ ((k:Int)+1))] [] (o1 (wj ((k:Int)+1) (by omega))) (A.aA (k+1,kbk,dD kkk m9.ec.hp {m10 with t:=zt12,kv:=dL m10.kv x8}) ⟨(by omega),hS,hBk,(Fe hKk ‹_› (Nat.le_trans (tP _ _) ‹_›)),(fun _ h=>hD _ (Dm ‹_› (mK hBk ‹_›) ‹_› ‹_› h))⟩ (by(show l'4.length-(k+1)<l'4.length-k;omega)) ?_)))
   exact A.aL [1,0,0,0,0,0,0,0] ⟨rfl,rfl,rfl,rfl,trivial⟩ (by kernel_rfl)
  have p5:=of_decide_eq_false e5
  refine A.p (A.d ?_)
  have hkc:=ns kc (fun v_:Cl=>v_.hp==m9.ec.hp)
  refine A.s (A.hp [.p,.p,.p,.ld 4,.p] [(0,p_ sb),(22,vS al'3 l'4 cl'5),(23,c_ l'4.length),(24,c_ k),(57,p_ bt),(58,i_ m9.ec.hp)] [sb] (A.j (A.aX (some 59) [p_ bt,i_ m9.ec.hp] [] ((fun(al'14,cl'15)=>(vS al'14 (dI kc (fun v_=>v_.hp==m9.ec.hp)) cl'15))) ((fun(al'14,cl'15)=>True)) ((fun(al'14,cl'15)=>[sI al'14 (dI kc (fun v_=>v_.hp==m9.ec.hp)) cl'15])) (fun(al'14,cl'15)=>[sI al'14 (dI kc (fun v_=>v_.hp==m9.ec.hp)) cl'15,eP mk (dD kkk m9.ec.hp {m10 with t:=zt12,kv:=dL m10.kv x8}),eN my kbk,eS a on'1 ka'2,sI al'3 l'4 cl'5,nR sb lt lm bt my a tl mk ck ac,nQ bt mc,di mc kc,ew tl et ek]) (by kernel_rfl) rfl rfl (fun ww ss hh=>yG bt mc kc m9.ec.hp (by omega) ww (ss.mem (i:=5) rfl) (ss.mem (i:=6) rfl) hh) (fun _=>rfl) ?_)))
  rintro⟨al'14,cl'15⟩-
  refine A.h [.p,.p] [(0,p_ sb),(22,vS al'3 l'4 cl'5),(23,c_ l'4.length),(24,c_ k),(59,vS al'14 (dI kc (fun v_=>v_.hp==m9.ec.hp)) cl'15),(60,i_ ((dI kc (fun v_=>v_.hp==m9.ec.hp)).length:Int)),(61,i_ 0)] [] (A.y (A.ag (fun((j,kbj):Nat×(List (Int×En)))=>[(0,p_ sb),(22,vS al'3 l'4 cl'5),(23,c_ l'4.length),(24,c_ k),(59,vS al'14 (dI kc (fun v_=>v_.hp==m9.ec.hp)) cl'15),(60,i_ ((dI kc (fun v_=>v_.hp==m9.ec.hp)).length:Int)),(61,c_ j)]) (fun((j,kbj):Nat×(List (Int×En)))=>[eN my kbj,sI al'14 (dI kc (fun v_=>v_.hp==m9.ec.hp)) cl'15,eP mk (dD kkk m9.ec.hp {m10 with t:=zt12,kv:=dL m10.kv x8}),eS a on'1 ka'2,sI al'3 l'4 cl'5,nR sb lt lm bt my a tl mk ck ac,nQ bt mc,di mc kc,ew tl et ek]) (fun((j,kbj):Nat×(List (Int×En)))=>(j≤(dI kc (fun v_=>v_.hp==m9.ec.hp)).length)∧(pZ kb kbj)∧(fG kc kbj)) (fun((j,kbj):Nat×(List (Int×En)))=>(dI kc (fun v_=>v_.hp==m9.ec.hp)).length-j) (0,kbk) ⟨(by omega),hS,hBk⟩ ?_ ?_))
  ·exact A.aL [2,0,0,0,0,0,0,0,0] ⟨rfl,rfl,rfl,rfl,rfl,rfl,rfl,trivial⟩ (by kernel_rfl)
  rintro⟨j,kbj⟩ ⟨hj,hS2,hBj⟩
  refine A.aO [(0,p_ sb),(22,vS al'3 l'4 cl'5),(23,c_ l'4.length),(24,c_ k),(59,vS al'14 (dI kc (fun v_=>v_.hp==m9.ec.hp)) cl'15),(60,i_ ((dI kc (fun v_=>v_.hp==m9.ec.hp)).length:Int)),(61,c_ j)] [eN my kbj,sI al'14 (dI kc (fun v_=>v_.hp==m9.ec.hp)) cl'15,eP mk (dD kkk m9.ec.hp {m10 with t:=zt12,kv:=dL m10.kv x8}),eS a on'1 ka'2,sI al'3 l'4 cl'5,nR sb lt lm bt my a tl mk ck ac,nQ bt mc,di mc kc,ew tl et ek] ⟨rfl,rfl,rfl,rfl,rfl,rfl,rfl,trivial⟩ rfl (A.c (A.h [.p] [(0,p_ sb),(22,vS al'3 l'4 cl'5),(23,c_ l'4.length),(24,c_ k),(59,vS al'14 (dI kc (fun v_=>v_.hp==m9.ec.hp)) cl'15),(60,i_ ((dI kc (fun v_=>v_.hp==m9.ec.hp)).length:Int)),(61,c_ j),(62,b_ (decide ((j:Int)<((dI kc (fun v_=>v_.hp==m9.ec.hp)).length:Int))))] [] (A.d (A.v (E:=decide ((j:Int)<((dI kc (fun v_=>v_.hp==m9.ec.hp)).length:Int))) rfl (fun e7=> ?_) (fun e7=> ?_)))))
  ·have p7:=of_decide_eq_true e7
   refine A.p (A.d (A.y (A.c (A.hq [.ix] [(0,p_ sb),(22,vS al'3 l'4 cl'5),(23,c_ l'4.length),(24,c_ k),(59,vS al'14 (dI kc (fun v_=>v_.hp==m9.ec.hp)) cl'15),(60,i_ ((dI kc (fun v_=>v_.hp==m9.ec.hp)).length:Int)),(61,c_ j),(63,.pointer (some ((dV al'14).add (j*1))))] [] (o1 (dY 1 j fE rfl (by omega))) ?_))))
   obtain⟨x17,hx17⟩: ∃x,((dI kc (fun v_=>v_.hp==m9.ec.hp)))[j]? =some x:=⟨_,List.getElem?_eq_getElem (by omega)⟩
   refine A.hk [.rd [i_ x17],.p] [(0,p_ sb),(22,vS al'3 l'4 cl'5),(23,c_ l'4.length),(24,c_ k),(59,vS al'14 (dI kc (fun v_=>v_.hp==m9.ec.hp)) cl'15),(60,i_ ((dI kc (fun v_=>v_.hp==m9.ec.hp)).length:Int)),(61,c_ j),(10,i_ x17)] [] (o1 (ro ((dV al'14).add (j*1)) (fY (vs:=[i_ x17]) fE (fa (i:=1) rfl) hx17 (Nat.le_of_ble_eq_true rfl) rfl))) (?_)
   obtain⟨m18,hk18⟩:=IW hBj ‹_›
   refine A.bC 0 rfl hk18 rfl (A.s (A.hp [.p,.p,.p,.ld 6,.p] [(0,p_ sb),(22,vS al'3 l'4 cl'5),(23,c_ l'4.length),(24,c_ k),(59,vS al'14 (dI kc (fun v_=>v_.hp==m9.ec.hp)) cl'15),(60,i_ ((dI kc (fun v_=>v_.hp==m9.ec.hp)).length:Int)),(61,c_ j),(68,.map (some my)),(69,i_ x17)] [sb] (A.j (A.u (some 70) _ (jc (kt:=3) (et:=167) (k:=x17) (fun ww ss=>NM (ss.mem (i:=0) rfl)) hk18 rfl rfl rfl (by kernel_rfl) (ee (by kernel_rfl)) rfl) (A.gO [.p,.p,.p,.st 1] [(0,p_ sb),(22,vS al'3 l'4 cl'5),(23,c_ l'4.length),(24,c_ k),(59,vS al'14 (dI kc (fun v_=>v_.hp==m9.ec.hp)) cl'15),(60,i_ ((dI kc (fun v_=>v_.hp==m9.ec.hp)).length:Int)),(61,c_ j)] [ni my kbj x17 m18,cz m18.eb [qp m18.qb,i_ m18.ec.hi,i_ m18.ec.hp,b_ m18.ec.hl,u_ m18.ec.ra,u_ m18.ec.rb,u_ m18.ec.rc,u_ m18.ec.la,u_ m18.ec.lb,u_ m18.ec.lc,u_ m18.ec.ua,u_ m18.ec.ub,u_ m18.ec.uc,i_ m18.ec.hk,i_ m18.ec.hq,u_ m18.tot,b_ m18.du.dq1,u_ m18.du.dq2,u_ m18.du.dq3,u_ m18.du.dq4,u_ m18.du.dq5,u_ m18.du.dq6,u_ m18.du.dq7,u_ m18.du.dq8,u_ m18.du.dq9,b_ m18.du.dq10,u_ m18.du.dq11,u_ m18.du.dq12,u_ m18.du.dq13,u_ m18.du.dq14,u_ m18.du.dq15,u_ m18.du.dq16,u_ m18.du.dq17,u_ m18.du.dq18,b_ m18.du.dq19,u_ m18.du.dq20,u_ m18.du.dq21,u_ m18.du.dq22,b_ false,u_ 0,u_ 0,u_ 0,u_ 0,u_ 0,u_ 0,u_ 0,u_ 0,b_ false,u_ 0,b_ m18.li.uq1,u_ m18.li.uq2,u_ m18.li.uq3,u_ m18.li.uq4,u_ m18.li.uq5,u_ m18.li.uq6,u_ m18.li.uq7,u_ m18.li.uq8,u_ m18.li.uq9,b_ m18.li.uq10,u_ m18.li.uq11] 225,sI al'14 (dI kc (fun v_=>v_.hp==m9.ec.hp)) cl'15,eP mk (dD kkk m9.ec.hp {m10 with t:=zt12,kv:=dL m10.kv x8}),eS a on'1 ka'2,sI al'3 l'4 cl'5,nR sb lt lm bt my a tl mk ck ac,nQ bt mc,di mc kc,ew tl et ek] [m18.eb] (A.bB (m':=({m18 with sh:=(⟨false,0,0,0,0,0,0,0,0,false,0⟩:Sh)}:En)) [0,0] rfl hk18 ⟨rfl,rfl,rfl⟩ rfl rfl ?_))))))
   have hk19:=jN kbj x17 ({m18 with sh:=(⟨false,0,0,0,0,0,0,0,0,false,0⟩:Sh)}:En)
   refine(A.s (A.hk [.w ((j:Int)+1),.p] [(0,p_ sb),(22,vS al'3 l'4 cl'5),(23,c_ l'4.length),(24,c_ k),(59,vS al'14 (dI kc (fun v_=>v_.hp==m9.ec.hp)) cl'15),(60,i_ ((dI kc (fun v_=>v_.hp==m9.ec.hp)).length:Int)),(61,i_ ((j:Int)+1))] [] (o1 (wj ((j:Int)+1) (by omega))) (A.aA (j+1,dD kbj x17 ({m18 with sh:=(⟨false,0,0,0,0,0,0,0,0,false,0⟩:Sh)}:En)) ⟨(by omega),(by apply LW hS2<;>first|assumption|rfl),(by apply rV hBj<;>first|assumption|rfl)⟩ (by(show(dI kc (fun v_=>v_.hp==m9.ec.hp)).length-(j+1)<(dI kc (fun v_=>v_.hp==m9.ec.hp)).length-j;omega)) ?_)))
   exact A.aL [0,0,0,0,0,0,0,0,0] ⟨rfl,rfl,rfl,rfl,rfl,rfl,rfl,trivial⟩ (by kernel_rfl)
  have p7:=of_decide_eq_false e7
  refine A.aB (A.s (A.hk [.w ((k:Int)+1),.p] [(0,p_ sb),(22,vS al'3 l'4 cl'5),(23,c_ l'4.length),(24,i_ ((k:Int)+1))] [] (o1 (wj ((k:Int)+1) (by omega))) (A.aA (k+1,kbj,dD kkk m9.ec.hp {m10 with t:=zt12,kv:=dL m10.kv x8}) ⟨(by omega),hS2,hBj,(Fe hKk ‹_› (Nat.le_trans (tP _ _) ‹_›)),(fun _ h=>hD _ (Dm ‹_› (mK hBk ‹_›) ‹_› ‹_› h))⟩ (by(show l'4.length-(k+1)<l'4.length-k;omega)) ?_)))
  exact A.aL [0,1,1,1,1,1,1,1] ⟨rfl,rfl,rfl,rfl,trivial⟩ (by kernel_rfl)
 have p3:=of_decide_eq_false e3
 refine A.aB (A.aQ [4,4,4,0,1,2,0] [] (fun aa ww rr ss=>trivial) (kbk,on'1,ka'2,kkk) ?_ ?_ (by kernel_rfl))
 ·rfl
 exact⟨_,_,by assumption,hS,hBk,hD _ (by rw[List.drop_eq_nil_of_le (by omega)];rfl)⟩
structure Pd where
 gq1:Int
 gq2:Int
 gq3:Int
 gq4:Int
 gq5:Int
 gq6:Int
 gq7:Int
 gq8:Bool
 deriving Inhabited,DecidableEq
def Be(x:Pd):List Value:=[(i_ x.gq1),(u_ x.gq2),(i_ x.gq3),(w_ x.gq4),(w_ x.gq5),(w_ x.gq6),(w_ x.gq7),(b_ x.gq8)]
def u5(n:Int)(m:En):En:={m with tot:=IntKind.u64.wrap (m.tot+IntKind.u64.wrap n),sh:=lH m.sh (IntKind.u64.wrap (m.tot+IntKind.u64.wrap n)),li:=jC m.li (IntKind.u64.wrap (m.tot+IntKind.u64.wrap n))}
def lU(n:Int):List Int→List (Int×En)→List (Int×En)
 |[],kb=>kb
 |i::l,kb=>lU n l (match cw kb i with|some m=>dD kb i (u5 n m)|none=>kb)
theorem KU{n:Int}(hk:L[k]? =some i)(hm:cw kb i=some m):lU n (L.drop (k+1)) (dD kb i (u5 n m))=lU n (L.drop k) kb:=by
 obtain⟨h1,h2⟩:=List.getElem?_eq_some_iff.1 hk
 rw[List.drop_eq_getElem_cons h1,h2,lU,hm]
def xx(M:En)(i:Int)(kb:List (Int×En)):Prop:= ∃m,cw kb i=some m∧m.eb=M.eb∧m.qb=M.qb∧m.q=M.q∧m.ec=M.ec
theorem NS{M:En}{j:Int}{y y':En}(h:xx M i kb)(hy:cw kb j=some y)(h1:y'.eb=y.eb)(h2:y'.qb=y.qb)(h3:y'.q=y.q)(h4:y'.ec=y.ec):xx M i (dD kb j y'):=by
 obtain⟨m,g1,g2⟩:=h
 by_cases e:j=i
 ·subst e;rw[hy] at g1;cases g1
  exact⟨y',jN _ _ _,by rw[h1,h2,h3,h4];exact g2⟩
 ·exact⟨m,by rw[gA,if_neg e];exact g1,g2⟩
variable{ek ek':List (Int×It)}
theorem Rx{et':T}(hm:cw kb i=some m)(h:qz i m kb et ek kb' et' ek'):xx m i kb':=by
 rcases h with⟨-,d,rfl,-⟩|⟨-,rfl,-⟩
 ·exact⟨_,jN _ _ _,rfl,rfl,rfl,rfl⟩
 ·exact⟨m,hm,rfl,rfl,rfl,rfl⟩
theorem PK{et':T}(hB:fG kc kb)(hm:cw kb i=some m)(h:qz i m kb et ek kb' et' ek'):fG kc kb':=by
 rcases h with⟨-,d,rfl,-⟩|⟨-,rfl,-⟩
 ·exact rV hB hm rfl rfl rfl
 ·exact hB
theorem Ff{n:Nat}: ∀{l:List Int}{kk kk':List (Int×Vt)},j7 kc n kk→nX kc l kk kk'→(∀i∈l,True)→j7 kc n kk'
 |[],kk,kk',h,hd,_=>by cases hd;exact h
 |i::l,kk,kk',h,⟨c,v,t,hc,hv,he,hd⟩,_=>by
  refine Ff (l:=l) (kk:=dD kk c.hp {v with t:=t,kv:=dL v.kv i}) (fun q hq=> ?_) hd (fun _ _=>trivial)
  rw[gA];by_cases e:c.hp=q
  ·rw[if_pos e];subst e
   obtain⟨v2,h1,h2,h3⟩:=h _ hq
   rw[hv] at h1;cases h1
   exact⟨_,rfl,he,Nat.le_trans (tP _ _) h3⟩
  ·rw[if_neg e];exact h q hq
theorem PL(h:wz kc i kb ym on ka kk kb' on' ka' kk'):fG kc kb':=by obtain⟨_,_,_,_,h,_⟩:=h;exact h
theorem PM{n:Nat}(hK:j7 kc n kk)(h:wz kc i kb ym on ka kk kb' on' ka' kk'):j7 kc n kk':=by obtain⟨l,_,_,_,_,h⟩:=h;exact Ff hK h fun _ _=>trivial
def lZ(z:Pd):Pk:=⟨z.gq2,z.gq3,z.gq4,z.gq5,z.gq6,z.gq7⟩
def IX(kc:List (Int×Cl))(ch:Int×Bool×Bool)(z:Pd)(ok:Bool)(kb:List (Int×En))(ym:List (Int×Pl))(on:List (Int×Int))(ka:List (Int×MB))(et:T)(ek:List (Int×It))(kk:List (Int×Vt))(kb':List (Int×En))(on':List (Int×Int))(ka':List (Int×MB))(et':T)(ek':List (Int×It))(kk':List (Int×Vt)):Prop:=
 (ch.2.2=false∧ok=false∧kb'=kb∧on'=on∧ka'=ka∧et'=et∧ek'=ek∧kk'=kk)∨
 (ch.2.2=true∧ok=true∧z.gq1=ch.1∧z.gq8=ch.2.1∧ ∃m q,cw kb ch.1=some m∧u4 m.q (lZ z) q∧
  ∃m2 kb2 kb3 kk2,kb2=lU z.gq3 (dc kc ch.1) (dD kb ch.1 {m with q:=q})∧cw kb2 ch.1=some m2∧m2.qb=m.qb∧m2.q=q∧m2.ec=m.ec∧qz ch.1 m2 kb2 et ek kb3 et' ek'∧
   ((qC q≠[]∧kb'=kb3∧on'=on∧ka'=ka∧kk2=kk)∨(qC q=[]∧wz kc ch.1 kb3 ym on ka kk kb' on' ka' kk2))∧jv on' ka' kb' (dc kc ch.1) kk2 kk')
set_option maxHeartbeats 4000000 in
set_option maxRecDepth 100000 in
abbrev uJ(p0)(p1)(p2)(p3)(p4)(p5)(p6)(p7)(p8)(p9):=([cz p0 [i_ p1,i_ p2,p_ p3,.map (some p4),p_ p5,p_ p6,.map (some p7),u_ p8,u_ p9] 141]:List V.dC)
theorem HF(sb:Nat)(lt lm:Int)(bt my ab eb mk:Nat)(ck ac now:Int)(hk1:ck≤now)(hk2:now≤4611686018427387904)(w:World)(hs:HI w (uJ sb lt lm bt my ab eb mk ck ac)):
  CV 111 #[p_ sb,u_ now] w (uJ sb lt lm bt my ab eb mk ck ac) (fun(zz:Unit)=>(b_ true)) (fun _=>True) fun _=>(uJ sb lt lm bt my ab eb mk now ac):=by
 refine A.C Tryz.func111 rfl hs (A.aO [(0,p_ sb),(1,u_ now)] (uJ sb lt lm bt my ab eb mk ck ac) ⟨rfl,rfl,trivial⟩ rfl (A.c (A.h [.p] [(0,p_ sb),(1,u_ now)] [] (A.d (A.c (A.h [.p,.p,.p,.p,.ld 0,.p,.p,.o,.p,.p,.cl] [(0,p_ sb),(1,u_ now),(14,b_ ((decide (now<ck))||(decide (now>4611686018427387904))))] [sb] (A.v (E:=(decide (now<ck))||(decide (now>4611686018427387904))) rfl (fun e1=> ?_) (fun e1=> ?_))))))))
 ·exact absurd e1 (by(intro h_;simp at h_;omega))
 ·skip
  refine A.p (A.c (A.gO [.p,.p,.p,.p,.st 0] [] (uJ sb lt lm bt my ab eb mk now ac) [sb] (A.c (A.h [.p] [(4,b_ true)] [] (A.e (A.aG [0] [b_ true] (fun aa ww rr ss=>⟨fQ rr rfl,trivial⟩) () ?_ ?_ (by kernel_rfl)))))))
  ·rfl
  ·trivial
abbrev HG(p0)(p1):=(cz p0 [.map (some p1)] 185:V.dC)
abbrev jq(p0)(p1)(p2)(p3):=(i_ ((eY p0 p1 p2 p3).1):Value)
abbrev sB(p0)(p1)(p2)(p3)(p4):=((54,i_ ((dc p0 ((eY p1 p2 p3 p4).1)).length:Int)):Nat×Value)
abbrev lR(p0)(p1)(p2)(p3):=(b_ ((eY p0 p1 p2 p3).2.1):Value)
abbrev UA(p0):=(cz p0 [i_ 0,u_ 0,i_ 0,w_ 0,w_ 0,w_ 0,w_ 0,b_ false] 235:V.dC)
abbrev HH(p0)(p1)(p2)(p3)(p4)(p5:Ac)(p6:Vt)(p7)(p8)(p9):=(cz p0 [i_ p1,i_ p2,p_ p3,.map (some p4),p_ p5.bs,p_ p6.be,.map (some p7),u_ p8,u_ p9] 141:V.dC)
theorem PN(sb:Nat)(lt lm:Int)(bt mc:Nat)(kc:List (Int×Cl))(my:Nat)(kb:List (Int×En))(a:Ac)(on:List (Int×Int))(ka:List (Int×MB))(tl:Vt)(et:T)(ek:List (Int×It))(mk:Nat)(kk:List (Int×Vt))(ck ac:Int)(now:Int)(hL:eA kc)(hB:fG kc kb)(hK:j7 kc 600 kk)(hy:a.ym=fL kc)(hE:eQ et ek)(hl:ek.length≤600)(hD:oL kb kk now 17 0)(hCh:(eY et kb kk now).2.2=true→ ∃m,cw kb (eY et kb kk now).1=some m∧qC m.q≠[])(hk1:ck≤now)(hk2:now≤4611686018427387904):
  CS 114 #[p_ sb,u_ now] [HH sb lt lm bt my a tl mk ck ac,HG bt mc,di mc kc,eN my kb,eS a on ka,ew tl et ek,eP mk kk] (fun((z,ok,kb',on',ka',et',ek',kk'):Pd×Bool×(List (Int×En))×(List (Int×Int))×(List (Int×MB))×T×(List (Int×It))×(List (Int×Vt)))=>(.tuple #[.agg (Be z).toArray,b_ ok])) (fun(z,ok,kb',on',ka',et',ek',kk')=>IX kc (eY et kb kk now) z ok kb a.ym on ka et ek kk kb' on' ka' et' ek' kk') fun(z,ok,kb',on',ka',et',ek',kk')=>[HH sb lt lm bt my a tl mk now ac,HG bt mc,di mc kc,eN my kb',eS a on' ka',ew tl et' ek',eP mk kk']:=by
 intro w hs
 have hul:=zR hL (eY et kb kk now).1
 refine A.C Tryz.func114 rfl hs (A.c (A.n1 [.al,.p] [] (fun b1=>[(4,p_ b1)]) (fun b1=>cz b1 [i_ 0,u_ 0,i_ 0,w_ 0,w_ 0,w_ 0,w_ 0,b_ false] 235) ?_))
 intro b1
 refine A.d (A.c (A.O [.p,.p,.p,.p,.p] [] [(17,b_ false),(18,p_ sb),(19,u_ now)] (A.j (A.J (some 20) [0] (fun ww ss hh=>HF sb lt lm bt my a.bs tl.be mk ck ac now ‹_› ‹_› ww hh) ?_))))
 rintro⟨⟩-
 refine A.g [.p,.p] [17,18,19,20] [(22,b_ false)] (A.Z (A.p (A.c (A.k [.p,.p,.cq (.tuple #[jq et kb kk now,lR et kb kk now,b_ ((eY et kb kk now).2.2)]),.p,.p,.p,.p,.p,.p,.p] [1,22] [(6,jq et kb kk now),(7,lR et kb kk now),(8,b_ ((eY et kb kk now).2.2))] [] (o1 (qo (fun ww ss=>LV sb lt lm bt mc kc my kb a on ka tl et ek mk kk now ac now ‹_› ‹_› ww (ss.mem (i:=0) rfl) (ss.mem (i:=1) rfl) (ss.mem (i:=2) rfl) (ss.mem (i:=3) rfl) (ss.mem (i:=4) rfl) (ss.mem (i:=5) rfl) (ss.mem (i:=6) rfl)))) (A.d (A.c (A.g [.p,.p] [8] [(32,b_ (!((eY et kb kk now).2.2)))] (A.v rfl (fun e2=> ?_) (fun e2=> ?_)))))))))
 ·refine A.c (A.gs [.p,.st 7,.p] [0,6,7,32] [(5,b_ false)] [] [b1] (A.e (A.aG [0,0,0,0,0,0,0] [.agg #[i_ 0,u_ 0,i_ 0,w_ 0,w_ 0,w_ 0,w_ 0,b_ false],b_ false] (fun aa ww rr ss=>⟨iG 7 rr ss,fQ rr rfl,trivial⟩) ((⟨0,0,0,0,0,0,0,false⟩:Pd),false,kb,on,ka,et,ek,kk) ?_ ?_ (by kernel_rfl))))
  ·rfl
  exact .inl ⟨(by(simp_all;done)),rfl,rfl,rfl,rfl,rfl,rfl,rfl⟩
 refine A.p (A.c (A.gm [.p,.p,.p,.ld 0,.p] [32] [(37,.map (some my)),(38,jq et kb kk now)] [sb] ?_))
 obtain⟨m2,hk2,h0n2⟩:=hCh (by(simp_all;done))
 refine A.j (A.u (some 39) _ (jc (kt:=3) (et:=167) (k:=(eY et kb kk now).1) (fun ww ss=>mG (ss.mem (i:=3) rfl)) hk2 rfl rfl rfl (by kernel_rfl) (ee (by kernel_rfl)) rfl) (A.g [.p] [37,38,39] [(9,p_ m2.eb)] (A.c (A.kp [.p,.p,.p,.rd [qp m2.qb]] [] [(44,qp m2.qb)] [] (o1 (ro ⟨m2.eb,0,none⟩ (vs:=[qp m2.qb]) (ft (fun ww ss=>(gP (ss.mem (i:=3) rfl) hk2:)) rfl))) (A.j (A.J (some 45) [3] (fun ww ss hh=>Rj my kb ((eY et kb kk now).1) m2 (qp m2.qb) hk2 (by rfl) ((hB _).2 _ ‹_›) ‹_› ww hh) ?_))))))
 rintro⟨q'3,pp4⟩ hz3
 refine A.g1 [.p,.p,.p,.al,.st 8,.p] [44,45] (fun b5=>[(10,p_ b5)]) (fun b5=>[]) (fun b5=>cz b5 (fR pp4) 45) (fun b5=>[b5]) ?_
 intro b5
 refine A.d (A.d ?_)
 have hk6:=jN kb (eY et kb kk now).1 ({m2 with q:=q'3}:En)
 have hB1:fG kc (dD kb ((eY et kb kk now).1) {m2 with q:=q'3}):=wq hB hk2 rfl ⟨((hB _).2 _ hk2).lf,fun e_=>absurd (((hB _).2 _ hk2).no e_) (fun e2_=>h0n2 (List.eq_nil_of_length_eq_zero (by rw[mF];exact e2_))),fun _=>(by assumption:u4 _ _ _).1⟩
 refine A.s (A.gm [.p,.p,.p,.ld 1,.p] [] [(51,p_ bt),(52,jq et kb kk now)] [sb] (A.j (A.J (some 53) [] (fun ww ss hh=>CH bt mc kc ((eY et kb kk now).1) ‹_› ww (ss.mem (i:=2) rfl) (ss.mem (i:=3) rfl) hh) ?_)))
 rintro⟨al'7,cl'8⟩-
 refine A.g [.p,.p] [51,52] [(53,vS al'7 (dc kc ((eY et kb kk now).1)) cl'8),(sB kc et kb kk now),(55,i_ 0)] (A.y (A.lp (σ:=Nat×(List (Int×En))) [] (fun(k,kbk)=>[(55,c_ k)]) [1] (fun(k,kbk)=>[eN my kbk]) (fun(k,kbk)=>(k≤(dc kc (eY et kb kk now).1).length)∧(lU pp4.qn ((dc kc (eY et kb kk now).1).drop k) kbk=lU pp4.qn (dc kc (eY et kb kk now).1) (dD kb ((eY et kb kk now).1) {m2 with q:=q'3}))∧(fG kc kbk)∧(xx ({m2 with q:=q'3}:En) (eY et kb kk now).1 kbk)) (fun(k,kbk)=>(dc kc (eY et kb kk now).1).length-k) (0,dD kb ((eY et kb kk now).1) {m2 with q:=q'3}) ⟨(by omega),(by rfl),hB1,⟨_,jN _ _ _,rfl,rfl,rfl,rfl⟩⟩ ?_ ?_))
 ·exact A.I [1,0,0,0,0,0,0,0,0,0]
 rintro⟨k,kbk⟩ ⟨hk,hU,hBk,hX⟩
 refine A.c (A.g [.p] [] [(56,b_ (decide ((k:Int)<((dc kc ((eY et kb kk now).1)).length:Int))))] (A.d (A.v rfl (fun e5=> ?_) (fun e5=> ?_))))
 ·have p5:=of_decide_eq_true e5
  refine A.p (A.d (A.y (A.c (A.kp [.ix] [56] [(57,.pointer (some ((dV al'7).add (k*1))))] [] (o1 (dY 1 k fE rfl (by omega))) ?_))))
  obtain⟨x10,hx10⟩: ∃x,((dc kc ((eY et kb kk now).1)))[k]? =some x:=⟨_,List.getElem?_eq_getElem (by omega)⟩
  refine A.hk [.rd [i_ x10],.p] [(0,p_ sb),(4,p_ b1),(6,jq et kb kk now),(7,lR et kb kk now),(9,p_ m2.eb),(10,p_ b5),(53,vS al'7 (dc kc ((eY et kb kk now).1)) cl'8),(sB kc et kb kk now),(55,c_ k),(13,i_ x10)] [] (o1 (ro ((dV al'7).add (k*1)) (fY (vs:=[i_ x10]) fE (fa (i:=1) rfl) hx10 (Nat.le_of_ble_eq_true rfl) rfl))) (A.c (A.gm [.p,.p,.p,.ld 2,.p] [13] [(62,.map (some my)),(63,i_ x10)] [sb] ?_))
  obtain⟨m11,hk11,hEO11⟩:=Gy hL hBk ‹_›
  refine A.j (A.u (some 64) _ (jc (kt:=3) (et:=167) (k:=x10) (fun ww ss=>mG (ss.mem (i:=0) rfl)) hk11 rfl rfl rfl (by kernel_rfl) (ee (by kernel_rfl)) rfl) (A.g [.p] [62,63,64] [(14,p_ m11.eb)] (A.d (A.bC 0 rfl hk11 rfl ?_))))
  refine A.W [10] 11 ?_
  refine A.pT 1 [.p,.p,.p,.ld 1,.p,.ld 10,.p,.p,.p,.p] [0,1,2,3,4,5,6,7,8,9] [(0,p_ sb),(4,p_ b1),(6,jq et kb kk now),(7,lR et kb kk now),(9,p_ m2.eb),(10,p_ b5),(53,vS al'7 (dc kc ((eY et kb kk now).1)) cl'8),(sB kc et kb kk now),(55,c_ k),(14,p_ m11.eb),(72,u_ (IntKind.u64.wrap (m11.tot+(IntKind.u64.wrap (pp4.qn))))),(74,q_ m11.eb 15)] [m11.eb,b5] ?_
  refine A.F 10 rfl (A.sT 1 [u_ (IntKind.u64.wrap (m11.tot+(IntKind.u64.wrap (pp4.qn))))] rfl ?_)
  refine A.E ?_
  refine A.M ?_
  refine A.d (A.W [12] 13 ?_)
  refine A.pO 1 [.p,.p,.p,.p,.ld 1,.p,.p,.p,.ld 1,.cq (.agg (gy (lH m11.sh (IntKind.u64.wrap (m11.tot+(IntKind.u64.wrap (pp4.qn)))))).toArray),.p,.p] [0,1,2,3,4,5,6,7,8,9,10,11] [(0,p_ sb),(4,p_ b1),(6,jq et kb kk now),(7,lR et kb kk now),(9,p_ m2.eb),(10,p_ b5),(53,vS al'7 (dc kc ((eY et kb kk now).1)) cl'8),(sB kc et kb kk now),(55,c_ k),(14,p_ m11.eb),(84,.agg (gy (lH m11.sh (IntKind.u64.wrap (m11.tot+(IntKind.u64.wrap (pp4.qn)))))).toArray),(86,q_ m11.eb 38)] [m11.eb,m11.eb] (o1 (qo (fun ww ss=>Q8 m11.sh (IntKind.u64.wrap (m11.tot+(IntKind.u64.wrap (pp4.qn)))) ww))) ?_
  refine A.F 12 rfl (A.sT 1 (gy (lH m11.sh (IntKind.u64.wrap (m11.tot+(IntKind.u64.wrap (pp4.qn)))))) rfl ?_)
  refine A.E ?_
  refine A.M ?_
  refine A.W [12] 13 ?_
  refine A.pO 1 [.p,.p,.p,.p,.ld 1,.p,.p,.p,.ld 1,.cq (.agg (gY (jC m11.li (IntKind.u64.wrap (m11.tot+(IntKind.u64.wrap (pp4.qn)))))).toArray),.p,.p] [0,1,2,3,4,5,6,7,8,9,10,11] [(0,p_ sb),(4,p_ b1),(6,jq et kb kk now),(7,lR et kb kk now),(9,p_ m2.eb),(10,p_ b5),(53,vS al'7 (dc kc ((eY et kb kk now).1)) cl'8),(sB kc et kb kk now),(55,c_ k),(96,.agg (gY (jC m11.li (IntKind.u64.wrap (m11.tot+(IntKind.u64.wrap (pp4.qn)))))).toArray),(98,q_ m11.eb 49)] [m11.eb,m11.eb] (o1 (qo (fun ww ss=>BL m11.li (IntKind.u64.wrap (m11.tot+(IntKind.u64.wrap (pp4.qn)))) ww))) ?_
  refine A.F 12 rfl (A.sT 1 (gY (jC m11.li (IntKind.u64.wrap (m11.tot+(IntKind.u64.wrap (pp4.qn)))))) rfl ?_)
  refine A.E ?_
  refine A.M ?_
  refine A.bB (m':=({m11 with tot:=IntKind.u64.wrap (m11.tot+(IntKind.u64.wrap (pp4.qn))),sh:=(lH m11.sh (IntKind.u64.wrap (m11.tot+(IntKind.u64.wrap (pp4.qn))))),li:=(jC m11.li (IntKind.u64.wrap (m11.tot+(IntKind.u64.wrap (pp4.qn)))))}:En)) [0,0] rfl hk11 ⟨rfl,rfl,rfl⟩ rfl rfl ?_
  have hk12:=jN kbk x10 ({m11 with tot:=IntKind.u64.wrap (m11.tot+(IntKind.u64.wrap (pp4.qn))),sh:=(lH m11.sh (IntKind.u64.wrap (m11.tot+(IntKind.u64.wrap (pp4.qn))))),li:=(jC m11.li (IntKind.u64.wrap (m11.tot+(IntKind.u64.wrap (pp4.qn)))))}:En)
  refine A.s (A.hk [.w ((k:Int)+1),.p] [(0,p_ sb),(4,p_ b1),(6,jq et kb kk now),(7,lR et kb kk now),(9,p_ m2.eb),(10,p_ b5),(53,vS al'7 (dc kc ((eY et kb kk now).1)) cl'8),(sB kc et kb kk now),(55,i_ ((k:Int)+1))] [] (o1 (wj ((k:Int)+1) (by omega))) ?_)
  refine A.aA (k+1,dD kbk x10 ({m11 with tot:=IntKind.u64.wrap (m11.tot+(IntKind.u64.wrap (pp4.qn))),sh:=(lH m11.sh (IntKind.u64.wrap (m11.tot+(IntKind.u64.wrap (pp4.qn))))),li:=(jC m11.li (IntKind.u64.wrap (m11.tot+(IntKind.u64.wrap (pp4.qn)))))}:En)) ⟨(by omega),((KU ‹_› ‹_›).trans hU),(by apply rV hBk<;>first|assumption|rfl),(by apply NS hX<;>first|assumption|rfl)⟩ (by(show(dc kc (eY et kb kk now).1).length-(k+1)<(dc kc (eY et kb kk now).1).length-k;omega)) ?_
  exact A.I [0,0,0,0,0,0,0,0,0,0]
 have p5:=of_decide_eq_false e5
 refine A.aB (A.d ?_)
 obtain⟨m13,hk13,he13,hqb13,hqq13,hec13⟩:=hX
 refine A.D 9 (p_ m13.eb) (congrArg (fun z_=>some (p_ z_)) he13.symm) ?_
 have hEO13:=(hBk _).2 _ hk13
 refine A.s (A.gm [.p,.p,.p,.ld 9,.p] [53,54,55,56] [(100,p_ sb),(101,p_ m13.eb),(103,i_ pp4.qn),(104,lR et kb kk now)] [b5] (A.j (A.J (some 105) [2,2,2,0,1,1,1] (fun ww ss hh=>Rw sb lt lm bt mc kc my kbk a on ka tl et ek mk kk now ac ((eY et kb kk now).1) m13 pp4.qn ((eY et kb kk now).2.1) hk13 ‹_› ‹_› ‹_› ww hh) ?_)))
 rintro⟨kb'14,et'15,ek'16⟩ hz6
 refine A.aC (A.d (A.d ?_))
 have hB3:=PK hBk hk13 ‹_›
 obtain⟨m17,hk17,he17,hqb17,hqq17,hec17⟩:=Rx hk13 ‹_›
 refine A.D 9 (p_ m17.eb) (congrArg (fun z_=>some (p_ z_)) he17.symm) ?_
 have hEO17:=(hB3 _).2 _ hk17
 refine A.s (A.hk [.p,.p,.p,.rd [qp m17.qb],.cq (i_ ((qC m17.q).length:Int)),.p] [(0,p_ sb),(4,p_ b1),(6,jq et kb kk now),(7,lR et kb kk now),(10,p_ b5),(111,b_ (((qC m17.q).length:Int)==0))] [] (oc (ro ⟨m17.eb,0,none⟩ (vs:=[qp m17.qb]) (ft (fun ww ss=>(gP (ss.mem (i:=3) rfl) hk17:)) rfl)) (o1 (qo (fun ww ss=>uZ my kb'14 ((eY et kb kk now).1) m17 (qp m17.qb) hk17 (by rfl) (by assumption) ww (ss.mem (i:=3) rfl))))) (A.v rfl (fun e7=> ?_) (fun e7=> ?_)))
 ·refine A.s (A.O [.p,.p] [111] [(112,p_ sb),(113,jq et kb kk now)] (A.j (A.J (some 114) [0,0,0,0,0,0,0] (fun ww ss hh=>NR sb lt lm bt mc kc my kb'14 a on ka tl et'15 ek'16 mk kk now ac ((eY et kb kk now).1) ‹_› ‹_› ‹_› ‹_› ww hh) ?_)))
  rintro⟨kb'18,on'19,ka'20,kk'21⟩ hz8
  refine A.aC (A.c (A.O [.p,.p] [0,112,113,114] [(115,p_ sb),(116,jq et kb kk now)] (A.j (A.J (some 117) [0,0,0,0,0,1] (fun ww ss hh=>vU sb lt lm bt mc kc my kb'18 a on'19 ka'20 tl.be mk kk'21 now ac ((eY et kb kk now).1) ‹_› (PL ‹_›) (PM hK ‹_›) ww hh) ?_))))
  rintro kk'22 hz9
  refine A.aC (A.c (A.gs [.p,.ld 9,.p,.p,.st 8,.p] [6,7,10,115,116,117] [(5,b_ true)] [(8,cz b1 [jq et kb kk now,u_ pp4.qi,i_ pp4.qn,w_ pp4.qa,w_ pp4.qb,w_ pp4.qc,w_ pp4.qd,lR et kb kk now] 235)] [b5,b1] (A.e (A.aG [0,0,0,0,0,1,0] [.agg #[jq et kb kk now,u_ pp4.qi,i_ pp4.qn,w_ pp4.qa,w_ pp4.qb,w_ pp4.qc,w_ pp4.qd,lR et kb kk now],b_ true] (fun aa ww rr ss=>⟨iG 8 rr ss,fQ rr rfl,trivial⟩) ((⟨(eY et kb kk now).1,pp4.qi,pp4.qn,pp4.qa,pp4.qb,pp4.qc,pp4.qd,(eY et kb kk now).2.1⟩:Pd),true,kb'18,on'19,ka'20,et'15,ek'16,kk'22) ?_ ?_ (by kernel_rfl)))))
  ·rfl
  exact .inr ⟨(by(simp_all;done)),rfl,rfl,rfl,_,_,by assumption,by assumption,_,_,_,_,(by rw[←hU,List.drop_eq_nil_of_le (by omega)]<;>rfl),by assumption,by assumption,by assumption,by assumption,by assumption,(by exact .inr ⟨(by(simp_all[sV];done)),by assumption⟩),by assumption⟩
 refine A.p (A.c (A.O [.p,.p] [0,111] [(115,p_ sb),(116,jq et kb kk now)] (A.j (A.J (some 117) [0,0,0,0,0,1] (fun ww ss hh=>vU sb lt lm bt mc kc my kb'14 a on ka tl.be mk kk now ac ((eY et kb kk now).1) ‹_› ‹_› ‹_› ww hh) ?_))))
 rintro kk'23 hz10
 refine A.aC (A.c (A.gs [.p,.ld 9,.p,.p,.st 8,.p] [6,7,10,115,116,117] [(5,b_ true)] [(8,cz b1 [jq et kb kk now,u_ pp4.qi,i_ pp4.qn,w_ pp4.qa,w_ pp4.qb,w_ pp4.qc,w_ pp4.qd,lR et kb kk now] 235)] [b5,b1] (A.e (A.aG [0,0,0,0,0,1,0] [.agg #[jq et kb kk now,u_ pp4.qi,i_ pp4.qn,w_ pp4.qa,w_ pp4.qb,w_ pp4.qc,w_ pp4.qd,lR et kb kk now],b_ true] (fun aa ww rr ss=>⟨iG 8 rr ss,fQ rr rfl,trivial⟩) ((⟨(eY et kb kk now).1,pp4.qi,pp4.qn,pp4.qa,pp4.qb,pp4.qc,pp4.qd,(eY et kb kk now).2.1⟩:Pd),true,kb'14,on,ka,et'15,ek'16,kk'23) ?_ ?_ (by kernel_rfl)))))
 ·rfl
 exact .inr ⟨(by(simp_all;done)),rfl,rfl,rfl,_,_,by assumption,by assumption,_,_,_,_,(by rw[←hU,List.drop_eq_nil_of_le (by omega)]<;>rfl),by assumption,by assumption,by assumption,by assumption,by assumption,(by exact .inl ⟨(by(simp_all[sV];done)),rfl,rfl,rfl,rfl⟩),by assumption⟩
def IY(lm ac:Int)(kb:List (Int×En))(ci:Int)(p:Pk)(m:En):Prop:=cw kb ci=some m∧m.ec.hl=true∧1≤p.qn∧p.qn≤lm∧IntKind.u64.wrap (ac+IntKind.u64.wrap p.qn)≤1099511627776∧xl m.q p
def Ik(kc:List (Int×Cl))(lm now ci:Int)(p:Pk)(er:Int)(kb:List (Int×En))(ym:List (Int×Pl))(on:List (Int×Int))(ka:List (Int×MB))(et:T)(ek:List (Int×It))(kk:List (Int×Vt))(ac:Int)(kb':List (Int×En))(on':List (Int×Int))(ka':List (Int×MB))(et':T)(ek':List (Int×It))(kk':List (Int×Vt))(ac':Int):Prop:=
 (er≠0∧(∀m,¬IY lm ac kb ci p m)∧ac'=ac∧(kb'=kb∨ ∃m q e,cw kb ci=some m∧mJ m.q p q e∧e≠0∧kb'=dD kb ci {m with q:=q})∧on'=on∧ka'=ka∧et'=et∧ek'=ek∧kk'=kk)∨
 (er=0∧ac'=IntKind.u64.wrap (ac+IntKind.u64.wrap p.qn)∧ ∃m q,IY lm ac kb ci p m∧mJ m.q p q 0∧
  (((qC q).length=1∧IV kc now p.qn ci {m with q:=q} (dD kb ci {m with q:=q}) ym on ka et ek kk kb' on' ka' et' ek' kk')∨((qC q).length≠1∧kb'=dD kb ci {m with q:=q}∧on'=on∧ka'=ka∧et'=et∧ek'=ek∧kk'=kk)))
theorem zT{c:Nat}(h:fG kc kb)(hm:cw kb i=some m)(hc:m.qb=some c)(hq:kq q):fG kc (dD kb i {m with q:=q}):=
 wq h hm rfl ⟨((h i).2 m hm).lf,fun e=>(by rw[show m.qb=none from e] at hc;cases hc),fun _=>hq⟩
theorem yr{r:Qu}{p:Pk}{e:Int}(h:mJ q p r e):(xl q p↔e=0):=by
 rcases h with⟨-,-,-,⟨h1,h2,-⟩|⟨h1,h2,-⟩⟩
 ·exact⟨fun _=>h2,fun _=>h1⟩
 ·exact⟨fun h=>absurd h h1,fun h=>absurd h h2⟩
theorem HJ{r:Qu}{p:Pk}{e:Int}(h:mJ q p r e)(he:e=0):mJ q p r 0:=he▸h
abbrev AY(p0)(p1:Pk):=(u_ (IntKind.u64.wrap (p0+(IntKind.u64.wrap (p1.qn)))):Value)
abbrev AZ(p0)(p1)(p2)(p3)(p4)(p5:Ac)(p6:Vt)(p7)(p8)(p9)(p10)(p11)(p12)(p13)(p14)(p15)(p16)(p17):=([cz p0 [i_ p1,i_ p2,p_ p3,.map (some p4),p_ p5.bs,p_ p6.be,.map (some p7),u_ p8,u_ p9] 141,cz p3 [.map (some p10)] 185,di p10 p11,eN p4 p12,eS p5 p13 p14,ew p6 p15 p16,eP p7 p17]:List V.dC)
theorem Ry(sb:Nat)(lt lm:Int)(bt mc:Nat)(kc:List (Int×Cl))(my:Nat)(kb:List (Int×En))(a:Ac)(on:List (Int×Int))(ka:List (Int×MB))(tl:Vt)(et:T)(ek:List (Int×It))(mk:Nat)(kk:List (Int×Vt))(ck ac:Int)(now ci:Int)(p:Pk)(hL:eA kc)(hB:fG kc kb)(hK:j7 kc 600 kk)(hy:a.ym=fL kc)(hE:eQ et ek)(hl:ek.length≤600)(hlm:lm≤16384)(hk1:ck≤now)(hk2:now≤4611686018427387904)(w:World)(hs:HI w (AZ sb lt lm bt my a tl mk ck ac mc kc kb on ka et ek kk)):
  CT Tryz.prog 76 #[p_ sb,u_ now,i_ ci,.agg (fR p).toArray] w (AZ sb lt lm bt my a tl mk ck ac mc kc kb on ka et ek kk) (fun((er,kb',on',ka',et',ek',kk',ac'):Int×(List (Int×En))×(List (Int×Int))×(List (Int×MB))×T×(List (Int×It))×(List (Int×Vt))×Int)=>(i_ er)) (fun(er,kb',on',ka',et',ek',kk',ac')=>Ik kc lm now ci p er kb a.ym on ka et ek kk ac kb' on' ka' et' ek' kk' ac') fun(er,kb',on',ka',et',ek',kk',ac')=>(AZ sb lt lm bt my a tl mk now ac' mc kc kb' on' ka' et' ek' kk'):=by
 refine A.C Tryz.func76 rfl hs (A.c (A.n1 [.al,.p] [3] (fun b1=>[(7,p_ b1)]) (fun b1=>cz b1 (fR p) 45) ?_))
 intro b1
 refine A.d (A.y (A.c (A.g [.p,.p,.p] [] [(12,b_ false)] (A.Z (A.c (A.O [.p,.p] [12] [(16,p_ sb),(17,u_ now)] (A.j (A.J (some 18) [0] (fun ww ss hh=>HF sb lt lm bt my a.bs tl.be mk ck ac now ‹_› ‹_› ww hh) ?_))))))))
 rintro⟨⟩-
 refine A.g [.p,.p] [16,17,18] [(15,b_ false)] (A.Z (A.p (A.c (A.gm [.p,.p,.p,.ld 0,.p] [2,15] [(24,.map (some my)),(25,i_ ci)] [sb] ?_))))
 rcases hk2:cw kb ci with _|m2
 ·refine A.j (A.u (some 26) (.tuple #[n_,b_ false]) (KH (kt:=3) (et:=167) (enck:=(fun k:Int=>i_ k)) (encv:=(fun m:En=>p_ m.eb)) (b:=my) (kv:=kb) (k:=ci) (fun ww ss=>mG (ss.mem (i:=3) rfl)) hk2 rfl rfl rfl (by kernel_rfl) (ee (by kernel_rfl)) (by kernel_rfl) rfl) (A.g [.p,.p,.p,.p,.p] [24,25,26] [(9,n_),(10,b_ false)] (A.d (A.y (A.c (A.g [.p,.p,.p] [10] [(29,b_ true)] (A.ct (A.c (A.g [.p] [0,1,7,9,29] [(8,i_ 23)] (A.e (A.Y [0,0,0,0,0,0,0] [i_ 23] (23,kb,on,ka,et,ek,kk,ac) ?_ ?_)))))))))))
  ·rfl
  exact .inl ⟨by decide,(fun m_ h_=>by obtain⟨h1_,h2_,h3_,h4_,h5_,h6_⟩:=h_;(simp_all;done)),rfl,.inl rfl,rfl,rfl,rfl,rfl,rfl⟩
 refine A.j (A.u (some 26) (.tuple #[p_ m2.eb,b_ true]) (jc (kt:=3) (et:=167) (k:=ci) (fun ww ss=>mG (ss.mem (i:=3) rfl)) hk2 rfl rfl rfl (by kernel_rfl) (ee (by kernel_rfl)) rfl) (A.g [.p,.p,.p,.p,.p] [24,25,26] [(9,p_ m2.eb),(10,b_ true)] (A.d (A.y (A.c (A.g [.p,.p,.p] [10] [(29,b_ false)] (A.Z (A.c (A.k [.p,.p,.p,.p,.rd [b_ m2.ec.hl],.p,.p] [29] [(32,b_ (!m2.ec.hl))] [] (o1 (ro ⟨m2.eb,3,none⟩ (vs:=[b_ m2.ec.hl]) (ft (fun ww ss=>(gP (ss.mem (i:=3) rfl) hk2:)) rfl))) (A.v rfl (fun e2=> ?_) (fun e2=> ?_)))))))))))
 ·refine A.c (A.g [.p] [0,1,7,9,32] [(8,i_ 29)] (A.e (A.Y [0,0,0,0,0,0,0] [i_ 29] (29,kb,on,ka,et,ek,kk,ac) ?_ ?_)))
  ·rfl
  exact .inl ⟨by decide,(fun m_ h_=>by obtain⟨h1_,h2_,h3_,h4_,h5_,h6_⟩:=h_;(simp_all;done)),rfl,.inl rfl,rfl,rfl,rfl,rfl,rfl⟩
 refine A.d (A.dA [.p,.ld 7,.p,.p,.o,.p,.ld 7,.p,.p,.p,.p,.ld 0,.p,.cl,.p] [0,1,2,3,4,5,6,7,8,9,10,11,12,13] [32] [(39,b_ ((decide (p.qn<1))||(decide (p.qn>lm))))] [b1,b1,sb] T0 trivial (A.v rfl (fun e3=> ?_) (fun e3=> ?_)))
 ·refine A.c (A.g [.p] [0,1,7,9,39] [(8,i_ 26)] (A.e (A.Y [0,0,0,0,0,0,0] [i_ 26] (26,kb,on,ka,et,ek,kk,ac) ?_ ?_)))
  ·rfl
  exact .inl ⟨by decide,(fun m_ h_=>by obtain⟨h1_,h2_,h3_,h4_,h5_,h6_⟩:=h_;(simp_all;omega)),rfl,.inl rfl,rfl,rfl,rfl,rfl,rfl⟩
 have p3:=e3;try simp only[de] at p3
 refine A.d (A.dA [.p,.p,.p,.ld 0,.p,.ld 7,.p,.p,.p,.p] [0,1,2,3,4,5,6,7,8,9] [39] [(53,b_ (decide ((IntKind.u64.wrap (ac+(IntKind.u64.wrap (p.qn))))>1099511627776)))] [sb,b1] T0 trivial (A.v rfl (fun e4=> ?_) (fun e4=> ?_)))
 ·have p4:=of_decide_eq_true e4
  refine A.c (A.g [.p] [0,1,7,9,53] [(8,i_ 28)] (A.e (A.Y [0,0,0,0,0,0,0] [i_ 28] (28,kb,on,ka,et,ek,kk,ac) ?_ ?_)))
  ·rfl
  exact .inl ⟨by decide,(fun m_ h_=>by obtain⟨h1_,h2_,h3_,h4_,h5_,h6_⟩:=h_;(simp_all;omega)),rfl,.inl rfl,rfl,rfl,rfl,rfl,rfl⟩
 have p4:=of_decide_eq_false e4
 refine A.p (A.d (A.d ?_))
 have hEO:=(hB _).2 _ hk2
 obtain⟨cq,hcq⟩:=Option.isSome_iff_exists.1 (hEO.lf.1 (by(simp_all;done)))
 refine A.W [5] 7 (A.kd 2 [.p,.p,.p,.rd [qp m2.qb],.ld 7] [0,1,2,3,4] [53] [(66,qp m2.qb),(67,.agg (fR p).toArray)] [b1] (o1 (ro ⟨m2.eb,0,none⟩ (vs:=[qp m2.qb]) (ft (fun ww ss=>(gP (ss.mem (i:=3) rfl) hk2:)) rfl))) (A.F 5 rfl (A.J (some 68) [3] (fun ww ss hh=>PC my kb ci m2 (qp m2.qb) cq p hk2 ‹_› (by rfl) ‹_› (by omega) ww hh) ?_)))
 rintro⟨q'3,er4⟩ hz5
 refine A.E (A.dT 0 [.p] [6] [66,67,68] [(11,i_ er4)] [] (A.M (A.c (A.g [.p,.p] [] [(70,b_ (er4 !=0))] (A.v rfl (fun e6=> ?_) (fun e6=> ?_))))))
 ·have p6:=e6;try simp only[de] at p6
  refine A.c (A.g [.p,.p] [0,1,7,9,11,70] [(8,i_ er4)] (A.e (A.Y [1,1,1,0,0,0,0] [i_ er4] (er4,dD kb ci {m2 with q:=q'3},on,ka,et,ek,kk,ac) ?_ ?_)))
  ·rfl
  exact .inl ⟨by assumption,(fun m_ h_=>by obtain⟨h1_,h2_,h3_,h4_,h5_,h6_⟩:=h_;have h7_:=yr (by assumption:mJ _ _ _ _);simp_all),rfl,.inr ⟨_,_,_,by assumption,by assumption,by assumption,rfl⟩,rfl,rfl,rfl,rfl,rfl⟩
 have p6:=e6;try simp only[de] at p6
 refine A.p (A.d (A.W [10] 11 (A.dT 1 [.p,.p,.p,.ld 1,.p,.ld 7,.p,.p,.p,.p] [0,1,2,3,4,5,6,7,8,9] [11,70] [(79,AY ac p),(81,q_ sb 8)] [sb,b1] (A.F 10 rfl (A.aw 1 (vs:=[AY ac p]) [eN my (dD kb ci {m2 with q:=q'3}),cz sb [i_ lt,i_ lm,p_ bt,.map (some my),p_ a.bs,p_ tl.be,.map (some mk),u_ now,AY ac p] 141,cz bt [.map (some mc)] 185,di mc kc,eS a on ka,ew tl et ek,eP mk kk,cz b1 (fR p) 45] (by kernel_rfl) rfl rfl rfl rfl (by kernel_rfl) rfl rfl (by kernel_rfl) rfl (A.E (A.M (A.d (A.d ?_)))))))))
 have hB1:fG kc (dD kb ci {m2 with q:=q'3}):=zT hB hk2 hcq (by assumption:mJ _ _ _ _).1
 obtain⟨mx,hmx⟩: ∃m_:En,m_=({m2 with q:=q'3}:En):=⟨_,rfl⟩
 have hkx:cw (dD kb ci {m2 with q:=q'3}) ci=some mx:=hmx▸jN _ _ _
 have hEX:=(hB1 _).2 _ hkx
 refine A.D 9 (p_ mx.eb) (congrArg (fun z_=>some (p_ z_)) (by rw[hmx])) (A.s (A.k [.p,.p,.p,.rd [qp mx.qb],.cq (i_ ((qC mx.q).length:Int)),.p] [79,81] [(87,b_ (((qC mx.q).length:Int)==1))] [] (oc (ro ⟨mx.eb,0,none⟩ (vs:=[qp mx.qb]) (ft (fun ww ss=>(gP (ss.mem (i:=0) rfl) hkx:)) rfl)) (o1 (qo (fun ww ss=>uZ my (dD kb ci {m2 with q:=q'3}) ci mx (qp mx.qb) hkx (by rfl) ‹_› ww (ss.mem (i:=0) rfl))))) (A.v rfl (fun e7=> ?_) (fun e7=> ?_))))
 ·have p7:=e7
  refine A.s (A.gm [.p,.p,.p,.p,.ld 7] [0,1,7,9,87] [(88,p_ sb),(89,u_ now),(90,p_ mx.eb),(92,i_ p.qn)] [b1] (A.j (A.J (some 93) [1,1,1,0,0,0,0] (fun ww ss hh=>NN sb lt lm bt mc kc my (dD kb ci {m2 with q:=q'3}) a on ka tl et ek mk kk now (IntKind.u64.wrap (ac+(IntKind.u64.wrap (p.qn)))) now ci mx p.qn hkx ‹_› ‹_› ‹_› ‹_› ‹_› ‹_› ww hh) ?_)))
  rintro⟨kb'5,on'6,ka'7,et'8,ek'9,kk'10⟩ hz8
  refine A.aC (A.c (A.g [.p] [88,89,90,92,93] [(8,i_ 0)] (A.e (A.Y [0,0,0,0,0,0,0] [i_ 0] (0,kb'5,on'6,ka'7,et'8,ek'9,kk'10,IntKind.u64.wrap (ac+(IntKind.u64.wrap (p.qn)))) ?_ ?_))))
  ·rfl
  (subst hmx;exact .inr ⟨rfl,rfl,_,_,⟨by assumption,by(simp_all;done),by(simp_all;done),by(simp_all;done),by(simp_all;done),(yr (by assumption:mJ _ _ _ _)).2 (by(simp_all;done))⟩,HJ ‹_› ‹_›,.inl ⟨by(simp_all;omega),by assumption⟩⟩)
 refine A.p (A.c (A.g [.p] [0,1,7,9,87] [(8,i_ 0)] (A.e (A.Y [1,1,1,0,0,0,0] [i_ 0] (0,dD kb ci {m2 with q:=q'3},on,ka,et,ek,kk,IntKind.u64.wrap (ac+(IntKind.u64.wrap (p.qn)))) ?_ ?_))))
 ·rfl
 (subst hmx;exact .inr ⟨rfl,rfl,_,_,⟨by assumption,by(simp_all;done),by(simp_all;done),by(simp_all;done),by(simp_all;done),(yr (by assumption:mJ _ _ _ _)).2 (by(simp_all;done))⟩,HJ ‹_› ‹_›,.inr ⟨by(simp_all;omega),rfl,rfl,rfl,rfl,rfl,rfl⟩⟩)
def kK(et:T)(kk:List (Int×Vt)):Int:=dU (mg et.toL) (iW ((((cw kk 0).map fun v:Vt=>v.t.toL).getD [])))
def CZ:Du:=⟨false,0,0,0,0,0,0,0,0,false,0,0,0,0,0,0,0,0,false,0,0,0⟩
theorem PO(k r:Int)(h1:1≤k)(h2:k≤64)(h3:1≤r∧r≤1048576)(w:World)(hs:HS w (dG []) [] w):Calls Tryz.prog 108 #[i_ k,i_ r] w fun e w'=> ∃zz:Nat×Qu,e= .returned (.tuple #[p_ zz.1,i_ 0])∧(kq zz.2∧qC zz.2=[]∧zz.2.rm=r∧zz.2.bs=0∧(zz.2.sx.length:Int)=k)∧Turn [] [i6 (some zz.1) zz.2] w w':=by
 obtain⟨m,rfl⟩:=Int.eq_ofNat_of_zero_le (show 0≤k by omega)
 refine(Rh m r (by omega) (by omega) h3 w hs).mono ?_
 rintro e w' ⟨zz,a1,⟨a2,a3,a4,a5,a6⟩,a7⟩
 exact⟨zz,a1,⟨a2,a3,a4,a5,by rw[a6]⟩,a7⟩
def HK(c:Cl)(q:Qu):Prop:=kq q∧qC q=[]∧q.rm=c.hq∧q.bs=0∧(q.sx.length:Int)=c.hk
theorem PQ(sb:Nat)(lt lm:Int)(bt mc:Nat)(kc:List (Int×Cl))(my:Nat)(kb:List (Int×En))(a:Ac)(on:List (Int×Int))(ka:List (Int×MB))(tl:Vt)(et:T)(ek:List (Int×It))(mk:Nat)(kk:List (Int×Vt))(ck ac:Int)(hE:eQ et ek)(hv0: ∃v,cw kk 0=some v∧eQ v.t v.kv)(w:World)(r0:(cz sb [i_ lt,i_ lm,p_ bt,.map (some my),p_ a.bs,p_ tl.be,.map (some mk),u_ ck,u_ ac] 141).holds w)(r1:(cz bt [.map (some mc)] 185).holds w)(r2:(di mc kc).holds w)(r3:(eN my kb).holds w)(r4:(eS a on ka).holds w)(r5:(ew tl et ek).holds w)(r6:(eP mk kk).holds w):
  CW 119 #[p_ sb] w (u_ (kK et kk)):=by
 refine A.C Tryz.func119 rfl (HS.nil w) (A.c (A.g [.p] [] [] (A.d (A.c (A.g [.p,.p] [] [(4,b_ false)] (A.Z (A.p (A.d ?_))))))))
 obtain⟨m1,hk1,hER1⟩:=hv0
 refine A.W [] 13 (A.kd 4 [.p,.p,.p,.rd [p_ tl.be],.cq (u_ (mg et.toL)),.p,.p,.p,.rd [.map (some mk)]] [0,1,2,3,4,5,6,7,8] [0,4] [(9,u_ (mg et.toL)),(13,.map (some mk))] [] (oc (ro ⟨sb,5,none⟩ (vs:=[p_ tl.be]) (dj r0 rfl)) (oc (qo (fun ww ss=>PH tl et ek ‹_› ww (da ss r5))) (o1 (ro ⟨sb,6,none⟩ (vs:=[.map (some mk)]) (dj r0 rfl))))) (A.aT 9 (some 14) (p_ m1.be) rfl (by kernel_rfl) (by kernel_rfl) (jc (kt:=3) (et:=136) (k:=0) (fun ww ss=>oK (da ss r6)) hk1 rfl rfl rfl (by kernel_rfl) (ee (by kernel_rfl)) rfl) (A.pO 0 [.cq (u_ (iW m1.t.toL)),.p,.p] [10,11,12] [(2,u_ (dU (mg et.toL) (iW m1.t.toL)))] [] (o1 (qo (fun ww ss=>IS mk kk 0 m1 hk1 ‹_› ww (da ss r6)))) (A.M (A.e (A.N [u_ (dU (mg et.toL) (iW m1.t.toL))] ?_))))))
 show((u_ (dU (mg et.toL) (iW m1.t.toL))):Value)=(u_ (kK et kk))
 unfold kK;simp_all
theorem NT(c:Cl)(hl:c.hl=true)(h1:1≤c.hk)(h2:c.hk≤64)(h3:1≤c.hq∧c.hq≤1048576):
  CS 73 #[.agg (dt c).toArray] [] (fun((xb,bq,q):Nat×Nat×Qu)=>(p_ xb)) (fun(xb,bq,q)=>HK c q) fun(xb,bq,q)=>[cz xb [p_ bq,i_ c.hi,i_ c.hp,b_ c.hl,u_ c.ra,u_ c.rb,u_ c.rc,u_ c.la,u_ c.lb,u_ c.lc,u_ c.ua,u_ c.ub,u_ c.uc,i_ c.hk,i_ c.hq,u_ 0,b_ false,u_ 0,u_ 0,u_ 0,u_ 0,u_ 0,u_ 0,u_ 0,u_ 0,b_ false,u_ 0,u_ 0,u_ 0,u_ 0,u_ 0,u_ 0,u_ 0,u_ 0,b_ false,u_ 0,u_ 0,u_ 0,b_ false,u_ 0,u_ 0,u_ 0,u_ 0,u_ 0,u_ 0,u_ 0,u_ 0,b_ false,u_ 0,b_ false,u_ 0,u_ 0,u_ 0,u_ 0,u_ 0,u_ 0,u_ 0,u_ 0,b_ false,u_ 0] 225,i6 (some bq) q]:=by
 intro w hs
 refine A.C Tryz.func73 rfl hs (A.c (A.n1 [.al,.p] [0] (fun b1=>[(1,p_ b1)]) (fun b1=>cz b1 (dt c) 62) ?_))
 intro b1
 refine A.c (A.g1 [.ld 0,.p,.al,.p] [] (fun b2=>[(3,p_ b2)]) (fun b2=>[]) (fun b2=>cz b2 [n_,i_ c.hi,i_ c.hp,b_ c.hl,u_ c.ra,u_ c.rb,u_ c.rc,u_ c.la,u_ c.lb,u_ c.lc,u_ c.ua,u_ c.ub,u_ c.uc,i_ c.hk,i_ c.hq,u_ 0,b_ false,u_ 0,u_ 0,u_ 0,u_ 0,u_ 0,u_ 0,u_ 0,u_ 0,b_ false,u_ 0,u_ 0,u_ 0,u_ 0,u_ 0,u_ 0,u_ 0,u_ 0,b_ false,u_ 0,u_ 0,u_ 0,b_ false,u_ 0,u_ 0,u_ 0,u_ 0,u_ 0,u_ 0,u_ 0,u_ 0,b_ false,u_ 0,b_ false,u_ 0,u_ 0,u_ 0,u_ 0,u_ 0,u_ 0,u_ 0,u_ 0,b_ false,u_ 0] 225) (fun b2=>[b1]) ?_)
 intro b2
 refine A.d (A.c (A.gl [.p,.ld 0] [] [(8,b_ c.hl)] [b1] (A.cn c.hl (fun e1=> ?_) (fun e1=> ?_))))
 ·refine A.s (A.gm [.p,.p,.ld 0,.p,.ld 0] [1,8] [(10,p_ b2),(12,i_ c.hk),(14,i_ c.hq)] [b1,b1] (A.j (A.J (some 15) [] (fun ww ss hh=>PO c.hk c.hq ‹_› ‹_› ‹_› ww hh) ?_)))
  rintro⟨bq3,q4⟩ hz2
  refine A.gs [.p,.p,.p,.p,.p,.st 2] [10,12,14,15] [] [(2,cz b2 [p_ bq3,i_ c.hi,i_ c.hp,b_ c.hl,u_ c.ra,u_ c.rb,u_ c.rc,u_ c.la,u_ c.lb,u_ c.lc,u_ c.ua,u_ c.ub,u_ c.uc,i_ c.hk,i_ c.hq,u_ 0,b_ false,u_ 0,u_ 0,u_ 0,u_ 0,u_ 0,u_ 0,u_ 0,u_ 0,b_ false,u_ 0,u_ 0,u_ 0,u_ 0,u_ 0,u_ 0,u_ 0,u_ 0,b_ false,u_ 0,u_ 0,u_ 0,b_ false,u_ 0,u_ 0,u_ 0,u_ 0,u_ 0,u_ 0,u_ 0,u_ 0,b_ false,u_ 0,b_ false,u_ 0,u_ 0,u_ 0,u_ 0,u_ 0,u_ 0,u_ 0,u_ 0,b_ false,u_ 0] 225)] [b2] (A.c (A.g [.p,.p] [3] [(2,p_ b2)] (A.e (A.Y [2,0] [p_ b2] (b2,bq3,q4) ?_ ?_))))
  ·rfl
  assumption
 exact absurd e1 (by(intro h_;simp_all))
theorem Rz(c:Cl)(hl:c.hl=false):
  CS 73 #[.agg (dt c).toArray] [] (fun(xb:Nat)=>(p_ xb)) (fun _=>True) fun xb=>[cz xb [n_,i_ c.hi,i_ c.hp,b_ c.hl,u_ c.ra,u_ c.rb,u_ c.rc,u_ c.la,u_ c.lb,u_ c.lc,u_ c.ua,u_ c.ub,u_ c.uc,i_ c.hk,i_ c.hq,u_ 0,b_ false,u_ 0,u_ 0,u_ 0,u_ 0,u_ 0,u_ 0,u_ 0,u_ 0,b_ false,u_ 0,u_ 0,u_ 0,u_ 0,u_ 0,u_ 0,u_ 0,u_ 0,b_ false,u_ 0,u_ 0,u_ 0,b_ false,u_ 0,u_ 0,u_ 0,u_ 0,u_ 0,u_ 0,u_ 0,u_ 0,b_ false,u_ 0,b_ false,u_ 0,u_ 0,u_ 0,u_ 0,u_ 0,u_ 0,u_ 0,u_ 0,b_ false,u_ 0] 225]:=by
 intro w hs
 refine A.C Tryz.func73 rfl hs (A.c (A.n1 [.al,.p] [0] (fun b1=>[(1,p_ b1)]) (fun b1=>cz b1 (dt c) 62) ?_))
 intro b1
 refine A.c (A.g1 [.ld 0,.p,.al,.p] [] (fun b2=>[(3,p_ b2)]) (fun b2=>[]) (fun b2=>cz b2 [n_,i_ c.hi,i_ c.hp,b_ c.hl,u_ c.ra,u_ c.rb,u_ c.rc,u_ c.la,u_ c.lb,u_ c.lc,u_ c.ua,u_ c.ub,u_ c.uc,i_ c.hk,i_ c.hq,u_ 0,b_ false,u_ 0,u_ 0,u_ 0,u_ 0,u_ 0,u_ 0,u_ 0,u_ 0,b_ false,u_ 0,u_ 0,u_ 0,u_ 0,u_ 0,u_ 0,u_ 0,u_ 0,b_ false,u_ 0,u_ 0,u_ 0,b_ false,u_ 0,u_ 0,u_ 0,u_ 0,u_ 0,u_ 0,u_ 0,u_ 0,b_ false,u_ 0,b_ false,u_ 0,u_ 0,u_ 0,u_ 0,u_ 0,u_ 0,u_ 0,u_ 0,b_ false,u_ 0] 225) (fun b2=>[b1]) ?_)
 intro b2
 refine A.d (A.c (A.gl [.p,.ld 0] [] [(8,b_ c.hl)] [b1] (A.cn c.hl (fun e1=> ?_) (fun e1=> ?_))))
 ·exact absurd e1 (by(intro h_;simp_all))
 refine A.p (A.c (A.g [.p,.p] [1,3,8] [(2,p_ b2)] (A.e (A.Y [1] [p_ b2] (b2) ?_ ?_))))
 ·rfl
 trivial
theorem Dn{a b:List V.dC}(h:a.Perm b):(dG a).Perm (dG b):=h.flatMap_right _
def A7(c:Cl)(m:En):Prop:=m.ec=c∧jy m∧m.tot=0∧m.du=CZ∧m.sh=mq∧m.li=py∧(c.hl=true→HK c m.q)∧(c.hl=false→m.q.n=0)
def TM(m:En):V.dC:=co (gK m)
theorem NU(c:Cl)(h:c.hl=true→(1≤c.hk∧c.hk≤64)∧1≤c.hq∧c.hq≤1048576)(w:World)(hs:HS w (dG []) [] w):Calls Tryz.prog 73 #[.agg (dt c).toArray] w fun e w'=> ∃zz:En,e= .returned (p_ zz.eb)∧A7 c zz∧Turn [] [TM zz] w w':=by
 cases hl:c.hl with
 |true=>
  obtain⟨⟨h1,h2⟩,h3,h4⟩:=h hl
  refine(NT c hl h1 h2 ⟨h3,h4⟩ w hs).mono ?_
  rintro e w' ⟨⟨xb,bq,q⟩,a1,a2,a3⟩
  refine⟨⟨xb,some bq,q,c,0,CZ,mq,py⟩,a1,⟨rfl,⟨by simp[hl],by simp,fun _=>a2.1⟩,rfl,rfl,rfl,rfl,fun _=>a2,fun h=>(by rw[hl] at h;cases h)⟩,?_⟩
  refine Turn.coR (Y:=[]) ?_
  rw[List.append_nil]
  have e: ∀x y:V.dC,([x,y]:List V.dC).Perm [y,x]:=fun x y=> .swap _ _ _
  exact⟨a3.fr,fun it hi=>a3.all it ((e _ _).mem_iff.1 hi),(Dn (e _ _)).nodup_iff.2 a3.nodup,fun b hb=>a3.own b ((Dn (e _ _)).mem_iff.1 hb)⟩
 |false=>
  refine(Rz c hl w hs).mono ?_
  rintro e w' ⟨xb,a1,-,a3⟩
  refine⟨⟨xb,none,default,c,0,CZ,mq,py⟩,a1,⟨rfl,⟨by simp[hl],fun _=>rfl,by simp⟩,rfl,rfl,rfl,rfl,fun h=>(by rw[hl] at h;cases h),fun _=>rfl⟩,?_⟩
  refine Turn.coR (Y:=[]) ?_
  rw[List.append_nil]
  refine⟨a3.fr,fun it hi=> ?_,?_,?_⟩
  ·simp only[gK,List.mem_cons,List.not_mem_nil,or_false] at hi
   rcases hi with rfl|rfl
   ·intro it hi;cases hi
   ·exact a3.all _ (List.mem_singleton.2 rfl)
  ·exact a3.nodup
  ·exact a3.own
end Go.Proofs.YtobgjpigngoggaaGreat
namespace Go.Proofs.YtobgjpigngoggaaGreat.V
open Go
theorem Oa{L R:List Value}{off m N:Nat}(h1:m≤N)(h2:off+N≤L.length)(hR:R.length=N-m):((L.take (off+m)++R++L.drop (off+m+R.length)).drop off).take N=((L.drop off).take N).take m++R:=by
 apply List.ext_getElem?
 intro i
 simp only[List.getElem?_take,List.getElem?_drop,List.getElem?_append,List.length_append,List.length_take,List.length_drop,hR]
 by_cases a:i<m
 ·rw[if_pos (by omega),if_pos (by omega),if_pos (by omega),if_pos (by omega),if_pos (by omega),if_pos (by omega),if_pos (by omega)]
 ·by_cases b:i<N
  ·rw[if_pos b,if_pos (by omega),if_neg (by omega),if_neg (by omega)]
   congr 1;omega
  ·rw[if_neg b,if_neg (by omega)]
   exact(List.getElem?_eq_none (by omega)).symm
section
variable{P:Program}{n:Nat}{env:dQ}{w0:World}{S:List Nat}{H R H':List dC}{ops:Array Oper}{o:Oper}{K:Act→World→Prop}
theorem A.cK{α:Type}(i m:Nat){t ty:TypeId}{x:Operand}{A:Option Addr}{c:Nat}{z:Value}{enc:α→List Value}{xs:List α}(z0:α)(H':List dC)(hok:gR ops n env o none=true)(ho:o.op= .call {callee:= .builtin .clear,args:=#[x],argTypes:=#[t]})
  (hx:ev env x=some (.slice (i4 A c m 1) (xs.drop m).length (c-m)))(ht:P.underlying t=some (.slice ty))(hz:(P.info? ty).bind (·.zero)=some z)(hzc:z.cells=#[z])(h1:z.oneCell'=true)(he0:enc z0=[z])(he: ∀x,(enc x).length=1)(hm:m<xs.length)
  (hi:H[i]? =some (sl A xs.length c ty 1 (dJ enc xs)))(hH:H.set i (sl A (xs.take m++List.replicate (xs.length-m) z0).length c ty 1 (dJ enc (xs.take m++List.replicate (xs.length-m) z0)))=H')(h:V.A n env w0 S H' K):V.A n env w0 S H (eH P ops o K):=by
 intro a w r s
 obtain⟨h1',h2,h3,h4⟩:=jM hok
 unfold eH
 rw[if_pos (iT r h1')]
 have hs:wG A xs.length c ty 1 (dJ enc xs) w:=s.mem hi
 obtain⟨q1,q2,q3,⟨rfl,q4⟩|⟨g,off,eD,rfl,hg,hle,htake⟩⟩:=hs
 ·omega
 have hA:i4 (some (⟨g,off,none⟩:Addr)) c m 1=some ⟨g,off+m,none⟩:=by
  unfold i4;rw[if_neg (by omega)]
  show some ((⟨g,off,none⟩:Addr).add (m*1))=_
  rw[Nat.mul_one,nI]
 rw[hA,List.length_drop] at hx
 have hcur:eD=eD.toList.toArray:=by simp
 have hh:w.heap[g]? =some (.cells eD.toList.toArray ty (0,0)):=by rw[hg]
 have hv: ∀w,(zeroValue ty).run P w= .ok z w:=fun w=>by
  simp only[Option.bind_eq_some_iff] at hz
  obtain⟨inf,hinf,hz⟩:=hz
  simp[zeroValue,typeInfo,hinf,hz]
 have hst:=run_storeCells_at P g (off+m) ty (List.replicate (xs.length-m) z) 0 eD.toList.toArray w hh (by simp;omega) (fun v hv=>by rw[List.eq_of_mem_replicate hv];exact h1)
 simp only[Nat.add_zero] at hst
 have hzl:(Builtin.zeroCells z.cells (xs.length-m)).toList=List.replicate (xs.length-m) z:=by
  rw[hzc]
  simp[Builtin.zeroCells]
  apply List.ext_getElem
  ·simp
  ·intro i h1 h2
   simp[Nat.mod_one]
 have hrun:(execOp a.eval o).run P w= .ok (.value (.tuple #[])) (w.setRow g (eD.toList.take (off+m)++List.replicate (xs.length-m) z++eD.toList.drop (off+m+(List.replicate (xs.length-m) z).length)).toArray):=by
  obtain⟨j,hj⟩: ∃j,xs.length-m=j+1:=⟨xs.length-m-1,by omega⟩
  rw[hj] at hx hzl hst⊢
  simp[execOp,ho,resolve,invoke,builtin,r.ev hx,Builtin.clear_,run_underlying ht,hv,hzl]
  simp at hst
  rw[hst];simp
 unfold Oper.wp
 rw[hrun]
 simp only[Oper.upon,h2]
 refine h _ _ r ?_
 rw[←hH]
 have hf: ∀l:List α,(dJ enc l).length=l.length:=fun l=>by have:=qP (sz:=1) he (xs:=l);omega
 refine s.turn hi (tW _ _ _) ?_ (by simp[sl,gB]) (fun b hb=> .inl hb)
 have hln:(xs.take m++List.replicate (xs.length-m) z0).length=xs.length:=by simp;omega
 refine⟨by rw[hf];omega,by rw[hln];exact q2,q3,.inr ⟨g,off,_,rfl,tX w g _ _ ty hh,by simp;omega,?_⟩⟩
 rw[hln]
 have e2:dJ enc (xs.take m++List.replicate (xs.length-m) z0)=(dJ enc xs).take m++List.replicate (xs.length-m) z:=by
  unfold dJ
  rw[List.flatMap_append]
  congr 1
  ·have: ∀(l:List α)(m:Nat),(l.take m).flatMap enc=(l.flatMap enc).take m:=fun l=>by
    induction l with
    |nil=>simp
    |cons y l ih=>
     intro m
     cases m with
     |zero=>simp
     |succ m=>
      obtain⟨v,hv⟩:=List.length_eq_one_iff.1 (he y)
      simp[hv,ih]
   exact this xs m
  ·have: ∀j:Nat,(List.replicate j z0).flatMap enc=List.replicate j z:=fun j=>by
    induction j with
    |zero=>rfl
    |succ j ih=>rw[List.replicate_succ,List.flatMap_cons,ih,he0];rfl
   exact this _
 rw[e2,←htake]
 show((List.toArray _).toList.drop off).take _=_
 simp only[List.toList_toArray,Nat.mul_one]
 exact Oa (by omega) (by simpa using(by omega:off+xs.length≤eD.size)) (by simp)
end
section
variable{P:Program}{n:Nat}{env:dQ}{w0:World}{S:List Nat}{H R H':List dC}{G:Act→World→Prop}{β:Type}{f:β→List dC}{kv:List (Int×β)}{k:Int}{m:β}{ek:Int→Value}{ev:β→Value}{b:Nat}
theorem tq(k:Int): ∀kv:List (Int×β),List.Sublist (dL kv k) kv
 |[]=>by simp[dL]
 |p::kv=>by
  unfold dL;split
  ·exact List.sublist_cons_self _ _
  ·exact(tq k kv).cons_cons p
theorem FV{kw:List (Int×β)}(h:List.Sublist kv kw):List.Sublist (km f kv) (km f kw):=by
 induction h with
 |slnil=>exact .refl _
 |cons a h ih=>simp only[km,List.flatMap_cons] at ih⊢;exact ih.trans (List.sublist_append_right _ _)
 |cons_cons a h ih=>simp only[km,List.flatMap_cons] at ih⊢;exact(List.Sublist.refl _).append ih
theorem A.cN(is:List Nat)(hp:gU is H=some ([dX ek ev b (dL kv k),eT f kv],R))(hH:co [dX ek ev b (dL kv k),eT f (dL kv k)]::R=H')(h:V.A n env w0 S H' G):V.A n env w0 S H G:=
 A.bG is (fun _:Unit=>True) (fun _=>[co [dX ek ev b (dL kv k),eT f (dL kv k)]]) (fun _=>H') hp (fun w hs=>by
  have hsub:List.Sublist (dG [co [dX ek ev b (dL kv k),eT f (dL kv k)]]) (dG [dX ek ev b (dL kv k),eT f kv]):=by
   simp only[dG,co,eT,dX,List.flatMap_cons,List.flatMap_nil,List.append_nil]
   exact(List.Sublist.refl [b]).append (FV (tq k kv))
  refine⟨(),trivial,fun it hi=> ?_,hs.nodup.sublist hsub,fun c hc=>hsub.subset hc⟩
  rw[List.mem_singleton] at hi;subst hi
  intro it hi
  simp only[List.mem_cons,List.not_mem_nil,or_false] at hi
  rcases hi with rfl|rfl
  ·exact hs.all _ (by simp)
  ·exact fun p hq=>(show(eT f kv).holds w from hs.all _ (by simp)) p ((tq k kv).subset hq)) (fun _=>by simpa using hH) (fun _ _=>h)
theorem A.cu(is:List Nat)(hp:gU is H=some ([dX ek ev b (dD kv k m),eT f kv,co (f m)],R))(hH:co [dX ek ev b (dD kv k m),eT f (dD kv k m)]::R=H')(h:V.A n env w0 S H' G):V.A n env w0 S H G:=
 A.bG is (fun _:Unit=>True) (fun _=>[co [dX ek ev b (dD kv k m),eT f (dD kv k m)]]) (fun _=>H') hp (fun w hs=>by
  have hmp:=(oV k m kv).flatMap_right (fun p:Int×β=>dG (f p.2))
  simp only[List.flatMap_cons] at hmp
  have hsub:List.Sublist ([b]++(km f (dL kv k)++dG (f m))) (dG [dX ek ev b (dD kv k m),eT f kv,co (f m)]):=by
   simp only[dG,co,eT,dX,List.flatMap_cons,List.flatMap_nil,List.append_nil]
   exact(List.Sublist.refl [b]).append ((FV (tq k kv)).append (.refl _))
  have hpm:(dG [co [dX ek ev b (dD kv k m),eT f (dD kv k m)]]).Perm ([b]++(km f (dL kv k)++dG (f m))):=by
   simp only[dG,co,eT,dX,km,List.flatMap_cons,List.flatMap_nil,List.append_nil] at hmp⊢
   exact(List.Perm.refl [b]).append (hmp.trans List.perm_append_comm)
  refine⟨(),trivial,fun it hi=> ?_,hpm.nodup_iff.2 (hs.nodup.sublist hsub),fun c hc=>hsub.subset (hpm.mem_iff.1 hc)⟩
  rw[List.mem_singleton] at hi;subst hi
  intro it hi
  simp only[List.mem_cons,List.not_mem_nil,or_false] at hi
  rcases hi with rfl|rfl
  ·exact hs.all _ (by simp)
  ·intro p hq it hi
   rcases List.mem_cons.1 ((oV k _ kv).mem_iff.1 hq) with rfl|hq
   ·exact(show(co (f m)).holds w from hs.all _ (by simp)) it hi
   ·exact(show(eT f kv).holds w from hs.all _ (by simp)) p ((tq k kv).subset hq) it hi) (fun _=>by simpa using hH) (fun _ _=>h)
theorem A.cZ(is:List Nat)(hp:gU is H=some ([dX ek ev b []],R))(hH:co [dX ek ev b [],eT f []]::R=H')(h:V.A n env w0 S H' G):V.A n env w0 S H G:=
 A.bH is (Os:=[co [dX ek ev b [],eT f []]]) hp (fun w hw it hi=>by
  rw[List.mem_singleton] at hi;subst hi
  intro it hi
  simp only[List.mem_cons,List.not_mem_nil,or_false] at hi
  rcases hi with rfl|rfl
  ·exact hw _ (by simp)
  ·intro p hp;cases hp) (by simp[dG,co,eT,km,dX]) (by simpa using hH) h
theorem yk{α:Type}{enc:α→List Value}(he: ∀x,(enc x).length=1): ∀(l:List α)(m:Nat),dJ enc (l.take m)=(dJ enc l).take m
 |[],m=>by simp[dJ]
 |y::l,0=>by simp[dJ]
 |y::l,m+1=>by
  obtain⟨v,hv⟩:=List.length_eq_one_iff.1 (he y)
  have ih:=yk he l m
  unfold dJ at ih⊢
  simp[hv,ih]
theorem A.cQ{α:Type}(i m:Nat){A:Option Addr}{c:Nat}{t:TypeId}{enc:α→List Value}{xs:List α}(ys:List α)(he: ∀x,(enc x).length=1)(e:xs.take m=ys)(hp:gU [i] H=some ([sl A xs.length c t 1 (dJ enc xs)],R))(hH:sl A ys.length c t 1 (dJ enc ys)::R=H')(h:V.A n env w0 S H' G):V.A n env w0 S H G:=by
 subst e
 refine V.A.bH [i] (Os:=[sl A (xs.take m).length c t 1 (dJ enc (xs.take m))]) hp (fun w hw it hi=> ?_) (by simp[dG,sl]) hH h
 rw[List.mem_singleton] at hi;subst hi
 obtain⟨h1,h2,h3,h4⟩:wG A xs.length c t 1 (dJ enc xs) w:=hw _ (List.mem_singleton.2 rfl)
 have hl:(dJ enc (xs.take m)).length=(xs.take m).length*1:=by rw[yk he,List.length_take,h1,List.length_take];omega
 refine⟨hl,by rw[List.length_take];omega,h3,?_⟩
 rcases h4 with h4|⟨g,off,eD,h5,h6,h7,h8⟩
 ·exact .inl h4
 ·refine .inr ⟨g,off,eD,h5,h6,h7,?_⟩
  rw[yk he,←h8,List.take_take,List.length_take]
  congr 1;omega
end
section
variable{P:Program}{n:Nat}{env:dQ}{w0:World}{S:List Nat}{H R R2 H':List dC}{ops:Array Oper}{o:Oper}{K:Act→World→Prop}{β:Type}{f:β→List dC}{kv:List (Int×β)}{k:Int}{ek:Int→Value}{ev:β→Value}{b:Nat}
variable{x y:Operand}{t kt et:TypeId}
theorem A.cF(i:Nat){t2:TypeId}(hok:gR ops n env o none=true)(ho:o.op= .call {callee:= .builtin .delete,args:=#[x,y],argTypes:=#[t,t2]})(hx:V.ev env x=some (.map (some b)))(hy:V.ev env y=some (ek k))
  (ht:P.underlying t=some (.map kt et))(hk:jY P kt ek)(hi:gU [i] H=some ([co [dX ek ev b kv,eT f kv]],R))(hH:co [dX ek ev b (dL kv k),eT f (dL kv k)]::R=H')(h:V.A n env w0 S H' K):V.A n env w0 S H (eH P ops o K):=
 A.bf i hi rfl (A.bF 0 ([dX ek ev b (dL kv k),eT f kv]++R) hok ho hx hy ht hk rfl rfl (A.cN [0,0] rfl hH h))
theorem A.bQ(i j:Nat)(m:β){z:Operand}(hok:gR ops n env o none=true)(ho:o.op= .mapUpdate t x y z)(hx:V.ev env x=some (.map (some b)))(hy:V.ev env y=some (ek k))(hz:V.ev env z=some (ev m))
  (ht:P.underlying t=some (.map kt et))(hk:jY P kt ek)(hi:gU [i] H=some ([co [dX ek ev b kv,eT f kv]],R))(hj:gU [j] R=some ([co (f m)],R2))(hH:co [dX ek ev b (dD kv k m),eT f (dD kv k m)]::R2=H')(h:V.A n env w0 S H' K):V.A n env w0 S H (eH P ops o K):=
 A.bf i hi rfl (A.bV 0 m ([dX ek ev b (dD kv k m),eT f kv]++R) hok ho hx hy hz ht hk rfl rfl (A.cu [0,0,j] (by show(match(match gU [j] R with|some (a,r)=>some (eT f kv::a,r)|none=>none) with|some (a,r)=>some (dX ek ev b (dD kv k m)::a,r)|none=>none)=_;rw[hj]) hH h))
end
end Go.Proofs.YtobgjpigngoggaaGreat.V
namespace Go.Proofs.YtobgjpigngoggaaGreat
open Go V
def qE(kb:List (Int×En))(i:Int):Bool:=decide ((((cw kb i).map fun m:En=>(qC m.q).length).getD 0:Int)=0)
variable{kb:List (Int×En)}{m:En}
theorem SA{i:Int}(h:cw kb i=some m):qE kb i=decide (((qC m.q).length:Int)=0):=by unfold qE;rw[h];simp
def tB(kc:List (Int×Cl)):List Int:=dI kc (fun v_=>v_.hl)
def fD(kc:List (Int×Cl))(kb:List (Int×En)):List Int:=(tB kc).filter fun i=> !qE kb i
structure oY(p:Int→Bool)(l:List Int)(j i:Nat)(ys:List Int):Prop where
 len:ys.length=l.length
 kept:ys.take i=(l.take j).filter fun x=> !p x
 rest:ys.drop j=l.drop j
 le:i<j
 jl:j≤l.length
variable{p:Int→Bool}{l:List Int}{k:Nat}{x:Int}
theorem Jp(hk:l[k]? =some x)(hp:p x=true)(hn: ∀j y,j<k→l[j]? =some y→p y=false):oY p l (k+1) k l:=by
 have hl:=(List.getElem?_eq_some_iff.1 hk).1
 refine⟨rfl,?_,rfl,by omega,by omega⟩
 rw[List.take_add_one,hk,List.filter_append]
 have:(l.take k).filter (fun x=> !p x)=l.take k:=List.filter_eq_self.2 fun y hy=>by
  obtain⟨j,h1,h2⟩:=List.getElem_of_mem hy
  rw[List.length_take] at h1
  have:l[j]? =some y:=by rw[←h2];simp[List.getElem?_eq_getElem (show j<l.length by omega)]
  rw[hn j y (by omega) this];rfl
 rw[this];simp[hp]
variable{ys:List Int}{j i:Nat}
theorem LZ(h:oY p l j i ys)(hx:ys[j]? =some x)(hp:p x=true):oY p l (j+1) i ys:=by
 have hl:=(List.getElem?_eq_some_iff.1 hx).1
 have hx2:l[j]? =some x:=by rw[←hx];have:=congrArg (·[0]?) h.rest;simpa using this.symm
 refine⟨h.len,?_,?_,by have:=h.le;omega,by rw[←h.len];omega⟩
 ·rw[List.take_add_one,hx2,List.filter_append,h.kept];simp[hp]
 ·have:=congrArg (List.drop 1) h.rest;simpa[Nat.add_comm] using this
theorem KV(h:oY p l j i ys)(hx:ys[j]? =some x)(hp:p x=false):oY p l (j+1) (i+1) (ys.set i x):=by
 have hl:=(List.getElem?_eq_some_iff.1 hx).1
 have hx2:l[j]? =some x:=by rw[←hx];have:=congrArg (·[0]?) h.rest;simpa using this.symm
 have hle:=h.le
 refine⟨by rw[List.length_set];exact h.len,?_,?_,by omega,by rw[←h.len];omega⟩
 ·rw[List.take_add_one,List.take_set_of_le (by omega),h.kept,List.getElem?_set_self (by omega),List.take_add_one,hx2,List.filter_append];simp[hp]
 ·rw[List.drop_set_of_lt (by omega)]
  have:=congrArg (List.drop 1) h.rest;simpa[Nat.add_comm] using this
theorem L0(h:oY p l j i ys)(hj:l.length≤j):ys.take i=l.filter fun x=> !p x:=by rw[h.kept,List.take_of_length_le hj]
variable{kc:List (Int×Cl)}{z:Int}
theorem IZ(hB:fG kc kb)(h:(dI kc (fun v_=>v_.hl))[k]? =some z): ∃m,cw kb z=some m∧jy m:=by
 obtain⟨m,hm⟩:=IW hB h
 exact⟨m,hm,(hB z).2 m hm⟩
theorem xA(hB:fG kc kb)(hk:(dI kc (fun v_=>v_.hl)).length≤k)(hn: ∀j y,j<k→(dI kc (fun v_=>v_.hl))[j]? =some y→qE kb y=false):fD kc kb=dI kc (fun v_=>v_.hl):=by
 unfold fD tB
 refine List.filter_eq_self.2 fun y hy=> ?_
 obtain⟨j,h1,h2⟩:=List.getElem_of_mem hy
 rw[hn j y (by omega) (by rw[←h2];exact List.getElem?_eq_getElem h1)];rfl
theorem L1(h:oY p l j i ys)(hx:ys[j]? =some x):l[j]? =some x:=by rw[←hx];have:=congrArg (·[0]?) h.rest;simpa using this.symm
theorem I0(sb:Nat)(lt lm:Int)(bt:Nat)(my:Nat)(kb:List (Int×En))(ab eb mk:Nat)(ck ac:Int)(bx:Nat)(ci:Int)(hm: ∃m,cw kb ci=some m∧jy m)(w:World)(r0:(cz bx [p_ sb] 102).holds w)(r1:(cz sb [i_ lt,i_ lm,p_ bt,.map (some my),p_ ab,p_ eb,.map (some mk),u_ ck,u_ ac] 141).holds w)(r2:(eN my kb).holds w):
  CW 106 #[i_ ci,p_ bx] w (b_ (qE kb ci)):=by
 refine A.C Tryz.func106 rfl (HS.nil w) (A.c (A.g [.p] [] [] (A.c (A.kp [.rd [p_ sb],.p,.p,.rd [.map (some my)],.p] [0,1] [(7,.map (some my)),(8,i_ ci)] [] (oc (ro ⟨bx,0,none⟩ (vs:=[p_ sb]) (dj r0 rfl)) (o1 (ro ⟨sb,3,none⟩ (vs:=[.map (some my)]) (dj r1 rfl)))) ?_))))
 obtain⟨m1,hk1,hEO1⟩:=hm
 refine A.j (A.u (some 9) (p_ m1.eb) (jc (kt:=3) (et:=167) (k:=ci) (fun ww ss=>mG (da ss r2)) hk1 rfl rfl rfl (by kernel_rfl) (ee (by kernel_rfl)) rfl) ?_)
 refine A.k [.p,.p,.rd [qp m1.qb],.cq (i_ ((qC m1.q).length:Int)),.p,.p] [7,8,9] [(3,b_ (((qC m1.q).length:Int)==0))] [] (oc (ro ⟨m1.eb,0,none⟩ (vs:=[qp m1.qb]) (ft (fun ww ss=>(gP (da ss r2) hk1:)) rfl)) (o1 (qo (fun ww ss=>uZ my kb ci m1 (qp m1.qb) hk1 (by rfl) ‹_› ww (da ss r2))))) ?_
 refine A.e (A.N [b_ (((qC m1.q).length:Int)==0)] ?_)
 refine congrArg Value.bool ?_;rw[SA ‹_›,Bool.eq_iff_iff];simp
abbrev Aa(p0):=((1,.func (.func 106) #[] #[p_ p0]):Nat×Value)
theorem yt(sb:Nat)(lt lm:Int)(bt mc:Nat)(kc:List (Int×Cl))(my:Nat)(kb:List (Int×En))(ab eb mk:Nat)(ck ac:Int)(hL:eA kc)(hB:fG kc kb)(w:World)(r0:(cz sb [i_ lt,i_ lm,p_ bt,.map (some my),p_ ab,p_ eb,.map (some mk),u_ ck,u_ ac] 141).holds w)(r1:(cz bt [.map (some mc)] 185).holds w)(r2:(di mc kc).holds w)(r3:(eN my kb).holds w)(hs:HI w []):
  CV 71 #[p_ sb] w [] (fun((al',cl'):(Option Addr)×Nat)=>(vS al' (fD kc kb) cl')) (fun _=>True) fun(al',cl')=>[sI al' (fD kc kb) cl']:=by
 have hkl:=hL.len
 have hkf:=ns kc (fun v_=>v_.hl)
 refine A.C Tryz.func71 rfl hs (A.c (A.n1 [.al,.p] [0] (fun b1=>[(1,p_ b1)]) (fun b1=>cz b1 [p_ sb] 102) ?_))
 intro b1
 refine TP (A.kp [.ld 0,.p,.p,.rd [p_ bt]] [] [(6,p_ bt)] [b1] (o1 (ro ⟨sb,2,none⟩ (vs:=[p_ bt]) (dj r0 rfl))) (A.j (A.J (some 7) [] (fun ww ss hh=>K0 bt mc kc (by omega) ww (da ss r1) (da ss r2) hh) ?_)))
 rintro⟨al'2,cl'3⟩-
 refine A.O [.p] [1,6] [(7,vS al'2 (dI kc (fun v_=>v_.hl)) cl'3),(8,.func (.func 106) #[] #[p_ b1])] (A.j (A.iX (some 9) [vS al'2 (dI kc (fun v_=>v_.hl)) cl'3,.func (.func 106) #[] #[p_ b1]] Tryz.func104 rfl (A.c (A.g [.p] [] [] (A.c (A.O [.p,.p] [] [(8,vS al'2 (dI kc (fun v_=>v_.hl)) cl'3),(9,.func (.func 106) #[] #[p_ b1])] (A.j (A.iX (some 10) [vS al'2 (dI kc (fun v_=>v_.hl)) cl'3,.func (.func 106) #[] #[p_ b1]] Tryz.func98 rfl (A.c (A.g [.p] [] [] (A.d (A.c (A.g [.p,.p,.p] [] [(7,i_ ((dI kc (fun v_=>v_.hl)).length:Int)),(8,i_ 0)] (A.y (A.lp (σ:=Nat) [] (fun k=>[(8,c_ k)]) [] (fun k=>[]) (fun k=>(k≤(dI kc (fun v_=>v_.hl)).length)∧(∀j y,j<k→(dI kc (fun v_=>v_.hl))[j]? =some y→qE kb y=false)) (fun k=>(dI kc (fun v_=>v_.hl)).length-k) (0:Nat) ⟨(by omega),(by intro j y hj;omega)⟩ ?_ ?_)))))))))))))))
 ·exact A.I [0,0]
 rintro k ⟨hk,hn⟩
 refine A.c (A.g [.p] [] [(9,b_ (decide ((k:Int)<((dI kc (fun v_=>v_.hl)).length:Int))))] (A.d (A.v rfl (fun e2=> ?_) (fun e2=> ?_))))
 ·have p2:=of_decide_eq_true e2
  refine A.p (A.d (A.y (A.c (A.g [.p,.p] [9] [(5,c_ k)] (A.c (A.kp [.p,.p,.p,.ix] [] [(11,.func (.func 106) #[] #[p_ b1]),(14,.pointer (some ((dV al'2).add (k*1))))] [] (o1 (dY 0 k fE rfl (by omega))) ?_))))))
  obtain⟨x5,hx5⟩: ∃x,((dI kc (fun v_=>v_.hl)))[k]? =some x:=⟨_,List.getElem?_eq_getElem (by omega)⟩
  refine A.k [.rd [i_ x5],.cq (b_ (qE kb x5))] [11,14] [(16,b_ (qE kb x5))] [] (oc (ro ((dV al'2).add (k*1)) (fY (vs:=[i_ x5]) fE (fa (i:=0) rfl) hx5 (Nat.le_of_ble_eq_true rfl) rfl)) (o1 (qo (fun ww ss=>I0 sb lt lm bt my kb ab eb mk ck ac b1 x5 (IZ hB ‹_›) ww (ss.mem (i:=1) rfl) (da ss r0) (da ss r3))))) (A.v rfl (fun e3=> ?_) (fun e3=> ?_))
  ·have p3:=e3;try simp only[de] at p3
   refine A.c (A.g [.p,.p] [0,1,7,8,5,16] [(4,c_ k)] (A.e (A.pb [c_ k] (A.h [.p] [(0,vS al'2 (dI kc (fun v_=>v_.hl)) cl'3),(Aa b1),(5,c_ k)] [] (A.d (A.c (A.g [.p,.p] [] [(12,b_ ((k:Int)==(-1)))] (A.v rfl (fun e4=> ?_) (fun e4=> ?_)))))))))
   ·have p4:=e4;try simp only[de] at p4
    refine A.c (A.g [.p,.p] [0,1,5,12] [(4,vS al'2 (dI kc (fun v_=>v_.hl)) cl'3)] (A.e (A.pb [vS al'2 (dI kc (fun v_=>v_.hl)) cl'3] (A.h [.p] [(2,vS al'2 (dI kc (fun v_=>v_.hl)) cl'3)] [] (A.e (A.su 0 (sI al'2 (fD kc kb) cl'3) rfl (eI ((xA hB (by omega) hn).symm:(dI kc (fun v_=>v_.hl))=(fD kc kb))) (A.Y [0] [vS al'2 (dI kc (fun v_=>v_.hl)) cl'3] (al'2,cl'3) ?_ ?_)))))))
    ·show((vS al'2 (dI kc (fun v_=>v_.hl)) cl'3):Value)=(vS al'2 (fD kc kb) cl'3)
     rw[xA hB (by omega) hn]
    trivial
   have p4:=e4;try simp only[de] at p4
   refine A.p (A.d (A.c (A.k [.p,.w ((k:Int)+1),.p] [12] [(6,i_ ((k:Int)+1))] [] (o1 (wj ((k:Int)+1) (by omega))) (A.y (A.ag (fun((j,i,ys):Nat×Nat×(List Int))=>[(Aa b1),(6,c_ j),(5,c_ i),(0,vS al'2 ys cl'3)]) (fun((j,i,ys):Nat×Nat×(List Int))=>[cz b1 [p_ sb] 102,sI al'2 ys cl'3]) (fun((j,i,ys):Nat×Nat×(List Int))=>(oY (qE kb) (dI kc (fun v_=>v_.hl)) j i ys)) (fun((j,i,ys):Nat×Nat×(List Int))=>(dI kc (fun v_=>v_.hl)).length-j) (k+1,k,dI kc (fun v_=>v_.hl)) (Jp ‹_› ‹_› hn) ?_ ?_)))))
   ·exact A.I [1,0]
   rintro⟨j,i,ys⟩ hD
   have hD:oY (qE kb) (dI kc (fun v_=>v_.hl)) j i ys:=hD
   have hDl:=hD.len;have hDj:=hD.jl;have hDe:=hD.le
   refine A.d (A.c (A.g [.p,.p,.p,.p] [] [(19,b_ (decide ((j:Int)<(ys.length:Int))))] (A.v rfl (fun e5=> ?_) (fun e5=> ?_))))
   ·have p5:=of_decide_eq_true e5
    refine A.p (A.d (A.y (A.c (A.kp [.p,.p,.ix] [19] [(24,.pointer (some ((dV al'2).add (j*1))))] [] (o1 (dY 1 j fE rfl (by omega))) ?_))))
    obtain⟨x6,hx6⟩: ∃x,(ys)[j]? =some x:=⟨_,List.getElem?_eq_getElem (by omega)⟩
    refine A.k [.rd [i_ x6],.p] [24] [(7,i_ x6)] [] (o1 (ro ((dV al'2).add (j*1)) (fY (vs:=[i_ x6]) fE (fa (i:=1) rfl) hx6 (Nat.le_of_ble_eq_true rfl) rfl))) (A.c (A.k [.p,.p,.cq (b_ (qE kb x6)),.p] [] [(29,b_ (!(qE kb x6)))] [] (o1 (qo (fun ww ss=>I0 sb lt lm bt my kb ab eb mk ck ac b1 x6 (IZ hB (L1 hD ‹_›)) ww (ss.mem (i:=0) rfl) (da ss r0) (da ss r3)))) (A.v rfl (fun e6=> ?_) (fun e6=> ?_))))
    ·have p6:=e6;try simp only[de] at p6
     refine A.c (A.kp [.p,.p,.p,.ix] [7,29] [(32,i_ x6),(33,.pointer (some ((dV al'2).add (i*1))))] [] (o1 (dY 1 i fE rfl (by omega))) (A.j (A.sS 1 i x6 rfl fE (by omega) (A.D 0 (vS al'2 (ys.set i x6) cl'3) (dm (by simp)) (A.aC (A.s (A.k [.p,.w ((i:Int)+1),.p] [32,33] [(5,i_ ((i:Int)+1))] [] (o1 (wj ((i:Int)+1) (by omega))) (A.s (A.k [.p,.w ((j:Int)+1),.p] [] [(6,i_ ((j:Int)+1))] [] (o1 (wj ((j:Int)+1) (by omega))) (A.aA (j+1,i+1,ys.set i x6) (KV hD ‹_› ‹_›) (by(show(dI kc (fun v_=>v_.hl)).length-(j+1)<(dI kc (fun v_=>v_.hl)).length-j;have h_:=hD.jl;have h2_:=hD.len;omega)) ?_))))))))))
     exact A.I [0,0]
    have p6:=e6;try simp only[de] at p6
    refine A.p (A.s (A.k [.p,.w ((j:Int)+1),.p] [7,29] [(6,i_ ((j:Int)+1))] [] (o1 (wj ((j:Int)+1) (by omega))) (A.aA (j+1,i,ys) (LZ hD ‹_› ‹_›) (by(show(dI kc (fun v_=>v_.hl)).length-(j+1)<(dI kc (fun v_=>v_.hl)).length-j;have h_:=hD.jl;have h2_:=hD.len;omega)) ?_)))
    exact A.I [0,0]
   have p5:=of_decide_eq_false e5
   refine A.aB (A.c (A.O [.p,.p] [1,6,19] [(36,vS al'2 ys cl'3),(37,c_ i)] (A.j (A.u (some 38) (vS (i4 al'2 cl'3 i 1) (ys.drop i) (cl'3-i)) (zC (e:=3) (xs:=ys) (sz:=1) i rfl rfl rfl (by kernel_rfl) (by kernel_rfl) (by omega) (fun ww ss=>Am (ss.mem (i:=1) rfl))) (A.j (A.cK (enc:=j9) (xs:=ys) 1 i 0 [cz b1 [p_ sb] 102,sI al'2 (ys.take i++List.replicate (ys.length-i) 0) cl'3] (by kernel_rfl) rfl rfl (by kernel_rfl) (by kernel_rfl) rfl rfl rfl (fun _=>rfl) (by omega) rfl rfl (A.aS [(5,c_ i),(0,vS al'2 (ys.take i++List.replicate (ys.length-i) 0) cl'3),(36,vS al'2 (ys.take i++List.replicate (ys.length-i) 0) cl'3),(37,c_ i),(38,vS (i4 al'2 cl'3 i 1) (ys.drop i) (cl'3-i))] (by exact⟨rfl,dm (by simp;omega),dm (by simp;omega),rfl,rfl,trivial⟩) (A.aC (A.c (A.O [.p,.p] [5,0,36,37,38] [(39,vS al'2 (ys.take i++List.replicate (ys.length-i) 0) cl'3),(40,c_ i)] (A.j (A.u (some 41) (vS al'2 ((ys.take i++List.replicate (ys.length-i) 0).take i) cl'3) (Ek (e:=3) (xs:=(ys.take i++List.replicate (ys.length-i) 0)) (sz:=1) i rfl rfl rfl (by kernel_rfl) (by kernel_rfl) (by(simp;(have h1_:=hD.le;have h2_:=hD.jl;have h3_:=hD.len;omega))) (fun ww ss=>Am (ss.mem (i:=1) rfl))) (A.g [.p] [39,40,41] [(4,vS al'2 ((ys.take i++List.replicate (ys.length-i) 0).take i) cl'3)] ?_)))))))))))))
   have hcut:((ys.take i++List.replicate (ys.length-i) 0)).take i=(fD kc kb):=by have h1_:=hD.le;have h2_:=hD.jl;have h3_:=hD.len;rw[List.take_append_of_le_length (by simp;omega),List.take_take,Nat.min_self];exact L0 hD (by show(dI kc (fun v_=>v_.hl)).length≤_;omega)
   refine A.cQ 1 i (fD kc kb) (fun _=>rfl) hcut rfl rfl ?_
   refine A.aS [(4,vS al'2 (fD kc kb) cl'3)] ⟨fJ hcut,trivial⟩ ?_
   refine A.e (A.pb [vS al'2 (fD kc kb) cl'3] (A.h [.p] [(2,vS al'2 (fD kc kb) cl'3)] [] (A.e (A.Y [0] [vS al'2 (fD kc kb) cl'3] (al'2,cl'3) ?_ ?_))))
   ·rfl
   trivial
  have p3:=e3;try simp only[de] at p3
  refine A.p (A.s (A.k [.w ((k:Int)+1),.p] [5,16] [(8,i_ ((k:Int)+1))] [] (o1 (wj ((k:Int)+1) (by omega))) (A.aA (k+1) ⟨(by omega),(by intro j y hj_ hy_;rcases Nat.lt_succ_iff_lt_or_eq.1 hj_ with h_|rfl;exact hn j y h_ hy_;simp_all)⟩ (by(show(dI kc (fun v_=>v_.hl)).length-(k+1)<(dI kc (fun v_=>v_.hl)).length-k;omega)) ?_)))
  exact A.I [0,0]
 have p2:=of_decide_eq_false e2
 refine A.aB (A.c (A.g [.p] [0,1,7,8,9] [(4,i_ (-1))] (A.e (A.pb [i_ (-1)] (A.h [.p] [(0,vS al'2 (dI kc (fun v_=>v_.hl)) cl'3),(Aa b1),(5,i_ (-1))] [] (A.d (A.c (A.g [.p,.p] [] [(12,b_ true)] (A.ct (A.c (A.g [.p,.p] [0,1,5,12] [(4,vS al'2 (dI kc (fun v_=>v_.hl)) cl'3)] (A.e (A.pb [vS al'2 (dI kc (fun v_=>v_.hl)) cl'3] (A.h [.p] [(2,vS al'2 (dI kc (fun v_=>v_.hl)) cl'3)] [] (A.e (A.su 0 (sI al'2 (fD kc kb) cl'3) rfl (eI ((xA hB (by omega) hn).symm:(dI kc (fun v_=>v_.hl))=(fD kc kb))) (A.Y [0] [vS al'2 (dI kc (fun v_=>v_.hl)) cl'3] (al'2,cl'3) ?_ ?_)))))))))))))))))
 ·show((vS al'2 (dI kc (fun v_=>v_.hl)) cl'3):Value)=(vS al'2 (fD kc kb) cl'3)
  rw[xA hB (by omega) hn]
 trivial
def nm(kc:List (Int×Cl))(kb:List (Int×En))(c:Int):Bool:=(fD kc kb).any fun lf=>(dc kc lf).contains c
theorem PR{c:Int}(hk:l.length≤k)(hn: ∀j y,j<k→l[j]? =some y→c≠y):l.contains c=false:=by
 rw[Bool.eq_false_iff];intro h
 rw[List.contains_iff_mem] at h
 obtain⟨j,h1,h2⟩:=List.getElem_of_mem h
 exact hn j c (by omega) (by rw[←h2];exact List.getElem?_eq_getElem h1) rfl
theorem NV{c y:Int}(hk:l[k]? =some y)(h:c=y):l.contains c=true:=by
 rw[List.contains_iff_mem,h];exact List.mem_of_getElem? hk
theorem Ab(hk:l.length≤k)(hn: ∀j y,j<k→l[j]? =some y→p y=false):l.any p=false:=by
 rw[Bool.eq_false_iff];intro h
 rw[List.any_eq_true] at h
 obtain⟨x,hx,hp⟩:=h
 obtain⟨j,h1,h2⟩:=List.getElem_of_mem hx
 rw[hn j x (by omega) (by rw[←h2];exact List.getElem?_eq_getElem h1)] at hp;cases hp
theorem Fg{y:Int}(hk:l[k]? =some y)(h:p y=true):l.any p=true:=List.any_eq_true.2 ⟨y,List.mem_of_getElem? hk,h⟩
abbrev pJ(p0):=(b_ (decide ((p0:Int)≥0)):Value)
theorem SB(sb:Nat)(lt lm:Int)(bt mc:Nat)(kc:List (Int×Cl))(my:Nat)(ab eb mk:Nat)(ck ac:Int)(b1 b2:Nat)(ci li:Int)(hL:eA kc)(w:World)(r0:(cz b1 [p_ sb] 102).holds w)(r1:(cz b2 [i_ ci] 3).holds w)(r2:(cz sb [i_ lt,i_ lm,p_ bt,.map (some my),p_ ab,p_ eb,.map (some mk),u_ ck,u_ ac] 141).holds w)(r3:(cz bt [.map (some mc)] 185).holds w)(r4:(di mc kc).holds w)(hs:HI w []):
  CV 99 #[i_ li,p_ b1,p_ b2] w [] (fun(zz:Unit)=>(b_ ((dc kc li).contains ci))) (fun _=>True) fun _=>[]:=by
 have hul:=zR hL li
 refine A.C Tryz.func99 rfl hs (A.c (A.g [.p] [] [] (A.d (A.d3 [5,7] 9 [] (A.bO 3 [.rd [p_ sb],.p,.p,.rd [p_ bt],.p,.rd [i_ ci]] [0,1,2,3,4,6] [(8,p_ bt),(9,i_ li),(11,i_ ci)] [] (.refl _) (oc (ro ⟨b1,0,none⟩ (vs:=[p_ sb]) (dj r0 rfl)) (oc (ro ⟨sb,2,none⟩ (vs:=[p_ bt]) (dj r2 rfl)) (o1 (ro ⟨b2,0,none⟩ (vs:=[i_ ci]) (dj r1 rfl))))) (A.o3 5 rfl (A.J (some 10) [] (fun ww ss hh=>CH bt mc kc li (by assumption) ww (da ss r3) (da ss r4) hh) ?_)))))))
 rintro⟨al'1,cl'2⟩-
 refine A.aI (sd [0]) (A.o3 7 rfl (A.iX (some 12) [vS al'1 (dc kc li) cl'2,i_ ci] Tryz.func100 rfl (A.c (A.g [.p] [] [] (A.c (A.O [.p,.p] [0,1] [(5,vS al'1 (dc kc li) cl'2),(6,i_ ci)] (A.j (A.iX (some 7) [vS al'1 (dc kc li) cl'2,i_ ci] Tryz.func141 rfl (A.c (A.g [.p] [] [] (A.d (A.c (A.g [.p,.p,.p] [] [(7,i_ ((dc kc li).length:Int)),(8,i_ 0)] (A.y (A.lp (σ:=Nat) [] (fun k=>[(8,c_ k)]) [] (fun k=>[]) (fun k=>(k≤(dc kc li).length)∧(∀j y,j<k→(dc kc li)[j]? =some y→ci≠y)) (fun k=>(dc kc li).length-k) (0:Nat) ⟨(by omega),(by intro j y hj;omega)⟩ ?_ ?_)))))))))))))))
 ·exact A.I [0]
 rintro k ⟨hk,hn⟩
 refine A.c (A.g [.p] [] [(9,b_ (decide ((k:Int)<((dc kc li).length:Int))))] (A.d (A.v rfl (fun e2=> ?_) (fun e2=> ?_))))
 ·have p2:=of_decide_eq_true e2
  refine A.p (A.d (A.y (A.c (A.g [.p,.p] [9] [(5,c_ k)] (A.c (A.kp [.p,.p,.p,.ix] [] [(11,i_ ci),(14,.pointer (some ((dV al'1).add (k*1))))] [] (o1 (dY 0 k fE rfl (by omega))) ?_))))))
  obtain⟨x4,hx4⟩: ∃x,((dc kc li))[k]? =some x:=⟨_,List.getElem?_eq_getElem (by omega)⟩
  refine A.k [.rd [i_ x4],.p] [11,14] [(16,b_ (ci==x4))] [] (o1 (ro ((dV al'1).add (k*1)) (fY (vs:=[i_ x4]) fE (fa (i:=0) rfl) hx4 (Nat.le_of_ble_eq_true rfl) rfl))) (A.v rfl (fun e3=> ?_) (fun e3=> ?_))
  ·refine A.c (A.g [.p,.p] [0,1,7,8,5,16] [(4,c_ k)] (A.e (A.pb [c_ k] (A.h [.p,.p] [(4,pJ k)] [] (A.e (A.pb [pJ k] (A.aI (sd [0]) (A.bT 0 [.p] [8] [(4,pJ k)] [] (sd [0]) (A.f3 (A.e (A.Y [] [pJ k] () ?_ ?_)))))))))))
   ·(rw[NV ‹_› (by(simp_all;done))]<;>rfl)
   trivial
  have p3:=e3
  refine A.p (A.s (A.k [.w ((k:Int)+1),.p] [5,16] [(8,i_ ((k:Int)+1))] [] (o1 (wj ((k:Int)+1) (by omega))) (A.aA (k+1) ⟨(by omega),(by intro j y hj_ hy_;rcases Nat.lt_succ_iff_lt_or_eq.1 hj_ with h_|rfl;exact hn j y h_ hy_;simp_all)⟩ (by(show(dc kc li).length-(k+1)<(dc kc li).length-k;omega)) ?_)))
  exact A.I [0]
 have p2:=of_decide_eq_false e2
 refine A.aB (A.c (A.g [.p] [0,1,7,8,9] [(4,i_ (-1))] (A.e (A.pb [i_ (-1)] (A.h [.p,.p] [(4,b_ false)] [] (A.e (A.pb [b_ false] (A.aI (sd [0]) (A.bT 0 [.p] [8] [(4,b_ false)] [] (sd [0]) (A.f3 (A.e (A.Y [] [b_ false] () ?_ ?_))))))))))))
 ·(rw[PR (by omega) hn]<;>first|rfl|(refine congrArg Value.bool ?_;simp;done)|(refine congrArg Value.bool ?_;simp;omega))
 trivial
theorem PS(sb:Nat)(lt lm:Int)(bt mc:Nat)(kc:List (Int×Cl))(my:Nat)(kb:List (Int×En))(ab eb mk:Nat)(ck ac:Int)(ci:Int)(hL:eA kc)(hB:fG kc kb)(w:World)(r0:(cz sb [i_ lt,i_ lm,p_ bt,.map (some my),p_ ab,p_ eb,.map (some mk),u_ ck,u_ ac] 141).holds w)(r1:(cz bt [.map (some mc)] 185).holds w)(r2:(di mc kc).holds w)(r3:(eN my kb).holds w)(hs:HI w []):
  CV 69 #[p_ sb,i_ ci] w [] (fun(zz:Unit)=>(b_ (nm kc kb ci))) (fun _=>True) fun _=>[]:=by
 have hkl:=hL.len
 have hkf:=ns kc (fun v_=>v_.hl)
 have hlf:(fD kc kb).length≤64:=Nat.le_trans (List.length_filter_le _ _) (by unfold tB;omega)
 refine A.C Tryz.func69 rfl hs (A.c (A.n2 [.al,.al,.p] [0,1] (fun b1 b2=>[(2,p_ b1),(3,p_ b2)]) (fun b1 b2=>[cz b1 [p_ sb] 102,cz b2 [i_ ci] 3]) ?_))
 intro b1 b2
 refine A.c (A.gm [.ld 0] [] [(5,p_ sb)] [b1] (A.j (A.J (some 6) [] (fun ww ss hh=>yt sb lt lm bt mc kc my kb ab eb mk ck ac ‹_› ‹_› ww (da ss r0) (da ss r1) (da ss r2) (da ss r3) hh) ?_)))
 rintro⟨al'3,cl'4⟩-
 refine A.O [.p] [2,3,5] [(6,vS al'3 (fD kc kb) cl'4),(7,.func (.func 99) #[] #[p_ b1,p_ b2])] (A.j (A.iX (some 8) [vS al'3 (fD kc kb) cl'4,.func (.func 99) #[] #[p_ b1,p_ b2]] Tryz.func68 rfl (A.c (A.g [.p] [] [] (A.c (A.O [.p,.p] [0,1] [(5,vS al'3 (fD kc kb) cl'4),(6,.func (.func 99) #[] #[p_ b1,p_ b2])] (A.j (A.iX (some 7) [vS al'3 (fD kc kb) cl'4,.func (.func 99) #[] #[p_ b1,p_ b2]] Tryz.func98 rfl (A.c (A.g [.p] [] [] (A.d (A.c (A.g [.p,.p,.p] [] [(7,i_ ((fD kc kb).length:Int)),(8,i_ 0)] (A.y (A.lp (σ:=Nat) [] (fun k=>[(8,c_ k)]) [] (fun k=>[]) (fun k=>(k≤(fD kc kb).length)∧(∀j y,j<k→(fD kc kb)[j]? =some y→(dc kc y).contains ci=false)) (fun k=>(fD kc kb).length-k) (0:Nat) ⟨(by omega),(by intro j y hj;omega)⟩ ?_ ?_)))))))))))))))
 ·exact A.I [0,0,0]
 rintro k ⟨hk,hn⟩
 refine A.c (A.g [.p] [] [(9,b_ (decide ((k:Int)<((fD kc kb).length:Int))))] (A.d (A.v rfl (fun e2=> ?_) (fun e2=> ?_))))
 ·have p2:=of_decide_eq_true e2
  refine A.p (A.d (A.y (A.c (A.g [.p,.p] [9] [(5,c_ k)] (A.c (A.kp [.p,.p,.p,.ix] [] [(11,.func (.func 99) #[] #[p_ b1,p_ b2]),(14,.pointer (some ((dV al'3).add (k*1))))] [] (o1 (dY 0 k fE rfl (by omega))) ?_))))))
  obtain⟨x6,hx6⟩: ∃x,((fD kc kb))[k]? =some x:=⟨_,List.getElem?_eq_getElem (by omega)⟩
  refine A.kp [.rd [i_ x6]] [14] [(15,i_ x6)] [] (o1 (ro ((dV al'3).add (k*1)) (fY (vs:=[i_ x6]) fE (fa (i:=0) rfl) hx6 (Nat.le_of_ble_eq_true rfl) rfl))) (A.j (A.J (some 16) [] (fun ww ss hh=>SB sb lt lm bt mc kc my ab eb mk ck ac b1 b2 ci x6 ‹_› ww (ss.mem (i:=1) rfl) (ss.mem (i:=2) rfl) (da ss r0) (da ss r1) (da ss r2) hh) ?_))
  rintro⟨⟩-
  refine A.aC (A.cn ((dc kc x6).contains ci) (fun e4=> ?_) (fun e4=> ?_))
  ·refine A.c (A.g [.p,.p] [0,1,7,8,5,11,15,16] [(4,c_ k)] (A.e (A.pb [c_ k] (A.h [.p,.p] [(4,pJ k)] [] (A.e (A.pb [pJ k] (A.h [.p] [(4,pJ k)] [] (A.e (A.Y [] [pJ k] () ?_ ?_)))))))))
   ·unfold nm;(rw[Fg ‹_› ‹_›]<;>rfl)
   trivial
  have p4:=e4
  refine A.p (A.s (A.k [.w ((k:Int)+1),.p] [5,11,15,16] [(8,i_ ((k:Int)+1))] [] (o1 (wj ((k:Int)+1) (by omega))) (A.aA (k+1) ⟨(by omega),(by intro j y hj_ hy_;rcases Nat.lt_succ_iff_lt_or_eq.1 hj_ with h_|rfl;exact hn j y h_ hy_;simp_all)⟩ (by(show(fD kc kb).length-(k+1)<(fD kc kb).length-k;omega)) ?_)))
  exact A.I [0,0,0]
 have p2:=of_decide_eq_false e2
 refine A.aB (A.c (A.g [.p] [0,1,7,8,9] [(4,i_ (-1))] (A.e (A.pb [i_ (-1)] (A.h [.p,.p] [(4,b_ false)] [] (A.e (A.pb [b_ false] (A.h [.p] [(4,b_ false)] [] (A.e (A.Y [] [b_ false] () ?_ ?_))))))))))
 ·unfold nm;(rw[Ab (by omega) hn]<;>first|rfl|(refine congrArg Value.bool ?_;simp;done)|(refine congrArg Value.bool ?_;simp;omega))
 trivial
def fA(W:World):V.dC where
 foot:=List.range W.heap.size
 holds w:=W.heap.size≤w.heap.size∧ ∀b,b<W.heap.size→w.heap[b]? =W.heap[b]?
 loc w w' h hw:=by
  have h2: ∀b,b<W.heap.size→w'.heap[b]? =W.heap[b]? :=fun b hb=>by rw[h b (List.mem_range.2 hb)];exact hw.2 b hb
  refine⟨?_,h2⟩
  rcases Nat.eq_zero_or_pos W.heap.size with e|e
  ·omega
  ·have:=h2 (W.heap.size-1) (by omega)
   rw[Array.getElem?_eq_getElem (show W.heap.size-1<W.heap.size by omega)] at this
   have:=(Array.getElem?_eq_some_iff.1 this).1;omega
 here w hw b hb:=by have:=List.mem_range.1 hb;have:=hw.1;omega
variable{A:Option Addr}{cs:List Value}
theorem NW{W w:World}(hw:(fA W).holds w)(h:ez W A cs):ez w A cs:=fun j u hu=>by
 obtain⟨h1,h2⟩:=h j u hu
 refine⟨h1,?_⟩
 have hlt:((dV A).add j).block<W.heap.size:=by
  rcases Nat.lt_or_ge ((dV A).add j).block W.heap.size with h'|h'
  ·exact h'
  ·simp[World.cell?,Array.getElem?_eq_none h'] at h2
 rw[←h2];unfold World.cell?;rw[hw.2 _ hlt]
theorem rW{w0:World}{S:List Nat}{H:List V.dC}{W:World}(hi:H[i]? =some (fA W))(h:ez W A cs):Rd w0 S H A cs:=fun _ s=>NW (s.mem hi) h
def xy(kc:List (Int×Cl))(i:Int)(kb:List (Int×En))(kk:List (Int×Vt))(kb':List (Int×En))(kk':List (Int×Vt)):Prop:=
 (fZ kc i≠0∧kb'=dL kb i∧kk'=dL kk i)∨(fZ kc i=0∧ ∃m,A7 (dF kc i) m∧kb'=dD (dL kb i) i m∧(((dF kc i).hl=true∧kk'=dL kk i)∨((dF kc i).hl=false∧ ∃v,v.kv=[]∧v.t=T.nil∧kk'=dD (dL kk i) i v)))
def od(kc:List (Int×Cl)):List Int→List (Int×En)→List (Int×Vt)→List (Int×En)→List (Int×Vt)→Prop
 |[],kb,kk,kb',kk'=>kb'=kb∧kk'=kk
 |i::l,kb,kk,kb',kk'=> ∃kb1 kk1,xy kc i kb kk kb1 kk1∧od kc l kb1 kk1 kb' kk'
variable{L:List Int}{i:Int}{kb1 kb':List (Int×En)}{kk kk1 kk':List (Int×Vt)}
theorem yu(hk:L[k]? =some i)(h1:xy kc i kb kk kb1 kk1)(h:od kc (L.drop (k+1)) kb1 kk1 kb' kk'):od kc (L.drop k) kb kk kb' kk':=by
 obtain⟨e1,e2⟩:=List.getElem?_eq_some_iff.1 hk
 rw[List.drop_eq_getElem_cons e1,e2];exact⟨kb1,kk1,h1,h⟩
theorem PT(h:xy kc i kb kk kb1 kk1)(hn:(kb.map (·.1)).Nodup):(kb1.map (·.1)).Nodup:=by
 rcases h with⟨-,h2,-⟩|⟨-,m,-,h3,-⟩
 ·subst h2;exact kR hn i
 ·subst h3;exact lM (kR hn i) i m
theorem HL: ∀{l:List Int}{kb kb':List (Int×En)}{kk kk':List (Int×Vt)},(kb.map (·.1)).Nodup→od kc l kb kk kb' kk'→ ∀i,(i∈l∨((cw kb i).map (·.ec)=cw kc i∧ ∀m,cw kb i=some m→jy m))→(cw kb' i).map (·.ec)=cw kc i∧ ∀m,cw kb' i=some m→jy m
 |[],kb,kb',kk,kk',hn,⟨h1,_⟩,i,hi=>by subst h1;exact hi.resolve_left (by simp)
 |j::l,kb,kb',kk,kk',hn,⟨kb1,kk1,hs,h⟩,i,hi=>by
  refine HL (PT hs hn) h i ?_
  by_cases e:j=i
  ·subst e
   right
   rcases hs with⟨h1,h2,-⟩|⟨h1,m,h2,h3,-⟩
   ·subst h2
    rw[iJ hn,if_pos rfl,I1 h1];exact⟨rfl,fun m h=>by cases h⟩
   ·subst h3
    have hs2:cw kc j=some (dF kc j):=by
     cases q:cw kc j with
     |none=>exact absurd q (Bh h1)
     |some c=>rw[ig q]
    rw[jN,hs2]
    exact⟨by simp[h2.1],fun m2 h=>by cases h;exact h2.2.1⟩
  ·rcases hi with hi|hi
   ·exact .inl ((List.mem_cons.1 hi).resolve_left (fun h=>e h.symm))
   ·right
    have hg:cw kb1 i=cw kb i:=by
     rcases hs with⟨-,h2,-⟩|⟨-,m,-,h3,-⟩
     ·subst h2;rw[iJ hn,if_neg e]
     ·subst h3;rw[gA,if_neg e,iJ hn,if_neg e]
    rw[hg];exact hi
variable{kw:List (Int×Cl)}
theorem vy(h:i∉eJ kc kw):cw kc i=cw kw i:=by
 refine Classical.byContradiction fun hne=>h (((w9 kc kw).2 i).2 ⟨?_,by unfold kO;simp[hne]⟩)
 cases e:cw kc i with
 |some c=>exact .inl (rJ e rfl)
 |none=>
  cases e2:cw kw i with
  |some c=>exact .inr (rJ e2 rfl)
  |none=>exact absurd (e.trans e2.symm) hne
theorem HM(hB:fG kc kb)(hn:(kb.map (·.1)).Nodup)(h:od kw (eJ kc kw) kb kk kb' kk'):fG kw kb':=fun i=>by
 refine HL hn h i ?_
 by_cases e:i∈eJ kc kw
 ·exact .inl e
 ·right;rw[←vy e];exact hB i
def rB(ym:List (Int×Pl)):List Int→List (Int×Int)→List (Int×MB)→List (Int×Int)→List (Int×MB)→Prop
 |[],on,ka,on',ka'=>on'=on∧ka'=ka
 |i::l,on,ka,on',ka'=> ∃on1 ka1 l1 e1,nj ym on ka i on1 ka1 l1 e1∧rB ym l on1 ka1 on' ka'
variable{on on':List (Int×Int)}{ka ka':List (Int×MB)}
theorem KW{ym:List (Int×Pl)}{on1:List (Int×Int)}{ka1:List (Int×MB)}{l1:List Int}{e1:Int}(hk:L[k]? =some i)(h1:nj ym on ka i on1 ka1 l1 e1)(h:rB ym (L.drop (k+1)) on1 ka1 on' ka'):rB ym (L.drop k) on ka on' ka':=by
 obtain⟨e1,e2⟩:=List.getElem?_eq_some_iff.1 hk
 rw[List.drop_eq_getElem_cons e1,e2];exact⟨_,_,_,_,h1,h⟩
def u6(kc:List (Int×Cl))(lt:Int)(idle:Bool)(kb:List (Int×En))(l:List Zc):Prop:=i7 kc lt l=0∧(eJ kc (dq kc l)).any (nm kc kb)=false∧((eJ kc (dq kc l)).any (mV kc (dq kc l))=false∨(idle=true∧fD kc kb=[]))
def Fh(lt:Int)(idle:Bool)(l:List Zc)(er:Int)(bt mc:Nat)(kc:List (Int×Cl))(kb:List (Int×En))(a:Ac)(on:List (Int×Int))(ka:List (Int×MB))(kk:List (Int×Vt))(bt' mc':Nat)(kc':List (Int×Cl))(kb':List (Int×En))(a':Ac)(on':List (Int×Int))(ka':List (Int×MB))(kk':List (Int×Vt)):Prop:=
 (er≠0∧ ¬u6 kc lt idle kb l∧bt'=bt∧mc'=mc∧kc'=kc∧kb'=kb∧a'=a∧on'=on∧ka'=ka∧kk'=kk)∨
 (er=0∧u6 kc lt idle kb l∧kc'=dq kc l∧od kc' (eJ kc kc') kb kk kb' kk'∧a'.ym=fL kc'∧rB a'.ym (fD kc' kb') [] [] on' ka')
theorem L2(hL:eA kc)(h:fZ kc i=0):(dF kc i).hl=true→(1≤(dF kc i).hk∧(dF kc i).hk≤64)∧1≤(dF kc i).hq∧(dF kc i).hq≤1048576:=by
 intro hl
 cases e:cw kc i with
 |none=>exact absurd e (Bh h)
 |some c=>
  rw[ig e] at hl⊢
  have h2:=(hL.key i c e).2
  unfold fe at h2
  rw[if_pos hl] at h2
  grind
abbrev oM(p0)(p1)(p2):=(dt (dF (dq p0 p1) p2))
abbrev kD(p0)(p1)(p2)(p3):=(vS p0 (eJ p1 (dq p1 p2)) p3:Value)
abbrev oN(p0)(p1):=(i_ ((eJ p0 (dq p0 p1)).length:Int):Value)
abbrev kE(p0)(p1):=(cz p0 [.map (some p1)] 185:V.dC)
abbrev mf(p0)(p1)(p2)(p3)(p4)(p5:Ac)(p6:Vt)(p7)(p8)(p9):=(cz p0 [i_ p1,i_ p2,p_ p3,.map (some p4),p_ p5.bs,p_ p6.be,.map (some p7),u_ p8,u_ p9] 141:V.dC)
theorem L6(sb:Nat)(lt lm:Int)(bt mc:Nat)(kc:List (Int×Cl))(my:Nat)(kb:List (Int×En))(a:Ac)(on:List (Int×Int))(ka:List (Int×MB))(tl:Vt)(et:T)(ek:List (Int×It))(mk:Nat)(kk:List (Int×Vt))(ck ac:Int)(W:World)(idle:Bool)(al:Option Addr)(l:List Zc)(cl:Nat)(harr:ez W al (V.dJ jL l))(hL:eA kc)(hK:lj kc)(hz: ∀z∈l,jD z)(hB:fG kc kb)(hnb:(kb.map (·.1)).Nodup):
  CS 46 #[p_ sb,b_ idle,vS al l cl] [mf sb lt lm bt my a tl mk ck ac,kE bt mc,di mc kc,eN my kb,eS a on ka,ew tl et ek,eP mk kk,fA W] (fun((pl,er,bt',mc',kc',kb',a',on',ka',kk'):Int×Int×Nat×Nat×(List (Int×Cl))×(List (Int×En))×Ac×(List (Int×Int))×(List (Int×MB))×(List (Int×Vt)))=>(.tuple #[i_ pl,i_ er])) (fun(pl,er,bt',mc',kc',kb',a',on',ka',kk')=>Fh lt idle l er bt mc kc kb a on ka kk bt' mc' kc' kb' a' on' ka' kk') fun(pl,er,bt',mc',kc',kb',a',on',ka',kk')=>[mf sb lt lm bt' my a' tl mk ck ac,kE bt' mc',di mc' kc',eN my kb',eS a' on' ka',ew tl et ek,eP mk kk',fA W]:=by
 intro w hs
 have hkl:=hL.len
 have hL3:=AS (l:=l) hL
 have hkl3:=hL3.len
 have htl:=AT kc (dq kc l)
 refine A.C Tryz.func46 rfl hs (A.c (A.g [.p,.p] [] [] (A.d (A.c (A.g [.p,.p] [] [(19,b_ false)] (A.Z (A.p (A.d ?_))))))))
 by_cases htr:i7 kc lt l=0
 ·refine A.W [10] 18 (A.dT 8 [.p,.p,.p,.ld 0,.p,.p,.p,.p,.ld 0,.p] [0,1,2,3,4,5,6,7,8,9] [2,19] [(24,p_ bt),(29,i_ lt),(30,vS al l cl)] [sb,sb] (A.F 10 rfl (A.J (some 31) [] (fun ww ss hh=>RF bt mc kc lt al l cl ‹_› ‹_› ‹_› ‹_› ww (ss.mem (i:=1) rfl) (ss.mem (i:=2) rfl) ((rW (i:=7) rfl harr) ww ss) hh) ?_)))
  rintro⟨bc1,mx2⟩-
  refine A.E (A.dT 0 [.p,.p,.p,.p,.p,.p,.p] [11,12,13,14,15,16,17] [24,29,30,31] [(8,p_ bc1),(9,i_ 0),(10,i_ 0)] [] (A.M (A.d (A.c (A.g [.p,.p] [] [(36,b_ false)] (A.Z (A.p (A.c (A.gm [.p,.p,.p,.ld 2,.p] [9,10,36] [(42,p_ bt),(43,p_ bc1)] [sb] (A.j (A.J (some 44) [] (fun ww ss hh=>II bt mc kc bc1 mx2 (dq kc l) ‹_› ‹_› ww (ss.mem (i:=3) rfl) (ss.mem (i:=4) rfl) (ss.mem (i:=0) rfl) (ss.mem (i:=1) rfl) hh) ?_)))))))))))
  rintro⟨al'3,cl'4⟩-
  refine A.g [.p] [42,43,44] [(11,kD al'3 kc l cl'4)] (A.bU (fun(zz:Unit)=>match zz with|_=>[(0,p_ sb),(8,p_ bc1),(11,kD al'3 kc l cl'4)]) (fun(zz:Unit)=>match zz with|_=>[sI al'3 (eJ kc (dq kc l)) cl'4,kE bc1 mx2,di mx2 (dq kc l),mf sb lt lm bt my a tl mk ck ac,kE bt mc,di mc kc,eN my kb,eS a on ka,ew tl et ek,eP mk kk,fA W]) (fun(zz:Unit)=>match zz with|_=>(u6 kc lt idle kb l)) ?_ ?_)
  ·refine A.c (A.O [.p,.p,.p] [] [(45,kD al'3 kc l cl'4),(47,.func (.func 69) #[p_ sb] #[])] (A.j (A.iX (some 48) [kD al'3 kc l cl'4,.func (.func 69) #[p_ sb] #[]] Tryz.func68 rfl (A.c (A.g [.p] [] [] (A.c (A.O [.p,.p] [0,1] [(5,kD al'3 kc l cl'4),(6,.func (.func 69) #[p_ sb] #[])] (A.j (A.iX (some 7) [kD al'3 kc l cl'4,.func (.func 69) #[p_ sb] #[]] Tryz.func98 rfl (A.c (A.g [.p] [] [] (A.d (A.c (A.g [.p,.p,.p] [] [(7,oN kc l),(8,i_ 0)] (A.y (A.lp (σ:=Nat) [] (fun k=>[(8,c_ k)]) [] (fun k=>[]) (fun k=>(k≤(eJ kc (dq kc l)).length)∧(∀j y,j<k→(eJ kc (dq kc l))[j]? =some y→nm kc kb y=false)) (fun k=>(eJ kc (dq kc l)).length-k) (0:Nat) ⟨(by omega),(by intro j y hj;omega)⟩ ?_ ?_))))))))))))))))
   ·exact A.I [0,0,0,0,0,0,0,0,0,0,0]
   rintro k ⟨hk,hn⟩
   refine A.c (A.g [.p] [] [(9,b_ (decide ((k:Int)<((eJ kc (dq kc l)).length:Int))))] (A.d (A.v rfl (fun e3=> ?_) (fun e3=> ?_))))
   ·have p3:=of_decide_eq_true e3
    refine A.p (A.d (A.y (A.c (A.g [.p,.p] [9] [(5,c_ k)] (A.c (A.kp [.p,.p,.p,.ix] [] [(11,.func (.func 69) #[p_ sb] #[]),(14,.pointer (some ((dV al'3).add (k*1))))] [] (o1 (dY 0 k fE rfl (by omega))) ?_))))))
    obtain⟨x6,hx6⟩: ∃x,((eJ kc (dq kc l)))[k]? =some x:=⟨_,List.getElem?_eq_getElem (by omega)⟩
    refine A.hq [.rd [i_ x6]] [(0,kD al'3 kc l cl'4),(1,.func (.func 69) #[p_ sb] #[]),(7,oN kc l),(8,c_ k),(5,c_ k),(11,.func (.func 69) #[p_ sb] #[]),(15,i_ x6)] [] (o1 (ro ((dV al'3).add (k*1)) (fY (vs:=[i_ x6]) fE (fa (i:=0) rfl) hx6 (Nat.le_of_ble_eq_true rfl) rfl))) (A.j (A.J (some 16) [] (fun ww ss hh=>PS sb lt lm bt mc kc my kb a.bs tl.be mk ck ac x6 ‹_› ‹_› ww (ss.mem (i:=3) rfl) (ss.mem (i:=4) rfl) (ss.mem (i:=5) rfl) (ss.mem (i:=6) rfl) hh) ?_))
    rintro⟨⟩-
    refine A.aC (A.v rfl (fun e5=> ?_) (fun e5=> ?_))
    ·have p5:=e5;try simp only[de] at p5
     refine A.c (A.g [.p,.p] [0,1,7,8,5,11,15,16] [(4,c_ k)] (A.e (A.pb [c_ k] (A.h [.p,.p] [(4,b_ (decide ((k:Int)≥0)))] [] (A.e (A.pb [b_ (decide ((k:Int)≥0))] (A.hp [.p] [(0,p_ sb),(1,b_ idle),(8,p_ bc1),(11,kD al'3 kc l cl'4),(49,b_ (decide ((k:Int)≥0)))] [] (A.aR (decide ((k:Int)≥0)) (fun e6=> ?_) (fun e6=> ?_)))))))))
     ·refine A.D 49 (b_ true) (gw e6) (A.g [.sk,.sk,.sk,.sk,.sk,.sk,.sk,.sk,.sk,.sk,.sk,.sk,.sk,.sk,.sk,.sk,.p] [1,49] [(66,b_ true)] (A.ct (A.c (A.g [.p,.p] [0,8,11,66] [(6,i_ 0),(7,i_ 24)] (A.e (A.Y [3,3,3,3,3,3,3,3] [i_ 0,i_ 24] (0,24,bt,mc,kc,kb,a,on,ka,kk) ?_ ?_))))))
      ·rfl
      exact .inl ⟨by decide,(fun h_=>by obtain⟨h1_,h2_,h3_⟩:=h_;(have h4_:=Fg (p:=nm kc kb) ‹_› ‹_›;rw[h4_] at h2_;cases h2_;done)),rfl,rfl,rfl,rfl,rfl,rfl,rfl,rfl⟩
     exact absurd e6 (by(intro h_;(simp at h_;done)))
    have p5:=e5;try simp only[de] at p5
    refine A.p (A.s (A.k [.w ((k:Int)+1),.p] [5,11,15,16] [(8,i_ ((k:Int)+1))] [] (o1 (wj ((k:Int)+1) (by omega))) (A.aA (k+1) ⟨(by omega),(by intro j y hj_ hy_;rcases Nat.lt_succ_iff_lt_or_eq.1 hj_ with h_|rfl;exact hn j y h_ hy_;simp_all)⟩ (by(show(eJ kc (dq kc l)).length-(k+1)<(eJ kc (dq kc l)).length-k;omega)) ?_)))
    exact A.I [0,0,0,0,0,0,0,0,0,0,0]
   have p3:=of_decide_eq_false e3
   refine A.aB (A.c (A.g [.p] [0,1,7,8,9] [(4,i_ (-1))] (A.e (A.pb [i_ (-1)] (A.h [.p,.p] [(4,b_ false)] [] (A.e (A.pb [b_ false] (A.hq [.p,.p,.p,.p,.ld 3,.p,.cq (b_ ((eJ kc (dq kc l)).any (mV kc (dq kc l)))),.p] [(0,p_ sb),(1,b_ idle),(8,p_ bc1),(11,kD al'3 kc l cl'4),(49,b_ false),(56,b_ ((eJ kc (dq kc l)).any (mV kc (dq kc l))))] [sb] (o1 (qo (fun ww ss=>RL bt mc kc bc1 mx2 (dq kc l) ‹_› ‹_› ww (ss.mem (i:=4) rfl) (ss.mem (i:=5) rfl) (ss.mem (i:=1) rfl) (ss.mem (i:=2) rfl)))) (A.aR (((eJ kc (dq kc l)).any (mV kc (dq kc l)))) (fun e7=> ?_) (fun e7=> ?_))))))))))
   ·refine A.D 56 (b_ true) (gw e7) (A.O [.p,.p,.p] [1] [(59,b_ (!idle))] (A.aR (!idle) (fun e8=> ?_) (fun e8=> ?_)))
    ·refine A.D 59 (b_ true) (gw e8) (A.g [.sk,.sk,.sk,.sk,.p,.p,.p] [49,56,59] [(66,b_ true)] (A.ct (A.c (A.g [.p,.p] [0,8,11,66] [(6,i_ 0),(7,i_ 24)] (A.e (A.Y [3,3,3,3,3,3,3,3] [i_ 0,i_ 24] (0,24,bt,mc,kc,kb,a,on,ka,kk) ?_ ?_))))))
     ·rfl
     exact .inl ⟨by decide,(fun h_=>by obtain⟨h1_,h2_,h3_⟩:=h_;(rcases h3_ with h_|⟨h_,h5_⟩;exact Bool.noConfusion (h_.symm.trans (by assumption:_=true));clear h2_ hn;simp_all;done)),rfl,rfl,rfl,rfl,rfl,rfl,rfl,rfl⟩
    refine A.D 59 (b_ false) (gw e8) (A.O [.p] [] [(60,p_ sb)] (A.j (A.J (some 61) [] (fun ww ss hh=>yt sb lt lm bt mc kc my kb a.bs tl.be mk ck ac ‹_› ‹_› ww (ss.mem (i:=3) rfl) (ss.mem (i:=4) rfl) (ss.mem (i:=5) rfl) (ss.mem (i:=6) rfl) hh) ?_)))
    rintro⟨al'7,cl'8⟩-
    refine A.g [.p,.p,.p,.p,.p] [49,56,59,60,61] [(66,b_ (decide (((fD kc kb).length:Int)>0)))] (A.v rfl (fun e10=> ?_) (fun e10=> ?_))
    ·have p10:=of_decide_eq_true e10
     refine A.c (A.g [.p,.p] [0,8,11,66] [(6,i_ 0),(7,i_ 24)] (A.e (A.Y [4,4,4,4,4,4,4,4] [i_ 0,i_ 24] (0,24,bt,mc,kc,kb,a,on,ka,kk) ?_ ?_)))
     ·rfl
     exact .inl ⟨by decide,(fun h_=>by obtain⟨h1_,h2_,h3_⟩:=h_;(rcases h3_ with h_|⟨h_,h5_⟩;exact Bool.noConfusion (h_.symm.trans (by assumption:_=true));clear h2_ hn;simp_all;done)),rfl,rfl,rfl,rfl,rfl,rfl,rfl,rfl⟩
    have p10:=of_decide_eq_false e10
    refine A.p (A.aN () (by exact⟨by assumption,Ab (by omega) hn,by(right;simp_all;done)⟩) ?_)
    exact A.I [1,1,1,1,1,1,1,1,1,1,1]
   refine A.D 56 (b_ false) (gw e7) (A.g [.sk,.sk,.sk,.sk,.sk,.sk,.sk,.sk,.p,.p] [1,49,56] [(66,b_ false)] (A.Z (A.p (A.aN () (by exact⟨by assumption,Ab (by omega) hn,by(left;simp_all;done)⟩) ?_))))
   exact A.I [0,0,0,0,0,0,0,0,0,0,0]
  rintro _ hch
  have hch:u6 kc lt idle kb l:=hch
  refine A.c (A.gs [.p,.p,.p,.p,.st 3] [] [] [(3,mf sb lt lm bc1 my a tl mk ck ac)] [sb] (A.d (A.c (A.g [.p,.p,.p] [11] [(71,kD al'3 kc l cl'4),(72,oN kc l),(73,i_ 0)] (A.y (A.lp (σ:=Nat×(List (Int×En))×(List (Int×Vt))) [] (fun(kt,kbk,kkk)=>[(73,c_ kt)]) [6,8] (fun(kt,kbk,kkk)=>[eN my kbk,eP mk kkk]) (fun(kt,kbk,kkk)=>(kt≤(eJ kc (dq kc l)).length)∧(∀kb' kk',od (dq kc l) ((eJ kc (dq kc l)).drop kt) kbk kkk kb' kk'→od (dq kc l) (eJ kc (dq kc l)) kb kk kb' kk')) (fun(kt,kbk,kkk)=>(eJ kc (dq kc l)).length-kt) (0,kb,kk) ⟨(by omega),(fun _ _ h=>h)⟩ ?_ ?_))))))
  ·exact A.I [6,8,0,0,0,0,0,0,0,0,0]
  rintro⟨kt,kbk,kkk⟩ ⟨hkt,hC⟩
  refine A.c (A.g [.p] [] [(74,b_ (decide ((kt:Int)<((eJ kc (dq kc l)).length:Int))))] (A.d (A.v rfl (fun e11=> ?_) (fun e11=> ?_))))
  ·have p11:=of_decide_eq_true e11
   refine A.p (A.d (A.y (A.c (A.kp [.ix] [74] [(75,.pointer (some ((dV al'3).add (kt*1))))] [] (o1 (dY 2 kt fE rfl (by omega))) ?_))))
   obtain⟨x10,hx10⟩: ∃x,((eJ kc (dq kc l)))[kt]? =some x:=⟨_,List.getElem?_eq_getElem (by omega)⟩
   refine A.k [.rd [i_ x10],.p] [75] [(13,i_ x10)] [] (o1 (ro ((dV al'3).add (kt*1)) (fY (vs:=[i_ x10]) fE (fa (i:=2) rfl) hx10 (Nat.le_of_ble_eq_true rfl) rfl))) (A.c (A.no [.p,.p,.cq (.tuple #[.agg (oM kc l x10).toArray,i_ (fZ (dq kc l) x10)]),.p,.p,.p,.al,.st 11,.p] [] (fun b11=>[(14,p_ b11),(15,i_ (fZ (dq kc l) x10))]) (fun b11=>[]) (fun b11=>cz b11 (oM kc l x10) 62) (fun b11=>[b11]) (fun b11=>o1 (qo (fun ww ss=>q8 bc1 mx2 (dq kc l) x10 ww (ss.mem (i:=3) rfl) (ss.mem (i:=4) rfl)))) ?_))
   intro b11
   refine A.c (A.gm [.p,.p,.p,.ld 5,.p] [] [(86,.map (some my)),(87,i_ x10)] [sb] (A.j (A.cF (f:=gK) (kt:=3) (et:=167) (ek:=(fun k:Int=>i_ k)) (ev:=(fun m:En=>p_ m.eb)) (kv:=kbk) (k:=x10) (H':=[eN my (dL kbk x10),eP mk kkk,sI al'3 (eJ kc (dq kc l)) cl'4,kE bc1 mx2,di mx2 (dq kc l),mf sb lt lm bc1 my a tl mk ck ac,kE bt mc,di mc kc,eS a on ka,ew tl et ek,fA W,cz b11 (oM kc l x10) 62]) 0 (by kernel_rfl) rfl rfl rfl (by kernel_rfl) (ee (by kernel_rfl)) rfl rfl (A.aC (A.c (A.hp [.p,.p,.p,.ld 5,.p] [(0,p_ sb),(8,p_ bc1),(71,kD al'3 kc l cl'4),(72,oN kc l),(73,c_ kt),(13,i_ x10),(14,p_ b11),(15,i_ (fZ (dq kc l) x10)),(91,.map (some mk)),(92,i_ x10)] [sb] (A.j (A.cF (f:=(eu 192)) (kt:=3) (et:=136) (ek:=(fun k:Int=>i_ k)) (ev:=(fun m:Vt=>p_ m.be)) (kv:=kkk) (k:=x10) (H':=[eP mk (dL kkk x10),eN my (dL kbk x10),sI al'3 (eJ kc (dq kc l)) cl'4,kE bc1 mx2,di mx2 (dq kc l),mf sb lt lm bc1 my a tl mk ck ac,kE bt mc,di mc kc,eS a on ka,ew tl et ek,fA W,cz b11 (oM kc l x10) 62]) 1 (by kernel_rfl) rfl rfl rfl (by kernel_rfl) (ee (by kernel_rfl)) rfl rfl (A.aC (A.d (A.c (A.h [.p,.p] [(0,p_ sb),(8,p_ bc1),(71,kD al'3 kc l cl'4),(72,oN kc l),(73,c_ kt),(13,i_ x10),(14,p_ b11),(15,i_ (fZ (dq kc l) x10)),(94,b_ ((fZ (dq kc l) x10)==0))] [] (A.v rfl (fun e12=> ?_) (fun e12=> ?_))))))))))))))
   ·have p12:=e12;try simp only[de] at p12
    refine A.d3 [6,7] 8 [eP mk (dL kkk x10),sI al'3 (eJ kc (dq kc l)) cl'4,kE bc1 mx2,di mx2 (dq kc l),mf sb lt lm bc1 my a tl mk ck ac,kE bt mc,di mc kc,eS a on ka,ew tl et ek,fA W,cz b11 (oM kc l x10) 62] (A.bT 2 [.p,.p,.p,.ld 4,.p,.ld 10] [0,1,2,3,4,5] [(0,p_ sb),(8,p_ bc1),(71,kD al'3 kc l cl'4),(72,oN kc l),(73,c_ kt),(13,i_ x10),(14,p_ b11),(15,i_ (fZ (dq kc l) x10)),(98,.map (some my)),(99,i_ x10),(100,.agg (oM kc l x10).toArray)] [sb,b11] (sd [1]) (A.o3 6 rfl (A.J (some 101) [] (fun ww ss hh=>NU (dF (dq kc l) x10) (L2 hL3 ‹_›) ww hh) ?_)))
    rintro m12 hz13
    refine A.aI (sd [2,0]) (A.o3 7 rfl (A.bQ (f:=gK) (kt:=3) (et:=167) (ek:=(fun k:Int=>i_ k)) (ev:=(fun m:En=>p_ m.eb)) (kv:=(dL kbk x10)) (k:=x10) (H':=[eN my (dD (dL kbk x10) x10 m12),eP mk (dL kkk x10),sI al'3 (eJ kc (dq kc l)) cl'4,kE bc1 mx2,di mx2 (dq kc l),mf sb lt lm bc1 my a tl mk ck ac,kE bt mc,di mc kc,eS a on ka,ew tl et ek,fA W,cz b11 (oM kc l x10) 62]) 2 0 m12 (by kernel_rfl) rfl rfl rfl rfl (by kernel_rfl) (ee (by kernel_rfl)) rfl rfl rfl (A.aI (sd [0]) (A.f3 (A.c (A.h [.p,.p,.p,.o,.p,.ld 11,.p,.cl] [(0,p_ sb),(8,p_ bc1),(71,kD al'3 kc l cl'4),(72,oN kc l),(73,c_ kt),(13,i_ x10),(108,b_ (((fZ (dq kc l) x10)==0)&&(!((dF (dq kc l) x10).hl))))] [b11] (A.v rfl (fun e14=> ?_) (fun e14=> ?_))))))))
    ·have p14:=e14;try simp only[de] at p14
     refine A.d3 [5,6] 7 [eN my (dD (dL kbk x10) x10 m12),sI al'3 (eJ kc (dq kc l)) cl'4,kE bc1 mx2,di mx2 (dq kc l),mf sb lt lm bc1 my a tl mk ck ac,kE bt mc,di mc kc,eS a on ka,ew tl et ek,fA W,cz b11 (oM kc l x10) 62] (A.bT 2 [.p,.p,.p,.ld 4,.p] [0,1,2,3,4] [(0,p_ sb),(8,p_ bc1),(71,kD al'3 kc l cl'4),(72,oN kc l),(73,c_ kt),(112,.map (some mk)),(113,i_ x10)] [sb] (sd [1]) (A.o3 5 rfl (A.J (some 114) [] (fun ww ss hh=>u0 ww hh) ?_)))
     rintro v13 hz15
     refine A.aI (sd [2,0]) (A.o3 6 rfl (A.bQ (f:=(eu 192)) (kt:=3) (et:=136) (ek:=(fun k:Int=>i_ k)) (ev:=(fun m:Vt=>p_ m.be)) (kv:=(dL kkk x10)) (k:=x10) (H':=[eP mk (dD (dL kkk x10) x10 v13),eN my (dD (dL kbk x10) x10 m12),sI al'3 (eJ kc (dq kc l)) cl'4,kE bc1 mx2,di mx2 (dq kc l),mf sb lt lm bc1 my a tl mk ck ac,kE bt mc,di mc kc,eS a on ka,ew tl et ek,fA W,cz b11 (oM kc l x10) 62]) 2 0 v13 (by kernel_rfl) rfl rfl rfl rfl (by kernel_rfl) (ee (by kernel_rfl)) rfl rfl rfl (A.aI (sd [0]) (A.f3 (A.s (A.hk [.w ((kt:Int)+1),.p] [(0,p_ sb),(8,p_ bc1),(71,kD al'3 kc l cl'4),(72,oN kc l),(73,i_ ((kt:Int)+1))] [] (o1 (wj ((kt:Int)+1) (by omega))) ?_))))))
     refine A.aA (kt+1,dD (dL kbk x10) x10 m12,dD (dL kkk x10) x10 v13) ⟨(by omega),(by exact fun _ _ h=>hC _ _ (yu ‹_› (.inr ⟨by assumption,_,by assumption,rfl,.inr ⟨by(simp_all;done),_,(by assumption:_∧_).1,(by assumption:_∧_).2,rfl⟩⟩) h))⟩ (by(show(eJ kc (dq kc l)).length-(kt+1)<(eJ kc (dq kc l)).length-kt;omega)) ?_
     exact A.I [1,0,0,0,0,0,0,0,0,0,0]
    have p14:=e14;try simp only[de] at p14
    refine A.p (A.s (A.k [.w ((kt:Int)+1),.p] [13,108] [(73,i_ ((kt:Int)+1))] [] (o1 (wj ((kt:Int)+1) (by omega))) (A.aA (kt+1,dD (dL kbk x10) x10 m12,dL kkk x10) ⟨(by omega),(by exact fun _ _ h=>hC _ _ (yu ‹_› (.inr ⟨by assumption,_,by assumption,rfl,.inl ⟨by(simp_all;done),rfl⟩⟩) h))⟩ (by(show(eJ kc (dq kc l)).length-(kt+1)<(eJ kc (dq kc l)).length-kt;omega)) ?_)))
    exact A.I [0,0,0,0,0,0,0,0,0,0,0]
   have p12:=e12;try simp only[de] at p12
   refine A.p (A.c (A.gl [.p,.p,.p,.o,.p,.ld 11,.p,.cl] [14,15,94] [(108,b_ (((fZ (dq kc l) x10)==0)&&(!((dF (dq kc l) x10).hl))))] [b11] (A.v rfl (fun e16=> ?_) (fun e16=> ?_))))
   ·exact absurd e16 (by(intro h_;simp_all))
   have p16:=e16;try simp only[de] at p16
   refine A.p (A.s (A.k [.w ((kt:Int)+1),.p] [13,108] [(73,i_ ((kt:Int)+1))] [] (o1 (wj ((kt:Int)+1) (by omega))) (A.aA (kt+1,dL kbk x10,dL kkk x10) ⟨(by omega),(fun _ _ h=>hC _ _ (yu ‹_› (.inl ⟨by assumption,rfl,rfl⟩) h))⟩ (by(show(eJ kc (dq kc l)).length-(kt+1)<(eJ kc (dq kc l)).length-kt;omega)) ?_)))
   exact A.I [1,0,0,0,0,0,0,0,0,0,0]
  have p11:=of_decide_eq_false e11
  refine A.aB (A.c (A.O [.p,.p] [8,71,72,73,74] [(116,p_ sb),(117,p_ bc1)] (A.j (A.J (some 118) [] (fun ww ss hh=>IU bc1 mx2 (dq kc l) (by omega) ww (ss.mem (i:=3) rfl) (ss.mem (i:=4) rfl) hh) ?_))))
  rintro a14 hz17
  refine A.gs [.p,.p,.st 6] [116,117,118] [] [(6,mf sb lt lm bc1 my a14 tl mk ck ac)] [sb] (A.d (A.d ?_))
  have hB3:=HM hB hnb (hC _ _ (by rw[List.drop_eq_nil_of_le (by omega)];exact⟨rfl,rfl⟩))
  have hya:a14.ym=fL (dq kc l):=by assumption
  have hdp:=fun i=>hya▸tQ hL3 i
  have hlf:(fD (dq kc l) kbk).length≤64:=Nat.le_trans (List.length_filter_le _ _) (Nat.le_trans (ns _ _) hL3.len)
  refine A.s (A.O [.p] [] [(121,p_ sb)] (A.j (A.J (some 122) [] (fun ww ss hh=>yt sb lt lm bc1 mx2 (dq kc l) my kbk a14.bs tl.be mk ck ac ‹_› ‹_› ww (ss.mem (i:=6) rfl) (ss.mem (i:=4) rfl) (ss.mem (i:=5) rfl) (ss.mem (i:=1) rfl) hh) ?_)))
  rintro⟨al'15,cl'16⟩-
  refine A.g [.p,.p] [121] [(122,vS al'15 (fD (dq kc l) kbk) cl'16),(123,i_ ((fD (dq kc l) kbk).length:Int)),(124,i_ 0)] (A.y (A.lp (σ:=Nat×(List (Int×Int))×(List (Int×MB))) [] (fun(k2,onk,kak)=>[(124,c_ k2)]) [1] (fun(k2,onk,kak)=>[eS a14 onk kak]) (fun(k2,onk,kak)=>(k2≤(fD (dq kc l) kbk).length)∧(∀on' ka',rB a14.ym ((fD (dq kc l) kbk).drop k2) onk kak on' ka'→rB a14.ym (fD (dq kc l) kbk) [] [] on' ka')) (fun(k2,onk,kak)=>(fD (dq kc l) kbk).length-k2) (0,[],[]) ⟨(by omega),(fun _ _ h=>h)⟩ ?_ ?_))
  ·exact A.I [1,0,0,0,0,0,0,0,0,0,0,0,0]
  rintro⟨k2,onk,kak⟩ ⟨hk2,hO⟩
  refine A.c (A.h [.p] [(0,p_ sb),(122,vS al'15 (fD (dq kc l) kbk) cl'16),(123,i_ ((fD (dq kc l) kbk).length:Int)),(124,c_ k2),(125,b_ (decide ((k2:Int)<((fD (dq kc l) kbk).length:Int))))] [] (A.d (A.v rfl (fun e19=> ?_) (fun e19=> ?_))))
  ·have p19:=of_decide_eq_true e19
   refine A.p (A.d (A.y (A.c (A.kp [.ix] [125] [(126,.pointer (some ((dV al'15).add (k2*1))))] [] (o1 (dY 1 k2 fE rfl (by omega))) ?_))))
   obtain⟨x18,hx18⟩: ∃x,((fD (dq kc l) kbk))[k2]? =some x:=⟨_,List.getElem?_eq_getElem (by omega)⟩
   refine A.k [.rd [i_ x18],.p] [126] [(17,i_ x18)] [] (o1 (ro ((dV al'15).add (k2*1)) (fY (vs:=[i_ x18]) fE (fa (i:=1) rfl) hx18 (Nat.le_of_ble_eq_true rfl) rfl))) (A.s (A.gm [.p,.p,.p,.ld 7,.p] [17] [(131,p_ a14.bs),(132,i_ x18)] [sb] (A.j (A.J (some 133) [0] (fun ww ss hh=>CG a14 onk kak x18 (hdp _) ww hh) ?_))))
   rintro⟨on'19,ka'20,al'21,l'22,cl'23,er24⟩ hz20
   refine A.aC (A.s (A.k [.w ((k2:Int)+1),.p] [131,132,133] [(124,i_ ((k2:Int)+1))] [] (o1 (wj ((k2:Int)+1) (by omega))) (A.aA (k2+1,on'19,ka'20) ⟨(by omega),(fun _ _ h=>hO _ _ (KW ‹_› ‹_› h))⟩ (by(show(fD (dq kc l) kbk).length-(k2+1)<(fD (dq kc l) kbk).length-k2;omega)) ?_)))
   exact A.I [0,1,1,1,1,1,1,1,1,1,1,1,1]
  have p19:=of_decide_eq_false e19
  refine A.aB (A.c (A.g [.p,.p] [0,122,123,124,125] [(6,i_ 0),(7,i_ 0)] (A.e (A.Y [7,5,5,2,0,6,1,5] [i_ 0,i_ 0] (0,0,bc1,mx2,dq kc l,kbk,a14,onk,kak,kkk) ?_ ?_))))
  ·rfl
  exact .inr ⟨rfl,hch,rfl,hC _ _ (by rw[List.drop_eq_nil_of_le (by omega)];exact⟨rfl,rfl⟩),by assumption,hO _ _ (by rw[List.drop_eq_nil_of_le (by omega)];exact⟨rfl,rfl⟩)⟩
 refine A.ka [.p,.p,.p,.ld 0,.p,.p,.p,.p,.ld 0,.p,.cq (.tuple #[n_,i_ (jb kc lt l),i_ (i7 kc lt l)]),.p,.p,.p,.p,.p,.p,.p] [0,1,2,3,4,5,6,7,8,9,10,11,12,13,14,15,16,17] [2,19] [(8,n_),(9,i_ (jb kc lt l)),(10,i_ (i7 kc lt l))] [sb,sb] (o1 (qo (fun ww ss=>O8 bt mc kc lt al l cl ‹_› ‹_› ‹_› ‹_› ww (ss.mem (i:=1) rfl) (ss.mem (i:=2) rfl) ((rW (i:=7) rfl harr) ww ss)))) (A.d (A.c (A.g [.p,.p] [] [(36,b_ ((i7 kc lt l)!=0))] (A.v rfl (fun e21=> ?_) (fun e21=> ?_)))))
 ·have p21:=e21;try simp only[de] at p21
  refine A.c (A.g [.p,.p,.p,.p] [0,1,8,9,10,36] [(6,i_ (jb kc lt l)),(7,i_ (i7 kc lt l))] (A.e (A.Y [0,0,0,0,0,0,0,0] [i_ (jb kc lt l),i_ (i7 kc lt l)] ((jb kc lt l),i7 kc lt l,bt,mc,kc,kb,a,on,ka,kk) ?_ ?_)))
  ·rfl
  exact .inl ⟨by assumption,(fun h_=>by obtain⟨h1_,h2_,h3_⟩:=h_;exact absurd h1_ htr),rfl,rfl,rfl,rfl,rfl,rfl,rfl,rfl⟩
 exact absurd e21 (by(intro h_;simp at h_;exact htr h_))
structure Ss where
 sb:Nat
 lt:Int
 lm:Int
 my:Nat
 kp:Nat
 tl:Vt
structure Sd where
 bt:Nat
 mc:Nat
 kc:List (Int×Cl)
 kb:List (Int×En)
 a:Ac
 on:List (Int×Int)
 ka:List (Int×MB)
 et:T
 ek:List (Int×It)
 kk:List (Int×Vt)
 ck:Int
 ac:Int
def ku(c:Ss)(d:Sd):List V.dC:=[cz c.sb [i_ c.lt,i_ c.lm,p_ d.bt,.map (some c.my),p_ d.a.bs,p_ c.tl.be,.map (some c.kp),u_ d.ck,u_ d.ac] 141,cz d.bt [.map (some d.mc)] 185,di d.mc d.kc,eN c.my d.kb,eS d.a d.on d.ka,ew c.tl d.et d.ek,eP c.kp d.kk]
def fF(c:Ss)(d:Sd):V.dC:=co (ku c d)
structure oR(c:Ss)(d:Sd):Prop where
 lt1:1≤c.lt∧c.lt≤65536
 lm1:1≤c.lm∧c.lm≤16384
 laid:eA d.kc
 aok:lj d.kc
 by_:fG d.kc d.kb
 nb:(d.kb.map (·.1)).Nodup
 kd:j7 d.kc 600 d.kk
 ym:d.a.ym=fL d.kc
 el:eQ d.et d.ek
 len:d.ek.length≤600
 desc: ∀now,oL d.kb d.kk now 17 0
 pk: ∀i m,cw d.kb i=some m→ ∀p∈qC m.q,1≤p.qn∧p.qn≤16384
 ch: ∀now,(eY d.et d.kb d.kk now).2.2=true→ ∃m,cw d.kb (eY d.et d.kb d.kk now).1=some m∧qC m.q≠[]
def xz(d:Sd):Prop:=(d.kb.map (·.1)).Nodup∧(d.kk.map (·.1)).Nodup∧(d.on.map (·.1)).Nodup
variable{d:Sd}
theorem Ae{c:Ss}{w:World}(h:(fF c d).holds w):xz d:=by
 have h1:=h (eN c.my d.kb) (by simp[ku])
 have h2:=h (eP c.kp d.kk) (by simp[ku])
 have h3:=h (eS d.a d.on d.ka) (by simp[ku])
 exact⟨(mG h1).2,(oK h2).2,(show(fj d.a.mo d.on).holds w from h3 _ (by simp[im])).2⟩
def JE(d d':Sd):Prop:=d'.bt=d.bt∧d'.mc=d.mc∧d'.kc=d.kc∧d'.a=d.a∧xz d'
def pW(d:Sd)(now:Int)(z:Pd)(ok:Bool)(d':Sd):Prop:=JE d d'∧d'.ck=now∧d'.ac=d.ac∧IX d.kc (eY d.et d.kb d.kk now) z ok d.kb d.a.ym d.on d.ka d.et d.ek d.kk d'.kb d'.on d'.ka d'.et d'.ek d'.kk
def pa(c:Ss)(d:Sd)(now ci:Int)(p:Pk)(er:Int)(d':Sd):Prop:=JE d d'∧d'.ck=now∧Ik d.kc c.lm now ci p er d.kb d.a.ym d.on d.ka d.et d.ek d.kk d.ac d'.kb d'.on d'.ka d'.et d'.ek d'.kk d'.ac
def tt(c:Ss)(d:Sd)(idle:Bool)(l:List Zc)(er:Int)(d':Sd):Prop:=d'.et=d.et∧d'.ek=d.ek∧d'.ck=d.ck∧d'.ac=d.ac∧Fh c.lt idle l er d.bt d.mc d.kc d.kb d.a d.on d.ka d.kk d'.bt d'.mc d'.kc d'.kb d'.a d'.on d'.ka d'.kk∧xz d'
theorem PU(c:Ss)(d:Sd)(now:Int)(h:oR c d)(h1:d.ck≤now)(h2:now≤4611686018427387904)(w:World)(hs:HS w (dG [fF c d]) [fF c d] w):Calls Tryz.prog 114 #[p_ c.sb,u_ now] w fun e w'=> ∃zz:Pd×Bool×Sd,e= .returned (.tuple #[.agg (Be zz.1).toArray,b_ zz.2.1])∧pW d now zz.1 zz.2.1 zz.2.2∧Turn [fF c d] [fF c zz.2.2] w w':=by
 refine(PN c.sb c.lt c.lm d.bt d.mc d.kc c.my d.kb d.a d.on d.ka c.tl d.et d.ek c.kp d.kk d.ck d.ac now h.laid h.by_ h.kd h.ym h.el h.len (h.desc now) (h.ch now) h1 h2 w (HS.coS hs)).mono ?_
 rintro e w' ⟨⟨z,ok,kb',on',ka',et',ek',kk'⟩,a1,a2,a3⟩
 exact⟨(z,ok,{d with kb:=kb',on:=on',ka:=ka',et:=et',ek:=ek',kk:=kk',ck:=now}),a1,⟨⟨rfl,rfl,rfl,rfl,Ae (c:=c) ((Turn.coS a3).all _ (List.mem_singleton.2 rfl))⟩,rfl,rfl,a2⟩,Turn.coS a3⟩
theorem SD(c:Ss)(d:Sd)(now ci:Int)(p:Pk)(h:oR c d)(h1:d.ck≤now)(h2:now≤4611686018427387904)(w:World)(hs:HS w (dG [fF c d]) [fF c d] w):Calls Tryz.prog 76 #[p_ c.sb,u_ now,i_ ci,.agg (fR p).toArray] w fun e w'=> ∃zz:Int×Sd,e= .returned (i_ zz.1)∧pa c d now ci p zz.1 zz.2∧Turn [fF c d] [fF c zz.2] w w':=by
 refine(Ry c.sb c.lt c.lm d.bt d.mc d.kc c.my d.kb d.a d.on d.ka c.tl d.et d.ek c.kp d.kk d.ck d.ac now ci p h.laid h.by_ h.kd h.ym h.el h.len h.lm1.2 h1 h2 w (HS.coS hs)).mono ?_
 rintro e w' ⟨⟨er,kb',on',ka',et',ek',kk',ac'⟩,a1,a2,a3⟩
 exact⟨(er,{d with kb:=kb',on:=on',ka:=ka',et:=et',ek:=ek',kk:=kk',ck:=now,ac:=ac'}),a1,⟨⟨rfl,rfl,rfl,rfl,Ae (c:=c) ((Turn.coS a3).all _ (List.mem_singleton.2 rfl))⟩,rfl,a2⟩,Turn.coS a3⟩
theorem SE(c:Ss)(d:Sd)(h:oR c d)(w:World)(r:(fF c d).holds w):Calls Tryz.prog 119 #[p_ c.sb] w fun e w'=>e= .returned (u_ (kK d.et d.kk))∧Fr [] w w':=by
 have hv: ∃v,cw d.kk 0=some v∧eQ v.t v.kv:=by obtain⟨v,h1,h2,-⟩:=h.kd 0 (.inl rfl);exact⟨v,h1,h2⟩
 exact PQ c.sb c.lt c.lm d.bt d.mc d.kc c.my d.kb d.a d.on d.ka c.tl d.et d.ek c.kp d.kk d.ck d.ac h.el hv w (r _ (by simp[ku])) (r _ (by simp[ku])) (r _ (by simp[ku])) (r _ (by simp[ku])) (r _ (by simp[ku])) (r _ (by simp[ku])) (r _ (by simp[ku]))
theorem L8(c:Ss)(d:Sd)(W:World)(idle:Bool)(al:Option Addr)(l:List Zc)(cl:Nat)(h:oR c d)(ha:ez W al (V.dJ jL l))(hz: ∀z∈l,jD z)(w:World)(hs:HS w (dG [fF c d,fA W]) [fF c d,fA W] w):Calls Tryz.prog 46 #[p_ c.sb,b_ idle,vS al l cl] w fun e w'=> ∃zz:Int×Int×Sd,e= .returned (.tuple #[i_ zz.1,i_ zz.2.1])∧tt c d idle l zz.2.1 zz.2.2∧Turn [fF c d,fA W] [fF c zz.2.2,fA W] w w':=by
 refine(L6 c.sb c.lt c.lm d.bt d.mc d.kc c.my d.kb d.a d.on d.ka c.tl d.et d.ek c.kp d.kk d.ck d.ac W idle al l cl ha h.laid h.aok hz h.by_ h.nb w ?_).mono ?_
 ·have:=hs.coO (l:=ku c d) (R:=[fA W]);rwa[show dG [fF c d,fA W]=dG (ku c d++[fA W]) from mD _ _] at this
 rintro e w' ⟨⟨pl,er,bt',mc',kc',kb',a',on',ka',kk'⟩,a1,a2,a3⟩
 have h3:Turn [fF c d,fA W] [fF c {d with bt:=bt',mc:=mc',kc:=kc',kb:=kb',a:=a',on:=on',ka:=ka',kk:=kk'},fA W] w w':=Turn.coI (X:=[fA W]) (Y:=[fA W]) (Is:=ku c d) (Os:=ku c _) a3
 exact⟨(pl,er,{d with bt:=bt',mc:=mc',kc:=kc',kb:=kb',a:=a',on:=on',ka:=ka',kk:=kk'}),a1,⟨rfl,rfl,rfl,rfl,a2,Ae (h3.all _ (List.mem_cons_self ..))⟩,h3⟩
def gq:Int:=18446744073709551615
def mQ(kk:List (Int×Vt))(i:Int):Int:=iW (((cw kk i).map fun v:Vt=>v.t.toL).getD [])
def np(kc:List (Int×Cl))(p:Int):Prop:=p=0∨ ∃c,cw kc p=some c∧c.hl=false
structure TD(kc:List (Int×Cl))(A:Int→Prop)(kk:List (Int×Vt))(E:Int→Prop)(p:Int)(v:Vt):Prop where
 er:eQ v.t v.kv
 key: ∀i,cw v.kv i≠none↔A i∧(dF kc i).hp=p
 rng: ∀i y,cw v.kv i=some y→y.ka≤gq
 fit: ∀i y,cw v.kv i=some y→(dF kc i).hl=false→ ¬E i→mQ kk i≤y.va
def KT(kc:List (Int×Cl))(A:Int→Prop)(kk:List (Int×Vt))(E:Int→Prop):Prop:= ∀p,np kc p→ ∃v,cw kk p=some v∧TD kc A kk E p v
variable{B E E':Int→Prop}
theorem pE(h:KT kc B kk E)(he: ∀q,B q→E q→E' q):KT kc B kk E':=fun p hp=>by
 obtain⟨v,h1,h2⟩:=h p hp
 exact⟨v,h1,h2.er,h2.key,h2.rng,fun i y hy hl hn=>h2.fit i y hy hl fun hE=>hn (he i ((h2.key i).1 (by rw[hy];simp)).1 hE)⟩
variable{v:Vt}
theorem uE{p:Int}(h:p≠i):mQ (dD kk p v) i=mQ kk i:=by unfold mQ;rw[gA,if_neg h]
variable{c:Cl}
theorem SI(hL:eA kc)(h:cw kc i=some c):c.hp≠i:=by
 obtain⟨h1,h2⟩:=hL.key i c h
 have:=rP h2;omega
variable{t:T}
theorem HZ(hL:eA kc)(h:KT kc B kk E)(hc:cw kc z=some c)(hm:m.ec=c)(hv:cw kk c.hp=some v)
  (ha:fc on ka z=true)(hr:m.sh.sq11≤gq)(he:eQ t (s7 on ka kk m z v t).kv)(hE: ∀q,E q→q=z∨E' q)(hp:E' c.hp):KT kc (fun q=>B q∨q=z) (dD kk c.hp (s7 on ka kk m z v t)) E':=by
 have hzc:=SI hL hc
 have hgz:dF kc z=c:=ig hc
 have hhi:m.ec.hi=z:=by rw[hm];exact(hL.key z c hc).1
 intro p hpi
 obtain⟨v0,h1,h2⟩:=h p hpi
 by_cases e:c.hp=p
 ·subst e
  rw[hv] at h1;cases h1
  refine⟨_,jN _ _ _,he,fun i=> ?_,fun i y hy=> ?_,fun i y hy hl hn=> ?_⟩
  ·show cw (dD v.kv z _) i≠none↔_
   rw[gA];by_cases q:z=i
   ·rw[if_pos q];subst q;simp[hgz]
   ·rw[if_neg q,h2.key];simp[show¬i=z from fun e=>q e.symm]
  ·change cw (dD v.kv z _) i=some y at hy
   rw[gA] at hy;by_cases q:z=i
   ·rw[if_pos q] at hy;cases hy;exact hr
   ·rw[if_neg q] at hy;exact h2.rng i y hy
  ·change cw (dD v.kv z _) i=some y at hy
   rw[gA] at hy;by_cases q:z=i
   ·subst q
    rw[if_pos rfl] at hy;cases hy
    rw[uE hzc]
    show mQ kk z≤lJ on ka kk m
    unfold lJ
    rw[hgz] at hl
    rw[if_neg (by rw[hm,hl,←hm,hhi,ha];simp),hhi]
    unfold mQ eC;split<;>omega
   ·rw[if_neg q] at hy
    have hne:c.hp≠i:=fun e=>hn (e▸hp)
    rw[uE hne]
    exact h2.fit i y hy hl fun h5=>hn ((hE i h5).resolve_left fun e=>q e.symm)
 ·refine⟨v0,by rw[gA,if_neg e];exact h1,h2.er,fun i=> ?_,h2.rng,fun i y hy hl hn=> ?_⟩
  ·rw[h2.key];constructor
   ·rintro⟨a,b⟩;exact⟨.inl a,b⟩
   ·rintro⟨a|a,b⟩
    ·exact⟨a,b⟩
    ·subst a;rw[hgz] at b;exact absurd b e
  ·have h6:=(h2.key i).1 (by rw[hy];simp)
   have hiz:i≠z:=fun q=>by subst q;rw[hgz] at h6;exact e h6.2
   have hne:c.hp≠i:=fun e=>hn (e▸hp)
   rw[uE hne]
   exact h2.fit i y hy hl fun h5=>hn ((hE i h5).resolve_left hiz)
theorem zg(hL:eA kc)(h:cw kc i=some c):c.hp∈dc kc c.hp∨c.hp=0:=by
 rcases hL.par i c h with h1|⟨p,h1,-⟩
 ·exact .inr h1
 ·left;rw[jH hL h1];exact List.mem_cons_self ..
variable{A':Int→Prop}
theorem zh(hL:eA kc)(hB:fG kc kb)(hR: ∀i m,cw kb i=some m→m.sh.sq11≤gq)(hA: ∀q,cw kc q≠none→(fc on ka q=true↔A' q)):
  ∀(n:Nat)(i:Int)(B:Int→Prop)(kk kk':List (Int×Vt)),dep kc i≤n→jv on ka kb (dc kc i) kk kk'→KT kc B kk (fun q=>q∈dc kc i∨q=0)→(∀q,B q→A' q)→KT kc (fun q=>B q∨(q∈dc kc i∧A' q)) kk' (fun q=>q=0)
 |n,i,B,kk,kk',hn,hS,hK,hBA=>by
  cases e:cw kc i with
  |none=>
   rw[mY e] at hS hK⊢
   cases hS
   have:(fun q=>B q∨(q∈([]:List Int)∧A' q))=B:=by funext q;simp
   rw[this];exact pE hK fun q _ h=>h.resolve_left (by simp)
  |some c=>
   cases n with
   |zero=>rw[iq hL e] at hn;omega
   |succ n=>
    rw[iq hL e] at hn
    rw[jH hL e] at hS hK⊢
    rcases hS with⟨h1,hS⟩|⟨h1,m,v,t,hm,hv,he,hS⟩
    ·have hni: ¬A' i:=fun h=>by have:=(hA i (by rw[e];simp)).2 h;rw[h1] at this;cases this
     have h2:=zh hL hB hR hA n c.hp B kk kk' (by omega) hS (pE hK fun q hq h=>by
      rcases h with h|h
      ·rcases List.mem_cons.1 h with rfl|h
       ·exact absurd (hBA _ hq) hni
       ·exact .inl h
      ·exact .inr h) hBA
     have:(fun q=>B q∨(q∈i::dc kc c.hp∧A' q))=(fun q=>B q∨(q∈dc kc c.hp∧A' q)):=by
      funext q;apply propext;constructor
      ·rintro(h|⟨h,h'⟩)
       ·exact .inl h
       ·rcases List.mem_cons.1 h with rfl|h
        ·exact absurd h' hni
        ·exact .inr ⟨h,h'⟩
      ·rintro(h|⟨h,h'⟩)
       ·exact .inl h
       ·exact .inr ⟨List.mem_cons_of_mem _ h,h'⟩
     rw[this];exact h2
    ·have hi:=(hA i (by rw[e];simp)).1 h1
     have hec:m.ec=c:=by have:=mK hB hm;rw[e] at this;cases this;rfl
     rw[hec] at hv hS
     have h2:=HZ (E':=fun q=>q∈dc kc c.hp∨q=0) hL hK e hec hv h1 (hR i m hm) he (fun q h=>by
      rcases h with h|h
      ·rcases List.mem_cons.1 h with h|h
       ·exact .inl h
       ·exact .inr (.inl h)
      ·exact .inr (.inr h)) (zg hL e)
     have h3:=zh hL hB hR hA n c.hp _ _ kk' (by omega) hS h2 (fun q h=>by rcases h with h|h;exact hBA q h;rw[h];exact hi)
     have:(fun q=>B q∨(q∈i::dc kc c.hp∧A' q))=(fun q=>(B q∨q=i)∨(q∈dc kc c.hp∧A' q)):=by
      funext q;apply propext;constructor
      ·rintro(h|⟨h,h'⟩)
       ·exact .inl (.inl h)
       ·rcases List.mem_cons.1 h with h|h
        ·exact .inl (.inr h)
        ·exact .inr ⟨h,h'⟩
      ·rintro((h|h)|⟨h,h'⟩)
       ·exact .inl h
       ·subst h;exact .inr ⟨List.mem_cons_self ..,hi⟩
       ·exact .inr ⟨List.mem_cons_of_mem _ h,h'⟩
     rw[this];exact h3
theorem H2(hL:eA kc)(h:KT kc B kk E)(hc:cw kc z=some c)(hv:cw kk c.hp=some v)(he:eQ t (dL v.kv z)):
  KT kc (fun q=>B q∧q≠z) (dD kk c.hp {v with t:=t,kv:=dL v.kv z}) (fun q=>E q∨c.hp=q):=by
 have hgz:dF kc z=c:=ig hc
 intro p hpi
 obtain⟨v0,h1,h2⟩:=h p hpi
 by_cases e:c.hp=p
 ·subst e
  rw[hv] at h1;cases h1
  refine⟨_,jN _ _ _,he,fun i=> ?_,fun i y hy=> ?_,fun i y hy hl hn=> ?_⟩
  ·show cw (dL v.kv z) i≠none↔_
   rw[iJ h2.er.nd];by_cases q:z=i
   ·rw[if_pos q];subst q;simp
   ·rw[if_neg q,h2.key];simp[show¬i=z from fun e=>q e.symm]
  ·change cw (dL v.kv z) i=some y at hy
   rw[iJ h2.er.nd] at hy;by_cases q:z=i
   ·rw[if_pos q] at hy;cases hy
   ·rw[if_neg q] at hy;exact h2.rng i y hy
  ·change cw (dL v.kv z) i=some y at hy
   rw[iJ h2.er.nd] at hy;by_cases q:z=i
   ·rw[if_pos q] at hy;cases hy
   ·rw[if_neg q] at hy
    rw[uE fun e=>hn (.inr e)]
    exact h2.fit i y hy hl fun h5=>hn (.inl h5)
 ·refine⟨v0,by rw[gA,if_neg e];exact h1,h2.er,fun i=> ?_,h2.rng,fun i y hy hl hn=> ?_⟩
  ·rw[h2.key];constructor
   ·rintro⟨a,b⟩;exact⟨⟨a,fun q=>by subst q;rw[hgz] at b;exact e b⟩,b⟩
   ·rintro⟨⟨a,-⟩,b⟩;exact⟨a,b⟩
  ·rw[uE fun e=>hn (.inr e)]
   exact h2.fit i y hy hl fun h5=>hn (.inl h5)
theorem GQ(hL:eA kc): ∀(l:List Int)(B E:Int→Prop)(kk kk':List (Int×Vt)),KT kc B kk E→nX kc l kk kk'→KT kc (fun q=>B q∧q∉l) kk' (fun q=>E q∨ ∃z∈l,(dF kc z).hp=q)
 |[],B,E,kk,kk',h,hd=>by
  cases hd
  have:(fun q=>B q∧q∉([]:List Int))=B:=by funext q;simp
  rw[this];exact pE h fun q _ h=> .inl h
 |i::l,B,E,kk,kk',h,⟨c,v,t,hc,hv,he,hd⟩=>by
  have h2:=GQ hL l _ _ _ _ (H2 hL h hc hv he) hd
  have:(fun q=>B q∧q∉i::l)=(fun q=>(B q∧q≠i)∧q∉l):=by funext q;simp[and_assoc]
  rw[this]
  refine pE h2 fun q _ hq=> ?_
  rcases hq with(hq|hq)|⟨z,hz,hq⟩
  ·exact .inl hq
  ·exact .inr ⟨i,List.mem_cons_self ..,by rw[ig hc];exact hq⟩
  ·exact .inr ⟨z,List.mem_cons_of_mem _ hz,hq⟩
variable{β:Type}
theorem lQ: ∀{kv:List (Int×β)},cw kv i≠none↔i∈kv.map (·.1)
 |[]=>by simp[cw]
 |p::kv=>by
  simp only[cw,List.map_cons,List.mem_cons]
  split
  ·rename_i e;simp[e]
  ·rename_i e;rw[lQ (kv:=kv)];constructor
   ·exact fun h=> .inr h
   ·rintro(h|h)
    ·exact absurd h.symm e
    ·exact h
structure AO(kc:List (Int×Cl))(on:List (Int×Int))(ka:List (Int×MB))(A:Int→Prop):Prop where
 ast:oZ kc (on.map (·.1)) A
 fo:oe kc A (kx ka)
 nd:(on.map (·.1)).Nodup
variable{A:Int→Prop}
theorem uN(h:AO kc on ka A)(h0:i≠0):fc on ka i=true↔A i:=by
 have e:fc on ka i=true↔cw on i≠none∨kx ka i≠[]:=by
  unfold fc;rw[Bool.or_eq_true,Option.isSome_iff_ne_none,decide_eq_true_eq,gt_iff_lt,List.length_pos_iff]
 rw[e,lQ,uy];constructor
 ·rintro(h3|⟨r,h3⟩)
  ·exact h.ast.ons i h3
  ·obtain⟨h4,h5⟩:=((h.fo i).2 r).1 h3
   rcases h.ast.up r h4 with h6|h6
   ·exact absurd (h5.symm.trans h6) h0
   ·rw[h5] at h6;exact h6
 ·intro h3
  rcases h.ast.sup i h3 with h4|⟨r,h4,h5⟩
  ·exact .inl h4
  ·exact .inr ⟨r,((h.fo i).2 r).2 ⟨h4,h5⟩⟩
theorem qe(hL:eA kc)(h:cw kc i≠none):i≠0:=fun e=>h (by rw[e];exact mH hL)
theorem u1(h:fH kc i=true):cw kc i≠none:=by obtain⟨c,h1,-⟩:=jr h;rw[h1];simp
variable{kv:List (Int×β)}{c:Int}
theorem pF{v:β}:i∈(dD kv c v).map (·.1)↔i=c∨i∈kv.map (·.1):=by
 rw[←lQ,←lQ,gA];split
 ·rename_i e;simp[e]
 ·rename_i e;simp[show¬i=c from fun h=>e h.symm]
theorem qX(hn:(kv.map (·.1)).Nodup):i∈(dL kv c).map (·.1)↔i≠c∧i∈kv.map (·.1):=by
 rw[←lQ,←lQ,iJ hn];split
 ·rename_i e;simp[e]
 ·rename_i e;simp[show¬i=c from fun h=>e h.symm]
variable{er:Int}
theorem I7(hL:eA kc)(h:AO kc on ka A)(hr:nj (fL kc) on ka c on' ka' l er)(hs:fH kc c=true)(hl:(dF kc c).hl=true)(hn: ¬A c):
  ∃A',AO kc on' ka' A'∧(∀q,A' q↔A q∨q∈dc kc c)∧ ∀i,i∈on'.map (·.1)↔i=c∨i∈on.map (·.1):=by
 have h0:=qe hL (u1 hs)
 have hf:iy (fL kc) c=true:=by rw[tu,hs,hl];rfl
 have hi:fc on ka c=false:=by rw[Bool.eq_false_iff];exact fun e=>hn ((uN h h0).1 e)
 rcases hr with⟨-,-,-,-,rfl,hk⟩|⟨h1|h1,-⟩
 ·have hW:Bf kc ((dD on c (db (fL kc) c)).map (·.1)) A c:={
   sh:=h.ast.sh,up:=fun q hq=>(h.ast.up q hq).imp id .inl,sup:=fun q hq=>(h.ast.sup q hq).imp (fun e=>pF.2 (.inr e)) id,me:= .inl (pF.2 (.inl rfl)),mysh:=hs,no:=hn
   ons:=fun q hq=>(pF.1 hq).symm.imp (h.ast.ons q) id,lf:=fun q hq=>by
    rcases pF.1 hq with rfl|hq
    ·exact hl
    ·exact h.ast.lf q hq}
  obtain⟨A',a1,a2,-,-,-⟩:=HN hL 40 c A (kx ka) hW h.fo (tQ hL c)
  rw[←hk] at a2
  refine⟨A',⟨a1,a2,lM h.nd _ _⟩,fun q=> ?_,fun i=>pF⟩
  rw[qK hL a1,qK hL h.ast];constructor
  ·rintro⟨m,h1,h2⟩
   rcases pF.1 h1 with rfl|h1
   ·exact .inr h2
   ·exact .inl ⟨m,h1,h2⟩
  ·rintro(⟨m,h1,h2⟩|h2)
   ·exact⟨m,pF.2 (.inr h1),h2⟩
   ·exact⟨c,pF.2 (.inl rfl),h2⟩
 ·rw[hf] at h1;cases h1
 ·rw[hi] at h1;cases h1
open Classical in
theorem QA(hL:eA kc)(h:AO kc on ka A)(hr:qy (fL kc) on ka c on' ka' l er)(hc:c∈on.map (·.1)):
  ∃A',AO kc on' ka' A'∧l=(dc kc c).filter (fun q=>decide (¬A' q))∧(∀q,A q↔A' q∨q∈dc kc c)∧ ∀i,i∈on'.map (·.1)↔i≠c∧i∈on.map (·.1):=by
 have hA:=h.ast.ons c hc
 have hs:=h.ast.sh c hA
 have hl:=h.ast.lf c hc
 have h0:=qe hL (u1 hs)
 have hf:iy (fL kc) c=true:=by rw[tu,hs,hl];rfl
 have hi:fc on ka c=true:=(uN h h0).2 hA
 rcases hr with⟨-,-,-,rfl,rfl,hk⟩|⟨h1|h1,-⟩
 ·have hW:Af kc ((dL on c).map (·.1)) A c:={
   sh:=h.ast.sh,up:=h.ast.up,sup:=fun q hq hne=>(h.ast.sup q hq).imp (fun e=>(qX h.nd).2 ⟨hne,e⟩) id,me:=hA,no:=fun e=>((qX h.nd).1 e).1 rfl
   lone:=fun r hr e=>by
    rcases q7 hL (h.ast.sh r hr) with h1|h1
    ·exact h0 (e.symm.trans h1)
    ·rw[e,hl] at h1;exact Bool.noConfusion h1.2
   ons:=fun q hq=>h.ast.ons q ((qX h.nd).1 hq).2,lf:=fun q hq=>h.ast.lf q ((qX h.nd).1 hq).2}
  obtain⟨A',a1,a2,-,a4⟩:=Fq hL 40 c A (kx ka) hW h.fo (tQ hL c)
  rw[←hk] at a2
  refine⟨A',⟨a1,a2,kR h.nd _⟩,a4.trans (List.filter_congr fun q _=>decide_eq_decide.2 Iff.rfl),fun q=> ?_,fun i=>qX h.nd⟩
  rw[qK hL a1,qK hL h.ast];constructor
  ·rintro⟨m,h1,h2⟩
   by_cases e:m=c
   ·subst e;exact .inr h2
   ·exact .inl ⟨m,(qX h.nd).2 ⟨e,h1⟩,h2⟩
  ·rintro(⟨m,h1,h2⟩|h2)
   ·exact⟨m,((qX h.nd).1 h1).2,h2⟩
   ·exact⟨c,hc,h2⟩
 ·rw[hf] at h1;cases h1
 ·rw[hi] at h1;cases h1
theorem zj{f g:Int→Nat}(h: ∀j,j≠i→g j=f j): ∀{l:List Int},l.Nodup→i∈l→(l.map g).sum+f i=(l.map f).sum+g i
 |[],_,hi=>by cases hi
 |a::l,hn,hi=>by
  obtain⟨h1,h2⟩:=List.nodup_cons.1 hn
  have hs: ∀l:List Int,i∉l→(l.map g).sum=(l.map f).sum:=fun l hl=>by
   congr 1;exact List.map_congr_left fun j hj=>h j fun e=>hl (e▸hj)
  rcases List.mem_cons.1 hi with e|hi
  ·subst e;simp only[List.map_cons,List.sum_cons];rw[hs l h1];omega
  ·have:=zj h h2 hi
   have e:a≠i:=fun e=>h1 (e▸hi)
   simp only[List.map_cons,List.sum_cons];rw[h a e];omega
theorem wK{f:Int→Nat}: ∀{l k:List Int},l.Nodup→(∀i∈l,f i≠0→i∈k)→(l.map f).sum≤(k.map f).sum
 |[],_,_,_=>by simp
 |a::l,k,hn,h=>by
  obtain⟨h1,h2⟩:=List.nodup_cons.1 hn
  by_cases e:f a=0
  ·have:=wK (k:=k) h2 fun i hi=>h i (List.mem_cons_of_mem _ hi)
   simp only[List.map_cons,List.sum_cons];omega
  ·have hk:=h a (List.mem_cons_self ..) e
   have hp:(k.map f).sum=((a::k.erase a).map f).sum:=((List.perm_cons_erase hk).map f).sum_nat
   rw[hp]
   have:=wK (f:=f) (k:=k.erase a) h2 fun i hi hf=>(List.mem_erase_of_ne (fun e=>h1 (by rw[←e];exact hi))).2 (h i (List.mem_cons_of_mem _ hi) hf)
   simp only[List.map_cons,List.sum_cons];omega
def vw(m:En):Cl×Option Nat×Qu:=(m.ec,m.qb,m.q)
def KQ(kb kb':List (Int×En)):Prop:= ∀j,(cw kb' j).map vw=(cw kb j).map vw
theorem oI:KQ kb kb:=fun _=>rfl
theorem tj{a b c:List (Int×En)}(h:KQ a b)(g:KQ b c):KQ a c:=fun j=>(g j).trans (h j)
theorem uO{m':En}(hm:cw kb i=some m)(e:vw m'=vw m):KQ kb (dD kb i m'):=fun j=>by
 rw[gA];by_cases q:i=j
 ·rw[if_pos q];subst q;rw[hm];simp[e]
 ·rw[if_neg q]
def qk(kb:List (Int×En))(i:Int):List Pk:=((cw kb i).map fun m:En=>qC m.q).getD []
theorem kJ(h:cw kb i=some m):qk kb i=qC m.q:=by unfold qk;rw[h];rfl
theorem Bo(h:KQ kb kb'){j:Int}(hm:cw kb' j=some m): ∃n,cw kb j=some n∧m.ec=n.ec∧m.qb=n.qb∧m.q=n.q:=by
 have h1:=h j;rw[hm] at h1
 cases e:cw kb j with
 |none=>rw[e] at h1;cases h1
 |some n=>rw[e] at h1;simp[vw] at h1;exact⟨n,rfl,h1⟩
theorem I8(h:KQ kb kb'){j:Int}(hm:cw kb' j=none):cw kb j=none:=by
 have h1:=h j;rw[hm] at h1
 cases e:cw kb j with
 |none=>rfl
 |some n=>rw[e] at h1;cases h1
theorem I9(h:KQ kb kb')(j:Int):qk kb' j=qk kb j:=by
 cases e:cw kb' j with
 |none=>unfold qk;rw[e,I8 h e]
 |some m=>obtain⟨n,h1,-,-,h2⟩:=Bo h e;rw[kJ e,kJ h1,h2]
theorem xq(h:KQ kb kb')(hB:fG kc kb):fG kc kb':=fun j=>by
 cases e:cw kb' j with
 |none=>have:=(hB j).1;rw[I8 h e] at this;exact⟨this,fun m h=>by cases h⟩
 |some m=>
  obtain⟨n,h1,h2,h3,h4⟩:=Bo h e
  have:=hB j;rw[h1] at this
  exact⟨by rw[←this.1];simp[h2],fun m' h=>by cases h;exact HA (this.2 n rfl) h2 h3 h4⟩
theorem Ao(j:Int):qk (dD kb i m) j=if i=j then qC m.q else qk kb j:=by
 unfold qk;rw[gA];split<;>rfl
theorem zm(n:Int): ∀(L:List Int)(kb:List (Int×En)),KQ kb (lU n L kb)
 |[],kb=>oI
 |i::L,kb=>by
  unfold lU;cases e:cw kb i with
  |none=>exact zm n L kb
  |some m=>exact tj (uO (m':=u5 n m) e rfl) (zm n L _)
theorem Ap(kk:List (Int×Vt))(now:Int): ∀(L:List Int)(kb:List (Int×En)),KQ kb (kP kk now L kb)
 |[],kb=>oI
 |i::L,kb=>by
  unfold kP;cases e:cw kb i with
  |none=>exact Ap kk now L kb
  |some m=>exact tj (uO (m':=pq kk now m) e rfl) (Ap kk now L _)
variable{et et':T}{ek ek':List (Int×It)}
theorem QB(hm:cw kb i=some m)(h:qz i m kb et ek kb' et' ek'):KQ kb kb':=by
 rcases h with⟨-,d,rfl,-⟩|⟨-,rfl,-⟩
 ·exact uO hm rfl
 ·exact oI
theorem SJ(h:pZ kb kb'):KQ kb kb':=fun j=>by
 have:=congrArg (Option.map vw) (h.1 j)
 rw[Option.map_map,Option.map_map] at this;exact this
def mR(l:List Pk):Int:=(l.map (·.qn)).sum
def QI(m:En):Prop:=m.q.rm=m.ec.hq∧(m.q.sx.length:Int)=m.ec.hk∧m.q.bs=mR (qC m.q)
def QV(kb:List (Int×En)):Prop:= ∀i m,cw kb i=some m→m.ec.hl=true→QI m
theorem Bq(h:KQ kb kb')(hq:QV kb):QV kb':=fun j m hm hl=>by
 obtain⟨n,h1,h2,-,h4⟩:=Bo h hm
 have:=hq j n h1 (by rw[←h2];exact hl)
 unfold QI at this⊢;rw[h2,h4];exact this
theorem Aq(h:QV kb)(hm:m.ec.hl=true→QI m):QV (dD kb i m):=fun j x hx hl=>by
 rw[gA] at hx;split at hx
 ·cases hx;exact hm hl
 ·exact h j x hx hl
theorem vl: ∀{l:List Pk},(∀p∈l,1≤p.qn∧p.qn≤16384)→0≤mR l∧mR l≤16384*l.length
 |[],_=>by simp[mR]
 |p::l,h=>by
  have h1:=h p (List.mem_cons_self ..)
  have h2:=vl fun q hq=>h q (List.mem_cons_of_mem _ hq)
  unfold mR at h2⊢;simp only[List.map_cons,List.sum_cons,List.length_cons];omega
theorem zo(h:0≤x∧x≤4611686018427387904):IntKind.i64.wrap x=x:=lD (by constructor<;>omega)
theorem QC{q:Qu}{x:Pk}(h:QI m)(hk: ∀p∈qC m.q,1≤p.qn∧p.qn≤16384)(hp:u4 m.q x q):QI {m with q:=q}:=by
 obtain⟨h1,h2,h3,h4,h5⟩:=hp
 have hr:=vl (l:=qC q) fun p hp=>hk p (by rw[h2];exact List.mem_cons_of_mem _ hp)
 have hn:(qC q).length≤64:=by rw[mF];have:=h1;unfold kq at this;omega
 refine⟨h3.trans h.1,by rw[←h.2.1];exact congrArg _ h4,?_⟩
 show q.bs=mR (qC q)
 have e:m.q.bs-x.qn=mR (qC q):=by rw[h.2.2,h2];unfold mR;simp only[List.map_cons,List.sum_cons];omega
 rw[h5,e,zo (by constructor<;>omega)]
theorem GR{q:Qu}{x:Pk}(h:QI m)(hk: ∀p∈qC m.q,1≤p.qn∧p.qn≤16384)(hx:1≤x.qn∧x.qn≤16384∨er≠0)(hp:mJ m.q x q er):QI {m with q:=q}:=by
 obtain⟨h1,h3,h4,h5⟩:=hp
 refine⟨h3.trans h.1,by rw[←h.2.1];exact congrArg _ h4,?_⟩
 show q.bs=mR (qC q)
 rcases h5 with⟨-,h0,h5,h6⟩|⟨-,-,h5,h6⟩
 ·have hx:=hx.resolve_right fun h=>h h0
  have hr:=vl (l:=qC q) fun p hp=>by
   rw[h5,List.mem_append] at hp
   rcases hp with hp|hp
   ·exact hk p hp
   ·rw[List.mem_singleton] at hp;subst hp;exact hx
  have hn:(qC q).length≤64:=by rw[mF];have:=h1;unfold kq at this;omega
  have e:m.q.bs+x.qn=mR (qC q):=by rw[h.2.2,h5];simp[mR]
  rw[h6,e,zo (by constructor<;>omega)]
 ·rw[h6,h5,h.2.2]
def pw(s:Sh):Prop:=s.sq2≤gq∧s.sq6≤gq∧s.sq11≤gq
def RG(kb:List (Int×En)):Prop:= ∀i m,cw kb i=some m→pw m.sh
theorem JH:pw mq:=by simp[pw,mq,gq]
theorem qf(h:RG kb)(hs:pw m.sh):RG (dD kb i m):=fun j x hx=>by
 rw[gA] at hx;split at hx
 ·cases hx;exact hs
 ·exact h j x hx
theorem GU(x:Int):IntKind.u64.wrap x≤gq:=by
 have:=uw_lt x;unfold gq;omega
where
 uw_lt (x:Int):IntKind.u64.wrap x<18446744073709551616:=by
  have h:IntKind.u64.bits=64:=rfl
  simp only[IntKind.wrap,h];simp;omega
theorem qY{a b:Int}(h:a≤gq)(g:b≤gq):eC a b≤gq:=by unfold eC;split<;>assumption
theorem pe:(0:Int)≤gq:=by decide
theorem EE(l:Ln)(a:Nm):ir l a≤gq:=by
 unfold ir;split
 ·exact pe
 ·split
  ·decide
  ·exact GU _
theorem EF(r:Rn)(a:Nm):iV r a≤gq:=by
 unfold iV;split<;>exact qY (qY pe (EE _ _)) (EE _ _)
def rG(r:Rn):Prop:=r.rq1≤gq∧r.rq5≤gq
theorem Ep{r:Rn}(h:rG r)(x:Int):j0 r x≤gq:=by
 unfold j0;split
 ·exact qY (qY (qY pe (EF _ _)) h.2) h.1
 ·exact qY (qY pe (EF _ _)) h.2
theorem MD{l:Sh}(h:pw l)(x:Int):pw (lH l x):=by
 unfold lH;split
 ·exact⟨h.1,h.2.1,Ep ⟨h.1,h.2.1⟩ x⟩
 ·exact h
variable{c:Cv}
theorem EG{y:Nm}(h:x≤gq):rG (d6 c x y):=by
 unfold d6;split
 ·exact⟨pe,h⟩
 ·split
  ·exact⟨h,h⟩
  ·exact⟨pe,h⟩
theorem EH{y:Nm}(h:x≤gq):rG (dH c x y):=by
 unfold dH;split
 ·exact⟨(EG h).1,GU _⟩
 ·exact EG h
theorem EI{l m:Ln}(h:l.lq1≤gq)(g:m.lq1≤gq):(eO l m).lq1≤gq:=by unfold eO;split<;>assumption
theorem ME{a b:Rn}(h:rG a)(g:rG b):rG (dy a b):=by
 refine⟨?_,EI (l:=dp a) (m:=dp b) h.2 g.2⟩
 show(if a.rq9 then eO (fO a) (fO b) else nq).lq1≤gq
 split
 ·exact EI (l:=fO a) (m:=fO b) h.1 g.1
 ·exact pe
theorem MF{l:Sh}(h:pw l){y:Int}(hx:x≤gq):pw (j6 l c x y):=by
 have hr:rG (dZ l.sq1 (fg l) (dH c x (dB y 65536))):=by
  unfold dZ;split
  ·exact ME ⟨h.1,h.2.1⟩ (EH hx)
  ·exact EH hx
 exact⟨hr.1,hr.2,Ep hr _⟩
theorem zr(n:Int): ∀(L:List Int)(kb:List (Int×En)),RG kb→RG (lU n L kb)
 |[],kb,h=>h
 |i::L,kb,h=>by
  unfold lU;cases e:cw kb i with
  |none=>exact zr n L kb h
  |some m=>exact zr n L _ (qf (m:=u5 n m) h (MD (h i m e) _))
theorem QD(h:RG kb)(hm:cw kb i=some m)(hd:qz i m kb et ek kb' et' ek'):RG kb':=by
 rcases hd with⟨-,d,rfl,-⟩|⟨-,rfl,-⟩
 ·exact qf h (h i m hm)
 ·exact h
theorem SK(h:RG kb)(hs:pZ kb kb'):RG kb':=fun j m hm=>by
 rcases hs.2 j m hm with e|⟨n,h1,h2⟩
 ·rw[e];exact JH
 ·rw[h2];exact h j n h1
def gv(kb:List (Int×En)):Prop:= ∀i m,cw kb i=some m→kC (mn m.ec)≤1∧m.li=py
def ZK(kc:List (Int×Cl))(kk:List (Int×Vt)):Prop:= ∀p v,np kc p→cw kk p=some v→ ∀i y,cw v.kv i=some y→y.va=0
theorem qg{m':En}(h:gv kb)(hm:cw kb i=some m)(e:m'.ec=m.ec)(hl:m'.li=py):gv (dD kb i m'):=fun j x hx=>by
 rw[gA] at hx;split at hx
 ·cases hx;exact⟨by rw[e];exact(h i m hm).1,hl⟩
 ·exact h j x hx
theorem zu(n:Int): ∀(L:List Int)(kb:List (Int×En)),gv kb→gv (lU n L kb)
 |[],kb,h=>h
 |i::L,kb,h=>by
  unfold lU;cases e:cw kb i with
  |none=>exact zu n L kb h
  |some m=>exact zu n L _ (qg (m':=u5 n m) h e rfl (by show jC m.li _=py;rw[(h i m e).2];rfl))
theorem As(kk:List (Int×Vt))(now:Int): ∀(L:List Int)(kb:List (Int×En)),gv kb→gv (kP kk now L kb)
 |[],kb,h=>h
 |i::L,kb,h=>by
  unfold kP;cases e:cw kb i with
  |none=>exact As kk now L kb h
  |some m=>exact As kk now L _ (qg (m':=pq kk now m) h e rfl (if_pos (h i m e).1))
theorem QE(h:gv kb)(hm:cw kb i=some m)(hd:qz i m kb et ek kb' et' ek'):gv kb':=by
 rcases hd with⟨-,d,rfl,-⟩|⟨-,rfl,-⟩
 ·exact qg h hm rfl (h i m hm).2
 ·exact h
theorem SN(h:gv kb)(hs:pZ kb kb'):gv kb':=fun j m hm=>by
 have h1:=hs.1 j;rw[hm] at h1
 cases e:cw kb j with
 |none=>rw[e] at h1;cases h1
 |some n=>
  rw[e] at h1;simp only[Option.map_some,Option.some.injEq,En.mk.injEq] at h1
  obtain⟨-,-,-,h2,-,-,-,h3⟩:=h1
  rw[h2,h3];exact h j n e
variable{L:List It}{y:It}
theorem yd{n:Int}(h:eW n L=some y):y∈L∧ ∀z∈L,z.ka≤n→y.va≤z.va:=by
 obtain⟨h1,h2⟩:=yY h
 exact⟨(List.mem_filter.1 h1).1,fun z hz hn=>h2 z (List.mem_filter.2 ⟨hz,by simpa using hn⟩)⟩
theorem zH: ∀(L:List It)(v:It),gX (some v) L≠none
 |[],v,h=>by simp[gX] at h
 |y::L,v,h=>zH L (dO v y) h
theorem D7(hr: ∀y∈L,y.ka≤gq)(hL:L≠[]): ∃y,eW 18446744073709551615 L=some y:=by
 have hb:bl 18446744073709551615 L=L:=by unfold bl;rw[List.filter_eq_self];intro y hy;have:=hr y hy;unfold gq at this;simpa using this
 cases e:eW 18446744073709551615 L with
 |some y=>exact⟨y,rfl⟩
 |none=>
  exfalso;unfold eW at e;rw[hb] at e
  cases L with
  |nil=>exact hL rfl
  |cons y L=>exact zH L y e
theorem H3(hr: ∀y∈L,y.ka≤gq)(hz: ∀y∈L,y.va=0)(hL:L≠[]):iW L=0:=by
 obtain⟨y,h⟩:=D7 hr hL
 unfold iW;rw[if_neg hL,h]
 simp[hz y (yd h).1,dU,oS]
theorem pG{kv:List (Int×It)}(h:eQ t kv)(hy:y∈t.toL):cw kv y.ki=some y:=(h.mem y).1 hy
theorem Ny(h:KT kc A kk E){p:Int}(hp:np kc p):s9 kk p≤gq:=by
 obtain⟨v,h1,h2⟩:=h p hp
 unfold s9;rw[h1];simp only[Option.map_some,Option.getD_some]
 cases e:v.t.toL with
 |nil=>exact pe
 |cons y L=>exact h2.rng _ y (pG h2.er (by rw[e];exact List.mem_cons_self ..))
structure Iv(c:Ss)(d:Sd):Prop where
 lt1:1≤c.lt∧c.lt≤65536
 lm1:1≤c.lm∧c.lm≤16384
 laid:eA d.kc
 aok:lj d.kc
 by_:fG d.kc d.kb
 nd:xz d
 ym:d.a.ym=fL d.kc
 ac: ∃A,AO d.kc d.on d.ka A∧KT d.kc A d.kk (fun q=>q=0)
 onk: ∀i,i∈d.on.map (·.1)↔fH d.kc i=true∧(dF d.kc i).hl=true∧qk d.kb i≠[]
 el:eQ d.et d.ek
 ekk: ∀i,cw d.ek i≠none→qk d.kb i≠[]∧jE (dF d.kc i)=true
 pk: ∀i,∀p∈qk d.kb i,1≤p.qn∧p.qn≤16384
 rg:RG d.kb
 qv:QV d.kb
theorem GV{k:List Int}(hn:l.Nodup)(h: ∀i∈l,i∈k):l.length≤k.length:=by
 have e: ∀l:List Int,(l.map fun _=>1).sum=l.length:=fun l=>by induction l with|nil=>rfl|cons a l ih=>simp only[List.map_cons,List.sum_cons,List.length_cons,ih];omega
 have:=wK (f:=fun _=>1) hn fun i hi _=>h i hi
 rwa[e,e] at this
theorem xN(hL:eA kc){ol:List Int}(h:oZ kc ol A)(hi:A i)(hl:(dF kc i).hl=true):i∈ol:=by
 rcases h.sup i hi with h1|⟨r,h2,h3⟩
 ·exact h1
 ·rcases q7 hL (h.sh r h2) with h4|h4
  ·exact absurd (h3.symm.trans h4) (qe hL (u1 (h.sh i hi)))
  ·rw[h3,hl] at h4;exact absurd h4.2 (by simp)
theorem oW(hB:fG kc kb)(h:qk kb i≠[]): ∃m,cw kb i=some m∧cw kc i=some m.ec∧m.ec.hl=true∧dF kc i=m.ec:=by
 cases e:cw kb i with
 |none=>exact absurd (by unfold qk;rw[e];rfl) h
 |some m=>
  have hc:=mK hB e
  have ho:=(hB i).2 m e
  refine⟨m,rfl,hc,ho.lf.2 ?_,ig hc⟩
  rw[kJ e] at h
  cases q:m.qb with
  |some b=>rfl
  |none=>exact absurd (List.eq_nil_of_length_eq_zero (by rw[mF];exact ho.no q)) h
theorem wL(hL:eA kc){c:Cl}(h:cw kc i=some c):np kc c.hp:=by
 rcases hL.par i c h with h1|⟨p,h1,h2⟩
 ·exact .inl h1
 ·exact .inr ⟨p,h1,h2⟩
theorem SO(hL:eA kc)(hA: ∀i,A i→fH kc i=true)(h:KT kc A kk E):j7 kc 600 kk:=fun p hp=>by
 obtain⟨v,h1,h2⟩:=h p hp
 refine⟨v,h1,h2.er,?_⟩
 have h3:=GV (l:=v.kv.map (·.1)) (k:=kc.map (·.1)) h2.er.nd fun i hi=>lQ.1 (u1 (hA i ((h2.key i).1 (lQ.2 hi)).1))
 have h4:=hL.len
 simp at h3;omega
theorem Ko{n:Int}(h:eV n L=some y):y∈L∧y.va≤n:=by
 unfold eV at h
 exact⟨List.mem_of_find?_eq_some h,by simpa using List.find?_some h⟩
variable{now:Int}
theorem zv(h:KT kc A kk E)(hi:np kc i)(hy:mL kk now i=some y): ∃v,cw kk i=some v∧cw v.kv y.ki=some y∧A y.ki∧(dF kc y.ki).hp=i∧y.va≤dU now 9223372036854775807:=by
 obtain⟨v,h1,h2⟩:=h i hi
 unfold mL at hy;rw[h1] at hy;simp only[Option.map_some,Option.getD_some] at hy
 obtain⟨h3,h4⟩:=Ko hy
 have h5:=pG h2.er h3
 have h6:=(h2.key y.ki).1 (by rw[h5];simp)
 exact⟨v,h1,h5,h6.1,h6.2,h4⟩
theorem GW(hL:eA kc)(hB:fG kc kb)(hA: ∀i,A i→fH kc i=true)(h:KT kc A kk E)(now:Int): ∀(f:Nat)(i:Int),np kc i→17≤dep kc i+f→oL kb kk now f i
 |0,i,hi,hd=>by have:=hL.dep i;omega
 |f+1,i,hi,hd=>by
  obtain⟨v,h1,h2⟩:=h i hi
  refine⟨⟨v,h1,h2.er⟩,fun y hy=> ?_⟩
  obtain⟨v',-,-,h3,h4,-⟩:=zv h hi hy
  obtain⟨c,h5,h6⟩:=jr (hA _ h3)
  obtain⟨m,h7,h8,-⟩:=sR hB h5
  refine⟨m,h7,?_⟩
  cases hl:m.ec.hl with
  |true=>exact .inl rfl
  |false=>exact .inr (GW hL hB hA h now f _ (.inr ⟨c,h5,by rw[←h8];exact hl⟩) (by rw[iq hL h5,←h6,h4];omega))
theorem H4(hL:eA kc)(hB:fG kc kb)(hA: ∀i,A i→fH kc i=true)(h:KT kc A kk E)(now:Int): ∀(f:Nat)(i j:Int),np kc i→jf kb kk now f i=some j→A j∧(dF kc j).hl=true
 |0,i,j,hi,hd=>by simp[jf] at hd
 |f+1,i,j,hi,hd=>by
  unfold jf at hd
  split at hd
  ·cases hd
  ·rename_i y hy
   obtain⟨v',-,-,h3,h4,-⟩:=zv h hi hy
   obtain⟨c,h5,h6⟩:=jr (hA _ h3)
   obtain⟨m,h7,h8,-⟩:=sR hB h5
   have hlf:qm kb y.ki=c.hl:=by unfold qm;rw[h7];simp[h8]
   split at hd
   ·rename_i hl;cases hd;exact⟨h3,by rw[h6,←hlf];exact hl⟩
   ·rename_i hl
    exact H4 hL hB hA h now f _ j (.inr ⟨c,h5,by rw[←hlf];simpa using hl⟩) hd
variable{c:Ss}
theorem Im(h:Iv c d)(hc:(eY d.et d.kb d.kk now).2.2=true):qk d.kb (eY d.et d.kb d.kk now).1≠[]:=by
 unfold eY at hc⊢
 split
 ·rename_i y hy
  exact(h.ekk _ (by rw[pG h.el (yd hy).1];simp)).1
 ·rename_i hy
  rw[hy] at hc
  obtain⟨A,hA,hK⟩:=h.ac
  cases e:jf d.kb d.kk now 17 0 with
  |none=>rw[e] at hc;cases hc
  |some j=>
   obtain⟨h1,h2⟩:=H4 h.laid h.by_ hA.ast.sh hK now 17 0 j (.inl rfl) e
   exact((h.onk j).1 (xN h.laid hA.ast h1 h2)).2.2
theorem QF(h:Iv c d):oR c d:=by
 obtain⟨A,hA,hK⟩:=h.ac
 refine{lt1:=h.lt1,lm1:=h.lm1,laid:=h.laid,aok:=h.aok,by_:=h.by_,nb:=h.nd.1,kd:=SO h.laid hA.ast.sh hK,ym:=h.ym,el:=h.el,len:= ?_,desc:=fun now=>GW h.laid h.by_ hA.ast.sh hK now 17 0 (.inl rfl) (by omega),pk:=fun i m hm=>by rw[←kJ hm];exact h.pk i,ch:=fun now hc=> ?_}
 ·have h3:=GV (l:=d.ek.map (·.1)) (k:=d.kc.map (·.1)) h.el.nd fun i hi=>by
   obtain⟨m,-,h2,-⟩:=oW h.by_ (h.ekk i (lQ.2 hi)).1
   exact lQ.1 (by rw[h2];simp)
  have h4:=h.laid.len
  simp at h3;omega
 ·have h1:=Im h hc
  obtain⟨m,h2,-⟩:=oW h.by_ h1
  exact⟨m,h2,by rw[←kJ h2];exact h1⟩
theorem Au(hL:eA kc): ∀(n:Nat)(i z:Int),dep kc i≤n→z∈dc kc i→(dF kc z).hp∈dc kc i∨(dF kc z).hp=0
 |0,i,z,hn,hz=>by unfold dc at hz;rw[show dep kc i=0 by omega] at hz;simp[gG] at hz
 |n+1,i,z,hn,hz=>by
  cases e:cw kc i with
  |none=>rw[mY e] at hz;cases hz
  |some c=>
   rw[iq hL e] at hn
   rw[jH hL e] at hz⊢
   rcases List.mem_cons.1 hz with rfl|hz
   ·rw[ig e];exact(zg hL e).imp (List.mem_cons_of_mem _) id
   ·exact(Au hL n _ z (by omega) hz).imp (List.mem_cons_of_mem _) id
theorem GX(hn:(ek.map (·.1)).Nodup){d:Du}(j:Int):cw (ue ek i d) j=if i=j then some ⟨d.dq21,i,d.dq22,i⟩ else cw ek j:=by
 unfold ue;rw[gA];split
 ·rfl
 ·rename_i e;rw[iJ hn,if_neg e]
theorem QG(hn:(ek.map (·.1)).Nodup)(i:Int)(d:Du):((ue ek i d).map (·.1)).Nodup:=lM (kR hn _) _ _
theorem Av(hL:eA kc)(hB:fG kc kb)(hR: ∀i m,cw kb i=some m→m.sh.sq11≤gq)(hLi: ∀i m,cw kb i=some m→m.li=py)(hA: ∀q,cw kc q≠none→(fc on ka q=true↔A' q))
  (hsup: ∀q,A' q→(dF kc q).hl=false→ ∃r d,A' r∧cw kc r=some d∧d.hp=q):
  ∀(n:Nat)(i:Int)(B:Int→Prop)(kk kk':List (Int×Vt)),dep kc i≤n→jv on ka kb (dc kc i) kk kk'→KT kc B kk (fun q=>q∈dc kc i∨q=0)→(∀q,B q→A' q)→(∀q,A' q→B q∨q∈dc kc i)→ZK kc kk→ZK kc kk'
 |n,i,B,kk,kk',hn,hS,hK,hBA,hAB,hZ=>by
  cases e:cw kc i with
  |none=>rw[mY e] at hS;cases hS;exact hZ
  |some c=>
   cases n with
   |zero=>rw[iq hL e] at hn;omega
   |succ n=>
    have hdi:=iq hL e
    rw[jH hL e] at hS hK hAB
    rcases hS with⟨h1,hS⟩|⟨h1,m,v,t,hm,hv,he,hS⟩
    ·have hni: ¬A' i:=fun h=>by have:=(hA i (by rw[e];simp)).2 h;rw[h1] at this;cases this
     refine Av hL hB hR hLi hA hsup n c.hp B kk kk' (by omega) hS (pE hK fun q hq h=> ?_) hBA (fun q hq=> ?_) hZ
     ·rcases h with h|h
      ·rcases List.mem_cons.1 h with rfl|h
       ·exact absurd (hBA _ hq) hni
       ·exact .inl h
      ·exact .inr h
     ·rcases hAB q hq with h|h
      ·exact .inl h
      ·exact .inr ((List.mem_cons.1 h).resolve_left fun e=>hni (e▸hq))
    ·have hi:=(hA i (by rw[e];simp)).1 h1
     have hec:m.ec=c:=by have:=mK hB hm;rw[e] at this;cases this;rfl
     have hf:lJ on ka kk m=0:=by
      unfold lJ;split
      ·rw[hLi i m hm];rfl
      ·rename_i hx
       have hl:c.hl=false:=by rw[←hec];cases q:m.ec.hl with|false=>rfl|true=>exact absurd (.inl q) hx
       have hid:m.ec.hi=i:=by rw[hec];exact(hL.key i c e).1
       obtain⟨r,d,h2,h3,h4⟩:=hsup i hi (by rw[ig e];exact hl)
       have hr:B r:=by
        refine(hAB r h2).resolve_right fun h=> ?_
        have h5:=vz hL _ i r (Nat.le_refl _) (by rw[jH hL e];exact h)
        rw[iq hL h3,h4] at h5;omega
       obtain⟨w,h6,h7⟩:=hK i (.inr ⟨c,e,hl⟩)
       have h8:=(h7.key r).2 ⟨hr,by rw[ig h3];exact h4⟩
       have h9:iW w.t.toL=0:=by
        refine H3 (fun y hy=>h7.rng _ y (pG h7.er hy)) (fun y hy=>hZ i w (.inr ⟨c,e,hl⟩) h6 _ y (pG h7.er hy)) fun h=> ?_
        have:=h7.er.len;rw[h] at this
        have:=List.eq_nil_of_length_eq_zero this.symm
        rw[this] at h8;exact h8 rfl
       rw[hLi i m hm,hid,h6];simp only[Option.map_some,Option.getD_some];rw[h9];rfl
     rw[hec] at hv hS
     have h2:=HZ (E':=fun q=>q∈dc kc c.hp∨q=0) hL hK e hec hv h1 (hR i m hm) he (fun q h=>by
      rcases h with h|h
      ·rcases List.mem_cons.1 h with h|h
       ·exact .inl h
       ·exact .inr (.inl h)
      ·exact .inr (.inr h)) (zg hL e)
     refine Av hL hB hR hLi hA hsup n c.hp _ _ kk' (by omega) hS h2 (fun q h=>by rcases h with h|h;exact hBA q h;rw[h];exact hi) (fun q hq=> ?_) fun p w hpi hw j y hy=> ?_
     ·rcases hAB q hq with h|h
      ·exact .inl (.inl h)
      ·exact(List.mem_cons.1 h).imp (fun e=> .inr e) id
     ·rw[gA] at hw;split at hw
      ·cases hw
       change cw (dD v.kv i _) j=some y at hy
       rw[gA] at hy;split at hy
       ·cases hy;exact hf
       ·exact hZ _ v (wL hL e) hv j y hy
      ·exact hZ p w hpi hw j y hy
theorem H5(hL:eA kc): ∀(l:List Int)(B E:Int→Prop)(kk kk':List (Int×Vt)),KT kc B kk E→nX kc l kk kk'→ZK kc kk→ZK kc kk'
 |[],B,E,kk,kk',h,hd,hZ=>by cases hd;exact hZ
 |i::l,B,E,kk,kk',h,⟨c,v,t,hc,hv,he,hd⟩,hZ=>by
  refine H5 hL l _ _ _ _ (H2 hL h hc hv he) hd fun p w hpi hw j y hy=> ?_
  rw[gA] at hw;split at hw
  ·cases hw
   change cw (dL v.kv i) j=some y at hy
   obtain⟨v2,h1,h2⟩:=h c.hp (wL hL hc)
   rw[hv] at h1;cases h1
   rw[iJ h2.er.nd] at hy;split at hy
   ·cases hy
   ·exact hZ _ v (wL hL hc) hv j y hy
  ·exact hZ p w hpi hw j y hy
theorem QH(hL:eA kc)(hA:AO kc on ka A): ∀q,A q→(dF kc q).hl=false→ ∃r d,A r∧cw kc r=some d∧d.hp=q:=fun q hq hl=>by
 rcases hA.ast.sup q hq with h|⟨r,h1,h2⟩
 ·have:=hA.ast.lf q h;rw[hl] at this;cases this
 ·obtain⟨d,h3,h4⟩:=jr (hA.ast.sh r h1)
  exact⟨r,d,h1,h3,by rw[←h4];exact h2⟩
theorem zw(hL:eA kc)(hB:fG kc kb)(hR:RG kb)(hA:AO kc on ka A)(hS:jv on ka kb (dc kc i) kk kk')(hK:KT kc B kk (fun q=>q∈dc kc i∨q=0))
  (hBA: ∀q,B q→A q)(hAB: ∀q,A q→B q∨q∈dc kc i):KT kc A kk' (fun q=>q=0)∧(gv kb→ZK kc kk→ZK kc kk'):=by
 refine⟨?_,fun hLi hZ=>Av hL hB (fun j m hm=>(hR j m hm).2.2) (fun j m hm=>(hLi j m hm).2) (fun q hq=>uN hA (qe hL hq)) (QH hL hA) _ i B kk kk' (Nat.le_refl _) hS hK hBA hAB hZ⟩
 have h:=zh hL hB (fun j m hm=>(hR j m hm).2.2) (A':=A) (fun q hq=>uN hA (qe hL hq)) _ i B kk kk' (Nat.le_refl _) hS hK hBA
 have:(fun q=>B q∨(q∈dc kc i∧A q))=A:=by
  funext q;apply propext;constructor
  ·rintro(h|h);exact hBA q h;exact h.2
  ·intro h;exact(hAB q h).imp id fun h2=>⟨h2,h⟩
 rw[this] at h;exact h
variable{d':Sd}{z:Pd}{ok:Bool}
theorem zx(h:Iv c d)(ht:pW d now z ok d'):Iv c d'∧(∀i,qk d.kb i=(if ok=true∧z.gq1=i then[lZ z] else[])++qk d'.kb i)∧(ok=true→qk d.kb z.gq1≠[])∧(gv d.kb∧ZK d.kc d.kk→gv d'.kb∧ZK d'.kc d'.kk):=by
 obtain⟨⟨hbt,hmc,hkc,ha,hnd⟩,hck,hac,hR⟩:=ht
 obtain⟨bt',mc',kc',kb',a',on',ka',et',ek',kk',ck',ac'⟩:=d'
 dsimp only at hbt hmc hkc ha hck hac hR⊢
 subst hbt hmc hkc ha hck hac
 rcases hR with⟨hc,rfl,rfl,rfl,rfl,rfl,rfl,rfl⟩|⟨hc,rfl,hz1,hz8,m,q,hm,hP,m2,kb2,kb3,kk2,hkb2,hm2,hqb,hq,hec,hD,hS,hSet⟩
 ·exact⟨⟨h.lt1,h.lm1,h.laid,h.aok,h.by_,hnd,h.ym,h.ac,h.onk,h.el,h.ekk,h.pk,h.rg,h.qv⟩,fun i=>by simp,fun e=>(by cases e),id⟩
 ·have hq0:=Im h hc
  rw[←hz1] at hm hkb2 hm2 hD hS hSet hq0
  generalize z.gq1=i at*
  obtain⟨m',h1,hci,hl,hg⟩:=oW h.by_ hq0
  rw[hm] at h1;cases h1
  have hL:=h.laid
  have hid:m.ec.hi=i:=Ba hL h.by_ hm
  have hqd:qk d.kb i=lZ z::qC q:=by rw[kJ hm,hP.2.1]
  obtain⟨b,hb⟩:=Option.isSome_iff_exists.1 (((h.by_ i).2 m hm).lf.1 hl)
  have hB1:=zT h.by_ hm hb hP.1
  have hG1:RG (dD d.kb i {m with q:=q}):=qf h.rg (h.rg i m hm)
  have k2:=zm z.gq3 (dc d.kc i) (dD d.kb i {m with q:=q})
  have hG2:=zr z.gq3 (dc d.kc i) _ hG1
  rw[←hkb2] at k2 hG2
  have k3:=QB hm2 hD
  have hG3:=QD hG2 hm2 hD
  have hk:KQ kb3 kb'∧RG kb'∧(gv kb3→gv kb'):=by
   rcases hS with⟨-,rfl,-⟩|⟨-,l,er,-,hSh,-⟩
   ·exact⟨oI,hG3,id⟩
   ·exact⟨SJ hSh,SK hG3 hSh,fun h=>SN h hSh⟩
  have hli:gv d.kb→gv kb':=fun hl=>hk.2.2 (QE (by rw[hkb2];exact zu _ _ _ (qg hl hm rfl (hl i m hm).2)) hm2 hD)
  have k:=tj (tj k2 k3) hk.1
  have hB':=xq k hB1
  have hqk: ∀j,qk kb' j=if i=j then qC q else qk d.kb j:=fun j=>by rw[I9 k,Ao]
  have hqi:qk kb' i=qC q:=by rw[hqk,if_pos rfl]
  have hne: ∀j,qk kb' j≠[]→qk d.kb j≠[]:=fun j hj=>by
   rw[hqk] at hj;split at hj
   ·rename_i e;subst e;exact hq0
   ·exact hj
  obtain⟨A,hA,hK⟩:=h.ac
  have hrl:jE m.ec=jE (dF d.kc i):=by rw[hg]
  have hAK:((∃A',AO d.kc on' ka' A'∧KT d.kc A' kk' (fun q=>q=0))∧ ∀j,j∈on'.map (·.1)↔fH d.kc j=true∧(dF d.kc j).hl=true∧qk kb' j≠[])∧(gv kb'→ZK d.kc d.kk→ZK d.kc kk'):=by
   have same:kk2=d.kk→on'=d.on→ka'=d.ka→(qC q≠[]∨i∉d.on.map (·.1))→((∃A',AO d.kc on' ka' A'∧KT d.kc A' kk' (fun q=>q=0))∧ ∀j,j∈on'.map (·.1)↔fH d.kc j=true∧(dF d.kc j).hl=true∧qk kb' j≠[])∧(gv kb'→ZK d.kc d.kk→ZK d.kc kk'):=by
    rintro rfl rfl rfl hx
    obtain⟨s1,s2⟩:=zw hL hB' hk.2.1 hA hSet (pE hK fun q _ h=> .inr h) (fun _ h=>h) fun _ h=> .inl h
    refine⟨⟨⟨A,hA,s1⟩,fun j=> ?_⟩,s2⟩
    rw[h.onk,hqk];by_cases e:i=j
    ·subst e;rw[if_pos rfl]
     rcases hx with hx|hx
     ·simp[hx,hq0]
     ·rw[h.onk] at hx;constructor
      ·exact fun h=>absurd h hx
      ·exact fun h=>absurd ⟨h.1,h.2.1,hq0⟩ hx
    ·rw[if_neg e]
   rcases hS with⟨h1,-,h2,h3,h4⟩|⟨h1,l,er,hO,-,-,hDr⟩
   ·exact same h4 h2 h3 (.inl h1)
   ·rw[h.ym] at hO
    by_cases hi:i∈d.on.map (·.1)
    ·obtain⟨A',hA',hl',hAA,hon⟩:=QA hL hA hO hi
     have hup: ∀z∈l,z∈dc d.kc i:=fun z hz=>by rw[hl'] at hz;exact(List.mem_filter.1 hz).1
     have hK2:=GQ hL l A _ d.kk kk2 hK hDr
     have e:(fun q=>A q∧q∉l)=A':=by
      funext q;apply propext
      rw[hl',hAA q];simp only[List.mem_filter,decide_eq_true_eq]
      constructor
      ·rintro⟨h5|h5,h6⟩
       ·exact h5
       ·exact Classical.byContradiction fun h7=>h6 ⟨h5,h7⟩
      ·exact fun h5=>⟨.inl h5,fun h6=>h6.2 h5⟩
     rw[e] at hK2
     have hz2:=H5 hL l _ _ d.kk kk2 hK hDr
     obtain⟨s1,s2⟩:=zw hL hB' hk.2.1 hA' hSet (pE hK2 fun q _ h=>by
      rcases h with h|⟨z,hz,rfl⟩
      ·exact .inr h
      ·exact Au hL _ i z (Nat.le_refl _) (hup z hz)) (fun _ h=>h) fun _ h=> .inl h
     refine⟨⟨⟨A',hA',s1⟩,fun j=> ?_⟩,fun l1 l2=>s2 l1 (hz2 l2)⟩
     ·rw[hon,h.onk,hqk];by_cases e:i=j
      ·subst e;rw[if_pos rfl];simp[h1]
      ·rw[if_neg e];simp[show¬j=i from fun h=>e h.symm]
    ·rcases hO with⟨-,h2,-⟩|⟨-,-,rfl,h2,h3⟩
     ·exact absurd (xN hL hA.ast ((uN hA (qe hL (by rw[hci];simp))).1 h2) (by rw[hg];exact hl)) hi
     ·exact same hDr h2 h3 (.inr hi)
  refine⟨?_,fun j=> ?_,fun _=>hq0,fun hz=>⟨hli hz.1,hAK.2 (hli hz.1) hz.2⟩⟩
  ·have hEk:eQ et' ek'∧ ∀j,cw ek' j≠none→qk kb' j≠[]∧jE (dF d.kc j)=true:=by
    have hgo: ∀j,i≠j→cw d.ek j≠none→qk kb' j≠[]∧jE (dF d.kc j)=true:=fun j hj h1=>by
     rw[hqk,if_neg hj];exact h.ekk j h1
    rcases hD with⟨h1,d0,-,h2,h3⟩|⟨h1,-,rfl,rfl⟩
    ·rw[hec] at h1 h3;rw[hid,hq] at h3
     refine⟨h2,fun j hj=> ?_⟩
     rcases h3 with⟨h3,rfl⟩|⟨h3,rfl⟩
     ·rw[GX h.el.nd] at hj
      by_cases e:i=j
      ·subst e;exact⟨by rw[hqi];exact h3,by rw[←hrl];exact h1⟩
      ·rw[if_neg e] at hj;exact hgo j e hj
     ·rw[iJ (QG h.el.nd _ _)] at hj
      by_cases e:i=j
      ·rw[if_pos e] at hj;exact absurd rfl hj
      ·rw[if_neg e,GX h.el.nd,if_neg e] at hj;exact hgo j e hj
    ·rw[hec] at h1
     refine⟨h.el,fun j hj=> ?_⟩
     by_cases e:i=j
     ·subst e;have:=(h.ekk i hj).2;rw[←hrl,h1] at this;cases this
     ·exact hgo j e hj
   have hpk: ∀j,∀p∈qk kb' j,1≤p.qn∧p.qn≤16384:=fun j p hp=>by
    rw[hqk] at hp;split at hp
    ·exact h.pk i p (by rw[hqd];exact List.mem_cons_of_mem _ hp)
    ·exact h.pk j p hp
   exact⟨h.lt1,h.lm1,hL,h.aok,hB',hnd,h.ym,hAK.1.1,hAK.1.2,hEk.1,hEk.2,hpk,hk.2.1,Bq k (Aq h.qv fun _=>QC (h.qv i m hm hl) (by rw[←kJ hm];exact h.pk i) hP)⟩
  ·show qk d.kb j=_++qk kb' j
   rw[hqk];by_cases e:i=j
   ·subst e;simp[hqd]
   ·simp[e]
theorem SQ{c:Cl}(h:dF kc i=c):oa c=fH kc i:=by rw[←h];rfl
theorem zy(hL:eA kc)(hl: ∀p,np kc p→s9 kk p≤gq): ∀(L:List Int)(kb:List (Int×En)),fG kc kb→RG kb→RG (kP kk now L kb)
 |[],kb,hB,h=>h
 |i::L,kb,hB,h=>by
  unfold kP;cases e:cw kb i with
  |none=>exact zy hL hl L kb hB h
  |some m=>exact zy hL hl L _ (xq (uO (m':=pq kk now m) e rfl) hB) (qf (m:=pq kk now m) h (MF (h i m e) (hl _ (wL hL (mK hB e)))))
variable{ci:Int}{p:Pk}
theorem Aw(h:Iv c d)(ht:pa c d now ci p er d'):Iv c d'∧(∀i,qk d'.kb i=qk d.kb i++(if er=0∧ci=i then[p] else[]))∧(er=0→ci∈d.kc.map (·.1))∧(gv d.kb∧ZK d.kc d.kk→gv d'.kb∧ZK d'.kc d'.kk):=by
 obtain⟨⟨hbt,hmc,hkc,ha,hnd⟩,hck,hR⟩:=ht
 obtain⟨bt',mc',kc',kb',a',on',ka',et',ek',kk',ck',ac'⟩:=d'
 dsimp only at hbt hmc hkc ha hck hR⊢
 subst hbt hmc hkc ha hck
 have hL:=h.laid
 rcases hR with⟨he,-,-,hkb,rfl,rfl,rfl,rfl,rfl⟩|⟨rfl,-,m,q,hO,hP,hR⟩
 ·have hk:fG d.kc kb'∧RG kb'∧(∀i,qk kb' i=qk d.kb i)∧(gv d.kb→gv kb')∧QV kb':=by
   rcases hkb with rfl|⟨m,q,e,hm,hP,h0,rfl⟩
   ·exact⟨h.by_,h.rg,fun _=>rfl,id,h.qv⟩
   ·obtain⟨h1,-,-,⟨-,h2,-⟩|⟨-,-,h3,-⟩⟩:=id hP
    ·exact absurd h2 h0
    ·have ho:=(h.by_ ci).2 m hm
     refine⟨wq h.by_ hm rfl ⟨ho.lf,fun hb=> ?_,fun _=>h1⟩,qf h.rg (h.rg ci m hm),fun i=> ?_,fun hl=>qg hl hm rfl (hl ci m hm).2,Aq h.qv fun hl=>GR (h.qv ci m hm hl) (by rw[←kJ hm];exact h.pk ci) (.inr h0) hP⟩
     ·have h4:=congrArg List.length h3
      rw[mF,mF,ho.no hb] at h4;exact h4
     ·rw[Ao];split
      ·rename_i e;subst e;rw[kJ hm];exact h3
      ·rfl
  refine⟨⟨h.lt1,h.lm1,hL,h.aok,hk.1,hnd,h.ym,h.ac,fun i=> ?_,h.el,fun i hi=> ?_,fun i q hq=> ?_,hk.2.1,hk.2.2.2.2⟩,fun i=> ?_,fun e=>absurd e he,fun hz=>⟨hk.2.2.2.1 hz.1,hz.2⟩⟩
  ·show i∈d.on.map (·.1)↔_
   rw[h.onk,←hk.2.2.1 i]
  ·show qk kb' i≠[]∧_
   rw[hk.2.2.1];exact h.ekk i hi
  ·exact h.pk i q (by rw[←hk.2.2.1];exact hq)
  ·rw[if_neg (fun e=>he e.1),List.append_nil];exact hk.2.2.1 i
 ·obtain⟨hm,hl,hp1,hp2,-,-⟩:=hO
  have hci:=mK h.by_ hm
  have hg:=ig hci
  have hid:m.ec.hi=ci:=Ba hL h.by_ hm
  have hqi:QV (dD d.kb ci {m with q:=q}):=Aq h.qv fun _=>GR (h.qv ci m hm hl) (by rw[←kJ hm];exact h.pk ci) (.inl ⟨hp1,Int.le_trans hp2 h.lm1.2⟩) hP
  obtain⟨hqo,-,-,⟨-,-,hqq,-⟩|⟨-,h0,-⟩⟩:=hP
  rotate_left
  ·exact absurd rfl h0
  obtain⟨b,hb⟩:=Option.isSome_iff_exists.1 (((h.by_ ci).2 m hm).lf.1 hl)
  have hB1:=zT h.by_ hm hb hqo
  have hG1:RG (dD d.kb ci {m with q:=q}):=qf h.rg (h.rg ci m hm)
  have hl1:gv d.kb→gv (dD d.kb ci {m with q:=q}):=fun hl=>qg hl hm rfl (hl ci m hm).2
  have hm1:cw (dD d.kb ci {m with q:=q}) ci=some {m with q:=q}:=jN _ _ _
  obtain⟨A,hA,hK⟩:=h.ac
  have hqn:qC q≠[]:=by rw[hqq];simp
  have fin: ∀{kb'},KQ (dD d.kb ci {m with q:=q}) kb'→ ∀i,qk kb' i=qk d.kb i++(if ci=i then[p] else[]):=fun{kb'}k i=>by
   rw[I9 k,Ao];split
   ·rename_i e;subst e;rw[kJ hm,hqq]
   ·simp
  have hpk: ∀{kb'},KQ (dD d.kb ci {m with q:=q}) kb'→ ∀i,∀p∈qk kb' i,1≤p.qn∧p.qn≤16384:=fun{kb'}k i x hx=>by
   rw[fin k,List.mem_append] at hx
   rcases hx with hx|hx
   ·exact h.pk i x hx
   ·split at hx
    ·rw[List.mem_singleton] at hx;subst hx;exact⟨hp1,Int.le_trans hp2 h.lm1.2⟩
    ·cases hx
  have hek: ∀{kb'},KQ (dD d.kb ci {m with q:=q}) kb'→ ∀i,cw d.ek i≠none→qk kb' i≠[]∧jE (dF d.kc i)=true:=fun{kb'}k i hi=>by
   rw[fin k];exact⟨by have:=(h.ekk i hi).1;simp[this],(h.ekk i hi).2⟩
  have hck:ci∈d.kc.map (·.1):=lQ.1 (by rw[hci];simp)
  rcases hR with⟨h1,kbw,hD,hW⟩|⟨h1,rfl,rfl,rfl,rfl,rfl,rfl⟩
  ·have hq0:qC m.q=[]:=by rw[hqq] at h1;simpa using h1
   have hq00:qk d.kb ci=[]:=by rw[kJ hm,hq0]
   have hkw:KQ (dD d.kb ci {m with q:=q}) kbw∧RG kbw∧eQ et' ek'∧(gv d.kb→gv kbw):=by
    rcases hD with⟨-,rfl,-,h3⟩|⟨-,rfl,rfl,rfl⟩
    ·exact⟨uO hm1 rfl,qf hG1 (h.rg ci m hm),h3,fun hl=>qg (hl1 hl) hm1 rfl (hl ci m hm).2⟩
    ·exact⟨oI,hG1,h.el,hl1⟩
   have hek': ∀{kb'},KQ (dD d.kb ci {m with q:=q}) kb'→ ∀i,cw ek' i≠none→qk kb' i≠[]∧jE (dF d.kc i)=true:=fun{kb'}k i hi=>by
    rcases hD with⟨h2,-,rfl,-⟩|⟨-,-,rfl,-⟩
    ·rw[gA] at hi
     change jE m.ec=true at h2
     by_cases e:m.ec.hi=i
     ·rw[hid] at e;subst e;exact⟨by rw[fin k,if_pos rfl];simp,by rw[hg];exact h2⟩
     ·rw[if_neg e,iJ h.el.nd,if_neg e] at hi;exact hek k i hi
    ·exact hek k i hi
   change(oa m.ec=true∧ ∃l er,nj d.a.ym d.on d.ka m.ec.hi on' ka' l er∧kb'=kP d.kk ck' l kbw∧jv on' ka' kb' (dc d.kc m.ec.hi) d.kk kk')∨(oa m.ec=false∧kb'=kbw∧on'=d.on∧ka'=d.ka∧kk'=d.kk) at hW
   rw[hid,SQ hg] at hW
   have hBw:=xq hkw.1 hB1
   rcases hW with⟨hs,l,er,hO,hkb,hS⟩|⟨hs,rfl,rfl,rfl,rfl⟩
   ·rw[h.ym] at hO
    have hn: ¬A ci:=fun ha=>((h.onk ci).1 (xN hL hA.ast ha (by rw[hg];exact hl))).2.2 hq00
    obtain⟨A',hA',hAA,hon⟩:=I7 hL hA hO hs (by rw[hg];exact hl) hn
    have k:=tj hkw.1 (Ap d.kk ck' l kbw)
    have hG':=zy hL (fun p hp=>Ny hK hp) l kbw hBw hkw.2.1 (now:=ck')
    rw[←hkb] at k hG'
    have hB':=xq k hB1
    obtain⟨s1,s2⟩:=zw hL hB' hG' hA' hS (pE hK fun q _ h=> .inr h) (fun q h=>(hAA q).2 (.inl h)) fun q h=>(hAA q).1 h
    have hl':gv d.kb→gv kb':=fun hl=>by rw[hkb];exact As _ _ _ _ (hkw.2.2.2 hl)
    refine⟨⟨h.lt1,h.lm1,hL,h.aok,hB',hnd,h.ym,⟨A',hA',s1⟩,fun j=> ?_,hkw.2.2.1,hek' k,hpk k,hG',Bq k hqi⟩,fun i=>by rw[fin k];simp,fun _=>hck,fun hz=>⟨hl' hz.1,s2 (hl' hz.1) hz.2⟩⟩
    show j∈on'.map (·.1)↔fH d.kc j=true∧(dF d.kc j).hl=true∧qk kb' j≠[]
    rw[hon,fin k,h.onk];by_cases e:ci=j
    ·subst e;simp[hs,hg,hl]
    ·simp[e,show¬j=ci from fun h=>e h.symm]
   ·refine⟨⟨h.lt1,h.lm1,hL,h.aok,hBw,hnd,h.ym,⟨A,hA,hK⟩,fun j=> ?_,hkw.2.2.1,hek' hkw.1,hpk hkw.1,hkw.2.1,Bq hkw.1 hqi⟩,fun i=>by rw[fin hkw.1];simp,fun _=>hck,fun hz=>⟨hkw.2.2.2 hz.1,hz.2⟩⟩
    show j∈d.on.map (·.1)↔fH d.kc j=true∧(dF d.kc j).hl=true∧qk kb' j≠[]
    rw[fin hkw.1,h.onk];by_cases e:ci=j
    ·subst e;simp[hs]
    ·simp[e]
  ·have hq0:qk d.kb ci≠[]:=by
    rw[kJ hm];intro e;rw[hqq,e] at h1;exact h1 rfl
   refine⟨⟨h.lt1,h.lm1,hL,h.aok,hB1,hnd,h.ym,⟨A,hA,hK⟩,fun j=> ?_,h.el,hek oI,hpk oI,hG1,hqi⟩,fun i=>by rw[fin oI];simp,fun _=>hck,fun hz=>⟨hl1 hz.1,hz.2⟩⟩
   show j∈d.on.map (·.1)↔fH d.kc j=true∧(dF d.kc j).hl=true∧qk (dD d.kb ci {m with q:=q}) j≠[]
   rw[fin oI,h.onk];by_cases e:ci=j
   ·subst e;simp[hq0]
   ·simp[e]
theorem zI(h:now≤4611686018427387904):dU now 9223372036854775807=now:=by unfold dU;split<;>omega
theorem Jy(hr: ∀y∈L,y.ka≤gq)(h:iW L≤now)(hn:now≤4611686018427387904): ∃y,eV now L=some y:=by
 unfold iW at h
 split at h
 ·unfold oS at h;omega
 ·rename_i hL
  obtain⟨y,e⟩:=D7 hr hL
  obtain⟨h1,-⟩:=yd e
  have h2:y.va≤now:=by rw[e] at h;simp only[Option.getD_some] at h;unfold dU oS at h;split at h<;>omega
  have:(eV now L).isSome:=by unfold eV;rw[List.find?_isSome];exact⟨y,h1,by simpa using h2⟩
  exact Option.isSome_iff_exists.1 this
theorem Es(hL:eA kc)(hB:fG kc kb)(hA: ∀i,A i→fH kc i=true)(h:KT kc A kk (fun q=>q=0))(hn:now≤4611686018427387904): ∀(f:Nat)(i:Int),np kc i→17≤dep kc i+f→mQ kk i≤now→ ∃j,jf kb kk now f i=some j
 |0,i,hi,hd,_=>by have:=hL.dep i;omega
 |f+1,i,hi,hd,hf=>by
  obtain⟨v,h1,h2⟩:=h i hi
  unfold mQ at hf;rw[h1] at hf;simp only[Option.map_some,Option.getD_some] at hf
  obtain⟨y,hy⟩:=Jy (fun y hy=>h2.rng _ y (pG h2.er hy)) hf hn
  have hp:mL kk now i=some y:=by unfold mL;rw[h1,zI hn];exact hy
  obtain⟨v',h1',h5,h3,h4,h6⟩:=zv h hi hp
  rw[h1] at h1';cases h1'
  rw[zI hn] at h6
  obtain⟨c,h7,h8⟩:=jr (hA _ h3)
  obtain⟨m,h9,h10,-⟩:=sR hB h7
  have hlf:qm kb y.ki=c.hl:=by unfold qm;rw[h9];simp[h10]
  unfold jf;rw[hp];dsimp only
  cases e:c.hl with
  |true=>rw[if_pos (hlf.trans e)];exact⟨_,rfl⟩
  |false=>
   rw[if_neg (by rw[hlf,e];simp)]
   refine Es hL hB hA h hn f _ (.inr ⟨c,h7,e⟩) (by rw[iq hL h7,←h8,h4];omega) ?_
   have:=h2.fit _ y h5 (by rw[h8];exact e) (qe hL (by rw[h7];simp))
   omega
theorem Ia(h:Iv c d)(hd:kK d.et d.kk≤now)(hn:now≤4611686018427387904)(ht:pW d now z ok d'):ok=true:=by
 obtain⟨-,-,-,⟨hc,-⟩|⟨-,h2,-⟩⟩:=ht
 rotate_left
 ·exact h2
 exfalso
 have hch:(eY d.et d.kb d.kk now).2.2=true:=by
  unfold eY
  split
  ·rfl
  ·rename_i hb
   obtain⟨A,hA,hK⟩:=h.ac
   have hf:mQ d.kk 0≤now:=by
    unfold kK dU at hd
    split at hd
    ·exact hd
    ·exfalso
     rename_i hlt
     unfold mg at hd hlt
     cases e:d.et.toL with
     |nil=>rw[e,if_pos rfl] at hd;unfold oS at hd;omega
     |cons y L=>
      rw[e] at hd;simp only[List.head?_cons,Option.getD_some,reduceCtorEq,if_false] at hd
      have h1:y.ka≤now:=by unfold dU oS at hd;split at hd<;>omega
      rw[zI hn,e] at hb
      unfold eW bl at hb
      rw[List.filter_cons_of_pos (by simpa using h1)] at hb
      exact zH _ y hb
   obtain⟨j,hj⟩:=Es h.laid h.by_ hA.ast.sh hK hn 17 0 (.inl rfl) (by omega) hf
   rw[hj];rfl
 rw[hch] at hc;cases hc
structure mW where
 bs:Nat
 mc:Nat
 mr:Nat
def uj(s:mW)(cv:List (Int×SL))(rv:List (Int×SR)):List V.dC:=[cz s.bs [.map (some s.mc),.map (some s.mr)] 157,dX (fun k:Int=>i_ k) V.jF s.mc cv,fN 40 ga cv,dX (fun k:Int=>i_ k) (fun y:SR=>(.agg #[u_ y.sp,u_ y.sb,u_ y.sr,u_ y.sw,u_ y.sg])) s.mr rv]
def fl(s:mW)(cv:List (Int×SL))(rv:List (Int×SR)):V.dC:=co (uj s cv rv)
def gr(n:Nat)(cv:List (Int×SL)):Prop:= ∀k,((cw cv k).getD dN).sx.length≤n
theorem Sj(w:World)(hs:HS w (dG []) [] w):Calls Tryz.prog 44 #[] w fun e w'=> ∃zz:mW,e= .returned (p_ zz.bs)∧True∧Turn [] [fl zz [] []] w w':=by
 refine(Qw w hs).mono ?_
 rintro e w' ⟨⟨bs,mc,mr⟩,h1,-,h3⟩
 exact⟨⟨bs,mc,mr⟩,h1,trivial,Turn.coR (Y:=[]) (by rw[List.append_nil];exact h3)⟩
theorem Qx(s:mW)(cv:List (Int×SL))(rv:List (Int×SR))(n:Nat)(ci a:Int)(hn:gr n cv)(h:n≤100000)(w:World)(hs:HS w (dG [fl s cv rv]) [fl s cv rv] w):Calls Tryz.prog 77 #[p_ s.bs,i_ ci,u_ a] w fun e w'=> ∃zz:List (Int×SL),e= .returned (i_ 0)∧gr (n+1) zz∧Turn [fl s cv rv] [fl s zz rv] w w':=by
 refine(O2 s.bs s.mc s.mr cv rv ci a (Nat.le_trans (hn ci) h) w (HS.coS hs)).mono ?_
 rintro e w' ⟨zc,h1,⟨A,c,h2⟩,h3⟩
 refine⟨zc,h1,fun k=> ?_,Turn.coS h3⟩
 rw[h2,gA];by_cases e:ci=k
 ·rw[if_pos e];have:=hn ci;simp;omega
 ·rw[if_neg e];have:=hn k;omega
theorem Qy(s:mW)(cv:List (Int×SL))(rv:List (Int×SR))(n:Nat)(ci dn nb:Int)(rl:Bool)(hn:gr n cv)(w:World)(hs:HS w (dG [fl s cv rv]) [fl s cv rv] w):Calls Tryz.prog 116 #[p_ s.bs,i_ ci,u_ dn,i_ nb,b_ rl] w fun e w'=> ∃zz:Int×List (Int×SL)×List (Int×SR),e= .returned (i_ zz.1)∧gr n zz.2.1∧Turn [fl s cv rv] [fl s zz.2.1 zz.2.2] w w':=by
 have hf:=HS.coS hs
 by_cases hw:mO cv ci dn nb=0
 ·refine(O3 s.bs s.mc s.mr cv rv ci dn nb rl hw w hf).mono ?_
  rintro e w' ⟨_,h1,-,h3⟩
  refine⟨(0,_,_),h1,fun k=> ?_,Turn.coS h3⟩
  rw[gA];by_cases e:ci=k
  ·rw[if_pos e];have:=hn ci;simp[u2];omega
  ·rw[if_neg e];exact hn k
 ·refine(Ji s.bs s.mc s.mr cv rv ci dn nb rl hw w (hf.all _ (by simp[uj])) (hf.all _ (by simp[uj])) (hf.all _ (by simp[uj])) (hf.all _ (by simp[uj]))).mono ?_
  rintro e w' ⟨rfl,h2⟩
  exact⟨(_,cv,rv),rfl,hn,Turn.of (hs.kept h2) (.refl _)⟩
structure Ru where
 bt:Nat
 ar:Option Addr
 cr:Nat
 mb:Nat
 am:Option Addr
 cm:Nat
 rl:List Rl
def uk(r:Ru):List V.dC:=[cz r.bt [.slice r.ar r.rl.length r.cr,.map (some r.mb),.slice r.am (dW r.rl r.rl.length).length r.cm] 150,sl r.ar r.rl.length r.cr 86 9 (V.dJ fU r.rl),dX iE (fun x:Int=>i_ x) r.mb (eG r.rl r.rl.length),sl r.am (dW r.rl r.rl.length).length r.cm 3 1 (V.dJ iD (dW r.rl r.rl.length))]
def gu(r:Ru):V.dC:=co (uk r)
structure ko(l:List Rl):Prop where
 len:l.length≤32
 good: ∀x∈l,x.good=true
 rng: ∀x∈l,jx x
theorem Qz(r:Ru)(h:Hd)(ho:ko r.rl)(hh:jw h)(w:World)(hr:(gu r).holds w):Calls Tryz.prog 75 #[p_ r.bt,.agg #[w_ h.ha,w_ h.hb,w_ h.hc,w_ h.hd]] w fun e w'=>e= .returned (.tuple #[i_ (fV r.rl h),i_ (lX (fV r.rl h))])∧Fr [] w w':=
 OJ r.bt r.ar r.rl r.cr r.mb r.am r.cm h ho.len ho.rng hh ho.good w (hr _ (by simp[uk])) (hr _ (by simp[uk])) (q9 (hr (sl r.ar r.rl.length r.cr 86 9 (V.dJ fU r.rl)) (by simp[uk]))) (q9 (hr (sl r.am (dW r.rl r.rl.length).length r.cm 3 1 (V.dJ iD (dW r.rl r.rl.length))) (by simp[uk])))
theorem Hw(al:Option Addr)(l:List Rl)(cl:Nat)(ho:ko l)(w:World)(ha:ez w al (V.dJ fU l))(hs:HS w (dG []) [] w):Calls Tryz.prog 43 #[.slice al l.length cl] w fun e w'=> ∃zz:Ru,e= .returned (.tuple #[p_ zz.bt,i_ 0])∧zz.rl=l∧Turn [] [gu zz] w w':=by
 refine(QP al l cl ho.len ho.good ho.rng w ha hs).mono ?_
 rintro e w' ⟨⟨bt,ar,cr,mb,am,cm⟩,h1,-,h3⟩
 exact⟨⟨bt,ar,cr,mb,am,cm,l⟩,h1,rfl,Turn.coR (Y:=[]) (by rw[List.append_nil];exact h3)⟩
def jk(l:List Rl):Int:=if l.length≤32 then 1 else 2
theorem Hy(l:List Rl):jk l≠0:=by unfold jk;split<;>decide
theorem RA(al:Option Addr)(l:List Rl)(cl:Nat)(hR: ∀x∈l,jx x)(ho: ¬ko l)(w:World)(ha:ez w al (V.dJ fU l)):Calls Tryz.prog 43 #[.slice al l.length cl] w fun e w'=>e= .returned (.tuple #[n_,i_ (jk l)])∧Fr [] w w':=by
 by_cases hl:l.length≤32
 ·rw[show jk l=1 from if_pos hl];exact OE al l cl hl (fun h=>ho ⟨hl,h,hR⟩) hR w ha
 ·rw[show jk l=2 from if_neg hl];exact MM al l cl (by omega) w ha
structure Rs where
 wq1:Int
 wq2:Int
 wq3:Int
 deriving Inhabited,DecidableEq
def ik(x:Rs):List Value:=[(i_ x.wq1),(i_ x.wq2),(i_ x.wq3)]
theorem t6(x:Rs):(ik x).length=3:=rfl
theorem LD(x:Rs):(ik x).all Value.oneCell'=true:=rfl
structure Ev where
 vq1:Int
 vq2:Bool
 vq3:Bool
 vq4:Int
 vq5:Int
 vq6:Int
 vq7:Int
 vq8:Int
 vq9:Int
 vq10:Int
 vq11:Int
 vq12:Int
 deriving Inhabited,DecidableEq
def mm(x:Ev):List Value:=[(i_ x.vq1),(b_ x.vq2),(b_ x.vq3),(u_ x.vq4),(u_ x.vq5),(i_ x.vq6),(u_ x.vq7),(i_ x.vq8),(w_ x.vq9),(w_ x.vq10),(w_ x.vq11),(w_ x.vq12)]
theorem lq(x:Ev):(mm x).length=12:=rfl
theorem EP(x:Ev):(mm x).all Value.oneCell'=true:=rfl
abbrev ff(A:Option Addr)(xs:List Ev)(c:Nat):V.dC:=sl A xs.length c 52 12 (V.dJ mm xs)
def pz(x:Ev)(o:Int):Ev:={x with vq1:=o}
def qA(x:Ev):Pk:=⟨x.vq7,x.vq8,x.vq9,x.vq10,x.vq11,x.vq12⟩
def gI(p:Pk):Hd:=⟨p.qa,p.qb,p.qc,p.qd⟩
set_option maxHeartbeats 4000000 in
set_option maxRecDepth 100000 in
theorem Hz(x:Ev)(bo bu:Nat)(oo:Int)(A_:Option Addr)(evs:List Ev)(c_:Nat)(hle:evs.length≤1000000):
  CS 45 #[.agg (mm x).toArray,p_ bo,p_ bu] [cz bo [i_ oo] 3,cz bu [vS A_ evs c_] 30,ff A_ evs c_] (fun((A',c'):(Option Addr)×Nat)=>(.tuple #[])) (fun _=>True) fun(A',c')=>[cz bo [i_ oo] 3,cz bu [vS A' (evs++[pz x oo]) c'] 30,ff A' (evs++[pz x oo]) c']:=by
 intro w hs
 refine A.C Tryz.func45 rfl hs (A.c (A.aH [.al] [1,2,3] (fun b1=>[(1,p_ bo),(2,p_ bu),(3,p_ b1)]) (fun b1=>[cz bo [i_ oo] 3,cz bu [vS A_ evs c_] 30,ff A_ evs c_,cz b1 (mm x) 52]) (fun b1=>[]) (fun _=>T0) (fun _=>by kernel_rfl) (fun b1=>trivial) ?_))
 intro b1
 refine A.c (A.gO [.ld 0,.p,.st 3] [(2,p_ bu),(3,p_ b1)] [cz bo [i_ oo] 3,cz bu [vS A_ evs c_] 30,ff A_ evs c_,cz b1 [i_ oo,b_ x.vq2,b_ x.vq3,u_ x.vq4,u_ x.vq5,i_ x.vq6,u_ x.vq7,i_ x.vq8,w_ x.vq9,w_ x.vq10,w_ x.vq11,w_ x.vq12] 52] [bo,b1] (A.s (A.hp [.ld 1,.ld 3] [(2,p_ bu),(6,vS A_ evs c_),(7,.agg #[i_ oo,b_ x.vq2,b_ x.vq3,u_ x.vq4,u_ x.vq5,i_ x.vq6,u_ x.vq7,i_ x.vq8,w_ x.vq9,w_ x.vq10,w_ x.vq11,w_ x.vq12])] [bu,b1] (A.j (A.aF 8 (e:=52) [i_ oo,b_ x.vq2,b_ x.vq3,u_ x.vq4,u_ x.vq5,i_ x.vq6,u_ x.vq7,i_ x.vq8,w_ x.vq9,w_ x.vq10,w_ x.vq11,w_ x.vq12] (by kernel_rfl) rfl (fun _=>by kernel_rfl) (fun b2=>[cz bo [i_ oo] 3,cz bu [vS A_ evs c_] 30,ff A_ evs c_,cz b1 [i_ oo,b_ x.vq2,b_ x.vq3,u_ x.vq4,u_ x.vq5,i_ x.vq6,u_ x.vq7,i_ x.vq8,w_ x.vq9,w_ x.vq10,w_ x.vq11,w_ x.vq12] 52,cz b2 [i_ oo,b_ x.vq2,b_ x.vq3,u_ x.vq4,u_ x.vq5,i_ x.vq6,u_ x.vq7,i_ x.vq8,w_ x.vq9,w_ x.vq10,w_ x.vq11,w_ x.vq12] 52]) (fun _=>rfl) ?_)))))
 intro b2
 refine A.j (A.bN (enc:=mm) (xs:=evs) ([(⟨oo,x.vq2,x.vq3,x.vq4,x.vq5,x.vq6,x.vq7,x.vq8,x.vq9,x.vq10,x.vq11,x.vq12⟩:Ev)]) 2 9 (e:=52) (z:=(.agg #[i_ 0,b_ false,b_ false,u_ 0,u_ 0,i_ 0,u_ 0,i_ 0,w_ 0,w_ 0,w_ 0,w_ 0])) (sz:=12) (by_:=64) (by kernel_rfl) rfl rfl rfl (by kernel_rfl) (by kernel_rfl) (by rfl) (by decide) lq EP rfl (gZ (i:=4) rfl) (by first|omega|(simp;omega)|(simp;done)) (fun A3 c3=>[cz bo [i_ oo] 3,cz bu [vS A_ evs c_] 30,ff A3 (evs++([(⟨oo,x.vq2,x.vq3,x.vq4,x.vq5,x.vq6,x.vq7,x.vq8,x.vq9,x.vq10,x.vq11,x.vq12⟩:Ev)])) c3,cz b1 [i_ oo,b_ x.vq2,b_ x.vq3,u_ x.vq4,u_ x.vq5,i_ x.vq6,u_ x.vq7,i_ x.vq8,w_ x.vq9,w_ x.vq10,w_ x.vq11,w_ x.vq12] 52,cz b2 [i_ oo,b_ x.vq2,b_ x.vq3,u_ x.vq4,u_ x.vq5,i_ x.vq6,u_ x.vq7,i_ x.vq8,w_ x.vq9,w_ x.vq10,w_ x.vq11,w_ x.vq12] 52]) (fun _ _=>rfl) ?_)
 intro A3 c3
 refine A.gO [.st 1] [] [cz bo [i_ oo] 3,cz bu [vS A3 (evs++([(⟨oo,x.vq2,x.vq3,x.vq4,x.vq5,x.vq6,x.vq7,x.vq8,x.vq9,x.vq10,x.vq11,x.vq12⟩:Ev)])) c3] 30,ff A3 (evs++([(⟨oo,x.vq2,x.vq3,x.vq4,x.vq5,x.vq6,x.vq7,x.vq8,x.vq9,x.vq10,x.vq11,x.vq12⟩:Ev)])) c3,cz b1 [i_ oo,b_ x.vq2,b_ x.vq3,u_ x.vq4,u_ x.vq5,i_ x.vq6,u_ x.vq7,i_ x.vq8,w_ x.vq9,w_ x.vq10,w_ x.vq11,w_ x.vq12] 52,cz b2 [i_ oo,b_ x.vq2,b_ x.vq3,u_ x.vq4,u_ x.vq5,i_ x.vq6,u_ x.vq7,i_ x.vq8,w_ x.vq9,w_ x.vq10,w_ x.vq11,w_ x.vq12] 52] [bu] (A.su 1 (cz bu [vS A3 (evs++[pz x oo]) c3] 30) rfl (iI (cc (congrArg (fun z_:List Ev=>Value.slice A3 z_.length c3) (by first|rfl|omega|(simp;done)|grind:evs++([(⟨oo,x.vq2,x.vq3,x.vq4,x.vq5,x.vq6,x.vq7,x.vq8,x.vq9,x.vq10,x.vq11,x.vq12⟩:Ev)])=(evs++[pz x oo]))) rfl)) (A.su 2 (ff A3 (evs++[pz x oo]) c3) rfl (eI (by first|rfl|omega|(simp;done)|grind:evs++([(⟨oo,x.vq2,x.vq3,x.vq4,x.vq5,x.vq6,x.vq7,x.vq8,x.vq9,x.vq10,x.vq11,x.vq12⟩:Ev)])=(evs++[pz x oo]))) (A.aQ [0,0,0] [] (fun aa ww rr ss=>trivial) (A3,c3) ?_ ?_ (by kernel_rfl))))
 ·rfl
 ·trivial
def CP(oo:Int)(z:Pd)(now t:Int):Ev:=⟨oo,false,z.gq8,now,now+z.gq3*t,z.gq1,z.gq2,z.gq3,z.gq4,z.gq5,z.gq6,z.gq7⟩
def s4(d:Sd)(un t oo now:Int)(evs:List Ev)(d':Sd)(un':Int)(evs':List Ev):Prop:=
 (now<un∧d'=d∧un'=un∧evs'=evs)∨(un≤now∧ ∃z ok,pW d now z ok d'∧((ok=false∧un'=un∧evs'=evs)∨(ok=true∧un'=now+z.gq3*t∧evs'=evs++[CP oo z now t])))
theorem O5(h:oR c d)(ht:pW d now z ok d')(ho:ok=true):1≤z.gq3∧z.gq3≤16384:=by
 obtain⟨-,-,-,⟨-,h2,-⟩|⟨-,-,-,-,m,q,h3,h4,-⟩⟩:=ht
 ·rw[ho] at h2;cases h2
 ·exact h.pk _ m h3 (lZ z) (by rw[h4.2.1];exact List.mem_cons_self ..)
def ip(clk un:Int)(d:Sd):Int:=nZ clk un (kK d.et d.kk)
abbrev xe(p0)(p1)(p2)(p3)(p4)(p5):=(cz p0 [u_ p1,u_ p2,u_ p3,i_ p4,u_ p5] 146:V.dC)
abbrev xf(p0)(p1:Ss)(p2)(p3:Ru)(p4:mW)(p5)(p6):=(cz p0 [p_ p1.sb,p_ p2,p_ p3.bt,p_ p4.bs,u_ p5,i_ p6] 114:V.dC)
theorem RB(sy:Nat)(c:Ss)(d:Sd)(bl:Nat)(k1 k2 k3 t un:Int)(r:Ru)(s:mW)(clk no:Int)(hP:oR c d):
  CS 79 #[p_ sy] [xf sy c bl r s clk no,fF c d,xe bl k1 k2 k3 t un] (fun(zz:Unit)=>(u_ (ip clk un d))) (fun _=>True) fun _=>[xf sy c bl r s clk no,fF c d,xe bl k1 k2 k3 t un]:=by
 intro w hs
 refine A.C Tryz.func79 rfl hs (A.c (A.g [.p] [] [] (A.d (A.c (A.g [.p,.p] [] [(4,b_ false)] (A.Z (A.p (A.d (A.W [14] 16 (A.kd 2 [.p,.p,.p,.ld 0,.p,.p,.p,.ld 0,.cq (u_ un),.p,.p,.p,.ld 0,.cq (u_ (kK d.et d.kk))] [0,1,2,3,4,5,6,7,8,9,10,11,12,13] [0,4] [(8,u_ clk),(13,u_ un),(18,u_ (kK d.et d.kk))] [sy,sy,sy] (oc (qo (fun ww ss=>MK bl k1 k2 k3 t un ww (ss.mem (i:=2) rfl))) (o1 (qo (fun ww ss=>SE c d ‹_› ww (ss.mem (i:=1) rfl))))) (A.F 14 rfl (A.J (some 19) [] (fun ww ss hh=>O9 clk un (kK d.et d.kk) ww hh) ?_))))))))))))
 rintro⟨⟩-
 refine A.E (A.dT 0 [.p] [15] [8,13,18,19] [(2,u_ (nZ clk un (kK d.et d.kk)))] [] (A.M (A.e (A.Y [0,0,0] [u_ (nZ clk un (kK d.et d.kk))] () ?_ ?_))))
 ·rfl
 trivial
theorem IA(sy:Nat)(c:Ss)(d:Sd)(bl:Nat)(k1 k2 k3 t un:Int)(r:Ru)(s:mW)(cv:List (Int×SL))(rv:List (Int×SR))(clk no:Int)(bo bu:Nat)(oo:Int)(A_:Option Addr)(evs:List Ev)(c_:Nat)(now:Int)(n:Nat)(hP:oR c d)(hck:d.ck≤now)(hnw:0≤now∧now≤4611686018427387904)(htt:1≤t∧t≤65536)(hle:evs.length≤999999)(hst:gr n cv):
  CS 78 #[p_ sy,u_ now,.func (.func 45) #[] #[p_ bo,p_ bu]] [xf sy c bl r s clk no,fF c d,xe bl k1 k2 k3 t un,fl s cv rv,cz bo [i_ oo] 3,cz bu [vS A_ evs c_] 30,ff A_ evs c_] (fun((d',un',q1',q2',q3',cv',rv',evs',A',c'):Sd×Int×Int×Int×Int×(List (Int×SL))×(List (Int×SR))×(List Ev)×(Option Addr)×Nat)=>(.tuple #[])) (fun(d',un',q1',q2',q3',cv',rv',evs',A',c')=>s4 d un t oo now evs d' un' evs'∧gr n cv') fun(d',un',q1',q2',q3',cv',rv',evs',A',c')=>[xf sy c bl r s clk no,fF c d',xe bl q1' q2' q3' t un',fl s cv' rv',cz bo [i_ oo] 3,cz bu [vS A' evs' c'] 30,ff A' evs' c']:=by
 intro w hs
 refine A.C Tryz.func78 rfl hs (A.d (A.c (A.k [.p,.p,.p,.ld 0,.p,.cq (b_ (decide (now≥un))),.p] [] [(16,b_ (!(decide (now≥un))))] [sy] (o1 (qo (fun ww ss=>AB bl k1 k2 k3 t un now ww (ss.mem (i:=2) rfl)))) (A.v rfl (fun e1=> ?_) (fun e1=> ?_)))))
 ·refine A.e (A.aG [0,0,0,0,0,0,0] [] (fun aa ww rr ss=>trivial) (d,un,k1,k2,k3,cv,rv,evs,A_,c_) ?_ ?_ (by kernel_rfl))
  ·rfl
  exact⟨.inl ⟨by(simp_all;done),rfl,rfl,rfl⟩,hst⟩
 have p1:=e1;try simp only[de] at p1
 refine A.p (A.c (A.gm [.p,.p,.p,.ld 0,.p] [16] [(21,p_ c.sb),(22,u_ now)] [sy] (A.j (A.J (some 23) [1] (fun ww ss hh=>PU c d now ‹_› ‹_› (by omega) ww hh) ?_))))
 rintro⟨z1,ok2,d'3⟩ hz2
 refine A.g1 [.p,.p,.p,.al,.st 7,.p] [21,22,23] (fun b4=>[(6,p_ b4),(7,b_ ok2)]) (fun b4=>[]) (fun b4=>cz b4 (Be z1) 235) (fun b4=>[b4]) ?_
 intro b4
 refine A.d (A.c (A.g [.p,.p] [7] [(27,b_ (!ok2))] (A.cn (!ok2) (fun e3=> ?_) (fun e3=> ?_))))
 ·have p3:=e3
  refine A.e (A.aG [1,0,0,0,0,0,0] [] (fun aa ww rr ss=>trivial) (d'3,un,k1,k2,k3,cv,rv,evs,A_,c_) ?_ ?_ (by kernel_rfl))
  ·rfl
  exact⟨.inr ⟨by(simp_all;done),_,_,by assumption,.inl ⟨by(simp_all;done),rfl,rfl⟩⟩,hst⟩
 have p3:=e3
 refine A.p (A.d (A.W [7] 13 (A.dT 6 [.p,.p,.p,.ld 1,.p,.p,.ld 7] [0,1,2,3,4,5,6] [27] [(32,p_ bl),(33,u_ now),(35,.agg #[u_ z1.gq2,i_ z1.gq3,w_ z1.gq4,w_ z1.gq5,w_ z1.gq6,w_ z1.gq7])] [sy,b4] (A.F 7 rfl (A.J (some 36) [2] (fun ww ss hh=>OC bl k1 k2 k3 t un now (lZ z1) ‹_› (by exact O5 hP ‹_› (by(simp_all;done))) ‹_› ‹_› ww hh) ?_)))))
 rintro⟨z15,z26,z37⟩-
 refine A.E (A.dT 0 [.p,.p,.p,.p,.p] [8,9,10,11,12] [32,33,35,36] [(8,u_ (now+(lZ z1).qn*t))] [] (A.M (A.d (A.W [12] 13 (A.dT 1 [.p,.p,.p,.ld 2,.p,.ld 7,.p,.p,.p,.ld 7,.p,.ld 7] [0,1,2,3,4,5,6,7,8,9,10,11] [0] [(42,p_ s.bs),(44,i_ z1.gq1),(45,u_ (now+(lZ z1).qn*t)),(48,i_ z1.gq3),(50,b_ z1.gq8)] [sy,b4,b4,b4] (A.F 12 rfl (A.J (some 51) [3] (fun ww ss hh=>Qy s cv rv n z1.gq1 (now+(lZ z1).qn*t) z1.gq3 z1.gq8 ‹_› ww hh) ?_)))))))
 rintro⟨zi8,cv'9,rv'10⟩ hz5
 refine A.E (A.M (A.s (A.gm [.p,.p,.ld 7,.p,.p,.p,.ld 7,.p,.ld 7,.p] [1,2,6,8,42,44,45,48,50,51] [(52,.func (.func 45) #[] #[p_ bo,p_ bu]),(61,.agg #[i_ 0,b_ false,b_ z1.gq8,u_ now,u_ (now+(lZ z1).qn*t),i_ z1.gq1,u_ z1.gq2,i_ z1.gq3,w_ z1.gq4,w_ z1.gq5,w_ z1.gq6,w_ z1.gq7])] [b4,b4,b4] (A.j (A.J (some 62) [4,4,4] (fun ww ss hh=>Hz (⟨0,false,z1.gq8,now,now+(lZ z1).qn*t,z1.gq1,z1.gq2,z1.gq3,z1.gq4,z1.gq5,z1.gq6,z1.gq7⟩:Ev) bo bu oo A_ evs c_ (by omega) ww hh) ?_)))))
 rintro⟨A'11,c'12⟩-
 refine A.aC (A.aQ [6,5,4,3,0,0,0] [] (fun aa ww rr ss=>trivial) (d'3,now+(lZ z1).qn*t,z15,z26,z37,cv'9,rv'10,evs++[pz (⟨0,false,z1.gq8,now,now+(lZ z1).qn*t,z1.gq1,z1.gq2,z1.gq3,z1.gq4,z1.gq5,z1.gq6,z1.gq7⟩:Ev) oo],A'11,c'12) ?_ ?_ (by kernel_rfl))
 ·rfl
 exact⟨.inr ⟨by(simp_all;done),_,_,by assumption,.inr ⟨by(simp_all;done),rfl,rfl⟩⟩,by assumption⟩
structure nV(c:Ss)(I:Sd→Prop)(cnt:Sd→Nat):Prop where
 pre: ∀d,I d→oR c d
 take: ∀d now z ok d',I d→d.ck≤now→pW d now z ok d'→I d'∧cnt d'≤cnt d∧(ok=true→cnt d'+1≤cnt d)
 put: ∀d now ci p er d',I d→d.ck≤now→pa c d now ci p er d'→I d'∧cnt d'≤cnt d+1
 chg: ∀d idle l er d',I d→(∀z∈l,jD z)→tt c d idle l er d'→I d'∧cnt d'≤cnt d
 go: ∀d now z ok d',I d→kK d.et d.kk≤now→now≤4611686018427387904→pW d now z ok d'→ok=true
variable{I:Sd→Prop}{cnt:Sd→Nat}{un:Int}{evs evs':List Ev}
theorem tp(hW:nV c I cnt){t oo un':Int}(hI:I d)(h1:d.ck≤now)(h:s4 d un t oo now evs d' un' evs'):I d'∧evs'.length+cnt d'≤evs.length+cnt d∧d'.ck≤now:=by
 rcases h with⟨-,rfl,-,rfl⟩|⟨-,z,ok,ht,h⟩
 ·exact⟨hI,Nat.le_refl _,h1⟩
 ·obtain⟨a1,a2,a3⟩:=hW.take d now z ok d' hI h1 ht
  have hc:d'.ck=now:=ht.2.1
  rcases h with⟨-,-,rfl⟩|⟨e,-,rfl⟩
  ·exact⟨a1,by omega,by omega⟩
  ·have:=a3 e;exact⟨a1,by simp;omega,by omega⟩
theorem wX{clk fin:Int}(h:ip clk un d≤fin)(hf:fin≤4611686018427387904):clk≤ip clk un d∧un≤ip clk un d∧kK d.et d.kk≤ip clk un d:=by
 unfold ip nZ qB dU at*;grind
theorem LF(hW:nV c I cnt){clk t oo un' fin:Int}(hI:I d)(h1:d.ck≤clk)(hx:ip clk un d≤fin)(hf:fin≤4611686018427387904)(h:s4 d un t oo (ip clk un d) evs d' un' evs'):cnt d'<cnt d:=by
 obtain⟨b1,b2,b3⟩:=wX hx hf
 rcases h with⟨h2,-⟩|⟨-,z,ok,ht,h⟩
 ·omega
 ·have:=(hW.take d _ z ok d' hI (by omega) ht).2.2 (hW.go d _ z ok d' hI b3 (by omega) ht);omega
inductive om(t oo fin:Int):Int→Sd→Int→List Ev→Sd→Int→List Ev→Prop
 |stop {clk:Int} {d:Sd} {un:Int} {evs:List Ev}:fin<ip clk un d→om t oo fin clk d un evs d un evs
 |step {clk:Int} {d d1 d2:Sd} {un un1 un2:Int} {evs evs1 evs2:List Ev}:ip clk un d≤fin→s4 d un t oo (ip clk un d) evs d1 un1 evs1→om t oo fin (ip clk un d) d1 un1 evs1 d2 un2 evs2→om t oo fin clk d un evs d2 un2 evs2
def rs(e p k:Int):Rs:=⟨e,p,k⟩
def C6(oo clk k:Int)(p:Pk):Ev:=⟨oo,true,false,clk,0,k,p.qi,p.qn,p.qa,p.qb,p.qc,p.qd⟩
def wY(c:Ss)(rl:List Rl)(d:Sd)(un t oo clk:Int)(p:Pk)(evs:List Ev)(x:Rs)(d':Sd)(un':Int)(evs':List Ev):Prop:=
 (lX (fV rl (gI p))≠0∧x=rs (lX (fV rl (gI p))) 0 0∧d'=d∧un'=un∧evs'=evs)∨
 (lX (fV rl (gI p))=0∧ ∃er d1,pa c d clk (fV rl (gI p)) p er d1∧((er≠0∧x=rs er 0 (fV rl (gI p))∧d'=d1∧un'=un∧evs'=evs)∨(er=0∧x=rs 0 0 (fV rl (gI p))∧s4 d1 un t oo clk (evs++[C6 oo clk (fV rl (gI p)) p]) d' un' evs')))
def FP(d:Sd)(un t oo clk tk:Int)(evs:List Ev)(x:Rs)(clk':Int)(d':Sd)(un':Int)(evs':List Ev):Prop:=
 (4611686018427387904-clk<tk∧x=rs 27 0 0∧clk'=clk∧d'=d∧un'=un∧evs'=evs)∨(tk≤4611686018427387904-clk∧x=rs 0 0 0∧clk'=clk+tk∧om t oo (clk+tk) clk d un evs d' un' evs')
theorem qQ{n m:Nat}{cv:List (Int×SL)}(h:gr n cv)(hn:n≤m):gr m cv:=fun k=>Nat.le_trans (h k) hn
theorem IB(h:pa c d now ci p er d'):d'.ck≤now:=by have:=h.2.1;omega
theorem O6(hW:nV c I cnt){e:Ev}(hI:I d)(h1:d.ck≤now)(hle:evs.length+cnt d≤900000)(h:pa c d now ci p er d'):(evs++[e]).length≤999999:=by simp;omega
abbrev xg(p0:Ru)(p1):=(i_ (lX (fV p0.rl (gI p1))):Value)
theorem M8(sy:Nat)(c:Ss)(d:Sd)(bl:Nat)(k1 k2 k3 t un:Int)(r:Ru)(s:mW)(cv:List (Int×SL))(rv:List (Int×SR))(clk no:Int)(bo bu:Nat)(oo:Int)(A_:Option Addr)(evs:List Ev)(c_:Nat)(p:Pk)(n:Nat)(I:Sd→Prop)(cnt:Sd→Nat)(hW:nV c I cnt)(hI:I d)(hck:d.ck≤clk)(hnw:0≤clk∧clk≤4611686018427387904)(htt:1≤t∧t≤65536)(hle:evs.length+cnt d≤900000)(hst:gr n cv)(hn:n≤90000)(hr:ko r.rl)(hp:jw (gI p)):
  CS 48 #[p_ sy,.agg (fR p).toArray,.func (.func 45) #[] #[p_ bo,p_ bu]] [cz sy [p_ c.sb,p_ bl,p_ r.bt,p_ s.bs,u_ clk,i_ no] 114,fF c d,cz bl [u_ k1,u_ k2,u_ k3,i_ t,u_ un] 146,fl s cv rv,cz bo [i_ oo] 3,cz bu [vS A_ evs c_] 30,ff A_ evs c_,gu r] (fun((x,d',un',q1',q2',q3',cv',rv',evs',A',c'):Rs×Sd×Int×Int×Int×Int×(List (Int×SL))×(List (Int×SR))×(List Ev)×(Option Addr)×Nat)=>(.agg (ik x).toArray)) (fun(x,d',un',q1',q2',q3',cv',rv',evs',A',c')=>wY c r.rl d un t oo clk p evs x d' un' evs'∧gr (n+1) cv') fun(x,d',un',q1',q2',q3',cv',rv',evs',A',c')=>[cz sy [p_ c.sb,p_ bl,p_ r.bt,p_ s.bs,u_ clk,i_ no] 114,fF c d',cz bl [u_ q1',u_ q2',u_ q3',i_ t,u_ un'] 146,fl s cv' rv',cz bo [i_ oo] 3,cz bu [vS A' evs' c'] 30,ff A' evs' c',gu r]:=by
 intro w hs
 refine A.C Tryz.func48 rfl hs (A.c (A.n2 [.al,.al] [1] (fun b1 b2=>[(4,p_ b1),(6,p_ b2)]) (fun b1 b2=>[cz b1 (fR p) 45,cz b2 [i_ 0,i_ 0,i_ 0] 49]) ?_))
 intro b1 b2
 refine A.d (A.ka [.p,.p,.p,.ld 0,.p,.ld 8,.cq (.tuple #[i_ (fV r.rl (gI p)),xg r p]),.p,.p,.p,.p,.p] [0,1,2,3,4,5,6,7,8,9,10,11] [] [(7,i_ (fV r.rl (gI p))),(8,xg r p)] [sy,b1] (o1 (qo (fun ww ss=>Qz r (gI p) ‹_› ‹_› ww (ss.mem (i:=7) rfl)))) (A.d (A.c (A.g [.p,.p] [] [(20,b_ ((lX (fV r.rl (gI p)))!=0))] (A.v rfl (fun e1=> ?_) (fun e1=> ?_))))))
 ·have p1:=e1;try simp only[de] at p1
  refine A.c (A.gs [.p,.p,.st 9] [0,2,4,7,8,20] [] [(9,cz b2 [xg r p,i_ 0,i_ 0] 49)] [b2] (A.e (A.aG [0,0,0,0,0,0,0,0] [.agg #[xg r p,i_ 0,i_ 0]] (fun aa ww rr ss=>⟨iG 9 rr ss,trivial⟩) ((⟨lX (fV r.rl (gI p)),0,0⟩:Rs),d,un,k1,k2,k3,cv,rv,evs,A_,c_) ?_ ?_ (by kernel_rfl))))
  ·rfl
  exact⟨.inl ⟨‹_›,rfl,rfl,rfl,rfl⟩,qQ hst (by omega)⟩
 have p1:=e1;try simp only[de] at p1
 refine A.p (A.d (A.d (A.W [10] 12 (A.dT 2 [.p,.p,.p,.ld 0,.p,.p,.p,.ld 0,.p,.ld 8] [0,1,2,3,4,5,6,7,8,9] [20] [(26,p_ c.sb),(30,u_ clk),(31,i_ (fV r.rl (gI p))),(32,.agg (fR p).toArray)] [sy,sy,b1] (A.F 10 rfl (A.J (some 33) [1] (fun ww ss hh=>SD c d clk (fV r.rl (gI p)) p (hW.pre _ hI) ‹_› (by omega) ww hh) ?_))))))
 rintro⟨er3,d'4⟩ hz2
 refine A.E (A.dT 0 [.p] [11] [26,30,31,32,33] [(8,i_ er3)] [] (A.M (A.c (A.g [.p,.p] [] [(35,b_ (er3 !=0))] (A.v rfl (fun e3=> ?_) (fun e3=> ?_))))))
 ·have p3:=e3;try simp only[de] at p3
  refine A.c (A.gs [.p,.p,.p,.st 9] [0,2,4,7,8,35] [] [(9,cz b2 [i_ er3,i_ 0,i_ (fV r.rl (gI p))] 49)] [b2] (A.e (A.aG [1,0,0,0,0,0,0,0] [.agg #[i_ er3,i_ 0,i_ (fV r.rl (gI p))]] (fun aa ww rr ss=>⟨iG 9 rr ss,trivial⟩) ((⟨er3,0,fV r.rl (gI p)⟩:Rs),d'4,un,k1,k2,k3,cv,rv,evs,A_,c_) ?_ ?_ (by kernel_rfl))))
  ·rfl
  exact⟨.inr ⟨‹_›,_,_,by assumption,.inl ⟨‹_›,rfl,rfl,rfl,rfl⟩⟩,qQ hst (by omega)⟩
 have p3:=e3;try simp only[de] at p3
 refine A.p (A.d (A.W [9] 10 (A.dT 1 [.p,.p,.p,.ld 1,.p,.p,.p,.p,.ld 1] [0,1,2,3,4,5,6,7,8] [8,35] [(42,p_ s.bs),(43,i_ (fV r.rl (gI p))),(47,u_ clk)] [sy,sy] (A.F 9 rfl (A.J (some 48) [3] (fun ww ss hh=>Qx s cv rv n (fV r.rl (gI p)) clk ‹_› (by omega) ww hh) ?_)))))
 rintro cv'5 hz4
 refine A.E (A.M (A.d (A.W [8] 9 (A.dT 1 [.p,.p,.p,.p,.ld 2,.p,.ld 8,.p] [0,1,2,3,4,5,6,7] [4,42,43,47,48] [(49,.func (.func 45) #[] #[p_ bo,p_ bu]),(56,.agg #[i_ 0,b_ true,b_ false,u_ clk,u_ 0,i_ (fV r.rl (gI p)),u_ p.qi,i_ p.qn,w_ p.qa,w_ p.qb,w_ p.qc,w_ p.qd])] [sy,b1] (A.F 8 rfl (A.J (some 57) [4,4,4] (fun ww ss hh=>Hz (⟨0,true,false,clk,0,fV r.rl (gI p),p.qi,p.qn,p.qa,p.qb,p.qc,p.qd⟩:Ev) bo bu oo A_ evs c_ (by omega) ww hh) ?_))))))
 rintro⟨A'6,c'7⟩-
 refine A.E (A.M (A.c (A.gm [.p,.p,.p,.p,.ld 5,.p] [0,2,49,56,57] [(58,p_ sy),(62,u_ clk),(63,.func (.func 45) #[] #[p_ bo,p_ bu])] [sy] (A.j (A.J (some 64) [5,4,4,3,0,0,0] (fun ww ss hh=>IA sy c d'4 bl k1 k2 k3 t un r s cv'5 rv clk no bo bu oo A'6 (evs++[pz (⟨0,true,false,clk,0,fV r.rl (gI p),p.qi,p.qn,p.qa,p.qb,p.qc,p.qd⟩:Ev) oo]) c'7 clk (n+1) (hW.pre _ (hW.put _ _ _ _ _ _ hI hck ‹_›).1) (IB ‹_›) ‹_› ‹_› (O6 hW hI hck hle ‹_›) ‹_› ww hh) ?_)))))
 rintro⟨d'9,un'10,q1'11,q2'12,q3'13,cv'14,rv'15,evs'16,A'17,c'18⟩ hz6
 refine A.aC (A.c (A.gs [.p,.p,.st 9] [7,58,62,63,64] [] [(9,cz b2 [i_ 0,i_ 0,i_ (fV r.rl (gI p))] 49)] [b2] (A.e (A.aG [0,0,0,0,0,0,0,0] [.agg #[i_ 0,i_ 0,i_ (fV r.rl (gI p))]] (fun aa ww rr ss=>⟨iG 9 rr ss,trivial⟩) ((⟨0,0,fV r.rl (gI p)⟩:Rs),d'9,un'10,q1'11,q2'12,q3'13,cv'14,rv'15,evs'16,A'17,c'18) ?_ ?_ (by kernel_rfl)))))
 ·rfl
 exact⟨.inr ⟨‹_›,_,_,by assumption,.inr ⟨‹_›,rfl,(by assumption:_∧gr _ _).1⟩⟩,(by assumption:_∧gr _ _).2⟩
theorem Sl(sy:Nat)(c:Ss)(d:Sd)(bl:Nat)(k1 k2 k3 t un:Int)(r:Ru)(s:mW)(cv:List (Int×SL))(rv:List (Int×SR))(clk no:Int)(bo bu:Nat)(oo:Int)(A_:Option Addr)(evs:List Ev)(c_:Nat)(tk:Int)(n:Nat)(I:Sd→Prop)(cnt:Sd→Nat)(hW:nV c I cnt)(hI:I d)(hck:d.ck≤clk)(hnw:0≤clk∧clk≤4611686018427387904)(htt:1≤t∧t≤65536)(hle:evs.length+cnt d≤900000)(hst:gr n cv)(hn:n≤90000)(htk:0≤tk):
  CS 49 #[p_ sy,u_ tk,.func (.func 45) #[] #[p_ bo,p_ bu]] [cz sy [p_ c.sb,p_ bl,p_ r.bt,p_ s.bs,u_ clk,i_ no] 114,fF c d,cz bl [u_ k1,u_ k2,u_ k3,i_ t,u_ un] 146,fl s cv rv,cz bo [i_ oo] 3,cz bu [vS A_ evs c_] 30,ff A_ evs c_] (fun((x,clk',d',un',q1',q2',q3',cv',rv',evs',A',c'):Rs×Int×Sd×Int×Int×Int×Int×(List (Int×SL))×(List (Int×SR))×(List Ev)×(Option Addr)×Nat)=>(.agg (ik x).toArray)) (fun(x,clk',d',un',q1',q2',q3',cv',rv',evs',A',c')=>FP d un t oo clk tk evs x clk' d' un' evs'∧gr n cv') fun(x,clk',d',un',q1',q2',q3',cv',rv',evs',A',c')=>[cz sy [p_ c.sb,p_ bl,p_ r.bt,p_ s.bs,u_ clk',i_ no] 114,fF c d',cz bl [u_ q1',u_ q2',u_ q3',i_ t,u_ un'] 146,fl s cv' rv',cz bo [i_ oo] 3,cz bu [vS A' evs' c'] 30,ff A' evs' c']:=by
 intro w hs
 refine A.C Tryz.func49 rfl hs (A.c (A.n1 [.al] [] (fun b1=>[(6,p_ b1)]) (fun b1=>cz b1 [i_ 0,i_ 0,i_ 0] 49) ?_))
 intro b1
 refine A.d (A.c (A.k [.p,.p,.p,.p,.ld 0,.w (4611686018427387904-clk),.p] [] [(15,b_ (decide (tk>(4611686018427387904-clk))))] [sy] (o1 (wv (4611686018427387904-clk) (by omega))) (A.v rfl (fun e1=> ?_) (fun e1=> ?_))))
 ·have p1:=of_decide_eq_true e1
  refine A.c (A.gs [.p,.st 7] [0,1,2,15] [] [(7,cz b1 [i_ 27,i_ 0,i_ 0] 49)] [b1] (A.e (A.aG [0,0,0,0,0,0,0] [.agg #[i_ 27,i_ 0,i_ 0]] (fun aa ww rr ss=>⟨iG 7 rr ss,trivial⟩) ((⟨27,0,0⟩:Rs),clk,d,un,k1,k2,k3,cv,rv,evs,A_,c_) ?_ ?_ (by kernel_rfl))))
  ·rfl
  exact⟨.inl ⟨by omega,rfl,rfl,rfl,rfl,rfl⟩,hst⟩
 have p1:=of_decide_eq_false e1
 refine A.p (A.c (A.k [.p,.p,.p,.ld 0,.p,.w (clk+tk),.p] [1,15] [(7,u_ (clk+tk))] [sy] (o1 (wv (clk+tk) (by omega))) (A.y (A.lp (σ:=Int×Sd×Int×Int×Int×Int×(List (Int×SL))×(List (Int×SR))×(List Ev)×(Option Addr)×Nat) [] (fun(clkk,dk,unk,j1,j2,j3,cvk,rvk,evsk,Ak,cck)=>[]) [0,0,0,0,0,0,0] (fun(clkk,dk,unk,j1,j2,j3,cvk,rvk,evsk,Ak,cck)=>[cz sy [p_ c.sb,p_ bl,p_ r.bt,p_ s.bs,u_ clkk,i_ no] 114,fF c dk,cz bl [u_ j1,u_ j2,u_ j3,i_ t,u_ unk] 146,fl s cvk rvk,cz bo [i_ oo] 3,cz bu [vS Ak evsk cck] 30,ff Ak evsk cck]) (fun(clkk,dk,unk,j1,j2,j3,cvk,rvk,evsk,Ak,cck)=>(I dk)∧(dk.ck≤clkk)∧(clk≤clkk∧clkk≤clk+tk)∧(evsk.length+cnt dk≤900000)∧(gr n cvk)∧(∀d2 un2 evs2,om t oo (clk+tk) clkk dk unk evsk d2 un2 evs2→om t oo (clk+tk) clk d un evs d2 un2 evs2)) (fun(clkk,dk,unk,j1,j2,j3,cvk,rvk,evsk,Ak,cck)=>cnt dk) (clk,d,un,k1,k2,k3,cv,rv,evs,A_,c_) ⟨hI,hck,(by(constructor<;>omega)),hle,hst,(fun _ _ _ h=>h)⟩ ?_ ?_))))
 ·exact A.I [0,0,0,0,0,0,0,0]
 rintro⟨clkk,dk,unk,j1,j2,j3,cvk,rvk,evsk,Ak,cck⟩ ⟨hIk,hckk,hbk,hlk,hsk,hA⟩
 refine A.y (A.c (A.O [.p] [] [(23,p_ sy)] (A.j (A.J (some 24) [0,0,0] (fun ww ss hh=>RB sy c dk bl j1 j2 j3 t unk r s clkk no (hW.pre _ hIk) ww hh) ?_))))
 rintro⟨⟩-
 refine A.g [.p] [23,24] [(8,u_ (ip clkk unk dk))] (A.d (A.c (A.g [.p,.p,.p] [] [(27,b_ (decide ((ip clkk unk dk)>(clk+tk))))] (A.v rfl (fun e3=> ?_) (fun e3=> ?_)))))
 ·have p3:=of_decide_eq_true e3
  refine A.c (A.gs [.p,.p,.p,.p,.st 0] [0,2,7,8,27] [] [(0,cz sy [p_ c.sb,p_ bl,p_ r.bt,p_ s.bs,u_ (clk+tk),i_ no] 114)] [sy] (A.c (A.gs [.p,.st 7] [] [] [] [b1] (A.e (A.aG [0,0,0,0,0,0,0] [.agg #[i_ 0,i_ 0,i_ 0]] (fun aa ww rr ss=>⟨iG 7 rr ss,trivial⟩) ((⟨0,0,0⟩:Rs),clk+tk,dk,unk,j1,j2,j3,cvk,rvk,evsk,Ak,cck) ?_ ?_ (by kernel_rfl))))))
  ·rfl
  exact⟨.inr ⟨by omega,rfl,rfl,hA _ _ _ (.stop (by omega))⟩,hsk⟩
 have p3:=of_decide_eq_false e3
 refine A.p (A.d ?_)
 have hnl:=wX (clk:=clkk) (un:=unk) (d:=dk) (fin:=clk+tk) (by omega) (by omega)
 refine A.s (A.gs [.p,.p,.p,.p,.st 0] [27] [] [(0,cz sy [p_ c.sb,p_ bl,p_ r.bt,p_ s.bs,u_ (ip clkk unk dk),i_ no] 114)] [sy] (A.s (A.O [.p,.p,.p] [8] [(37,p_ sy),(38,u_ (ip clkk unk dk)),(39,.func (.func 45) #[] #[p_ bo,p_ bu])] (A.j (A.J (some 40) [0,0,0,0,0,0,0] (fun ww ss hh=>IA sy c dk bl j1 j2 j3 t unk r s cvk rvk (ip clkk unk dk) no bo bu oo Ak evsk cck (ip clkk unk dk) n (hW.pre _ hIk) (by omega) (by omega) ‹_› (by omega) ‹_› ww hh) ?_)))))
 rintro⟨d'2,un'3,q1'4,q2'5,q3'6,cv'7,rv'8,evs'9,A'10,c'11⟩ hz4
 refine A.aC (A.aA ((ip clkk unk dk),d'2,un'3,q1'4,q2'5,q3'6,cv'7,rv'8,evs'9,A'10,c'11) ⟨((tp hW hIk (now:=ip clkk unk dk) (by omega) (by assumption:_∧gr _ _).1).1),((tp hW hIk (now:=ip clkk unk dk) (by omega) (by assumption:_∧gr _ _).1).2.2),(by(constructor<;>omega)),(by(have h_:=(tp hW hIk (now:=ip clkk unk dk) (by omega) (by assumption:_∧gr _ _).1).2.1;omega)),((by assumption:_∧gr _ _).2),(fun _ _ _ h=>hA _ _ _ (.step (by omega) (by assumption:_∧gr _ _).1 h))⟩ (by(show cnt _<cnt dk;exact LF hW (un:=unk) hIk hckk (fin:=clk+tk) (by omega) (by omega) (by assumption:_∧gr _ _).1)) ?_)
 exact A.I [0,0,0,0,0,0,0,0]
def um(c:Ss)(t kd:Int)(l:List Zc)(lr:List Rl)(p:Pk)(tk:Int)(no:Int)(d:Sd)(un clk:Int)(rl:List Rl)(x:Rs)(evs':List Ev)(d':Sd)(un' clk':Int)(rl':List Rl):Prop:=
 (kd=1∧(∃er pl,tt c d (decide (clk≥un)) l er d'∧x=rs er pl 0)∧un'=un∧clk'=clk∧rl'=rl∧evs'=[])∨
 (kd=2∧d'=d∧un'=un∧clk'=clk∧evs'=[]∧((ko lr∧rl'=lr∧x=rs 0 0 0)∨(¬ko lr∧rl'=rl∧ ∃e,e≠0∧x=rs e 0 0)))∨
 (kd=3∧clk'=clk∧rl'=rl∧wY c rl d un t no clk p [] x d' un' evs')∨
 (kd=4∧rl'=rl∧FP d un t no clk tk [] x clk' d' un' evs')∨
 ((kd≠1∧kd≠2∧kd≠3∧kd≠4)∧x=rs 1 0 0∧d'=d∧un'=un∧clk'=clk∧rl'=rl∧evs'=[])
theorem TL(sy:Nat)(c:Ss)(d:Sd)(bl:Nat)(k1 k2 k3 t un:Int)(r:Ru)(s:mW)(cv:List (Int×SL))(rv:List (Int×SR))(clk no:Int)(W:World)(kd:Int)(za:Option Addr)(zl:List Zc)(zc:Nat)(ra:Option Addr)(rl:List Rl)(rc:Nat)(p:Pk)(tk:Int)(n:Nat)(I:Sd→Prop)(cnt:Sd→Nat)(hza:ez W za (V.dJ jL zl))(hra:ez W ra (V.dJ fU rl))(hz: ∀z∈zl,jD z)(hrl: ∀x∈rl,jx x)(hp:jw (gI p))(htk:0≤tk)(hno:0≤no∧no≤90000)(hr:ko r.rl)(hW:nV c I cnt)(hI:I d)(hck:d.ck≤clk)(hnw:0≤clk∧clk≤4611686018427387904)(htt:1≤t∧t≤65536)(hst:gr n cv)(hn:n≤90000)(hcd:cnt d≤900000):
  CS 32 #[p_ sy,.agg #[i_ kd,vS za zl zc,vS ra rl rc,u_ p.qi,i_ p.qn,w_ p.qa,w_ p.qb,w_ p.qc,w_ p.qd,u_ tk]] [cz sy [p_ c.sb,p_ bl,p_ r.bt,p_ s.bs,u_ clk,i_ no] 114,fF c d,cz bl [u_ k1,u_ k2,u_ k3,i_ t,u_ un] 146,fl s cv rv,gu r,fA W] (fun((x,clk',d',un',q1',q2',q3',cv',rv',r',evs',A',c'):Rs×Int×Sd×Int×Int×Int×Int×(List (Int×SL))×(List (Int×SR))×Ru×(List Ev)×(Option Addr)×Nat)=>(.tuple #[.agg (ik x).toArray,vS A' evs' c'])) (fun(x,clk',d',un',q1',q2',q3',cv',rv',r',evs',A',c')=>um c t kd zl rl p tk no d un clk r.rl x evs' d' un' clk' r'.rl∧gr (n+1) cv'∧ko r'.rl) fun(x,clk',d',un',q1',q2',q3',cv',rv',r',evs',A',c')=>[cz sy [p_ c.sb,p_ bl,p_ r'.bt,p_ s.bs,u_ clk',i_ (no+1)] 114,fF c d',cz bl [u_ q1',u_ q2',u_ q3',i_ t,u_ un'] 146,fl s cv' rv',gu r',fA W,ff A' evs' c']:=by
 intro w hs
 refine A.C Tryz.func32 rfl hs (A.c (A.n2 [.al,.al,.p] [1] (fun b1 b2=>[(3,p_ b1),(4,p_ b2)]) (fun b1 b2=>[cz b1 [i_ kd,vS za zl zc,vS ra rl rc,u_ p.qi,i_ p.qn,w_ p.qa,w_ p.qb,w_ p.qc,w_ p.qd,u_ tk] 47,cz b2 [i_ 0,i_ 0,i_ 0] 49]) ?_))
 intro b1 b2
 refine A.d (A.c (A.g [.p,.p] [] [(15,b_ false)] (A.Z (A.p (A.c (A.n1 [.al] [15] (fun b3=>[(6,p_ b3)]) (fun b3=>cz b3 [e_] 30) ?_))))))
 intro b3
 refine A.c (A.g1 [.p,.p,.p,.ld 0,.al,.st 9] [] (fun b4=>[(7,p_ b4)]) (fun b4=>[]) (fun b4=>cz b4 [i_ no] 3) (fun b4=>[sy,b4]) ?_)
 intro b4
 refine A.c (A.g [.p,.p] [7] [(8,.func (.func 45) #[] #[p_ b4,p_ b3])] (A.c (A.ks [.p,.p,.p,.ld 0,.w (no+1),.p,.p,.st 0] [] [] [(0,cz sy [p_ c.sb,p_ bl,p_ r.bt,p_ s.bs,u_ clk,i_ (no+1)] 114)] [sy,sy] (o1 (wj (no+1) (by omega))) (A.c (A.g1 [.p,.al,.st 10] [] (fun b5=>[(9,p_ b5)]) (fun b5=>[]) (fun b5=>cz b5 [i_ 1,i_ 0,i_ 0] 49) (fun b5=>[b5]) ?_)))))
 intro b5
 refine A.d (A.c (A.gl [.p,.ld 6] [] [(31,i_ kd)] [b1] (A.y (A.c (A.g [.p,.p] [] [(32,b_ (kd==1))] (A.cn (kd==1) (fun e1=> ?_) (fun e1=> ?_)))))))
 ·have p1:=e1;try simp only[de] at p1
  refine A.d (A.W [15] 21 (A.kd 6 [.p,.p,.p,.ld 0,.p,.p,.p,.ld 0,.p,.p,.p,.ld 0,.cq (b_ (decide (clk≥un))),.p,.ld 6] [0,1,2,3,4,5,6,7,8,9,10,11,12,13,14] [0,3,8,31,32] [(38,p_ c.sb),(47,b_ (decide (clk≥un))),(49,vS za zl zc)] [sy,sy,sy,b1] (o1 (qo (fun ww ss=>AB bl k1 k2 k3 t un clk ww (ss.mem (i:=2) rfl)))) (A.F 15 rfl (A.J (some 50) [1,4] (fun ww ss hh=>L8 c d W (decide (clk≥un)) za zl zc (hW.pre _ hI) ‹_› ‹_› ww hh) ?_))))
  rintro⟨pl6,er7,d'8⟩ hz2
  refine A.E (A.dT 0 [.p,.p,.p,.p,.p] [16,17,18,19,20] [38,47,49,50] [(10,i_ pl6),(11,i_ er7)] [] (A.M (A.s (A.gs [.p,.p,.p,.st 10] [10,11] [] [(10,cz b5 [i_ er7,i_ pl6,i_ 0] 49)] [b5] ((A.d (A.d3 [2] 4 [fF c d'8,fA W,cz sy [p_ c.sb,p_ bl,p_ r.bt,p_ s.bs,u_ clk,i_ (no+1)] 114,cz bl [u_ k1,u_ k2,u_ k3,i_ t,u_ un] 146,fl s cv rv,gu r,cz b1 [i_ kd,vS za zl zc,vS ra rl rc,u_ p.qi,i_ p.qn,w_ p.qa,w_ p.qb,w_ p.qc,w_ p.qd,u_ tk] 47,cz b3 [e_] 30,cz b4 [i_ no] 3,cz b5 [i_ er7,i_ pl6,i_ 0] 49] (A.bT 2 [.ld 9,.ld 7] [0,1] [(4,p_ b2),(86,.agg #[i_ er7,i_ pl6,i_ 0]),(87,e_)] [b5,b3] (sd [7]) (A.o3 2 rfl (A.aw 7 (vs:=[i_ er7,i_ pl6,i_ 0]) [fF c d'8,fA W,cz sy [p_ c.sb,p_ bl,p_ r.bt,p_ s.bs,u_ clk,i_ (no+1)] 114,cz bl [u_ k1,u_ k2,u_ k3,i_ t,u_ un] 146,fl s cv rv,gu r,cz b1 [i_ kd,vS za zl zc,vS ra rl rc,u_ p.qi,i_ p.qn,w_ p.qa,w_ p.qb,w_ p.qc,w_ p.qd,u_ tk] 47,cz b2 [i_ er7,i_ pl6,i_ 0] 49,cz b3 [e_] 30,cz b4 [i_ no] 3,cz b5 [i_ er7,i_ pl6,i_ 0] 49] (by kernel_rfl) rfl rfl rfl rfl (by kernel_rfl) rfl rfl (by kernel_rfl) rfl (A.aI (sd [7]) (A.bT 0 [.p] [3] [(4,p_ b2),(5,e_)] [] (sd [7]) (A.f3 (A.e (A.aP 52 12 [fF c d'8,fA W,cz sy [p_ c.sb,p_ bl,p_ r.bt,p_ s.bs,u_ clk,i_ (no+1)] 114,cz bl [u_ k1,u_ k2,u_ k3,i_ t,u_ un] 146,fl s cv rv,gu r,cz b1 [i_ kd,vS za zl zc,vS ra rl rc,u_ p.qi,i_ p.qn,w_ p.qa,w_ p.qb,w_ p.qc,w_ p.qd,u_ tk] 47,cz b2 [i_ er7,i_ pl6,i_ 0] 49,cz b3 [e_] 30,cz b4 [i_ no] 3,cz b5 [i_ er7,i_ pl6,i_ 0] 49,ff none ([]:List Ev) 0] rfl (A.aG [2,0,1,1,1,0,5] [.agg #[i_ er7,i_ pl6,i_ 0],e_] (fun aa ww rr ss=>⟨iG 7 rr ss,fQ rr rfl,trivial⟩) ((⟨er7,pl6,0⟩:Rs),clk,d'8,un,k1,k2,k3,cv,rv,r,([]:List Ev),none,0) ?_ ?_ (by kernel_rfl)))))))))))))))))
  ·rfl
  exact⟨.inl ⟨by omega,⟨_,_,by assumption,rfl⟩,rfl,rfl,rfl,rfl⟩,qQ hst (by omega),hr⟩
 have p1:=e1;try simp only[de] at p1
 refine A.c (A.g [.p,.p] [32] [(56,b_ (kd==2))] (A.cn (kd==2) (fun e3=> ?_) (fun e3=> ?_)))
 ·have p3:=e3;try simp only[de] at p3
  refine A.d ?_
  by_cases hru:ko rl
  ·refine A.s (A.gm [.p,.ld 6] [3,8,31,56] [(60,vS ra rl rc)] [b1] (A.j (A.J (some 61) [] (fun ww ss hh=>Hw ra rl rc ‹_› ww ((rW (i:=5) rfl hra) ww ss) hh) ?_)))
   rintro r10 hz4
   refine A.g [.p,.p,.p,.p,.p] [60,61] [(12,p_ r10.bt),(13,i_ 0)] (A.d (A.c (A.g [.p,.p] [] [(65,b_ true)] (A.ct (A.s (A.gs [.p,.p,.p,.p,.st 1] [0,12,65] [] [(1,cz sy [p_ c.sb,p_ bl,p_ r10.bt,p_ s.bs,u_ clk,i_ (no+1)] 114)] [sy] (A.s (A.gs [.p,.p,.st 11] [13] [] [(11,cz b5 [i_ 0,i_ 0,i_ 0] 49)] [b5] ((A.d (A.d3 [2] 4 [gu r10,cz sy [p_ c.sb,p_ bl,p_ r10.bt,p_ s.bs,u_ clk,i_ (no+1)] 114,fF c d,cz bl [u_ k1,u_ k2,u_ k3,i_ t,u_ un] 146,fl s cv rv,gu r,fA W,cz b1 [i_ kd,vS za zl zc,vS ra rl rc,u_ p.qi,i_ p.qn,w_ p.qa,w_ p.qb,w_ p.qc,w_ p.qd,u_ tk] 47,cz b2 [i_ 0,i_ 0,i_ 0] 49,cz b3 [e_] 30,cz b4 [i_ no] 3,cz b5 [i_ 0,i_ 0,i_ 0] 49] (A.bT 2 [.ld 11,.ld 9] [0,1] [(4,p_ b2),(86,.agg #[i_ 0,i_ 0,i_ 0]),(87,e_)] [b5,b3] (.refl _) (A.o3 2 rfl (A.aw 8 (vs:=[i_ 0,i_ 0,i_ 0]) [gu r10,cz sy [p_ c.sb,p_ bl,p_ r10.bt,p_ s.bs,u_ clk,i_ (no+1)] 114,fF c d,cz bl [u_ k1,u_ k2,u_ k3,i_ t,u_ un] 146,fl s cv rv,gu r,fA W,cz b1 [i_ kd,vS za zl zc,vS ra rl rc,u_ p.qi,i_ p.qn,w_ p.qa,w_ p.qb,w_ p.qc,w_ p.qd,u_ tk] 47,cz b2 [i_ 0,i_ 0,i_ 0] 49,cz b3 [e_] 30,cz b4 [i_ no] 3,cz b5 [i_ 0,i_ 0,i_ 0] 49] (by kernel_rfl) rfl rfl rfl rfl (by kernel_rfl) rfl rfl (by kernel_rfl) rfl (A.aI (.refl _) (A.bT 0 [.p] [3] [(4,p_ b2),(5,e_)] [] (.refl _) (A.f3 (A.e (A.aP 52 12 [gu r10,cz sy [p_ c.sb,p_ bl,p_ r10.bt,p_ s.bs,u_ clk,i_ (no+1)] 114,fF c d,cz bl [u_ k1,u_ k2,u_ k3,i_ t,u_ un] 146,fl s cv rv,gu r,fA W,cz b1 [i_ kd,vS za zl zc,vS ra rl rc,u_ p.qi,i_ p.qn,w_ p.qa,w_ p.qb,w_ p.qc,w_ p.qd,u_ tk] 47,cz b2 [i_ 0,i_ 0,i_ 0] 49,cz b3 [e_] 30,cz b4 [i_ no] 3,cz b5 [i_ 0,i_ 0,i_ 0] 49,ff none ([]:List Ev) 0] rfl (A.aG [1,1,1,1,0,1,6] [.agg #[i_ 0,i_ 0,i_ 0],e_] (fun aa ww rr ss=>⟨iG 8 rr ss,fQ rr rfl,trivial⟩) ((⟨0,0,0⟩:Rs),clk,d,un,k1,k2,k3,cv,rv,r10,([]:List Ev),none,0) ?_ ?_ (by kernel_rfl)))))))))))))))))))))
   ·rfl
   exact⟨.inr (.inl ⟨by omega,rfl,rfl,rfl,rfl,.inl ⟨by assumption,by assumption,rfl⟩⟩),qQ hst (by omega),by(simp_all;done)⟩
  refine A.s (A.k [.p,.ld 6,.cq (.tuple #[n_,i_ (jk rl)]),.p,.p,.p,.p,.p] [3,8,31,56] [(12,n_),(13,i_ (jk rl))] [b1] (o1 (qo (fun ww ss=>RA ra rl rc ‹_› ‹_› ww ((rW (i:=5) rfl hra) ww ss)))) (A.d (A.c (A.g [.p,.p] [] [(65,b_ ((jk rl)==0))] (A.v rfl (fun e5=> ?_) (fun e5=> ?_))))))
  ·exact absurd e5 (by(intro h_;simp at h_;exact Hy _ h_))
  have p5:=e5;try simp only[de] at p5
  refine A.p (A.s (A.gs [.p,.p,.st 10] [0,12,13,65] [] [(10,cz b5 [i_ (jk rl),i_ 0,i_ 0] 49)] [b5] ((A.d (A.d3 [2] 4 [cz sy [p_ c.sb,p_ bl,p_ r.bt,p_ s.bs,u_ clk,i_ (no+1)] 114,fF c d,cz bl [u_ k1,u_ k2,u_ k3,i_ t,u_ un] 146,fl s cv rv,gu r,fA W,cz b1 [i_ kd,vS za zl zc,vS ra rl rc,u_ p.qi,i_ p.qn,w_ p.qa,w_ p.qb,w_ p.qc,w_ p.qd,u_ tk] 47,cz b3 [e_] 30,cz b4 [i_ no] 3,cz b5 [i_ (jk rl),i_ 0,i_ 0] 49] (A.bT 2 [.ld 9,.ld 7] [0,1] [(4,p_ b2),(86,.agg #[i_ (jk rl),i_ 0,i_ 0]),(87,e_)] [b5,b3] (sd [7]) (A.o3 2 rfl (A.aw 7 (vs:=[i_ (jk rl),i_ 0,i_ 0]) [cz sy [p_ c.sb,p_ bl,p_ r.bt,p_ s.bs,u_ clk,i_ (no+1)] 114,fF c d,cz bl [u_ k1,u_ k2,u_ k3,i_ t,u_ un] 146,fl s cv rv,gu r,fA W,cz b1 [i_ kd,vS za zl zc,vS ra rl rc,u_ p.qi,i_ p.qn,w_ p.qa,w_ p.qb,w_ p.qc,w_ p.qd,u_ tk] 47,cz b2 [i_ (jk rl),i_ 0,i_ 0] 49,cz b3 [e_] 30,cz b4 [i_ no] 3,cz b5 [i_ (jk rl),i_ 0,i_ 0] 49] (by kernel_rfl) rfl rfl rfl rfl (by kernel_rfl) rfl rfl (by kernel_rfl) rfl (A.aI (sd [7]) (A.bT 0 [.p] [3] [(4,p_ b2),(5,e_)] [] (sd [7]) (A.f3 (A.e (A.aP 52 12 [cz sy [p_ c.sb,p_ bl,p_ r.bt,p_ s.bs,u_ clk,i_ (no+1)] 114,fF c d,cz bl [u_ k1,u_ k2,u_ k3,i_ t,u_ un] 146,fl s cv rv,gu r,fA W,cz b1 [i_ kd,vS za zl zc,vS ra rl rc,u_ p.qi,i_ p.qn,w_ p.qa,w_ p.qb,w_ p.qc,w_ p.qd,u_ tk] 47,cz b2 [i_ (jk rl),i_ 0,i_ 0] 49,cz b3 [e_] 30,cz b4 [i_ no] 3,cz b5 [i_ (jk rl),i_ 0,i_ 0] 49,ff none ([]:List Ev) 0] rfl (A.aG [0,0,0,0,0,0,5] [.agg #[i_ (jk rl),i_ 0,i_ 0],e_] (fun aa ww rr ss=>⟨iG 7 rr ss,fQ rr rfl,trivial⟩) ((⟨jk rl,0,0⟩:Rs),clk,d,un,k1,k2,k3,cv,rv,r,([]:List Ev),none,0) ?_ ?_ (by kernel_rfl)))))))))))))))
  ·rfl
  exact⟨.inr (.inl ⟨by omega,rfl,rfl,rfl,rfl,.inr ⟨by assumption,rfl,_,Hy _,rfl⟩⟩),qQ hst (by omega),hr⟩
 have p3:=e3;try simp only[de] at p3
 refine A.c (A.g [.p,.p] [56] [(72,b_ (kd==3))] (A.cn (kd==3) (fun e6=> ?_) (fun e6=> ?_)))
 ·have p6:=e6;try simp only[de] at p6
  refine A.s (A.gm [.p,.p,.ld 6,.p] [0,3,8,31,72] [(74,p_ sy),(76,.agg (fR p).toArray),(77,.func (.func 45) #[] #[p_ b4,p_ b3])] [b1] (A.aP 52 12 [cz sy [p_ c.sb,p_ bl,p_ r.bt,p_ s.bs,u_ clk,i_ (no+1)] 114,fF c d,cz bl [u_ k1,u_ k2,u_ k3,i_ t,u_ un] 146,fl s cv rv,gu r,fA W,cz b1 [i_ kd,vS za zl zc,vS ra rl rc,u_ p.qi,i_ p.qn,w_ p.qa,w_ p.qb,w_ p.qc,w_ p.qd,u_ tk] 47,cz b2 [i_ 0,i_ 0,i_ 0] 49,cz b3 [e_] 30,cz b4 [i_ no] 3,cz b5 [i_ 1,i_ 0,i_ 0] 49,ff none ([]:List Ev) 0] rfl (A.j (A.J (some 78) [0,0,0,0,5,4,5,0] (fun ww ss hh=>M8 sy c d bl k1 k2 k3 t un r s cv rv clk (no+1) b4 b3 no none ([]:List Ev) 0 p n I cnt ‹_› ‹_› ‹_› ‹_› ‹_› (by(simp;omega)) ‹_› ‹_› ‹_› ‹_› ww hh) ?_))))
  rintro⟨x14,d'15,un'16,q1'17,q2'18,q3'19,cv'20,rv'21,evs'22,A'23,c'24⟩ hz7
  refine A.gs [.st 11] [74,76,77,78] [] [(11,cz b5 (ik x14) 49)] [b5] ((A.d (A.d3 [2] 4 [cz sy [p_ c.sb,p_ bl,p_ r.bt,p_ s.bs,u_ clk,i_ (no+1)] 114,fF c d'15,cz bl [u_ q1'17,u_ q2'18,u_ q3'19,i_ t,u_ un'16] 146,fl s cv'20 rv'21,cz b4 [i_ no] 3,cz b3 [vS A'23 evs'22 c'24] 30,ff A'23 evs'22 c'24,gu r,fA W,cz b1 [i_ kd,vS za zl zc,vS ra rl rc,u_ p.qi,i_ p.qn,w_ p.qa,w_ p.qb,w_ p.qc,w_ p.qd,u_ tk] 47,cz b5 (ik x14) 49] (A.bT 2 [.ld 10,.ld 5] [0,1] [(4,p_ b2),(86,.agg (ik x14).toArray),(87,vS A'23 evs'22 c'24)] [b5,b3] (sd [10]) (A.o3 2 rfl (A.aw 10 (vs:=(ik x14)) [cz sy [p_ c.sb,p_ bl,p_ r.bt,p_ s.bs,u_ clk,i_ (no+1)] 114,fF c d'15,cz bl [u_ q1'17,u_ q2'18,u_ q3'19,i_ t,u_ un'16] 146,fl s cv'20 rv'21,cz b4 [i_ no] 3,cz b3 [vS A'23 evs'22 c'24] 30,ff A'23 evs'22 c'24,gu r,fA W,cz b1 [i_ kd,vS za zl zc,vS ra rl rc,u_ p.qi,i_ p.qn,w_ p.qa,w_ p.qb,w_ p.qc,w_ p.qd,u_ tk] 47,cz b2 (ik x14) 49,cz b5 (ik x14) 49] (by kernel_rfl) rfl rfl rfl rfl (by kernel_rfl) rfl rfl (by kernel_rfl) rfl (A.aI (sd [10]) (A.bT 0 [.p] [3] [(4,p_ b2),(5,vS A'23 evs'22 c'24)] [] (sd [10]) (A.f3 (A.e (A.aG [0,0,0,0,3,3,2] [.agg (ik x14).toArray,vS A'23 evs'22 c'24] (fun aa ww rr ss=>⟨iG 10 rr ss,fQ rr rfl,trivial⟩) (x14,clk,d'15,un'16,q1'17,q2'18,q3'19,cv'20,rv'21,r,evs'22,A'23,c'24) ?_ ?_ (by kernel_rfl))))))))))))
  ·rfl
  exact⟨.inr (.inr (.inl ⟨by omega,rfl,rfl,(by assumption:_∧gr _ _).1⟩)),(by assumption:_∧gr _ _).2,hr⟩
 have p6:=e6;try simp only[de] at p6
 refine A.c (A.g [.p,.p] [31,72] [(79,b_ (kd==4))] (A.cn (kd==4) (fun e8=> ?_) (fun e8=> ?_)))
 ·have p8:=e8;try simp only[de] at p8
  refine A.s (A.gm [.p,.p,.ld 6,.p] [0,3,8,79] [(81,p_ sy),(83,u_ tk),(84,.func (.func 45) #[] #[p_ b4,p_ b3])] [b1] (A.aP 52 12 [cz sy [p_ c.sb,p_ bl,p_ r.bt,p_ s.bs,u_ clk,i_ (no+1)] 114,fF c d,cz bl [u_ k1,u_ k2,u_ k3,i_ t,u_ un] 146,fl s cv rv,gu r,fA W,cz b1 [i_ kd,vS za zl zc,vS ra rl rc,u_ p.qi,i_ p.qn,w_ p.qa,w_ p.qb,w_ p.qc,w_ p.qd,u_ tk] 47,cz b2 [i_ 0,i_ 0,i_ 0] 49,cz b3 [e_] 30,cz b4 [i_ no] 3,cz b5 [i_ 1,i_ 0,i_ 0] 49,ff none ([]:List Ev) 0] rfl (A.j (A.J (some 85) [0,0,0,0,5,4,5] (fun ww ss hh=>Sl sy c d bl k1 k2 k3 t un r s cv rv clk (no+1) b4 b3 no none ([]:List Ev) 0 tk n I cnt ‹_› ‹_› ‹_› ‹_› ‹_› (by(simp;omega)) ‹_› ‹_› ‹_› ww hh) ?_))))
  rintro⟨x27,clk'28,d'29,un'30,q1'31,q2'32,q3'33,cv'34,rv'35,evs'36,A'37,c'38⟩ hz9
  refine A.gs [.st 11] [81,83,84,85] [] [(11,cz b5 (ik x27) 49)] [b5] ((A.d (A.d3 [2] 4 [cz sy [p_ c.sb,p_ bl,p_ r.bt,p_ s.bs,u_ clk'28,i_ (no+1)] 114,fF c d'29,cz bl [u_ q1'31,u_ q2'32,u_ q3'33,i_ t,u_ un'30] 146,fl s cv'34 rv'35,cz b4 [i_ no] 3,cz b3 [vS A'37 evs'36 c'38] 30,ff A'37 evs'36 c'38,gu r,fA W,cz b1 [i_ kd,vS za zl zc,vS ra rl rc,u_ p.qi,i_ p.qn,w_ p.qa,w_ p.qb,w_ p.qc,w_ p.qd,u_ tk] 47,cz b5 (ik x27) 49] (A.bT 2 [.ld 10,.ld 5] [0,1] [(4,p_ b2),(86,.agg (ik x27).toArray),(87,vS A'37 evs'36 c'38)] [b5,b3] (sd [10]) (A.o3 2 rfl (A.aw 10 (vs:=(ik x27)) [cz sy [p_ c.sb,p_ bl,p_ r.bt,p_ s.bs,u_ clk'28,i_ (no+1)] 114,fF c d'29,cz bl [u_ q1'31,u_ q2'32,u_ q3'33,i_ t,u_ un'30] 146,fl s cv'34 rv'35,cz b4 [i_ no] 3,cz b3 [vS A'37 evs'36 c'38] 30,ff A'37 evs'36 c'38,gu r,fA W,cz b1 [i_ kd,vS za zl zc,vS ra rl rc,u_ p.qi,i_ p.qn,w_ p.qa,w_ p.qb,w_ p.qc,w_ p.qd,u_ tk] 47,cz b2 (ik x27) 49,cz b5 (ik x27) 49] (by kernel_rfl) rfl rfl rfl rfl (by kernel_rfl) rfl rfl (by kernel_rfl) rfl (A.aI (sd [10]) (A.bT 0 [.p] [3] [(4,p_ b2),(5,vS A'37 evs'36 c'38)] [] (sd [10]) (A.f3 (A.e (A.aG [0,0,0,0,3,3,2] [.agg (ik x27).toArray,vS A'37 evs'36 c'38] (fun aa ww rr ss=>⟨iG 10 rr ss,fQ rr rfl,trivial⟩) (x27,clk'28,d'29,un'30,q1'31,q2'32,q3'33,cv'34,rv'35,r,evs'36,A'37,c'38) ?_ ?_ (by kernel_rfl))))))))))))
  ·rfl
  exact⟨.inr (.inr (.inr (.inl ⟨by omega,rfl,(by assumption:_∧gr _ _).1⟩))),qQ (by assumption:_∧gr _ _).2 (by omega),hr⟩
 have p8:=e8;try simp only[de] at p8
 refine A.p (A.d (A.d3 [2] 4 [cz sy [p_ c.sb,p_ bl,p_ r.bt,p_ s.bs,u_ clk,i_ (no+1)] 114,fF c d,cz bl [u_ k1,u_ k2,u_ k3,i_ t,u_ un] 146,fl s cv rv,gu r,fA W,cz b1 [i_ kd,vS za zl zc,vS ra rl rc,u_ p.qi,i_ p.qn,w_ p.qa,w_ p.qb,w_ p.qc,w_ p.qd,u_ tk] 47,cz b3 [e_] 30,cz b4 [i_ no] 3,cz b5 [i_ 1,i_ 0,i_ 0] 49] (A.bT 2 [.ld 9,.ld 7] [0,1] [(4,p_ b2),(86,.agg #[i_ 1,i_ 0,i_ 0]),(87,e_)] [b5,b3] (sd [7]) (A.o3 2 rfl (A.aw 7 (vs:=[i_ 1,i_ 0,i_ 0]) [cz sy [p_ c.sb,p_ bl,p_ r.bt,p_ s.bs,u_ clk,i_ (no+1)] 114,fF c d,cz bl [u_ k1,u_ k2,u_ k3,i_ t,u_ un] 146,fl s cv rv,gu r,fA W,cz b1 [i_ kd,vS za zl zc,vS ra rl rc,u_ p.qi,i_ p.qn,w_ p.qa,w_ p.qb,w_ p.qc,w_ p.qd,u_ tk] 47,cz b2 [i_ 1,i_ 0,i_ 0] 49,cz b3 [e_] 30,cz b4 [i_ no] 3,cz b5 [i_ 1,i_ 0,i_ 0] 49] (by kernel_rfl) rfl rfl rfl rfl (by kernel_rfl) rfl rfl (by kernel_rfl) rfl (A.aI (sd [7]) (A.bT 0 [.p] [3] [(4,p_ b2),(5,e_)] [] (sd [7]) (A.f3 (A.e (A.aP 52 12 [cz sy [p_ c.sb,p_ bl,p_ r.bt,p_ s.bs,u_ clk,i_ (no+1)] 114,fF c d,cz bl [u_ k1,u_ k2,u_ k3,i_ t,u_ un] 146,fl s cv rv,gu r,fA W,cz b1 [i_ kd,vS za zl zc,vS ra rl rc,u_ p.qi,i_ p.qn,w_ p.qa,w_ p.qb,w_ p.qc,w_ p.qd,u_ tk] 47,cz b2 [i_ 1,i_ 0,i_ 0] 49,cz b3 [e_] 30,cz b4 [i_ no] 3,cz b5 [i_ 1,i_ 0,i_ 0] 49,ff none ([]:List Ev) 0] rfl (A.aG [0,0,0,0,0,0,5] [.agg #[i_ 1,i_ 0,i_ 0],e_] (fun aa ww rr ss=>⟨iG 7 rr ss,fQ rr rfl,trivial⟩) ((⟨1,0,0⟩:Rs),clk,d,un,k1,k2,k3,cv,rv,r,([]:List Ev),none,0) ?_ ?_ (by kernel_rfl))))))))))))
 ·rfl
 exact⟨.inr (.inr (.inr (.inr ⟨by omega,rfl,rfl,rfl,rfl,rfl,rfl⟩))),qQ hst (by omega),hr⟩
end Go.Proofs.YtobgjpigngoggaaGreat
namespace Go.Proofs.YtobgjpigngoggaaGreat.V
open Go
section
variable{P:Program}{n:Nat}{env:dQ}{w0:World}{S:List Nat}{H Hs:List dC}{ops:Array Oper}{o:Oper}{K:Act→World→Prop}{f:Nat}{listed:Array Bool}
def ParH(P:Program)(n:Nat)(env:dQ)(w0:World)(S:List Nat)(H Hs:List dC)(ops:Array Oper)(K:Act→World→Prop)(f:Nat)(listed:Array Bool):List Nat→Prop
 |[]=>True
 |i::l=>(∃o,ops[i]? =some o∧A n env w0 S H (eH P ops o (fun a w=>HS w0 S Hs w∧U P ops K (HS w0 S Hs) f (listed.setIfInBounds i true) a w)))∧ParH P n env w0 S H Hs ops K f listed l
theorem ParH.at: ∀{l:List Nat}{i:Nat},ParH P n env w0 S H Hs ops K f listed l→i∈l→ ∃o,ops[i]? =some o∧A n env w0 S H (eH P ops o (fun a w=>HS w0 S Hs w∧U P ops K (HS w0 S Hs) f (listed.setIfInBounds i true) a w))
 |j::l,i,h,hi=>by
  rcases List.mem_cons.1 hi with rfl|hi
  ·exact h.1
  ·exact ParH.at h.2 hi
theorem A.aU(is:List Nat)(hr:(Region.ready .any ops listed,is.isEmpty)=(is,false))(h:ParH P n env w0 S H Hs ops K f listed is):A n env w0 S H (U P ops K (HS w0 S Hs) (f+1) listed):=by
 intro a w r s
 simp only[Prod.mk.injEq] at hr
 refine⟨fun h0=>(by rw[hr.1] at h0;rw[h0] at hr;cases hr.2),fun j hj w' hf=> ?_⟩
 rw[hr.1] at hj
 obtain⟨o,ho,h1⟩:=h.at hj
 have h1:=h1 a w' r (s.kept hf)
 unfold eH at h1
 unfold wpOp
 simp only[ho]
 split
 ·rename_i hw;rw[if_pos hw] at h1;exact .inl h1
 ·rename_i hw;rw[if_neg hw] at h1;exact h1
theorem A.aV{σ:Type}(env':σ→dQ)(H':σ→List dC)(φ:σ→Prop)(f':Nat)(l':Array Bool)(h1: ∀x,φ x→A n (env' x) w0 S (H' x) (U P ops K (HS w0 S Hs) f' l'))
 (h2:(∀x,φ x→A n (env' x) w0 S (H' x) (U P ops K (HS w0 S Hs) f' l'))→A n env w0 S H (U P ops K (HS w0 S Hs) f listed)):A n env w0 S H (U P ops K (HS w0 S Hs) f listed):=h2 h1
theorem A.aJ{σ:Type}{env':σ→dQ}{H':σ→List dC}{φ:σ→Prop}{f':Nat}{l':Array Bool}(hn: ∀x,φ x→A n (env' x) w0 S (H' x) (U P ops K (HS w0 S Hs) f' l'))(x:σ)(hx:φ x)(is:List Nat)(hl:listed=l')(hs:V.sub env (env' x))(hp:(match gU is H with|some x=>some x.1|none=>none)=some (H' x)):
  A n env w0 S H (U P ops K (HS w0 S Hs) f' listed):=by
 subst hl
 exact A.aS _ hs (A.bj is _ hp (hn x hx))
theorem A.b0{t:TypeId}{x y z:Operand}(ho:o.op= .insert t x y z)(h:A n env w0 S H (eH P ops {o with op:= .mapUpdate t x y z} K)):A n env w0 S H (eH P ops o K):=by
 intro a w r s
 have h1:=h a w r s
 have he:execOp a.eval o=execOp a.eval {o with op:= .mapUpdate t x y z}:=by simp[execOp,ho]
 unfold eH Oper.wp at*
 rw[he]
 exact h1
end
section
variable{P:Program}{n:Nat}{env:dQ}{w0:World}{S:List Nat}{H H':List dC}{ops:Array Oper}{o:Oper}{K:Act→World→Prop}{β:Type}{f:β→List dC}{ek:Int→Value}{ev:β→Value}
theorem ES: ∀(H:List dC)(x:dC),gU [H.length] (H++[x])=some ([x],H)
 |[],x=>rfl
 |y::H,x=>by
  have:=ES H x
  simp only[gU] at this⊢
  simpa using this
theorem A.aW(f:β→List dC)(ek:Int→Value)(ev:β→Value)(d:Nat){t:TypeId}(hok:gR ops n env o (some d)=true)(ho:o.op= .makeMap t none)(H':Nat→List dC)(hH: ∀b,co [dX ek ev b [],eT f []]::H=H' b)
  (h: ∀b,V.A n ((d,.map (some b))::env) w0 S (H' b) K):V.A n env w0 S H (eH P ops o K):=
 A.aZ ek ev d hok ho (fun b=>H++[dX ek ev b []]) (fun _=>rfl) fun b=>A.cZ [H.length] (ES H _) (hH b) (h b)
end
end Go.Proofs.YtobgjpigngoggaaGreat.V
namespace Go.Proofs.YtobgjpigngoggaaGreat
open Go V
abbrev Ad(p0)(p1)(p2)(p3)(p4:Vt)(p5):=(.agg #[i_ p0,i_ p1,p_ p2,.map (some p3),n_,p_ p4.be,.map (some p5),u_ 0,u_ 0]:Value)
abbrev pL(p0)(p1):=(eP p0 (dD ([]:List (Int×Vt)) 0 p1):V.dC)
abbrev kF(p0)(p1):=((23,.agg #[i_ p0,i_ p1]):Nat×Value)
abbrev fm(p0)(p1)(p2):=(cz p0 [i_ p1,i_ p2] 23:V.dC)
abbrev jO(p0):=(eP p0 ([]:List (Int×Vt)):V.dC)
abbrev gb(p0)(p1):=(cz p0 [.map (some p1)] 185:V.dC)
abbrev iQ(p0):=(eN p0 ([]:List (Int×En)):V.dC)
abbrev ib(p0):=(ew p0 T.nil ([]:List (Int×It)):V.dC)
abbrev gf(p0):=(di p0 ([]:List (Int×Cl)):V.dC)
theorem SC(lt lm:Int)(h1:1≤lt∧lt≤65536)(h2:1≤lm∧lm≤16384):
  CS 41 #[.agg #[i_ lt,i_ lm]] [] (fun((sb,bt,mc,my,a,tl,mk,v):Nat×Nat×Nat×Nat×Ac×Vt×Nat×Vt)=>(.tuple #[p_ sb,i_ 0])) (fun(sb,bt,mc,my,a,tl,mk,v)=>a.ym=fL []∧v.kv=[]∧v.t=T.nil) fun(sb,bt,mc,my,a,tl,mk,v)=>[cz sb [i_ lt,i_ lm,p_ bt,.map (some my),p_ a.bs,p_ tl.be,.map (some mk),u_ 0,u_ 0] 141,gb bt mc,gf mc,iQ my,eS a ([]) ([]),ib tl,pL mk v]:=by
 intro w hs
 refine A.C Tryz.func41 rfl hs (A.c (A.n1 [.al,.p,.p] [0] (fun b1=>[(1,p_ b1)]) (fun b1=>cz b1 [i_ lt,i_ lm] 23) ?_))
 intro b1
 refine A.d (A.c (A.gl [.p,.ld 0,.p,.p,.o,.p,.ld 0,.p,.cl,.p,.o,.p,.ld 0,.p,.cl,.p,.o,.p,.ld 0,.p,.cl] [] [(22,b_ ((((decide (lt<1))||(decide (lt>65536)))||(decide (lm<1)))||(decide (lm>16384))))] [b1,b1,b1,b1] (A.v rfl (fun e1=> ?_) (fun e1=> ?_))))
 ·exact absurd e1 (by(intro h_;simp at h_;omega))
 refine A.p (A.d (A.cG [fm b1 lt lm] (by kernel_rfl) (A.bD 0 (some 23) (.agg #[i_ lt,i_ lm]) rfl (by kernel_rfl) (by kernel_rfl) (.refl _) (ve (vs:=[i_ lt,i_ lm]) rfl rfl (by kernel_rfl) (kz (i:=0) rfl rfl)) (A.aV (fun((bt2,mb3,m4,tl5,m6,v7,b8):Nat×Nat×Nat×Vt×Nat×Vt×Nat)=>[(4,p_ b8)]) (fun((bt2,mb3,m4,tl5,m6,v7,b8):Nat×Nat×Nat×Vt×Nat×Vt×Nat)=>[pL m6 v7,ib tl5,iQ m4,gb bt2 mb3,gf mb3,fm b1 lt lm,cz b8 [i_ lt,i_ lm,p_ bt2,.map (some m4),n_,p_ tl5.be,.map (some m6),u_ 0,u_ 0] 141]) (fun((bt2,mb3,m4,tl5,m6,v7,b8):Nat×Nat×Nat×Vt×Nat×Vt×Nat)=>(v7.kv=[]∧v7.t=T.nil)∧True) 0 #[true,true,true,true,true,true,true,true,true,true,true] ?_ (fun hN0=> ?_)))))
 ·rintro⟨bt2,mb3,m4,tl5,m6,v7,b8⟩ ⟨hpf5,-⟩
  refine A.cI (by kernel_rfl) (A.c (A.hp [.p,.p,.p,.p,.ld 6] [(4,p_ b8),(32,p_ b8),(36,p_ bt2)] [b8] (A.j (A.J (some 37) [] (fun ww ss hh=>IU bt2 mb3 ([]:List (Int×Cl)) (by(simp;done)) ww (ss.mem (i:=3) rfl) (ss.mem (i:=4) rfl) hh) ?_))))
  rintro a36 hz14
  refine A.gs [.p,.p,.st 7] [32,36,37] [] [(7,cz b8 [i_ lt,i_ lm,p_ bt2,.map (some m4),p_ a36.bs,p_ tl5.be,.map (some m6),u_ 0,u_ 0] 141)] [b8] (A.c (A.g [.p,.p,.p] [4] [(2,p_ b8),(3,i_ 0)] (A.e (A.Y [7,4,4,3,0,1,0] [p_ b8,i_ 0] (b8,bt2,mb3,m4,a36,tl5,m6,v7) ?_ ?_))))
  ·rfl
  (simp_all;done)
 refine A.aV (fun((bt2,mb3,m4,tl5,m6,v7):Nat×Nat×Nat×Vt×Nat×Vt)=>[(30,Ad lt lm bt2 m4 tl5 m6)]) (fun((bt2,mb3,m4,tl5,m6,v7):Nat×Nat×Nat×Vt×Nat×Vt)=>[pL m6 v7,ib tl5,iQ m4,gb bt2 mb3,gf mb3,fm b1 lt lm]) (fun((bt2,mb3,m4,tl5,m6,v7):Nat×Nat×Nat×Vt×Nat×Vt)=>(v7.kv=[]∧v7.t=T.nil)∧True) 2 #[true,true,true,true,true,true,true,true,true,false,false] ?_ (fun hN1=> ?_)
 ·rintro⟨bt2,mb3,m4,tl5,m6,v7⟩ ⟨hpf5,-⟩
  refine A.aU [9] (by kernel_rfl) ⟨⟨_,rfl,?_⟩,trivial⟩
  ·refine A.cU 31 [i_ lt,i_ lm,p_ bt2,.map (some m4),n_,p_ tl5.be,.map (some m6),u_ 0,u_ 0] (by kernel_rfl) rfl rfl rfl (fun b37=>[pL m6 v7,ib tl5,iQ m4,gb bt2 mb3,gf mb3,fm b1 lt lm,cz b37 [i_ lt,i_ lm,p_ bt2,.map (some m4),n_,p_ tl5.be,.map (some m6),u_ 0,u_ 0] 141]) (fun _=>rfl) ?_
   intro b37
   refine A.aE (sd [6,4,3,2,1,0]) (A.bD 10 (some 4) (p_ b37) rfl (by kernel_rfl) (by kernel_rfl) (sd [6,4,3,2,1,0]) (K4 rfl rfl) ?_)
   exact A.aJ hN0 (bt2,mb3,m4,tl5,m6,v7,b37) ⟨hpf5,trivial⟩ [0,0,0,0,0,0,0] (by kernel_rfl) ⟨rfl,trivial⟩ rfl
 refine A.aV (fun((bt2,mb3,tl5,m6,v7):Nat×Nat×Vt×Nat×Vt)=>[(kF lt lm),(24,p_ bt2),(26,p_ tl5.be),(29,.map (some m6))]) (fun((bt2,mb3,tl5,m6,v7):Nat×Nat×Vt×Nat×Vt)=>[pL m6 v7,ib tl5,gb bt2 mb3,gf mb3,fm b1 lt lm]) (fun((bt2,mb3,tl5,m6,v7):Nat×Nat×Vt×Nat×Vt)=>(v7.kv=[]∧v7.t=T.nil)∧True) 4 #[true,true,false,true,true,true,true,true,false,false,false] ?_ (fun hN2=> ?_)
 ·rintro⟨bt2,mb3,tl5,m6,v7⟩ ⟨hpf5,-⟩
  refine A.aU [2] (by kernel_rfl) ⟨⟨_,rfl,?_⟩,trivial⟩
  ·refine A.aW gK (fun k:Int=>i_ k) (fun m:En=>p_ m.eb) 25 (by kernel_rfl) rfl (fun m38=>[iQ m38,pL m6 v7,ib tl5,gb bt2 mb3,gf mb3,fm b1 lt lm]) (fun _=>rfl) ?_
   intro m38
   refine A.aE (sd [4,3,2,1,0]) (A.bD 8 (some 30) (Ad lt lm bt2 m38 tl5 m6) rfl (by kernel_rfl) (by kernel_rfl) (sd [4,3,2,1,0]) (ia (by kernel_rfl) fun _=>by kernel_rfl) ?_)
   exact A.aJ hN1 (bt2,mb3,m38,tl5,m6,v7) ⟨hpf5,trivial⟩ [1,1,0,0,0,0] (by kernel_rfl) ⟨rfl,trivial⟩ rfl
 refine A.aV (fun((bt2,mb3,m4,tl5,m6,v7):Nat×Nat×Nat×Vt×Nat×Vt)=>[(kF lt lm),(24,p_ bt2),(25,.map (some m4)),(26,p_ tl5.be),(27,.map (some m6)),(28,p_ v7.be)]) (fun((bt2,mb3,m4,tl5,m6,v7):Nat×Nat×Nat×Vt×Nat×Vt)=>[o9 v7,jO m6,ib tl5,iQ m4,gb bt2 mb3,gf mb3,fm b1 lt lm]) (fun((bt2,mb3,m4,tl5,m6,v7):Nat×Nat×Nat×Vt×Nat×Vt)=>(v7.kv=[]∧v7.t=T.nil)∧True) 5 #[true,true,true,true,true,true,false,false,false,false,false] ?_ (fun hN3=> ?_)
 ·rintro⟨bt2,mb3,m4,tl5,m6,v7⟩ ⟨hpf5,-⟩
  refine A.aU [6] (by kernel_rfl) ⟨⟨_,rfl,?_⟩,trivial⟩
  ·refine A.b0 rfl (A.bQ (f:=(eu 192)) (kt:=3) (et:=136) (ek:=(fun k:Int=>i_ k)) (ev:=(fun m:Vt=>p_ m.be)) (kv:=([]:List (Int×Vt))) (k:=0) (H':=[pL m6 v7,ib tl5,iQ m4,gb bt2 mb3,gf mb3,fm b1 lt lm]) 1 0 v7 (by kernel_rfl) rfl rfl rfl rfl (by kernel_rfl) (ee (by kernel_rfl)) rfl rfl rfl (A.aE (sd [4,3,2,1,0]) (A.bD 7 (some 29) (.map (some m6)) rfl (by kernel_rfl) (by kernel_rfl) (sd [4,3,2,1,0]) (GK rfl rfl) (A.bD 8 (some 30) (Ad lt lm bt2 m4 tl5 m6) rfl (by kernel_rfl) (by kernel_rfl) (sd [4,3,2,1,0]) (ia (by kernel_rfl) fun _=>by kernel_rfl) ?_))))
   exact A.aJ hN1 (bt2,mb3,m4,tl5,m6,v7) ⟨hpf5,trivial⟩ [0,0,0,0,0,0] (by kernel_rfl) ⟨rfl,trivial⟩ rfl
 refine A.aV (fun((bt2,mb3,m4,tl5,m6):Nat×Nat×Nat×Vt×Nat)=>[(kF lt lm),(24,p_ bt2),(25,.map (some m4)),(26,p_ tl5.be),(27,.map (some m6))]) (fun((bt2,mb3,m4,tl5,m6):Nat×Nat×Nat×Vt×Nat)=>[jO m6,ib tl5,iQ m4,gb bt2 mb3,gf mb3,fm b1 lt lm]) (fun((bt2,mb3,m4,tl5,m6):Nat×Nat×Nat×Vt×Nat)=>True) 6 #[true,true,true,true,true,false,false,false,false,false,false] ?_ (fun hN4=> ?_)
 ·rintro⟨bt2,mb3,m4,tl5,m6⟩-
  refine A.aU [5] (by kernel_rfl) ⟨⟨_,rfl,?_⟩,trivial⟩
  ·refine A.J (some 28) [] (fun ww ss hh=>u0 ww hh) ?_
   rintro v39 hz15
   refine A.aE (sd [5,4,3,2,1,0]) ?_
   exact A.aJ hN3 (bt2,mb3,m4,tl5,m6,v39) ⟨hz15,trivial⟩ [0,0,0,0,0,0,0] (by kernel_rfl) ⟨rfl,rfl,rfl,rfl,rfl,rfl,trivial⟩ rfl
 refine A.aV (fun((bt2,mb3,m4,tl5,v7):Nat×Nat×Nat×Vt×Vt)=>[(kF lt lm),(24,p_ bt2),(25,.map (some m4)),(26,p_ tl5.be),(28,p_ v7.be)]) (fun((bt2,mb3,m4,tl5,v7):Nat×Nat×Nat×Vt×Vt)=>[o9 v7,ib tl5,iQ m4,gb bt2 mb3,gf mb3,fm b1 lt lm]) (fun((bt2,mb3,m4,tl5,v7):Nat×Nat×Nat×Vt×Vt)=>(v7.kv=[]∧v7.t=T.nil)∧True) 6 #[true,true,true,true,false,true,false,false,false,false,false] ?_ (fun hN5=> ?_)
 ·rintro⟨bt2,mb3,m4,tl5,v7⟩ ⟨hpf5,-⟩
  refine A.aU [4] (by kernel_rfl) ⟨⟨_,rfl,?_⟩,trivial⟩
  ·refine A.aW (eu 192) (fun k:Int=>i_ k) (fun m:Vt=>p_ m.be) 27 (by kernel_rfl) rfl (fun m40=>[jO m40,o9 v7,ib tl5,iQ m4,gb bt2 mb3,gf mb3,fm b1 lt lm]) (fun _=>rfl) ?_
   intro m40
   refine A.aE (sd [5,4,3,2,1,0]) ?_
   exact A.aJ hN3 (bt2,mb3,m4,tl5,m40,v7) ⟨hpf5,trivial⟩ [1,0,0,0,0,0,0] (by kernel_rfl) ⟨rfl,rfl,rfl,rfl,rfl,rfl,trivial⟩ rfl
 refine A.aV (fun((bt2,mb3,tl5,m6,v7):Nat×Nat×Vt×Nat×Vt)=>[(kF lt lm),(24,p_ bt2),(26,p_ tl5.be),(27,.map (some m6)),(28,p_ v7.be)]) (fun((bt2,mb3,tl5,m6,v7):Nat×Nat×Vt×Nat×Vt)=>[o9 v7,jO m6,ib tl5,gb bt2 mb3,gf mb3,fm b1 lt lm]) (fun((bt2,mb3,tl5,m6,v7):Nat×Nat×Vt×Nat×Vt)=>(v7.kv=[]∧v7.t=T.nil)∧True) 6 #[true,true,false,true,true,true,false,false,false,false,false] ?_ (fun hN6=> ?_)
 ·rintro⟨bt2,mb3,tl5,m6,v7⟩ ⟨hpf5,-⟩
  refine A.aU [2,6] (by kernel_rfl) ⟨⟨_,rfl,?_⟩,⟨_,rfl,?_⟩,trivial⟩
  ·refine A.aW gK (fun k:Int=>i_ k) (fun m:En=>p_ m.eb) 25 (by kernel_rfl) rfl (fun m41=>[iQ m41,o9 v7,jO m6,ib tl5,gb bt2 mb3,gf mb3,fm b1 lt lm]) (fun _=>rfl) ?_
   intro m41
   refine A.aE (sd [5,4,3,2,1,0]) ?_
   exact A.aJ hN3 (bt2,mb3,m41,tl5,m6,v7) ⟨hpf5,trivial⟩ [1,1,1,0,0,0,0] (by kernel_rfl) ⟨rfl,rfl,rfl,rfl,rfl,rfl,trivial⟩ rfl
  refine A.b0 rfl (A.bQ (f:=(eu 192)) (kt:=3) (et:=136) (ek:=(fun k:Int=>i_ k)) (ev:=(fun m:Vt=>p_ m.be)) (kv:=([]:List (Int×Vt))) (k:=0) (H':=[pL m6 v7,ib tl5,gb bt2 mb3,gf mb3,fm b1 lt lm]) 1 0 v7 (by kernel_rfl) rfl rfl rfl rfl (by kernel_rfl) (ee (by kernel_rfl)) rfl rfl rfl (A.aE (sd [3,2,1,0]) (A.bD 7 (some 29) (.map (some m6)) rfl (by kernel_rfl) (by kernel_rfl) (sd [3,2,1,0]) (GK rfl rfl) ?_)))
  exact A.aJ hN2 (bt2,mb3,tl5,m6,v7) ⟨hpf5,trivial⟩ [0,0,0,0,0] (by kernel_rfl) ⟨rfl,rfl,rfl,rfl,trivial⟩ rfl
 refine A.aV (fun((bt2,mb3,m4,tl5):Nat×Nat×Nat×Vt)=>[(kF lt lm),(24,p_ bt2),(25,.map (some m4)),(26,p_ tl5.be)]) (fun((bt2,mb3,m4,tl5):Nat×Nat×Nat×Vt)=>[ib tl5,iQ m4,gb bt2 mb3,gf mb3,fm b1 lt lm]) (fun((bt2,mb3,m4,tl5):Nat×Nat×Nat×Vt)=>True) 7 #[true,true,true,true,false,false,false,false,false,false,false] ?_ (fun hN7=> ?_)
 ·rintro⟨bt2,mb3,m4,tl5⟩-
  refine A.aU [4,5] (by kernel_rfl) ⟨⟨_,rfl,?_⟩,⟨_,rfl,?_⟩,trivial⟩
  ·refine A.aW (eu 192) (fun k:Int=>i_ k) (fun m:Vt=>p_ m.be) 27 (by kernel_rfl) rfl (fun m42=>[jO m42,ib tl5,iQ m4,gb bt2 mb3,gf mb3,fm b1 lt lm]) (fun _=>rfl) ?_
   intro m42
   refine A.aE (sd [4,3,2,1,0]) ?_
   exact A.aJ hN4 (bt2,mb3,m4,tl5,m42) trivial [0,0,0,0,0,0] (by kernel_rfl) ⟨rfl,rfl,rfl,rfl,rfl,trivial⟩ rfl
  refine A.J (some 28) [] (fun ww ss hh=>u0 ww hh) ?_
  rintro v43 hz16
  refine A.aE (sd [4,3,2,1,0]) ?_
  exact A.aJ hN5 (bt2,mb3,m4,tl5,v43) ⟨hz16,trivial⟩ [0,0,0,0,0,0] (by kernel_rfl) ⟨rfl,rfl,rfl,rfl,rfl,trivial⟩ rfl
 refine A.aV (fun((bt2,mb3,m4,m6):Nat×Nat×Nat×Nat)=>[(kF lt lm),(24,p_ bt2),(25,.map (some m4)),(27,.map (some m6))]) (fun((bt2,mb3,m4,m6):Nat×Nat×Nat×Nat)=>[jO m6,iQ m4,gb bt2 mb3,gf mb3,fm b1 lt lm]) (fun((bt2,mb3,m4,m6):Nat×Nat×Nat×Nat)=>True) 7 #[true,true,true,false,true,false,false,false,false,false,false] ?_ (fun hN8=> ?_)
 ·rintro⟨bt2,mb3,m4,m6⟩-
  refine A.aU [3] (by kernel_rfl) ⟨⟨_,rfl,?_⟩,trivial⟩
  ·refine A.J (some 26) [] (fun ww ss hh=>xn ww hh) ?_
   rintro tl44-
   refine A.aE (sd [4,3,2,1,0]) ?_
   exact A.aJ hN4 (bt2,mb3,m4,tl44,m6) trivial [1,0,0,0,0,0] (by kernel_rfl) ⟨rfl,rfl,rfl,rfl,rfl,trivial⟩ rfl
 refine A.aV (fun((bt2,mb3,tl5,m6):Nat×Nat×Vt×Nat)=>[(kF lt lm),(24,p_ bt2),(26,p_ tl5.be),(27,.map (some m6))]) (fun((bt2,mb3,tl5,m6):Nat×Nat×Vt×Nat)=>[jO m6,ib tl5,gb bt2 mb3,gf mb3,fm b1 lt lm]) (fun((bt2,mb3,tl5,m6):Nat×Nat×Vt×Nat)=>True) 7 #[true,true,false,true,true,false,false,false,false,false,false] ?_ (fun hN9=> ?_)
 ·rintro⟨bt2,mb3,tl5,m6⟩-
  refine A.aU [2,5] (by kernel_rfl) ⟨⟨_,rfl,?_⟩,⟨_,rfl,?_⟩,trivial⟩
  ·refine A.aW gK (fun k:Int=>i_ k) (fun m:En=>p_ m.eb) 25 (by kernel_rfl) rfl (fun m45=>[iQ m45,jO m6,ib tl5,gb bt2 mb3,gf mb3,fm b1 lt lm]) (fun _=>rfl) ?_
   intro m45
   refine A.aE (sd [4,3,2,1,0]) ?_
   exact A.aJ hN4 (bt2,mb3,m45,tl5,m6) trivial [1,1,0,0,0,0] (by kernel_rfl) ⟨rfl,rfl,rfl,rfl,rfl,trivial⟩ rfl
  refine A.J (some 28) [] (fun ww ss hh=>u0 ww hh) ?_
  rintro v46 hz18
  refine A.aE (sd [4,3,2,1,0]) ?_
  exact A.aJ hN6 (bt2,mb3,tl5,m6,v46) ⟨hz18,trivial⟩ [0,0,0,0,0,0] (by kernel_rfl) ⟨rfl,rfl,rfl,rfl,rfl,trivial⟩ rfl
 refine A.aV (fun((bt2,mb3,tl5,v7):Nat×Nat×Vt×Vt)=>[(kF lt lm),(24,p_ bt2),(26,p_ tl5.be),(28,p_ v7.be)]) (fun((bt2,mb3,tl5,v7):Nat×Nat×Vt×Vt)=>[o9 v7,ib tl5,gb bt2 mb3,gf mb3,fm b1 lt lm]) (fun((bt2,mb3,tl5,v7):Nat×Nat×Vt×Vt)=>(v7.kv=[]∧v7.t=T.nil)∧True) 7 #[true,true,false,true,false,true,false,false,false,false,false] ?_ (fun hN10=> ?_)
 ·rintro⟨bt2,mb3,tl5,v7⟩ ⟨hpf5,-⟩
  refine A.aU [2,4] (by kernel_rfl) ⟨⟨_,rfl,?_⟩,⟨_,rfl,?_⟩,trivial⟩
  ·refine A.aW gK (fun k:Int=>i_ k) (fun m:En=>p_ m.eb) 25 (by kernel_rfl) rfl (fun m47=>[iQ m47,o9 v7,ib tl5,gb bt2 mb3,gf mb3,fm b1 lt lm]) (fun _=>rfl) ?_
   intro m47
   refine A.aE (sd [4,3,2,1,0]) ?_
   exact A.aJ hN5 (bt2,mb3,m47,tl5,v7) ⟨hpf5,trivial⟩ [1,1,0,0,0,0] (by kernel_rfl) ⟨rfl,rfl,rfl,rfl,rfl,trivial⟩ rfl
  refine A.aW (eu 192) (fun k:Int=>i_ k) (fun m:Vt=>p_ m.be) 27 (by kernel_rfl) rfl (fun m48=>[jO m48,o9 v7,ib tl5,gb bt2 mb3,gf mb3,fm b1 lt lm]) (fun _=>rfl) ?_
  intro m48
  refine A.aE (sd [4,3,2,1,0]) ?_
  exact A.aJ hN6 (bt2,mb3,tl5,m48,v7) ⟨hpf5,trivial⟩ [1,0,0,0,0,0] (by kernel_rfl) ⟨rfl,rfl,rfl,rfl,rfl,trivial⟩ rfl
 refine A.aV (fun((bt2,mb3,m4):Nat×Nat×Nat)=>[(kF lt lm),(24,p_ bt2),(25,.map (some m4))]) (fun((bt2,mb3,m4):Nat×Nat×Nat)=>[iQ m4,gb bt2 mb3,gf mb3,fm b1 lt lm]) (fun((bt2,mb3,m4):Nat×Nat×Nat)=>True) 8 #[true,true,true,false,false,false,false,false,false,false,false] ?_ (fun hN11=> ?_)
 ·rintro⟨bt2,mb3,m4⟩-
  refine A.aU [3,4] (by kernel_rfl) ⟨⟨_,rfl,?_⟩,⟨_,rfl,?_⟩,trivial⟩
  ·refine A.J (some 26) [] (fun ww ss hh=>xn ww hh) ?_
   rintro tl49-
   refine A.aE (sd [3,2,1,0]) ?_
   exact A.aJ hN7 (bt2,mb3,m4,tl49) trivial [0,0,0,0,0] (by kernel_rfl) ⟨rfl,rfl,rfl,rfl,trivial⟩ rfl
  refine A.aW (eu 192) (fun k:Int=>i_ k) (fun m:Vt=>p_ m.be) 27 (by kernel_rfl) rfl (fun m50=>[jO m50,iQ m4,gb bt2 mb3,gf mb3,fm b1 lt lm]) (fun _=>rfl) ?_
  intro m50
  refine A.aE (sd [3,2,1,0]) ?_
  exact A.aJ hN8 (bt2,mb3,m4,m50) trivial [0,0,0,0,0] (by kernel_rfl) ⟨rfl,rfl,rfl,rfl,trivial⟩ rfl
 refine A.aV (fun((bt2,mb3,tl5):Nat×Nat×Vt)=>[(kF lt lm),(24,p_ bt2),(26,p_ tl5.be)]) (fun((bt2,mb3,tl5):Nat×Nat×Vt)=>[ib tl5,gb bt2 mb3,gf mb3,fm b1 lt lm]) (fun((bt2,mb3,tl5):Nat×Nat×Vt)=>True) 8 #[true,true,false,true,false,false,false,false,false,false,false] ?_ (fun hN12=> ?_)
 ·rintro⟨bt2,mb3,tl5⟩-
  refine A.aU [2,4,5] (by kernel_rfl) ⟨⟨_,rfl,?_⟩,⟨_,rfl,?_⟩,⟨_,rfl,?_⟩,trivial⟩
  ·refine A.aW gK (fun k:Int=>i_ k) (fun m:En=>p_ m.eb) 25 (by kernel_rfl) rfl (fun m51=>[iQ m51,ib tl5,gb bt2 mb3,gf mb3,fm b1 lt lm]) (fun _=>rfl) ?_
   intro m51
   refine A.aE (sd [3,2,1,0]) ?_
   exact A.aJ hN7 (bt2,mb3,m51,tl5) trivial [1,0,0,0,0] (by kernel_rfl) ⟨rfl,rfl,rfl,rfl,trivial⟩ rfl
  ·refine A.aW (eu 192) (fun k:Int=>i_ k) (fun m:Vt=>p_ m.be) 27 (by kernel_rfl) rfl (fun m52=>[jO m52,ib tl5,gb bt2 mb3,gf mb3,fm b1 lt lm]) (fun _=>rfl) ?_
   intro m52
   refine A.aE (sd [3,2,1,0]) ?_
   exact A.aJ hN9 (bt2,mb3,tl5,m52) trivial [0,0,0,0,0] (by kernel_rfl) ⟨rfl,rfl,rfl,rfl,trivial⟩ rfl
  refine A.J (some 28) [] (fun ww ss hh=>u0 ww hh) ?_
  rintro v53 hz20
  refine A.aE (sd [3,2,1,0]) ?_
  exact A.aJ hN10 (bt2,mb3,tl5,v53) ⟨hz20,trivial⟩ [0,0,0,0,0] (by kernel_rfl) ⟨rfl,rfl,rfl,rfl,trivial⟩ rfl
 refine A.aV (fun((bt2,mb3,m6):Nat×Nat×Nat)=>[(kF lt lm),(24,p_ bt2),(27,.map (some m6))]) (fun((bt2,mb3,m6):Nat×Nat×Nat)=>[jO m6,gb bt2 mb3,gf mb3,fm b1 lt lm]) (fun((bt2,mb3,m6):Nat×Nat×Nat)=>True) 8 #[true,true,false,false,true,false,false,false,false,false,false] ?_ (fun hN13=> ?_)
 ·rintro⟨bt2,mb3,m6⟩-
  refine A.aU [2,3] (by kernel_rfl) ⟨⟨_,rfl,?_⟩,⟨_,rfl,?_⟩,trivial⟩
  ·refine A.aW gK (fun k:Int=>i_ k) (fun m:En=>p_ m.eb) 25 (by kernel_rfl) rfl (fun m54=>[iQ m54,jO m6,gb bt2 mb3,gf mb3,fm b1 lt lm]) (fun _=>rfl) ?_
   intro m54
   refine A.aE (sd [3,2,1,0]) ?_
   exact A.aJ hN8 (bt2,mb3,m54,m6) trivial [1,0,0,0,0] (by kernel_rfl) ⟨rfl,rfl,rfl,rfl,trivial⟩ rfl
  refine A.J (some 26) [] (fun ww ss hh=>xn ww hh) ?_
  rintro tl55-
  refine A.aE (sd [3,2,1,0]) ?_
  exact A.aJ hN9 (bt2,mb3,tl55,m6) trivial [1,0,0,0,0] (by kernel_rfl) ⟨rfl,rfl,rfl,rfl,trivial⟩ rfl
 refine A.aV (fun((m4,m6):Nat×Nat)=>[(kF lt lm),(25,.map (some m4)),(27,.map (some m6))]) (fun((m4,m6):Nat×Nat)=>[jO m6,iQ m4,fm b1 lt lm]) (fun((m4,m6):Nat×Nat)=>True) 8 #[true,false,true,false,true,false,false,false,false,false,false] ?_ (fun hN14=> ?_)
 ·rintro⟨m4,m6⟩-
  refine A.aU [1] (by kernel_rfl) ⟨⟨_,rfl,?_⟩,trivial⟩
  ·refine A.J (some 24) [] (fun ww ss hh=>vE ww hh) ?_
   rintro⟨bt56,mb57⟩-
   refine A.aE (sd [3,2,1,0]) ?_
   exact A.aJ hN8 (bt56,mb57,m4,m6) trivial [2,2,0,0,0] (by kernel_rfl) ⟨rfl,rfl,rfl,rfl,trivial⟩ rfl
 refine A.aV (fun((bt2,mb3):Nat×Nat)=>[(kF lt lm),(24,p_ bt2)]) (fun((bt2,mb3):Nat×Nat)=>[gb bt2 mb3,gf mb3,fm b1 lt lm]) (fun((bt2,mb3):Nat×Nat)=>True) 9 #[true,true,false,false,false,false,false,false,false,false,false] ?_ (fun hN15=> ?_)
 ·rintro⟨bt2,mb3⟩-
  refine A.aU [2,3,4] (by kernel_rfl) ⟨⟨_,rfl,?_⟩,⟨_,rfl,?_⟩,⟨_,rfl,?_⟩,trivial⟩
  ·refine A.aW gK (fun k:Int=>i_ k) (fun m:En=>p_ m.eb) 25 (by kernel_rfl) rfl (fun m58=>[iQ m58,gb bt2 mb3,gf mb3,fm b1 lt lm]) (fun _=>rfl) ?_
   intro m58
   refine A.aE (sd [2,1,0]) ?_
   exact A.aJ hN11 (bt2,mb3,m58) trivial [0,0,0,0] (by kernel_rfl) ⟨rfl,rfl,rfl,trivial⟩ rfl
  ·refine A.J (some 26) [] (fun ww ss hh=>xn ww hh) ?_
   rintro tl59-
   refine A.aE (sd [2,1,0]) ?_
   exact A.aJ hN12 (bt2,mb3,tl59) trivial [0,0,0,0] (by kernel_rfl) ⟨rfl,rfl,rfl,trivial⟩ rfl
  refine A.aW (eu 192) (fun k:Int=>i_ k) (fun m:Vt=>p_ m.be) 27 (by kernel_rfl) rfl (fun m60=>[jO m60,gb bt2 mb3,gf mb3,fm b1 lt lm]) (fun _=>rfl) ?_
  intro m60
  refine A.aE (sd [2,1,0]) ?_
  exact A.aJ hN13 (bt2,mb3,m60) trivial [0,0,0,0] (by kernel_rfl) ⟨rfl,rfl,rfl,trivial⟩ rfl
 refine A.aV (fun(m4:Nat)=>[(kF lt lm),(25,.map (some m4))]) (fun(m4:Nat)=>[iQ m4,fm b1 lt lm]) (fun(m4:Nat)=>True) 9 #[true,false,true,false,false,false,false,false,false,false,false] ?_ (fun hN16=> ?_)
 ·rintro m4-
  refine A.aU [1,4] (by kernel_rfl) ⟨⟨_,rfl,?_⟩,⟨_,rfl,?_⟩,trivial⟩
  ·refine A.J (some 24) [] (fun ww ss hh=>vE ww hh) ?_
   rintro⟨bt61,mb62⟩-
   refine A.aE (sd [2,1,0]) ?_
   exact A.aJ hN11 (bt61,mb62,m4) trivial [2,0,0,0] (by kernel_rfl) ⟨rfl,rfl,rfl,trivial⟩ rfl
  refine A.aW (eu 192) (fun k:Int=>i_ k) (fun m:Vt=>p_ m.be) 27 (by kernel_rfl) rfl (fun m63=>[jO m63,iQ m4,fm b1 lt lm]) (fun _=>rfl) ?_
  intro m63
  refine A.aE (sd [1,0]) ?_
  exact A.aJ hN14 (m4,m63) trivial [0,0,0] (by kernel_rfl) ⟨rfl,rfl,rfl,trivial⟩ rfl
 refine A.aV (fun(m6:Nat)=>[(kF lt lm),(27,.map (some m6))]) (fun(m6:Nat)=>[jO m6,fm b1 lt lm]) (fun(m6:Nat)=>True) 9 #[true,false,false,false,true,false,false,false,false,false,false] ?_ (fun hN17=> ?_)
 ·rintro m6-
  refine A.aU [1,2] (by kernel_rfl) ⟨⟨_,rfl,?_⟩,⟨_,rfl,?_⟩,trivial⟩
  ·refine A.J (some 24) [] (fun ww ss hh=>vE ww hh) ?_
   rintro⟨bt64,mb65⟩-
   refine A.aE (sd [2,1,0]) ?_
   exact A.aJ hN13 (bt64,mb65,m6) trivial [2,0,0,0] (by kernel_rfl) ⟨rfl,rfl,rfl,trivial⟩ rfl
  refine A.aW gK (fun k:Int=>i_ k) (fun m:En=>p_ m.eb) 25 (by kernel_rfl) rfl (fun m66=>[iQ m66,jO m6,fm b1 lt lm]) (fun _=>rfl) ?_
  intro m66
  refine A.aE (sd [1,0]) ?_
  exact A.aJ hN14 (m66,m6) trivial [1,0,0] (by kernel_rfl) ⟨rfl,rfl,rfl,trivial⟩ rfl
 refine A.aU [1,2,4] (by kernel_rfl) ⟨⟨_,rfl,?_⟩,⟨_,rfl,?_⟩,⟨_,rfl,?_⟩,trivial⟩
 ·refine A.J (some 24) [] (fun ww ss hh=>vE ww hh) ?_
  rintro⟨bt67,mb68⟩-
  refine A.aE (sd [1,0]) ?_
  exact A.aJ hN15 (bt67,mb68) trivial [0,0,0] (by kernel_rfl) ⟨rfl,rfl,trivial⟩ rfl
 ·refine A.aW gK (fun k:Int=>i_ k) (fun m:En=>p_ m.eb) 25 (by kernel_rfl) rfl (fun m69=>[iQ m69,fm b1 lt lm]) (fun _=>rfl) ?_
  intro m69
  refine A.aE (sd [0]) ?_
  exact A.aJ hN16 m69 trivial [0,0] (by kernel_rfl) ⟨rfl,rfl,trivial⟩ rfl
 refine A.aW (eu 192) (fun k:Int=>i_ k) (fun m:Vt=>p_ m.be) 27 (by kernel_rfl) rfl (fun m70=>[jO m70,fm b1 lt lm]) (fun _=>rfl) ?_
 intro m70
 refine A.aE (sd [0]) ?_
 exact A.aJ hN17 m70 trivial [0,0] (by kernel_rfl) ⟨rfl,rfl,trivial⟩ rfl
end Go.Proofs.YtobgjpigngoggaaGreat
