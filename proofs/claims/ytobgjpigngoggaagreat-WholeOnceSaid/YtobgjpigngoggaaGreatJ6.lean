/- The functions of the scheduler, layer by layer, proved operation by operation for all arguments, under the conditions that each theorem states: part 6. -/
import Derived.Test.YtobgjpigngoggaaGreatProg
import Derived.Test.YtobgjpigngoggaaGreatJ5
set_option linter.unusedVariables false
set_option linter.unusedSimpArgs false
set_option maxHeartbeats 4000000
set_option maxRecDepth 100000
namespace Go.Proofs.YtobgjpigngoggaaGreat
open Go V
def kN(d:Sd):Prop:=d.kc=[]∧d.kb=[]∧d.a.ym=fL []∧d.on=[]∧d.ka=[]∧d.et=T.nil∧d.ek=[]∧(∃v,d.kk=[(0,v)]∧v.kv=[]∧v.t=T.nil)∧d.ck=0∧d.ac=0
theorem Su(lt lm:Int)(h1:1≤lt∧lt≤65536)(h2:1≤lm∧lm≤16384)(w:World)(hs:HS w (dG []) [] w):Calls Tryz.prog 41 #[.agg #[i_ lt,i_ lm]] w fun e w'=> ∃zz:Ss×Sd,e= .returned (.tuple #[p_ zz.1.sb,i_ 0])∧(zz.1.lt=lt∧zz.1.lm=lm∧kN zz.2)∧Turn [] [fF zz.1 zz.2] w w':=by
 refine(SC lt lm h1 h2 w hs).mono ?_
 rintro e w' ⟨⟨sb,bt,mc,my,a,tl,mk,v⟩,a1,a2,a3⟩
 exact⟨(⟨sb,lt,lm,my,mk,tl⟩,⟨bt,mc,[],[],a,[],[],T.nil,[],[(0,v)],0,0⟩),a1,⟨rfl,rfl,rfl,rfl,a2.1,rfl,rfl,rfl,rfl,⟨v,rfl,a2.2⟩,rfl,rfl⟩,Turn.coR (Y:=[]) (by rw[List.append_nil];exact a3)⟩
theorem RD(w:World)(hs:HS w (dG []) [] w):Calls Tryz.prog 43 #[.slice none 0 0] w fun e w'=> ∃zz:Ru,e= .returned (.tuple #[p_ zz.bt,i_ 0])∧zz.rl=[]∧Turn [] [gu zz] w w':=
 Hw none [] 0 ⟨by simp,by simp,by simp⟩ w (fun j u h=>by cases h) hs
theorem Sv(t lm:Int)(htt:1≤t∧t≤65536)(hlm:1≤lm∧lm≤16384):
  CS 31 #[.agg #[i_ t,i_ lm]] [] (fun((sy,c,d,bl,r,s):Nat×Ss×Sd×Nat×Ru×mW)=>(.tuple #[p_ sy,i_ 0])) (fun(sy,c,d,bl,r,s)=>c.lt=t∧c.lm=lm∧kN d∧r.rl=[]) fun(sy,c,d,bl,r,s)=>[cz sy [p_ c.sb,p_ bl,p_ r.bt,p_ s.bs,u_ 0,i_ 0] 114,fF c d,cz bl [u_ 0,u_ 0,u_ 0,i_ t,u_ 0] 146,fl s ([]) ([]),gu r]:=by
 intro w hs
 refine A.C Tryz.func31 rfl hs (A.c (A.n1 [.al,.p,.p] [0] (fun b1=>[(1,p_ b1)]) (fun b1=>cz b1 [i_ t,i_ lm] 23) ?_))
 intro b1
 refine A.c (A.gm [.ld 0] [] [(11,.agg #[i_ t,i_ lm])] [b1] (A.j (A.J (some 12) [] (fun ww ss hh=>Su t lm ‹_› ‹_› ww hh) ?_)))
 rintro⟨c2,d3⟩ hz1
 refine A.g [.p,.p,.p,.p,.p] [11,12] [(4,p_ c2.sb),(5,i_ 0)] (A.d (A.c (A.g [.p,.p] [] [(16,b_ false)] (A.Z (A.p (A.c (A.gm [.p,.ld 1] [1,5,16] [(20,i_ t)] [b1] (A.j (A.J (some 21) [] (fun ww ss hh=>QN t ‹_› ww hh) ?_)))))))))
 rintro bl4-
 refine A.g [.p,.p,.p,.p,.p] [20,21] [(6,p_ bl4)] (A.c (A.j (A.J (some 25) [] (fun ww ss hh=>RD ww hh) ?_)))
 rintro r5 hz3
 refine A.g [.p,.p,.p,.p,.p] [25] [(8,p_ r5.bt)] (A.c (A.O [.p,.p,.p] [4,6,8] [(28,p_ c2.sb),(29,p_ bl4),(30,p_ r5.bt)] (A.j (A.J (some 31) [] (fun ww ss hh=>Sj ww hh) ?_))))
 rintro s6-
 refine A.n1 [.p,.al,.p,.p] [28,29,30,31] (fun b7=>[(2,p_ b7),(3,i_ 0)]) (fun b7=>cz b7 [p_ c2.sb,p_ bl4,p_ r5.bt,p_ s6.bs,u_ 0,i_ 0] 114) ?_
 intro b7
 refine A.e (A.Y [5,3,2,0,0] [p_ b7,i_ 0] (b7,c2,d3,bl4,r5,s6) ?_ ?_)
 ·rfl
 exact⟨(by assumption:_∧_∧kN _).1,(by assumption:_∧_∧kN _).2.1,(by assumption:_∧_∧kN _).2.2,by assumption⟩
abbrev kA(A:Option Addr)(xs:List Rs)(c:Nat):V.dC:=sl A xs.length c 49 3 (V.dJ ik xs)
structure fS where
 kd:Int
 za:Option Addr
 zl:List Zc
 zc:Nat
 ra:Option Addr
 rl:List Rl
 rc:Nat
 op:Pk
 tk:Int
 deriving Inhabited
def oP(x:fS):List Value:=[i_ x.kd,.slice x.za x.zl.length x.zc,.slice x.ra x.rl.length x.rc,u_ x.op.qi,i_ x.op.qn,w_ x.op.qa,w_ x.op.qb,w_ x.op.qc,w_ x.op.qd,u_ x.tk]
theorem qH(x:fS):(oP x).length=10:=rfl
def qw(W:World)(ops:List fS):Prop:= ∀x∈ops,ez W x.za (V.dJ jL x.zl)∧ez W x.ra (V.dJ fU x.rl)∧(∀z∈x.zl,jD z)∧(∀y∈x.rl,jx y)∧jw (gI x.op)∧0≤x.tk
def lY(c:Ss)(t:Int):List fS→Int→Sd→Int→Int→List Rl→List Rs→List Ev→Prop
 |[],_,_,_,_,_,rsl,evl=>rsl=[]∧evl=[]
 |o::l,no,d,un,clk,rl,rsl,evl=> ∃x evs d' un' clk' rl' rsl' evl',um c t o.kd o.zl o.rl o.op o.tk no d un clk rl x evs d' un' clk' rl'∧lY c t l (no+1) d' un' clk' rl' rsl' evl'∧rsl=x::rsl'∧evl=evs++evl'
variable{c:Ss}{t no un clk un' clk':Int}{ops:List fS}{k:Nat}{o:fS}{d d':Sd}{rl rl':List Rl}{x:Rs}{evs evl:List Ev}{rsl:List Rs}
theorem M9(hk:ops[k]? =some o)(h:um c t o.kd o.zl o.rl o.op o.tk no d un clk rl x evs d' un' clk' rl')
  (hr:lY c t (ops.drop (k+1)) (no+1) d' un' clk' rl' rsl evl):lY c t (ops.drop k) no d un clk rl (x::rsl) (evs++evl):=by
 obtain⟨e1,e2⟩:=List.getElem?_eq_some_iff.1 hk
 rw[List.drop_eq_getElem_cons e1,e2];exact⟨x,evs,d',un',clk',rl',rsl,evl,h,hr,rfl,rfl⟩
variable{I:Sd→Prop}{cnt:Sd→Nat}{oo:Int}
theorem O7(hW:nV c I cnt){fin:Int}(hf:fin≤4611686018427387904): ∀{clk un un':Int}{d d':Sd}{evs evs':List Ev},om t oo fin clk d un evs d' un' evs'→I d→d.ck≤clk→clk≤fin→I d'∧evs'.length+cnt d'≤evs.length+cnt d∧d'.ck≤fin:=by
 intro clk un un' d d' evs evs' h
 induction h with
 |stop h=>intro hI h1 h2;exact⟨hI,Nat.le_refl _,by omega⟩
 |step hx hp _ ih=>
  intro hI h1 h2
  have b:=wX hx hf
  obtain⟨a1,a2,a3⟩:=tp hW hI (by omega) hp
  obtain⟨c1,c2,c3⟩:=ih a1 a3 hx
  exact⟨c1,by omega,c3⟩
variable{l:List Zc}
theorem IC(hW:nV c I cnt){kd tk:Int}{lr:List Rl}{p:Pk}(hz: ∀z∈l,jD z)(htk:0≤tk)(hI:I d)(hck:d.ck≤clk)(hc:0≤clk∧clk≤4611686018427387904)(h:um c t kd l lr p tk no d un clk rl x evs d' un' clk' rl'):
  I d'∧d'.ck≤clk'∧(0≤clk'∧clk'≤4611686018427387904)∧evs.length+cnt d'≤cnt d+2:=by
 rcases h with⟨-,⟨er,pl,h,-⟩,-,rfl,-,rfl⟩|⟨-,rfl,-,rfl,rfl,-⟩|⟨-,rfl,-,h⟩|⟨-,-,h⟩|⟨-,-,rfl,-,rfl,-,rfl⟩
 ·obtain⟨a1,a2⟩:=hW.chg _ _ _ _ _ hI hz h
  exact⟨a1,by have h_:=h.2.2.1;omega,hc,by(simp;omega)⟩
 ·exact⟨hI,hck,hc,by(simp;done)⟩
 ·rcases h with⟨-,-,rfl,-,rfl⟩|⟨-,er,d1,hp,h⟩
  ·exact⟨hI,hck,hc,by(simp;done)⟩
  ·obtain⟨a1,a2⟩:=hW.put _ _ _ _ _ _ hI hck hp
   have hk:=IB hp
   rcases h with⟨-,-,rfl,-,rfl⟩|⟨-,-,h⟩
   ·exact⟨a1,hk,hc,by(simp;omega)⟩
   ·obtain⟨b1,b2,b3⟩:=tp hW a1 hk h
    exact⟨b1,b3,hc,by simp at b2;omega⟩
 ·rcases h with⟨-,-,rfl,rfl,-,rfl⟩|⟨h1,-,rfl,h⟩
  ·exact⟨hI,hck,hc,by(simp;done)⟩
  ·obtain⟨b1,b2,b3⟩:=O7 hW (by omega) h hI hck (by omega)
   exact⟨b1,b3,by omega,by simp at b2;omega⟩
 ·exact⟨hI,hck,hc,by(simp;done)⟩
theorem Sr(W:World)(t lm:Int)(al:Option Addr)(ops:List fS)(cl:Nat)(hoa:ez W al (V.dJ oP ops))(hops:qw W ops)(hol:ops.length≤1000)(htt:1≤t∧t≤65536)(hlm:1≤lm∧lm≤16384)(hLaw: ∀c d,c.lt=t→c.lm=lm→kN d→ ∃(I:Sd→Prop)(cnt:Sd→Nat),nV c I cnt∧I d∧cnt d=0):
  CS 9 #[.agg #[i_ t,i_ lm,vS al ops cl]] [fA W] (fun((A',rs',a',B',ev',b'):(Option Addr)×(List Rs)×Nat×(Option Addr)×(List Ev)×Nat)=>(.tuple #[.agg #[vS A' rs' a',vS B' ev' b'],i_ 0])) (fun(A',rs',a',B',ev',b')=> ∃c d,c.lt=t∧c.lm=lm∧kN d∧lY c t ops 0 d 0 0 [] rs' ev') fun(A',rs',a',B',ev',b')=>[fA W,kA A' rs' a',ff B' ev' b']:=by
 intro w hs
 refine A.C Tryz.func9 rfl hs (A.c (A.n2 [.al,.al,.p] [0] (fun b1 b2=>[(1,p_ b1),(2,p_ b2)]) (fun b1 b2=>[cz b1 [i_ t,i_ lm,vS al ops cl] 26,cz b2 [e_,e_] 32]) ?_))
 intro b1 b2
 refine A.c (A.gm [.p,.ld 1] [] [(13,.agg #[i_ t,i_ lm])] [b1] (A.j (A.J (some 14) [] (fun ww ss hh=>Sv t lm ‹_› ‹_› ww hh) ?_)))
 rintro⟨sy3,c4,d5,bl6,r7,s8⟩ hz1
 refine A.g [.p,.p,.p,.p,.p] [13,14] [(4,p_ sy3),(5,i_ 0)] (A.d (A.y (A.c (A.g [.p,.p,.p] [] [(17,b_ false)] (A.Z (A.c (A.gl [.p,.ld 6,.p,.p,.p] [5,17] [(22,b_ (decide ((ops.length:Int)>1000)))] [b1] (A.v rfl (fun e2=> ?_) (fun e2=> ?_)))))))))
 ·exact absurd e2 (by(intro h_;simp at h_;omega))
 have p2:=of_decide_eq_false e2
 refine A.p (A.d ?_)
 obtain⟨hct,hcm,hnS,hrl0⟩:=(by assumption:_∧_∧kN _∧_)
 obtain⟨I,cnt,hW,hI0,hc0⟩:=hLaw c4 d5 hct hcm hnS
 have hck0:d5.ck=0:=hnS.2.2.2.2.2.2.2.2.1
 refine A.s (A.n1 [.al] [22] (fun b9=>[(6,p_ b9)]) (fun b9=>cz b9 [e_,e_] 32) ?_)
 intro b9
 refine A.d (A.c (A.gl [.p,.ld 6,.p,.p] [1] [(29,vS al ops cl),(30,c_ ops.length),(31,i_ 0)] [b1] (A.y (A.aP 49 3 [cz sy3 [p_ c4.sb,p_ bl6,p_ r7.bt,p_ s8.bs,u_ 0,i_ 0] 114,fF c4 d5,cz bl6 [u_ 0,u_ 0,u_ 0,i_ t,u_ 0] 146,fl s8 ([]) ([]),gu r7,fA W,cz b1 [i_ t,i_ lm,vS al ops cl] 26,cz b2 [e_,e_] 32,cz b9 [e_,e_] 32,kA none ([]:List Rs) 0] rfl (A.aP 52 12 [cz sy3 [p_ c4.sb,p_ bl6,p_ r7.bt,p_ s8.bs,u_ 0,i_ 0] 114,fF c4 d5,cz bl6 [u_ 0,u_ 0,u_ 0,i_ t,u_ 0] 146,fl s8 ([]) ([]),gu r7,fA W,cz b1 [i_ t,i_ lm,vS al ops cl] 26,cz b2 [e_,e_] 32,cz b9 [e_,e_] 32,kA none ([]:List Rs) 0,ff none ([]:List Ev) 0] rfl (A.lp (σ:=Nat×Int×Sd×Int×Int×Int×Int×(List (Int×SL))×(List (Int×SR))×Ru×(List Rs)×(Option Addr)×Nat×(List Ev)×(Option Addr)×Nat) [] (fun(k,clkk,dk,unk,j1,j2,j3,cvk,rvk,rk,rsk,Ar,ar,evk,Br,br)=>[(31,c_ k)]) [0,0,0,0,0,0,2,2,2] (fun(k,clkk,dk,unk,j1,j2,j3,cvk,rvk,rk,rsk,Ar,ar,evk,Br,br)=>[cz sy3 [p_ c4.sb,p_ bl6,p_ rk.bt,p_ s8.bs,u_ clkk,c_ k] 114,fF c4 dk,cz bl6 [u_ j1,u_ j2,u_ j3,i_ t,u_ unk] 146,fl s8 cvk rvk,gu rk,fA W,cz b9 [vS Ar rsk ar,vS Br evk br] 32,kA Ar rsk ar,ff Br evk br]) (fun(k,clkk,dk,unk,j1,j2,j3,cvk,rvk,rk,rsk,Ar,ar,evk,Br,br)=>(k≤ops.length)∧(I dk)∧(dk.ck≤clkk)∧(0≤clkk∧clkk≤4611686018427387904)∧(evk.length+cnt dk≤2*k)∧(rsk.length=k)∧(gr k cvk)∧(ko rk.rl)∧(∀r2 e2,lY c4 t (ops.drop k) (k:Int) dk unk clkk rk.rl r2 e2→lY c4 t ops 0 d5 0 0 [] (rsk++r2) (evk++e2))) (fun(k,clkk,dk,unk,j1,j2,j3,cvk,rvk,rk,rsk,Ar,ar,evk,Br,br)=>ops.length-k) (0,0,d5,0,0,0,0,[],[],r7,([]:List Rs),none,0,([]:List Ev),none,0) ⟨(by omega),hI0,(by omega),(by omega),(by(simp;omega)),(by rfl),(by(intro k_;simp[cw,dN])),(by(rw[hrl0];exact⟨by simp,by simp,by simp⟩)),(by(intro r2 e2 h;rw[hrl0] at h;exact h))⟩ ?_ ?_))))))
 ·exact A.I [0,0,0,0,0,0,2,2,2,0,0]
 rintro⟨k,clkk,dk,unk,j1,j2,j3,cvk,rvk,rk,rsk,Ar,ar,evk,Br,br⟩ ⟨hk,hIk,hckk,hbk,hlk,hrk,hsk,hRk,hA⟩
 refine A.c (A.g [.p] [] [(32,b_ (decide ((k:Int)<(ops.length:Int))))] (A.d (A.v rfl (fun e3=> ?_) (fun e3=> ?_))))
 ·have p3:=of_decide_eq_true e3
  refine A.p (A.d (A.y (A.c (A.kp [.ix] [32] [(33,.pointer (some ((dV al).add (k*10))))] [] (o1 (io (k:Int) (gi qH (by decide) (rW (i:=5) rfl hoa) (by omega)))) ?_))))
  obtain⟨x12,hx12⟩: ∃x,(ops)[k]? =some x:=⟨_,List.getElem?_eq_getElem (by omega)⟩
  refine A.no [.rd [i_ x12.kd,vS x12.za x12.zl x12.zc,vS x12.ra x12.rl x12.rc,u_ x12.op.qi,i_ x12.op.qn,w_ x12.op.qa,w_ x12.op.qb,w_ x12.op.qc,w_ x12.op.qd,u_ x12.tk],.al,.st 11] [33] (fun b13=>[(8,p_ b13)]) (fun b13=>[]) (fun b13=>cz b13 [i_ x12.kd,vS x12.za x12.zl x12.zc,vS x12.ra x12.rl x12.rc,u_ x12.op.qi,i_ x12.op.qn,w_ x12.op.qa,w_ x12.op.qb,w_ x12.op.qc,w_ x12.op.qd,u_ x12.tk] 47) (fun b13=>[b13]) (fun b13=>o1 (ro ((dV al).add (k*10)) (fY (vs:=[i_ x12.kd,vS x12.za x12.zl x12.zc,vS x12.ra x12.rl x12.rc,u_ x12.op.qi,i_ x12.op.qn,w_ x12.op.qa,w_ x12.op.qb,w_ x12.op.qc,w_ x12.op.qd,u_ x12.tk]) qH (rW (i:=5) rfl hoa) hx12 (Nat.le_of_ble_eq_true rfl) rfl))) ?_
  intro b13
  refine A.c (A.gm [.p,.ld 11] [8] [(36,p_ sy3),(37,.agg #[i_ x12.kd,vS x12.za x12.zl x12.zc,vS x12.ra x12.rl x12.rc,u_ x12.op.qi,i_ x12.op.qn,w_ x12.op.qa,w_ x12.op.qb,w_ x12.op.qc,w_ x12.op.qd,u_ x12.tk])] [b13] (A.j (A.J (some 38) [0,0,0,0,0,0] (fun ww ss hh=>TL sy3 c4 dk bl6 j1 j2 j3 t unk rk s8 cvk rvk clkk (k:Int) W x12.kd x12.za x12.zl x12.zc x12.ra x12.rl x12.rc x12.op x12.tk k I cnt ((hops _ (List.mem_of_getElem? ‹_›)).1) ((hops _ (List.mem_of_getElem? ‹_›)).2.1) ((hops _ (List.mem_of_getElem? ‹_›)).2.2.1) ((hops _ (List.mem_of_getElem? ‹_›)).2.2.2.1) ((hops _ (List.mem_of_getElem? ‹_›)).2.2.2.2.1) ((hops _ (List.mem_of_getElem? ‹_›)).2.2.2.2.2) (by omega) ‹_› ‹_› ‹_› ‹_› ‹_› ‹_› ‹_› (by omega) (by omega) ww hh) ?_)))
  rintro⟨x14,clk'15,d'16,un'17,q1'18,q2'19,q3'20,cv'21,rv'22,r'23,evs'24,A'25,c'26⟩ hz4
  refine A.g1 [.p,.p,.p,.al,.st 13,.p] [36,37,38] (fun b28=>[(9,p_ b28),(10,vS A'25 evs'24 c'26)]) (fun b28=>[]) (fun b28=>cz b28 (ik x14) 49) (fun b28=>[b28]) ?_
  intro b28
  refine A.d ?_
  have hdo:=IC hW (hops _ (List.mem_of_getElem? ‹_›)).2.2.1 (hops _ (List.mem_of_getElem? ‹_›)).2.2.2.2.2 hIk hckk hbk (by assumption:_∧gr _ _∧ko _).1
  refine A.s (A.gm [.p,.ld 7,.ld 13] [9] [(42,vS Ar rsk ar),(43,.agg (ik x14).toArray)] [b9,b28] (A.j (A.aF 44 (e:=49) (ik x14) (by kernel_rfl) rfl (fun _=>by kernel_rfl) _ (fun _=>rfl) ?_)))
  intro b29
  refine A.j (A.ap ik rsk ([x14]) 8 45 (.agg #[i_ 0,i_ 0,i_ 0]) 24 t6 LD (gZ (i:=14) rfl) (by(simp;omega)) ?_)
  intro A30 c30
  refine A.gs [.p,.st 7] [42,43,44,45] [] [(7,cz b9 [vS A30 (rsk++([x14])) c30,vS Br evk br] 32)] [b9] (A.s (A.hp [.p,.ld 7,.p] [(2,p_ b2),(4,p_ sy3),(6,p_ b9),(29,vS al ops cl),(30,c_ ops.length),(31,c_ k),(48,vS Br evk br),(49,vS A'25 evs'24 c'26)] [b9] (A.j (A.ap mm evk evs'24 9 50 (.agg #[i_ 0,b_ false,b_ false,u_ 0,u_ 0,i_ 0,u_ 0,i_ 0,w_ 0,w_ 0,w_ 0,w_ 0]) 64 lq EP (fa (i:=6) rfl) (by omega) ?_))))
  intro A31 c31
  refine A.gs [.p,.st 7] [48,49,50] [] [(7,cz b9 [vS A30 (rsk++([x14])) c30,vS A31 (evk++evs'24) c31] 32)] [b9] (A.s (A.k [.w ((k:Int)+1),.p] [] [(31,i_ ((k:Int)+1))] [] (o1 (wj ((k:Int)+1) (by omega))) (A.aA (k+1,clk'15,d'16,un'17,q1'18,q2'19,q3'20,cv'21,rv'22,r'23,rsk++([x14]),A30,c30,evk++evs'24,A31,c31) ⟨(by omega),hdo.1,hdo.2.1,hdo.2.2.1,(by(have h_:=hdo.2.2.2;simp;omega)),(by(simp;omega)),((by assumption:_∧gr _ _∧ko _).2.1),((by assumption:_∧gr _ _∧ko _).2.2),(by(intro r2 e2 h;rw[List.append_assoc,List.append_assoc];exact hA _ _ (M9 ‹_› (by assumption:_∧gr _ _∧ko _).1 (by simpa using h))))⟩ (by(show ops.length-(k+1)<ops.length-k;omega)) ?_)))
  exact A.I [0,0,0,0,0,0,1,1,1,1,1]
 have p3:=of_decide_eq_false e3
 refine A.aB (A.c (A.gs [.ld 6,.st 10,.p] [4,6,29,30,31,32] [(3,i_ 0)] [(10,cz b2 [vS Ar rsk ar,vS Br evk br] 32)] [b9,b2] (A.e (A.aG [5,6,6] [.agg #[vS Ar rsk ar,vS Br evk br],i_ 0] (fun aa ww rr ss=>⟨iG 10 rr ss,fQ rr rfl,trivial⟩) (Ar,rsk,ar,Br,evk,br) ?_ ?_ (by kernel_rfl)))))
 ·rfl
 exact⟨_,_,hct,hcm,hnS,by have h_:=hA [] [] (by rw[List.drop_eq_nil_of_le (by omega)];exact⟨rfl,rfl⟩);simpa using h_⟩
variable{i:Int}
theorem GY{β:Type}{c:β}: ∀{kv:List (Int×β)},(kv.map (·.1)).Nodup→(i,c)∈kv→cw kv i=some c
 |[],_,h=>by cases h
 |p::kv,hn,h=>by
  obtain⟨h1,h2⟩:=List.nodup_cons.1 hn
  unfold cw
  rcases List.mem_cons.1 h with rfl|h
  ·rw[if_pos rfl]
  ·rw[if_neg fun e=>h1 (by show p.1∈_;rw[e];exact List.mem_map_of_mem (f:=(·.1)) h)];exact GY h2 h
variable{kc:List (Int×Cl)}
theorem MG(hn:(kc.map (·.1)).Nodup){f:Cl→Bool}(h:i∈dI kc f): ∃c,cw kc i=some c∧f c=true:=by
 unfold dI gg at h;rw[(List.mergeSort_perm _ _).mem_iff,List.mem_map] at h
 obtain⟨⟨j,c⟩,h1,h2⟩:=h
 obtain⟨h3,h4⟩:=List.mem_filter.1 h1
 dsimp only at h2;subst h2
 exact⟨c,GY hn h3,h4⟩
variable{kb:List (Int×En)}
theorem Ib:qE kb i=false↔qk kb i≠[]:=by
 unfold qE qk;cases cw kb i with
 |none=>simp
 |some m=>simp
theorem Ax(hn:(kc.map (·.1)).Nodup):i∈fD kc kb↔(∃c,cw kc i=some c∧c.hl=true)∧qk kb i≠[]:=by
 unfold fD tB;rw[List.mem_filter];constructor
 ·rintro⟨h1,h2⟩;exact⟨MG hn h1,Ib.1 (by simpa using h2)⟩
 ·rintro⟨⟨c,h1,h2⟩,h3⟩;exact⟨rJ h1 h2,by simpa using Ib.2 h3⟩
theorem SU(hn:(kc.map (·.1)).Nodup):(fD kc kb).Nodup:=by
 unfold fD tB dI gg
 refine List.Nodup.sublist List.filter_sublist ((List.mergeSort_perm _ _).nodup_iff.2 ?_)
 exact List.Nodup.sublist (List.filter_sublist.map _) hn
def uh(kc:List (Int×Cl))(i:Int)(kb:List (Int×En))(kk:List (Int×Vt)):Prop:=
 (fZ kc i≠0∧cw kb i=none)∨(fZ kc i=0∧ ∃m,A7 (dF kc i) m∧cw kb i=some m∧((dF kc i).hl=false→ ∃v,v.kv=[]∧v.t=T.nil∧cw kk i=some v))
variable{kk:List (Int×Vt)}
theorem Nz{j:Int}{kb':List (Int×En)}{kk':List (Int×Vt)}(hn:(kb.map (·.1)).Nodup)(hm:(kk.map (·.1)).Nodup)(h:xy kc j kb kk kb' kk'):
  (kb'.map (·.1)).Nodup∧(kk'.map (·.1)).Nodup∧(∀i,i≠j→cw kb' i=cw kb i∧cw kk' i=cw kk i)∧uh kc j kb' kk':=by
 rcases h with⟨h1,rfl,rfl⟩|⟨h1,m,h2,rfl,⟨h3,rfl⟩|⟨h3,v,h4,h5,rfl⟩⟩
 ·exact⟨kR hn _,kR hm _,fun i hi=>by rw[iJ hn,iJ hm,if_neg (fun e=>hi e.symm),if_neg (fun e=>hi e.symm)];exact⟨rfl,rfl⟩,.inl ⟨h1,by rw[iJ hn,if_pos rfl]⟩⟩
 ·exact⟨lM (kR hn _) _ _,kR hm _,fun i hi=>by rw[gA,iJ hn,iJ hm,if_neg (fun e=>hi e.symm),if_neg (fun e=>hi e.symm),if_neg (fun e=>hi e.symm)];exact⟨rfl,rfl⟩,.inr ⟨h1,m,h2,jN _ _ _,fun e=>by rw[h3] at e;cases e⟩⟩
 ·exact⟨lM (kR hn _) _ _,lM (kR hm _) _ _,fun i hi=>by rw[gA,iJ hn,gA,iJ hm,if_neg (fun e=>hi e.symm),if_neg (fun e=>hi e.symm),if_neg (fun e=>hi e.symm),if_neg (fun e=>hi e.symm)];exact⟨rfl,rfl⟩,.inr ⟨h1,m,h2,jN _ _ _,fun _=>⟨v,h4,h5,jN _ _ _⟩⟩⟩
theorem AA: ∀{l:List Int}{kb kb':List (Int×En)}{kk kk':List (Int×Vt)},(kb.map (·.1)).Nodup→(kk.map (·.1)).Nodup→od kc l kb kk kb' kk'→ ∀i,(i∉l→cw kb' i=cw kb i∧cw kk' i=cw kk i)∧(i∈l∨uh kc i kb kk→uh kc i kb' kk')
 |[],kb,kb',kk,kk',hn,hm,⟨h1,h2⟩,i=>by subst h1 h2;exact⟨fun _=>⟨rfl,rfl⟩,fun h=>h.resolve_left (by simp)⟩
 |j::l,kb,kb',kk,kk',hn,hm,⟨kb1,kk1,hs,h⟩,i=>by
  obtain⟨a1,a2,a3,a4⟩:=Nz hn hm hs
  obtain⟨b1,b2⟩:=AA a1 a2 h i
  refine⟨fun hi=> ?_,fun hi=>b2 ?_⟩
  ·obtain⟨c1,c2⟩:=b1 fun h=>hi (List.mem_cons_of_mem _ h)
   obtain⟨d1,d2⟩:=a3 i fun e=>hi (e▸List.mem_cons_self ..)
   exact⟨c1.trans d1,c2.trans d2⟩
  ·by_cases e:i=j
   ·subst e;exact .inr a4
   ·rcases hi with hi|hi
    ·exact .inl ((List.mem_cons.1 hi).resolve_left e)
    ·right
     obtain⟨d1,d2⟩:=a3 i e
     unfold uh at hi⊢;rw[d1,d2];exact hi
theorem SV(h:uh kc i kb kk):qk kb i=[]:=by
 rcases h with⟨-,h⟩|⟨-,m,h1,h2,-⟩
 ·unfold qk;rw[h];rfl
 ·rw[kJ h2]
  obtain⟨e1,-,-,-,-,-,e2,e3⟩:=h1
  cases hl:(dF kc i).hl with
  |true=>exact(e2 hl).2.1
  |false=>exact List.eq_nil_of_length_eq_zero (by rw[mF];exact e3 hl)
theorem GZ{kw:List (Int×Cl)}(hL:eA kc)(hW:eA kw): ∀(n:Nat)(i:Int),dep kc i≤n→(i=0∨cw kc i≠none)→(∀q∈dc kc i,cw kc q=cw kw q)→dc kw i=dc kc i
 |n,i,hn,hi,h=>by
  cases e:cw kc i with
  |none=>
   have h0:=hi.resolve_right fun h=>h e
   subst h0;rw[mY (mH hL),mY (mH hW)]
  |some c=>
   have hu:=jH hL e
   cases n with
   |zero=>rw[iq hL e] at hn;omega
   |succ n=>
    rw[iq hL e] at hn
    have e2:cw kw i=some c:=by rw[←h i (by rw[hu];exact List.mem_cons_self ..)];exact e
    rw[hu,jH hW e2,GZ hL hW n c.hp (by omega) ?_ fun q hq=>h q (by rw[hu];exact List.mem_cons_of_mem _ hq)]
    rcases hL.par i c e with h1|⟨p,h1,-⟩
    ·exact .inl h1
    ·exact .inr (by rw[h1];simp)
theorem Az(hL:eA kc): ∀{l:List Int}{on on':List (Int×Int)}{ka ka':List (Int×MB)}{A:Int→Prop},AO kc on ka A→rB (fL kc) l on ka on' ka'→l.Nodup→(∀i∈l,(dF kc i).hl=true∧i∉on.map (·.1))→
  ∃A',AO kc on' ka' A'∧ ∀i,i∈on'.map (·.1)↔i∈on.map (·.1)∨(i∈l∧fH kc i=true)
 |[],on,on',ka,ka',A,hA,⟨h1,h2⟩,_,_=>by subst h1 h2;exact⟨A,hA,fun i=>by simp⟩
 |j::l,on,on',ka,ka',A,hA,⟨on1,ka1,l1,e1,hO,h⟩,hn,hl=>by
  obtain⟨n1,n2⟩:=List.nodup_cons.1 hn
  obtain⟨l1,l2⟩:=hl j (List.mem_cons_self ..)
  have hno: ¬A j:=fun h=>l2 (xN hL hA.ast h l1)
  by_cases hs:fH kc j=true
  ·obtain⟨A1,a1,-,a3⟩:=I7 hL hA hO hs l1 hno
   obtain⟨A',b1,b2⟩:=Az hL a1 h n2 fun i hi=>⟨(hl i (List.mem_cons_of_mem _ hi)).1,fun h=>by
    rcases(a3 i).1 h with e|e
    ·exact n1 (e▸hi)
    ·exact(hl i (List.mem_cons_of_mem _ hi)).2 e⟩
   refine⟨A',b1,fun i=> ?_⟩
   rw[b2,a3,List.mem_cons];constructor
   ·rintro((rfl|h)|h)
    ·exact .inr ⟨.inl rfl,hs⟩
    ·exact .inl h
    ·exact .inr ⟨.inr h.1,h.2⟩
   ·rintro(h|⟨rfl|h,h2⟩)
    ·exact .inl (.inr h)
    ·exact .inl (.inl rfl)
    ·exact .inr ⟨h,h2⟩
  ·rcases hO with⟨h1,-⟩|⟨-,-,-,h1,h2⟩
   ·rw[tu,Bool.and_eq_true] at h1;exact absurd h1.1 hs
   ·subst h1 h2
    obtain⟨A',b1,b2⟩:=Az hL hA h n2 fun i hi=>hl i (List.mem_cons_of_mem _ hi)
    refine⟨A',b1,fun i=> ?_⟩
    rw[b2,List.mem_cons];constructor
    ·rintro(h|h)
     ·exact .inl h
     ·exact .inr ⟨.inr h.1,h.2⟩
    ·rintro(h|⟨rfl|h,h2⟩)
     ·exact .inl h
     ·exact absurd h2 hs
     ·exact .inr ⟨h,h2⟩
theorem H6:AO kc [] [] (fun _=>False):=by
 refine⟨⟨fun i h=>h.elim,fun i h=>h.elim,fun i h=>h.elim,fun i h=>(by cases h),fun i h=>(by cases h)⟩,fun p=> ?_,by simp⟩
 simp[kx,cw,m0]
theorem QJ{c:Cl}(h:cw kc i=some c):fZ kc i=0:=by unfold fZ;rw[h];rfl
variable{er:Int}
theorem BA{idle:Bool}(h:Iv c d)(hz: ∀z∈l,jD z)(ht:tt c d idle l er d'):Iv c d'∧ ∀i,qk d'.kb i=qk d.kb i:=by
 obtain⟨het,hek,hck,hac,hR,hnd⟩:=ht
 obtain⟨bt',mc',kc',kb',a',on',ka',et',ek',kk',ck',ac'⟩:=d'
 dsimp only at het hek hck hac hR⊢
 subst het hek hck hac
 rcases hR with⟨-,-,rfl,rfl,rfl,rfl,rfl,rfl,rfl,rfl⟩|⟨-,⟨-,hbz,-⟩,hkc,hC,hy,hO⟩
 ·exact⟨⟨h.lt1,h.lm1,h.laid,h.aok,h.by_,hnd,h.ym,h.ac,h.onk,h.el,h.ekk,h.pk,h.rg,h.qv⟩,fun _=>rfl⟩
 ·rw[←hkc] at hbz
  have hL:=h.laid
  have hW:eA kc':=hkc▸AS hL
  have hAw:lj kc':=hkc▸IE h.aok hL hz
  have hB':=HM h.by_ h.nd.1 hC
  have hg:=fun i=>AA h.nd.1 h.nd.2.1 hC i
  rw[hy] at hO
  have hbusy: ∀i∈eJ d.kc kc',∀lf,qk d.kb lf≠[]→i∉dc d.kc lf:=fun i hi lf hlf hup=>by
   obtain⟨m,-,h2,h3,-⟩:=oW h.by_ hlf
   have:nm d.kc d.kb i=true:=by
    unfold nm;rw[List.any_eq_true]
    exact⟨lf,(Ax hL.nd).2 ⟨⟨_,h2,h3⟩,hlf⟩,by rw[List.contains_iff_mem];exact hup⟩
   have h4:(eJ d.kc kc').any (nm d.kc d.kb)=true:=List.any_eq_true.2 ⟨i,hi,this⟩
   rw[hbz] at h4;cases h4
  have hself: ∀lf,qk d.kb lf≠[]→lf∈dc d.kc lf:=fun lf hlf=>by
   obtain⟨m,-,h2,-⟩:=oW h.by_ hlf
   rw[jH hL h2];exact List.mem_cons_self ..
  have hqk: ∀i,qk kb' i=qk d.kb i:=fun i=>by
   by_cases e:i∈eJ d.kc kc'
   ·rw[SV ((hg i).2 (.inl e))]
    exact(Classical.byContradiction fun hne=>hbusy i e i (fun h=>hne h.symm) (hself i fun h=>hne h.symm))
   ·unfold qk;rw[((hg i).1 e).1]
  have hsame: ∀lf,qk d.kb lf≠[]→ ∀q∈dc d.kc lf,q∉eJ d.kc kc':=fun lf hlf q hq ht=>hbusy q ht lf hlf hq
  have hup: ∀lf,qk d.kb lf≠[]→dc kc' lf=dc d.kc lf:=fun lf hlf=>by
   obtain⟨m,-,h2,-⟩:=oW h.by_ hlf
   exact GZ hL hW _ lf (Nat.le_refl _) (.inr (by rw[h2];simp)) fun q hq=>vy (hsame lf hlf q hq)
  have hcl: ∀q,q∉eJ d.kc kc'→dF kc' q=dF d.kc q:=fun q hq=>by unfold dF;rw[vy hq]
  have hlsame: ∀lf,qk d.kb lf≠[]→dF kc' lf=dF d.kc lf:=fun lf hlf=>hcl lf (hsame lf hlf lf (hself lf hlf))
  obtain⟨A,hA,hK⟩:=h.ac
  obtain⟨A',hA',hon⟩:=Az hW (H6 (kc:=kc')) hO (SU hW.nd) fun i hi=>by
   obtain⟨⟨c,h1,h2⟩,-⟩:=(Ax hW.nd).1 hi
   exact⟨by rw[ig h1];exact h2,by simp⟩
  have honk: ∀i,i∈on'.map (·.1)↔fH kc' i=true∧(dF kc' i).hl=true∧qk kb' i≠[]:=fun i=>by
   rw[hon,Ax hW.nd];simp only[List.map_nil,List.not_mem_nil,false_or]
   constructor
   ·rintro⟨⟨⟨c,h1,h2⟩,h3⟩,h4⟩;exact⟨h4,by rw[ig h1];exact h2,h3⟩
   ·rintro⟨h1,h2,h3⟩;obtain⟨c,h4,h5⟩:=jr h1;exact⟨⟨⟨c,h4,by rw[←h5];exact h2⟩,h3⟩,h1⟩
  have hkeys: ∀i,i∈on'.map (·.1)↔i∈d.on.map (·.1):=fun i=>by
   rw[honk,h.onk,hqk]
   by_cases e:qk d.kb i=[]
   ·simp[e]
   ·have:=hlsame i e
    unfold fH;rw[this]
  have hAA: ∀q,A' q↔A q:=fun q=>by
   rw[qK hW hA'.ast,qK hL hA.ast]
   constructor
   ·rintro⟨m,h1,h2⟩
    have h3:=(hkeys m).1 h1
    exact⟨m,h3,by rw[←hup m ((h.onk m).1 h3).2.2];exact h2⟩
   ·rintro⟨m,h1,h2⟩
    exact⟨m,(hkeys m).2 h1,by rw[hup m ((h.onk m).1 h1).2.2];exact h2⟩
  have hAeq:A'=A:=funext fun q=>propext (hAA q)
  subst hAeq
  have hAt: ∀q,A' q→q∉eJ d.kc kc'∧((dF d.kc q).hp∉eJ d.kc kc'):=fun q hq=>by
   obtain⟨m,h1,h2⟩:=(qK hL hA.ast q).1 hq
   have hm:=((h.onk m).1 h1).2.2
   refine⟨hsame m hm q h2,fun ht=> ?_⟩
   rcases Au hL _ m q (Nat.le_refl _) h2 with h3|h3
   ·exact hsame m hm _ h3 ht
   ·rw[h3] at ht
    have:=((w9 d.kc kc').2 0).1 ht
    unfold kO at this;rw[mH hL,mH hW] at this;simp at this
  have hfit: ∀i,i∉eJ d.kc kc'→mQ kk' i=mQ d.kk i:=fun i hi=>by unfold mQ;rw[((hg i).1 hi).2]
  have hK':KT kc' A' kk' (fun q=>q=0):=fun p hp=>by
   by_cases e:p∈eJ d.kc kc'
   ·rcases hp with rfl|⟨cp,hp,hl⟩
    ·have:=((w9 d.kc kc').2 0).1 e
     unfold kO at this;rw[mH hL,mH hW] at this;simp at this
    ·rcases(hg p).2 (.inl e) with⟨h1,-⟩|⟨-,m,-,-,h4⟩
     ·exact absurd (QJ hp) h1
     ·obtain⟨v,h5,h6,h7⟩:=h4 (by rw[ig hp];exact hl)
      refine⟨v,h7,by rw[h5,h6];exact yw,fun i=> ?_,fun i y hy=>(by rw[h5] at hy;cases hy),fun i y hy=>(by rw[h5] at hy;cases hy)⟩
      rw[h5];refine⟨fun h8=>absurd rfl h8,fun⟨h8,h9⟩=> ?_⟩
      obtain⟨a1,a2⟩:=hAt i h8
      rw[hcl i a1] at h9;rw[h9] at a2;exact absurd e a2
   ·have hpi:np d.kc p:=by
     rcases hp with hp|⟨cp,hp,hl⟩
     ·exact .inl hp
     ·exact .inr ⟨cp,by rw[vy e];exact hp,hl⟩
    obtain⟨v,h1,h2⟩:=hK p hpi
    refine⟨v,by rw[((hg p).1 e).2];exact h1,h2.er,fun i=> ?_,h2.rng,fun i y hy hl hn=> ?_⟩
    ·rw[h2.key];constructor
     ·rintro⟨a,b⟩;exact⟨a,by rw[hcl i (hAt i a).1];exact b⟩
     ·rintro⟨a,b⟩;exact⟨a,by rw[←hcl i (hAt i a).1];exact b⟩
    ·have ha:=((h2.key i).1 (by rw[hy];simp)).1
     rw[hfit i (hAt i ha).1]
     exact h2.fit i y hy (by rw[←hcl i (hAt i ha).1];exact hl) hn
  have hrg:RG kb':=fun i m hm=>by
   by_cases e:i∈eJ d.kc kc'
   ·rcases(hg i).2 (.inl e) with⟨-,h1⟩|⟨-,m',h1,h2,-⟩
    ·rw[h1] at hm;cases hm
    ·rw[h2] at hm;cases hm
     obtain⟨-,-,-,-,h3,-⟩:=h1
     rw[h3];exact JH
   ·rw[((hg i).1 e).1] at hm;exact h.rg i m hm
  have hqv:QV kb':=fun i m hm hl=>by
   by_cases e:i∈eJ d.kc kc'
   ·rcases(hg i).2 (.inl e) with⟨-,h1⟩|⟨-,m',h1,h2,-⟩
    ·rw[h1] at hm;cases hm
    ·rw[h2] at hm;cases hm
     obtain⟨h3,-,-,-,-,-,h4,-⟩:=h1
     obtain⟨-,h5,h6,h7,h8⟩:=h4 (by rw[←h3];exact hl)
     exact⟨by rw[h6,h3],by rw[h8,h3],by rw[h7,h5];rfl⟩
   ·rw[((hg i).1 e).1] at hm;exact h.qv i m hm hl
  refine⟨⟨h.lt1,h.lm1,hW,hAw,hB',hnd,hy,⟨A',hA',hK'⟩,honk,h.el,fun i hi=> ?_,fun i p hp=> ?_,hrg,hqv⟩,hqk⟩
  ·obtain⟨h1,h2⟩:=h.ekk i hi
   show qk kb' i≠[]∧jE (dF kc' i)=true
   rw[hqk,hlsame i h1];exact⟨h1,h2⟩
  ·exact h.pk i p (by rw[←hqk];exact hp)
theorem xO(h1:1≤c.lt∧c.lt≤65536)(h2:1≤c.lm∧c.lm≤16384)(h:kN d):Iv c d:=by
 obtain⟨bt,mc,kc,kb,a,on,ka,et,ek,kk,ck,ac⟩:=d
 obtain⟨e1,e2,e3,e4,e5,e6,e7,⟨v,e8,e9,e10⟩,-,-⟩:=h
 dsimp only at e1 e2 e3 e4 e5 e6 e7 e8
 subst e1 e2 e4 e5 e6 e7 e8
 refine⟨h1,h2,Lh,⟨[],P6⟩,fun i=>⟨rfl,fun m hm=>(by cases hm)⟩,⟨by simp,by simp,by simp⟩,e3,⟨_,H6,fun p hp=> ?_⟩,fun i=>by simp[qk,cw],yw,fun i hi=>absurd rfl hi,fun i p hp=>(by cases hp),fun i m hm=>(by cases hm),fun i m hm=>(by cases hm)⟩
 rcases hp with rfl|⟨cp,hp,-⟩
 ·refine⟨v,by simp[cw],by rw[e9,e10];exact yw,fun i=>by rw[e9];simp[cw],fun i y hy=>(by rw[e9] at hy;cases hy),fun i y hy=>(by rw[e9] at hy;cases hy)⟩
 ·cases hp
def pg(d:Sd):Nat:=((d.kc.map (·.1)).map fun i=>(qk d.kb i).length).sum
theorem G0:nV c (Iv c) pg where
 pre d h:=QF h
 take d now z ok d' h _ ht:=by
  obtain⟨h1,h2,h3,-⟩:=zx h ht
  have hkc:d'.kc=d.kc:=ht.1.2.2.1
  refine⟨h1,?_⟩
  unfold pg;rw[hkc]
  cases ok with
  |false=>
   have:(fun i=>(qk d'.kb i).length)=fun i=>(qk d.kb i).length:=funext fun i=>by rw[h2 i];simp
   rw[this];exact⟨Nat.le_refl _,fun e=>by cases e⟩
  |true=>
   obtain⟨m,-,h4,-⟩:=oW h.by_ (h3 rfl)
   have:=zj (f:=fun i=>(qk d.kb i).length) (g:=fun i=>(qk d'.kb i).length) (i:=z.gq1) (fun j hj=>by
    rw[h2 j];simp[show¬z.gq1=j from fun e=>hj e.symm]) h.laid.nd (lQ.1 (by rw[h4];simp))
   have h5:=congrArg List.length (h2 z.gq1);simp at h5
   omega
 put d now ci p er d' h _ ht:=by
  obtain⟨h1,h2,h3,-⟩:=Aw h ht
  have hkc:d'.kc=d.kc:=ht.1.2.2.1
  refine⟨h1,?_⟩
  unfold pg;rw[hkc]
  by_cases e:er=0
  ·have:=zj (f:=fun i=>(qk d.kb i).length) (g:=fun i=>(qk d'.kb i).length) (i:=ci) (fun j hj=>by
    rw[h2 j];simp[show¬ci=j from fun e=>hj e.symm]) h.laid.nd (h3 e)
   have h5:=congrArg List.length (h2 ci);simp[e] at h5
   omega
  ·have:(fun i=>(qk d'.kb i).length)=fun i=>(qk d.kb i).length:=funext fun i=>by rw[h2 i];simp[e]
   rw[this];omega
 chg d idle l er d' h hz ht:=by
  obtain⟨h1,h2⟩:=BA h hz ht
  refine⟨h1,?_⟩
  unfold pg
  have:(fun i=>(qk d'.kb i).length)=fun i=>(qk d.kb i).length:=funext fun i=>by rw[h2 i]
  rw[this]
  refine wK h1.laid.nd fun i _ hi=> ?_
  obtain⟨m,-,h4,-⟩:=oW h.by_ (i:=i) fun e=>hi (by rw[e];rfl)
  exact lQ.1 (by rw[h4];simp)
 go d now z ok d' h hd hn ht:=Ia h hd hn ht
theorem G1(h:kN d):pg d=0:=by unfold pg;rw[h.1];rfl
def dh(l:List Ev)(k:Int)(b:Bool):List Pk:=(l.filter fun e=>decide (e.vq6=k)&&(e.vq2==b)).map qA
theorem sL(a l:List Ev)(k:Int)(b:Bool):dh (a++l) k b=dh a k b++dh l k b:=by simp[dh]
theorem uP(e:Ev)(k:Int)(b:Bool):dh [e] k b=if e.vq6=k∧e.vq2=b then[qA e] else[]:=by
 unfold dh;by_cases h1:e.vq6=k<;>by_cases h2:e.vq2=b<;>simp[h1,h2]
variable{now:Int}
theorem EJ{evs':List Ev}(h:Iv c d)(hp:s4 d un t oo now evs d' un' evs')(k:Int):Iv c d'∧dh evs' k true=dh evs k true∧ ∃w,dh evs' k false=dh evs k false++w∧qk d.kb k=w++qk d'.kb k:=by
 rcases hp with⟨-,rfl,-,rfl⟩|⟨-,z,ok,ht,hx⟩
 ·exact⟨h,rfl,[],by simp,by simp⟩
 ·obtain⟨h1,h2,-,-⟩:=zx h ht
  rcases hx with⟨rfl,-,rfl⟩|⟨rfl,-,rfl⟩
  ·exact⟨h1,rfl,[],by simp,by rw[h2];simp⟩
  ·refine⟨h1,?_,_,?_,h2 k⟩
   ·rw[sL,uP];simp[CP]
   ·rw[sL,uP];congr 1;simp[CP,qA,lZ]
theorem MH{fin:Int}(k:Int): ∀{clk un un':Int}{d d':Sd}{evs evs':List Ev},om t oo fin clk d un evs d' un' evs'→Iv c d→Iv c d'∧dh evs' k true=dh evs k true∧ ∃w,dh evs' k false=dh evs k false++w∧qk d.kb k=w++qk d'.kb k:=by
 intro clk un un' d d' evs evs' h
 induction h with
 |stop h=>intro hI;exact⟨hI,rfl,[],by simp,by simp⟩
 |step hx hp _ ih=>
  intro hI
  obtain⟨a1,a2,w,a3,a4⟩:=EJ hI hp k
  obtain⟨b1,b2,w',b3,b4⟩:=ih a1
  exact⟨b1,b2.trans a2,w++w',by rw[b3,a3,List.append_assoc],by rw[a4,b4,List.append_assoc]⟩
def kL(o:fS)(x:Rs)(k:Int):List Pk:=if o.kd=3∧x.wq1=0∧x.wq3=k then[o.op] else[]
def fx:List fS→List Rs→Int→List Pk
 |o::l,x::r,k=>kL o x k++fx l r k
 |_,_,_=>[]
theorem OA(h:Iv c d)(hz: ∀z∈o.zl,jD z)(hd:um c t o.kd o.zl o.rl o.op o.tk no d un clk rl x evs d' un' clk' rl')(k:Int):
  Iv c d'∧dh evs k true=kL o x k∧qk d.kb k++dh evs k true=dh evs k false++qk d'.kb k:=by
 rcases hd with⟨hk,⟨er,pl,h1,-⟩,-,-,-,rfl⟩|⟨hk,rfl,-,-,rfl,-⟩|⟨hk,-,-,hp⟩|⟨hk,-,hp⟩|⟨hk,-,rfl,-,-,-,rfl⟩
 ·obtain⟨a1,a2⟩:=BA h hz h1
  exact⟨a1,by simp[dh,kL,hk],by simp[dh,a2]⟩
 ·exact⟨h,by simp[dh,kL,hk],by simp[dh]⟩
 ·rcases hp with⟨he,rfl,rfl,-,rfl⟩|⟨he,er,d1,hP,hp⟩
  ·exact⟨h,by simp[dh,kL,rs,he],by simp[dh]⟩
  ·obtain⟨a1,a2,-,-⟩:=Aw h hP
   rcases hp with⟨h0,rfl,rfl,-,rfl⟩|⟨h0,rfl,hp⟩
   ·exact⟨a1,by simp[dh,kL,rs,h0],by rw[a2];simp[dh,h0]⟩
   ·obtain⟨b1,b2,w,b3,b4⟩:=EJ a1 hp k
    have e1:dh evs k true=kL o (rs 0 0 (fV rl (gI o.op))) k:=by
     rw[b2,List.nil_append,uP];simp[C6,kL,rs,hk,qA]
    refine⟨b1,e1,?_⟩
    have e2:dh evs k false=w:=by rw[b3,List.nil_append,uP];simp[C6]
    rw[e1,e2,←b4,a2];simp[kL,rs,hk,h0]
 ·rcases hp with⟨-,rfl,-,rfl,-,rfl⟩|⟨-,rfl,-,hp⟩
  ·exact⟨h,by simp[dh,kL,rs,hk],by simp[dh]⟩
  ·obtain⟨b1,b2,w,b3,b4⟩:=MH k hp h
   refine⟨b1,by rw[b2];simp[dh,kL,hk],?_⟩
   rw[b2,b3,b4];simp[dh]
 ·exact⟨h,by simp[dh,kL,hk.2.2.1],by simp[dh]⟩
theorem Et(k:Int): ∀{ops:List fS}{no un clk:Int}{d:Sd}{rl:List Rl}{rsl:List Rs}{evl:List Ev},lY c t ops no d un clk rl rsl evl→Iv c d→(∀o∈ops,∀z∈o.zl,jD z)→
  rsl.length=ops.length∧dh evl k true=fx ops rsl k∧ ∃w,qk d.kb k++dh evl k true=dh evl k false++w
 |[],no,un,clk,d,rl,rsl,evl,⟨h1,h2⟩,hI,_=>by subst h1 h2;exact⟨rfl,rfl,qk d.kb k,by simp[dh]⟩
 |o::ops,no,un,clk,d,rl,rsl,evl,⟨x,evs,d',un',clk',rl',rsl',evl',hd,hr,h1,h2⟩,hI,hz=>by
  subst h1 h2
  obtain⟨a1,a2,a3⟩:=OA hI (hz o (List.mem_cons_self ..)) hd k
  obtain⟨b1,b2,w,b3⟩:=Et k hr a1 fun o ho=>hz o (List.mem_cons_of_mem _ ho)
  refine⟨by simp[b1],by rw[sL,a2,b2];rfl,w,?_⟩
  rw[sL,sL,←List.append_assoc,a3,List.append_assoc,b3,List.append_assoc]
theorem OB(h1:1≤c.lt∧c.lt≤65536)(h2:1≤c.lm∧c.lm≤16384)(hn:kN d)(h:lY c t ops 0 d 0 0 [] rsl evl)(hz: ∀o∈ops,∀z∈o.zl,jD z)(k:Int):
  rsl.length=ops.length∧dh evl k true=fx ops rsl k∧ ∃w,dh evl k true=dh evl k false++w:=by
 obtain⟨a1,a2,w,a3⟩:=Et k h (xO h1 h2 hn) hz
 have e:qk d.kb k=[]:=by unfold qk;rw[hn.2.1];rfl
 rw[e,List.nil_append] at a3
 exact⟨a1,a2,w,a3⟩
theorem H7(hL:eA kc): ∀(n:Nat)(i:Int),dep kc i≤n→cw kc i≠none→ ∃r∈dc kc i,(dF kc r).hp=0
 |n,i,hn,hi=>by
  cases e:cw kc i with
  |none=>exact absurd e hi
  |some c=>
   have hd:=iq hL e
   cases n with
   |zero=>omega
   |succ n=>
    rw[jH hL e]
    rcases hL.par i c e with h1|⟨p,h1,-⟩
    ·exact⟨i,List.mem_cons_self ..,by rw[ig e];exact h1⟩
    ·obtain⟨r,h2,h3⟩:=H7 hL n c.hp (by omega) (by rw[h1];simp)
     exact⟨r,List.mem_cons_of_mem _ h2,h3⟩
theorem Ic(h:Iv c d)(hz:gv d.kb∧ZK d.kc d.kk)(hs:fH d.kc i=true)(hl:(dF d.kc i).hl=true)(hq:qk d.kb i≠[]):kK d.et d.kk≤0:=by
 obtain⟨A,hA,hK⟩:=h.ac
 have hi:=hA.ast.ons i ((h.onk i).2 ⟨hs,hl,hq⟩)
 obtain⟨r,h1,h2⟩:=H7 h.laid _ i (Nat.le_refl _) (u1 hs)
 have hr:=td h.laid hA.ast _ i (Nat.le_refl _) hi r h1
 obtain⟨v,h3,h4⟩:=hK 0 (.inl rfl)
 have h5:=(h4.key r).2 ⟨hr,h2⟩
 have h6:iW v.t.toL=0:=by
  refine H3 (fun y hy=>h4.rng _ y (pG h4.er hy)) (fun y hy=>hz.2 0 v (.inl rfl) h3 _ y (pG h4.er hy)) fun h=> ?_
  have:=h4.er.len;rw[h] at this
  have:=List.eq_nil_of_length_eq_zero this.symm
  rw[this] at h5;exact h5 rfl
 unfold kK;rw[h3];simp only[Option.map_some,Option.getD_some];rw[h6]
 unfold dU;split<;>omega
variable{ci:Int}
theorem SX{p:Pk}{cl:Cl}(h:Iv c d)(hc:cw d.kc ci=some cl)(hl:cl.hl=true)(h1:1≤p.qn∧p.qn≤c.lm)(h2:IntKind.u64.wrap (d.ac+IntKind.u64.wrap p.qn)≤1099511627776)(h3:mR (qk d.kb ci)+p.qn≤cl.hq)(h4:((qk d.kb ci).length:Int)<cl.hk)
  (ht:pa c d now ci p er d'):er=0∧d'.ac=IntKind.u64.wrap (d.ac+IntKind.u64.wrap p.qn)∧d'.kc=d.kc:=by
 obtain⟨⟨-,-,hkc,-⟩,-,⟨-,hn,-⟩|⟨h5,h6,-⟩⟩:=ht
 rotate_left
 ·exact⟨h5,h6,hkc⟩
 exfalso
 obtain⟨m,hm,he,ho⟩:=sR h.by_ hc
 have hq:=h.qv ci m hm (by rw[he];exact hl)
 rw[kJ hm] at h3 h4
 obtain⟨b,hb⟩:=Option.isSome_iff_exists.1 (ho.lf.1 (by rw[he];exact hl))
 have hk:=ho.qu (by rw[hb];rfl)
 have hr:=vl (l:=qC m.q) (by rw[←kJ hm];exact h.pk ci)
 have hn2:(qC m.q).length≤64:=by rw[mF];unfold kq at hk;omega
 have hlm:=h.lm1
 refine hn m ⟨hm,by rw[he];exact hl,h1.1,h1.2,h2,?_,?_⟩
 ·rw[hq.1,hq.2.2,he]
  have hh:cl.hq≤1048576:=by
   have:=(h.laid.key ci cl hc).2;unfold fe at this;rw[if_pos hl] at this;grind
  rw[zo (by constructor<;>omega)];omega
 ·have:=hq.2.1;rw[he] at this;rw[mF] at h4;omega
def zA:Zc:=⟨1,1,0,true,0,0,0,65536,0,65536,0,0,0,3,300⟩
def rA:Rl:=⟨0,0,0,0,0,0,0,0,1⟩
def pA:Pk:=⟨7,100,0,0,0,0⟩
def cA:Cl:=⟨1,0,true,0,0,0,65536,0,65536,0,0,0,3,300⟩
theorem TR:dq [] [zA]=[(1,cA)]:=by kernel_rfl
theorem TS:i7 [] 1 [zA]=0:=by kernel_rfl
theorem TT:ko [rA]:=⟨by decide,by decide,by simp[jx,rA]⟩
theorem JI:fV [rA] (gI pA)=1:=by kernel_rfl
structure tH(c:Ss)(d:Sd)(l:List Pk)(ac:Int):Prop where
 iv:Iv c d
 kc:d.kc=[(1,cA)]
 z:gv d.kb∧ZK d.kc d.kk
 q:qk d.kb 1=l
 ac:d.ac=ac
theorem CJ(h:kc=[(1,cA)]){x:Cl}(hx:cw kc i=some x):i=1∧x=cA:=by
 subst h;simp only[cw] at hx;split at hx
 ·rename_i e;cases hx;exact⟨e.symm,rfl⟩
 ·cases hx
theorem QK(h1:c.lt=1)(h2:c.lm=100)(hn:kN d)(ht:tt c d true [zA] er d'):tH c d' [] 0:=by
 have hz: ∀z∈[zA],jD z:=by simp[jD,zA]
 have hI:=xO (c:=c) (by rw[h1];decide) (by rw[h2];decide) hn
 obtain⟨k1,k2⟩:=BA hI hz ht
 obtain⟨e1,e2,-,-,-,-,-,⟨v,e8,e9,-⟩,-,e11⟩:=hn
 obtain⟨-,-,-,hac,hR,-⟩:=ht
 rw[e1,e2,e8,h1] at hR
 have hld:fD [] d.kb=[]:=by unfold fD tB dI gg;simp
 have hok:u6 [] 1 true [] [zA]:=by
  refine⟨TS,?_,.inr ⟨rfl,by rw[←e2];exact hld⟩⟩
  rw[List.any_eq_false];intro x _;unfold nm;rw[←e2,hld];simp
 rcases hR with⟨-,h,-⟩|⟨-,-,hkc,hC,-⟩
 ·exact absurd hok h
 rw[TR] at hkc;rw[hkc] at hC
 have hg:=fun i=>AA (kb:=([]:List (Int×En))) (kk:=[((0:Int),v)]) (by simp) (by simp) hC i
 refine⟨k1,hkc,⟨fun i m hm=> ?_,fun p w hp hw i y hy=> ?_⟩,by rw[k2];unfold qk;rw[e2];rfl,by rw[hac,e11]⟩
 ·obtain⟨q1,q2⟩:=CJ hkc (mK k1.by_ hm)
  refine⟨by rw[q2];decide,?_⟩
  by_cases e:i∈eJ [] [(1,cA)]
  ·rcases(hg i).2 (.inl e) with⟨-,h1⟩|⟨-,m',h1,h2,-⟩
   ·rw[h1] at hm;cases hm
   ·rw[h2] at hm;cases hm
    exact h1.2.2.2.2.2.1
  ·rw[((hg i).1 e).1] at hm;cases hm
 ·exfalso
  rcases hp with rfl|⟨x,hx,hl⟩
  ·have e:(0:Int)∉eJ [] [(1,cA)]:=fun e=>by
    have:=((w9 [] [(1,cA)]).2 0).1 e
    unfold kO at this;simp[cw] at this
   rw[((hg 0).1 e).2] at hw
   simp only[cw,if_pos] at hw;cases hw
   rw[e9] at hy;cases hy
  ·have:=(CJ hkc hx).2;rw[this] at hl;cases hl
theorem H8{ac:Int}(h2:c.lm=100)(hn:0≤ac∧ac≤100)(h:tH c d [] ac)(ht:pa c d now 1 pA er d'):er=0∧tH c d' [pA] (ac+100):=by
 have hm:cw d.kc 1=some cA:=by rw[h.kc];rfl
 have hw:IntKind.u64.wrap (d.ac+IntKind.u64.wrap pA.qn)=ac+100:=by
  rw[h.ac,show IntKind.u64.wrap pA.qn=100 from rfl];exact wrap_u64 (by constructor<;>omega)
 obtain⟨rfl,h4,h5⟩:=SX h.iv hm rfl (by rw[h2];decide) (by rw[hw];omega) (by rw[h.q];decide) (by rw[h.q];decide) ht
 obtain⟨k1,k2,-,k4⟩:=Aw h.iv ht
 exact⟨rfl,k1,h5.trans h.kc,k4 h.z,by rw[k2,h.q];simp,by rw[h4,hw]⟩
theorem G2{ac:Int}{z:Pd}{ok:Bool}(h0:0≤now∧now≤4611686018427387904)(h:tH c d [pA] ac)(ht:pW d now z ok d'):ok=true∧z.gq3=100∧tH c d' [] ac:=by
 have hq:qk d.kb 1≠[]:=by rw[h.q];simp
 have hd:=Ic h.iv h.z (i:=1) (by rw[h.kc];decide) (by rw[h.kc];decide) hq
 have hok:=Ia h.iv (by omega) h0.2 ht
 subst hok
 obtain⟨k1,k2,k3,k4⟩:=zx h.iv ht
 obtain⟨m,-,h2,-⟩:=oW h.iv.by_ (k3 rfl)
 obtain⟨e,-⟩:=CJ h.kc h2
 have h5:=k2 1
 rw[h.q,e] at h5;simp at h5
 obtain⟨h6,h7⟩:=h5
 refine⟨rfl,?_,k1,ht.1.2.2.1.trans h.kc,k4 h.z,h7,ht.2.2.1.trans h.ac⟩
 have:=congrArg Pk.qn h6;exact this.symm
theorem QL(h:tH c d [pA] 200)(ha:om 1 4 150 0 d 100 [] d' un' evs): ∃e,evs=[e]∧e.vq4=100∧e.vq5=200:=by
 have hq:qk d.kb 1≠[]:=by rw[h.q];simp
 have hd:=Ic h.iv h.z (i:=1) (by rw[h.kc];decide) (by rw[h.kc];decide) hq
 have hx:ip 0 100 d=100:=by unfold ip nZ qB dU;grind
 cases ha with
 |stop h1=>rw[hx] at h1;omega
 |step h1 hp ha=>
  rw[hx] at hp ha
  rcases hp with⟨h2,-⟩|⟨-,z,ok,ht,hp⟩
  ·omega
  obtain⟨rfl,h3,h4⟩:=G2 (by decide) h ht
  rcases hp with⟨h5,-⟩|⟨-,rfl,rfl⟩
  ·cases h5
  rw[h3] at ha
  cases ha with
  |stop h6=>exact⟨_,rfl,rfl,by show 100+z.gq3*1=200;rw[h3];rfl⟩
  |step h6 hp ha=>exfalso;have:=(wX h6 (by decide)).2.1;omega
theorem MI{ev:List Ev}{o1 o2 o3 o4 o5:fS}(h1:o1.kd=1∧o1.zl=[zA])(h2:o2.kd=2∧o2.rl=[rA])(h3:o3.kd=3∧o3.op=pA)(h4:o4.kd=3∧o4.op=pA)(h5:o5.kd=4∧o5.tk=150)(hlt:c.lt=1)(hlm:c.lm=100)(hn:kN d)
  (h:lY c 1 [o1,o2,o3,o4,o5] 0 d 0 0 [] rsl ev): ∃e0 e1 e2 e3,ev=[e0,e1,e2,e3]∧e0.vq2=true∧e1.vq5=100∧e3.vq4=100∧e3.vq5=200:=by
 obtain⟨x1,v1,d1,un1,k1,l1,-,w1,hd,⟨x2,v2,d2,un2,k2,l2,-,w2,he,⟨x3,v3,d3,un3,k3,l3,-,w3,hf,⟨x4,v4,d4,un4,k4,l4,-,w4,hg,⟨x5,v5,d5,un5,k5,l5,-,w5,hh,⟨-,rfl⟩,-,rfl⟩,-,rfl⟩,-,rfl⟩,-,rfl⟩,-,rfl⟩:=h
 rw[h1.1,h1.2] at hd;rw[h2.1,h2.2] at he;rw[h3.1,h3.2] at hf;rw[h4.1,h4.2] at hg;rw[h5.1,h5.2] at hh
 obtain⟨-,⟨er,pl,hC,-⟩,rfl,rfl,rfl,rfl⟩|⟨q,-⟩|⟨q,-⟩|⟨q,-⟩|⟨q,-⟩:=hd
 rotate_left
 ·cases q
 ·cases q
 ·cases q
 ·exact absurd rfl q.1
 have a1:=QK hlt hlm hn hC
 obtain⟨q,-⟩|⟨-,rfl,rfl,rfl,rfl,⟨-,rfl,-⟩|⟨q,-⟩⟩|⟨q,-⟩|⟨q,-⟩|⟨q,-⟩:=he
 ·cases q
 rotate_left
 ·exact absurd TT q
 ·cases q
 ·cases q
 ·exact absurd rfl q.2.1
 have hfc:lX 1=0:=rfl
 obtain⟨q,-⟩|⟨q,-⟩|⟨-,rfl,rfl,hp⟩|⟨q,-⟩|⟨q,-⟩:=hf
 ·cases q
 ·cases q
 rotate_left
 ·cases q
 ·exact absurd rfl q.2.2.1
 unfold wY at hp;rw[JI] at hp
 obtain⟨q,-⟩|⟨-,er3,d2',hP,hp⟩:=hp
 ·exact absurd hfc q
 obtain⟨rfl,a2⟩:=H8 hlm (by decide) a1 hP
 obtain⟨q,-⟩|⟨-,-,hp⟩:=hp
 ·exact absurd rfl q
 obtain⟨q,-⟩|⟨-,z,ok,ht,hp⟩:=hp
 ·omega
 obtain⟨rfl,hz,a3⟩:=G2 (by decide) a2 ht
 obtain⟨q,-⟩|⟨-,rfl,rfl⟩:=hp
 ·cases q
 obtain⟨q,-⟩|⟨q,-⟩|⟨-,rfl,rfl,hp⟩|⟨q,-⟩|⟨q,-⟩:=hg
 ·cases q
 ·cases q
 rotate_left
 ·cases q
 ·exact absurd rfl q.2.2.1
 unfold wY at hp;rw[JI] at hp
 obtain⟨q,-⟩|⟨-,er4,d4',hP,hp⟩:=hp
 ·exact absurd hfc q
 obtain⟨rfl,a4⟩:=H8 hlm (by decide) a3 hP
 obtain⟨q,-⟩|⟨-,-,hp⟩:=hp
 ·exact absurd rfl q
 rw[hz] at hp
 obtain⟨-,rfl,rfl,rfl⟩|⟨q,-⟩:=hp
 rotate_left
 ·omega
 obtain⟨q,-⟩|⟨q,-⟩|⟨q,-⟩|⟨-,rfl,hp⟩|⟨q,-⟩:=hh
 ·cases q
 ·cases q
 ·cases q
 rotate_left
 ·exact absurd rfl q.2.2.2
 obtain⟨q,-⟩|⟨-,-,rfl,ha⟩:=hp
 ·omega
 obtain⟨e,rfl,e1,e2⟩:=QL a4 ha
 refine⟨_,_,_,e,rfl,rfl,?_,e1,e2⟩
 show 0+z.gq3*1=100
 rw[hz];rfl
theorem G9(t lm:Int)(al:Option Addr)(ops:List fS)(cl:Nat)(hol:ops.length≤1000)(htt:1≤t∧t≤65536)(hlm:1≤lm∧lm≤16384)(w:World)(hoa:ez w al (V.dJ oP ops))(hops:qw w ops)(hs:HS w (dG []) [] w):
  Calls Tryz.prog 9 #[.agg #[i_ t,i_ lm,vS al ops cl]] w fun e w'=> ∃zz:Option Addr×List Rs×Nat×Option Addr×List Ev×Nat,e= .returned (.tuple #[.agg #[vS zz.1 zz.2.1 zz.2.2.1,vS zz.2.2.2.1 zz.2.2.2.2.1 zz.2.2.2.2.2],i_ 0])∧(∃c d,c.lt=t∧c.lm=lm∧kN d∧lY c t ops 0 d 0 0 [] zz.2.1 zz.2.2.2.2.1)∧Turn [] [kA zz.1 zz.2.1 zz.2.2.1,ff zz.2.2.2.1 zz.2.2.2.2.1 zz.2.2.2.2.2] w w':=by
 have ho:(fA w).holds w:=⟨Nat.le_refl _,fun _ _=>rfl⟩
 have hf:dG [fA w]=List.range w.heap.size:=by simp[dG,fA]
 refine(Sr w t lm al ops cl hoa hops hol htt hlm (fun c d h1 h2 h3=>⟨Iv c,pg,G0,xO (by rw[h1];exact htt) (by rw[h2];exact hlm) h3,G1 h3⟩) w (HS.start w _ (fun it hi=>by rw[List.mem_singleton] at hi;subst hi;exact ho) (by rw[hf];exact List.nodup_range))).mono ?_
 rintro e w' ⟨⟨A,rs,a,B,ev,b⟩,h1,h2,h3⟩
 have hw:=h3.all (fA w) (List.mem_cons_self ..)
 have hn:=h3.nodup
 change(dG ([fA w]++[kA A rs a,ff B ev b])).Nodup at hn
 rw[kQ] at hn
 obtain⟨-,n2,n3⟩:=List.nodup_append.1 hn
 refine⟨(A,rs,a,B,ev,b),h1,h2,⟨h3.fr.os,h3.fr.tape,h3.fr.output,h3.fr.size,fun k hk _=>hw.2 k hk⟩,fun it hi=>h3.all it (List.mem_cons_of_mem _ hi),n2,fun b hb=> .inr ?_⟩
 rcases Nat.lt_or_ge b w.heap.size with h|h
 ·exact absurd rfl (n3 b (by rw[hf];exact List.mem_range.2 h) b hb)
 ·exact h
theorem OK{w0 w:World}{H:List V.dC}(h:qw w0 ops)(s:HS w0 [] H w):qw w ops:=fun x hx=>by
 obtain⟨h1,h2,h3⟩:=h x hx
 exact⟨ef h1 (by simp) w s,ef h2 (by simp) w s,h3⟩
def mU(t lm:Int):Bool:=decide (t≥1)&&decide (t≤65536)&&decide (lm≥1)&&decide (lm≤16384)
def tK(o:fS):Bool:= !(decide ((o.zl.length:Int)>40)||decide ((o.rl.length:Int)>40))
def jS(ops:List fS)(m:Int):Bool:=decide ((ops.length:Int)≤m)&&ops.all tK
variable{m:Int}
theorem MQ(h:(ops.length:Int)>m):jS ops m=false:=by unfold jS;simp;omega
theorem Qa(hk:ops[k]? =some o)(h:tK o=false):jS ops m=false:=by
 unfold jS;rw[Bool.and_eq_false_iff];right;rw[List.all_eq_false];exact⟨o,List.mem_of_getElem? hk,by simp[h]⟩
theorem OL(h: ¬(ops.length:Int)>m)(hk:ops.length≤k)(hn: ∀j y,j<k→ops[j]? =some y→tK y=true):jS ops m=true:=by
 unfold jS;rw[Bool.and_eq_true];refine⟨by simp;omega,?_⟩
 rw[List.all_eq_true];intro x hx
 obtain⟨j,h1,h2⟩:=List.getElem_of_mem hx
 exact hn j x (by omega) (by rw[←h2];exact List.getElem?_eq_getElem h1)
theorem wP{x:Ev}(hk:evs[k]? =some x)(ci:Int)(b:Bool):dh (evs.take (k+1)) ci b=dh (evs.take k) ci b++(if x.vq6=ci∧x.vq2=b then[qA x] else[]):=by
 rw[List.take_add_one,hk];simp only[Option.toList_some];rw[sL,uP]
theorem BM(evs:List Ev)(ci:Int)(b:Bool):(dh evs ci b).length≤evs.length:=by unfold dh;rw[List.length_map];exact List.length_filter_le _ _
theorem S3(t lm:Int)(w:World):
  CW 29 #[.agg #[i_ t,i_ lm]] w (b_ (mU t lm)):=by
 refine A.C Tryz.func29 rfl (HS.nil w) (A.c (A.n1 [.al,.p] [0] (fun b1=>[(1,p_ b1)]) (fun b1=>cz b1 [i_ t,i_ lm] 23) ?_))
 intro b1
 refine A.c (A.gl [.p,.ld 0,.p,.p,.o,.p,.ld 0,.p,.cl,.p,.o,.p,.ld 0,.p,.cl,.p,.o,.p,.ld 0,.p,.cl,.p] [1] [(2,b_ ((((decide (t≥1))&&(decide (t≤65536)))&&(decide (lm≥1)))&&(decide (lm≤16384))))] [b1,b1,b1,b1] (A.e (A.N [b_ ((((decide (t≥1))&&(decide (t≤65536)))&&(decide (lm≥1)))&&(decide (lm≤16384)))] ?_)))
 rfl
theorem S4(t lm:Int)(al:Option Addr)(ops:List fS)(cl:Nat)(m:Int)(hm:m≤1000)(w:World)(r0:ez w al (V.dJ oP ops)):
  CW 30 #[.agg #[i_ t,i_ lm,vS al ops cl],i_ m] w (b_ (jS ops m)):=by
 refine A.C Tryz.func30 rfl (HS.nil w) (A.c (A.n1 [.al,.p] [0] (fun b1=>[(2,p_ b1)]) (fun b1=>cz b1 [i_ t,i_ lm,vS al ops cl] 26) ?_))
 intro b1
 refine A.d (A.c (A.gl [.p,.ld 0,.p,.p,.p] [1] [(11,b_ (decide ((ops.length:Int)>m)))] [b1] (A.v rfl (fun e1=> ?_) (fun e1=> ?_))))
 ·have p1:=of_decide_eq_true e1
  refine A.c (A.g [.p] [2,11] [(4,b_ false)] (A.e (A.N [b_ false] ?_)))
  show((b_ false):Value)=(b_ (jS ops m))
  rw[MQ (by omega)]
 have p1:=of_decide_eq_false e1
 refine A.p (A.d (A.c (A.gl [.p,.ld 0,.p,.p] [2,11] [(13,vS al ops cl),(14,c_ ops.length),(15,i_ 0)] [b1] (A.y (A.lp (σ:=Nat) [] (fun k=>[(15,c_ k)]) [] (fun k=>[]) (fun k=>(k≤ops.length)∧(∀j y,j<k→ops[j]? =some y→tK y=true)) (fun k=>ops.length-k) (0:Nat) ⟨(by omega),(by intro j y hj;omega)⟩ ?_ ?_)))))
 ·exact A.I [0]
 rintro k ⟨hk,hn⟩
 refine A.c (A.g [.p] [] [(16,b_ (decide ((k:Int)<(ops.length:Int))))] (A.d (A.v rfl (fun e2=> ?_) (fun e2=> ?_))))
 ·have p2:=of_decide_eq_true e2
  refine A.p (A.d (A.y (A.c (A.kp [.ix] [16] [(17,.pointer (some ((dV al).add (k*10))))] [] (o1 (io (k:Int) (gi qH (by decide) (ef r0 (by simp[dG])) (by omega)))) ?_))))
  obtain⟨x2,hx2⟩: ∃x,(ops)[k]? =some x:=⟨_,List.getElem?_eq_getElem (by omega)⟩
  refine A.no [.rd [i_ x2.kd,vS x2.za x2.zl x2.zc,vS x2.ra x2.rl x2.rc,u_ x2.op.qi,i_ x2.op.qn,w_ x2.op.qa,w_ x2.op.qb,w_ x2.op.qc,w_ x2.op.qd,u_ x2.tk],.al,.st 1] [17] (fun b3=>[(6,p_ b3)]) (fun b3=>[]) (fun b3=>cz b3 [i_ x2.kd,vS x2.za x2.zl x2.zc,vS x2.ra x2.rl x2.rc,u_ x2.op.qi,i_ x2.op.qn,w_ x2.op.qa,w_ x2.op.qb,w_ x2.op.qc,w_ x2.op.qd,u_ x2.tk] 47) (fun b3=>[b3]) (fun b3=>o1 (ro ((dV al).add (k*10)) (fY (vs:=[i_ x2.kd,vS x2.za x2.zl x2.zc,vS x2.ra x2.rl x2.rc,u_ x2.op.qi,i_ x2.op.qn,w_ x2.op.qa,w_ x2.op.qb,w_ x2.op.qc,w_ x2.op.qd,u_ x2.tk]) qH (ef r0 (by simp[dG])) hx2 (Nat.le_of_ble_eq_true rfl) rfl))) ?_
  intro b3
  refine A.c (A.gl [.p,.ld 1,.p,.p,.p,.o,.p,.ld 1,.p,.p,.cl] [6] [(28,b_ ((decide ((x2.zl.length:Int)>40))||(decide ((x2.rl.length:Int)>40))))] [b3,b3] (A.v rfl (fun e3=> ?_) (fun e3=> ?_)))
  ·have p3:=e3;try simp only[de] at p3
   refine A.c (A.g [.p] [13,14,15,28] [(4,b_ false)] (A.e (A.N [b_ false] ?_)))
   show((b_ false):Value)=(b_ (jS ops m))
   rw[Qa ‹_› (by unfold tK;simp;omega)]
  have p3:=e3
  refine A.p (A.s (A.k [.w ((k:Int)+1),.p] [28] [(15,i_ ((k:Int)+1))] [] (o1 (wj ((k:Int)+1) (by omega))) (A.aA (k+1) ⟨(by omega),(by intro j y hj_ hy_;rcases Nat.lt_succ_iff_lt_or_eq.1 hj_ with h_|rfl;exact hn j y h_ hy_;simp_all[tK])⟩ (by omega) ?_)))
  exact A.I [0]
 have p2:=of_decide_eq_false e2
 refine A.aB (A.c (A.g [.p] [13,14,15,16] [(4,b_ true)] (A.e (A.N [b_ true] ?_))))
 show((b_ true):Value)=(b_ (jS ops m))
 rw[OL (by omega) (by omega) hn]
theorem OM(t lm:Int)(al:Option Addr)(ops:List fS)(cl:Nat)(m:Int)(hm:m≤1000)(w:World)(r0:ez w al (V.dJ oP ops)):
  CW 7 #[.agg #[i_ t,i_ lm,vS al ops cl],i_ m] w (b_ (mU t lm&&jS ops m)):=by
 refine A.C Tryz.func7 rfl (HS.nil w) (A.c (A.n1 [.al,.p] [0] (fun b1=>[(2,p_ b1)]) (fun b1=>cz b1 [i_ t,i_ lm,vS al ops cl] 26) ?_))
 intro b1
 refine A.c (A.k [.p,.ld 0,.cq (b_ (mU t lm)),.p,.o,.ld 0,.p,.cq (b_ (jS ops m)),.cl,.p] [1,2] [(4,b_ ((mU t lm)&&(jS ops m)))] [b1,b1] (oc (qo (fun ww ss=>S3 t lm ww)) (o1 (go (true&&((mU t lm)==true)) fun h_=>(qo (fun ww ss=>S4 t lm al ops cl m ‹_› ww ((ef r0 (by simp[dG])) ww ss)))))) (A.e (A.N [b_ ((mU t lm)&&(jS ops m))] ?_)))
 rfl
theorem Iy(ae:Option Addr)(evs:List Ev)(ce:Nat)(ci:Int)(b:Bool)(hle:evs.length≤1000000)(w:World)(r0:ez w ae (V.dJ mm evs))(hs:HI w []):
  CV 10 #[vS ae evs ce,i_ ci,b_ b] w [] (fun((A',c'):(Option Addr)×Nat)=>(vS A' (dh evs ci b) c')) (fun _=>True) fun(A',c')=>[ji A' (dh evs ci b) c']:=by
 refine A.C Tryz.func10 rfl hs (A.c (A.g [.p] [] [] (A.c (A.g [.p] [] [(7,e_)] (A.d (A.c (A.g [.p,.p,.p] [0] [(10,vS ae evs ce),(11,c_ evs.length),(12,i_ 0)] (A.y (A.aP 45 6 [ji none ([]:List Pk) 0] rfl (A.su 0 (ji none (dh (evs.take 0) ci b) 0) rfl (eI (by rfl:([]:List Pk)=(dh (evs.take 0) ci b))) (A.D 7 (vS none (dh (evs.take 0) ci b) 0) (congrArg (fun z_:List Pk=>some (Value.slice none z_.length 0)) (by rfl:([]:List Pk)=(dh (evs.take 0) ci b))) (A.lp (σ:=Nat×(Option Addr)×Nat) [] (fun(k,ao,co)=>[(12,c_ k),(7,vS ao (dh (evs.take k) ci b) co)]) [0] (fun(k,ao,co)=>[ji ao (dh (evs.take k) ci b) co]) (fun(k,ao,co)=>(k≤evs.length)) (fun(k,ao,co)=>evs.length-k) (0,none,0) (by omega) ?_ ?_))))))))))))
 ·exact A.I [0]
 rintro⟨k,ao,co⟩ hk
 have hk:k≤evs.length:=hk
 have hdl:(dh (evs.take k) ci b).length≤k:=Nat.le_trans (BM _ _ _) (by simp;omega)
 refine A.c (A.g [.p] [] [(13,b_ (decide ((k:Int)<(evs.length:Int))))] (A.d (A.v rfl (fun e1=> ?_) (fun e1=> ?_))))
 ·have p1:=of_decide_eq_true e1
  refine A.p (A.d (A.y (A.c (A.kp [.ix] [13] [(14,.pointer (some ((dV ae).add (k*12))))] [] (o1 (io (k:Int) (gi lq (by decide) (ef r0 (by simp[dG])) (by omega)))) ?_))))
  obtain⟨x2,hx2⟩: ∃x,(evs)[k]? =some x:=⟨_,List.getElem?_eq_getElem (by omega)⟩
  refine A.no [.rd (mm x2),.al,.st 1] [14] (fun b3=>[(9,p_ b3)]) (fun b3=>[]) (fun b3=>cz b3 (mm x2) 52) (fun b3=>[b3]) (fun b3=>o1 (ro ((dV ae).add (k*12)) (fY (vs:=(mm x2)) lq (ef r0 (by simp[dG])) hx2 (Nat.le_of_ble_eq_true rfl) rfl))) ?_
  intro b3
  refine A.c (A.gl [.p,.ld 1,.p,.p,.p,.o,.p,.ld 1,.p,.eq,.cl] [] [(25,b_ ((x2.vq6==ci)&&(x2.vq2==b)))] [b3,b3] (A.v rfl (fun e2=> ?_) (fun e2=> ?_)))
  ·refine A.s (A.gm [.p,.p,.ld 1] [9,25] [(26,vS ao (dh (evs.take k) ci b) co),(28,.agg #[u_ x2.vq7,i_ x2.vq8,w_ x2.vq9,w_ x2.vq10,w_ x2.vq11,w_ x2.vq12])] [b3] (A.j (A.aF 29 (e:=45) [u_ x2.vq7,i_ x2.vq8,w_ x2.vq9,w_ x2.vq10,w_ x2.vq11,w_ x2.vq12] (by kernel_rfl) rfl (fun _=>by kernel_rfl) _ (fun _=>rfl) ?_)))
   intro b4
   refine A.j (A.ap fR (dh (evs.take k) ci b) ([qA x2]) 0 30 (.agg #[u_ 0,i_ 0,w_ 0,w_ 0,w_ 0,w_ 0]) 24 kS Kq (gZ (i:=2) rfl) (by(simp;omega)) ?_)
   intro A5 c5
   refine A.g [.p] [26,28,29,30] [(7,vS A5 ((dh (evs.take k) ci b)++([qA x2])) c5)] (A.s (A.k [.w ((k:Int)+1),.p] [] [(12,i_ ((k:Int)+1))] [] (o1 (wj ((k:Int)+1) (by omega))) (A.su 0 (ji A5 (dh (evs.take (k+1)) ci b) c5) rfl (eI (by(rw[wP ‹_›,if_pos (by simp_all)];done):(dh (evs.take k) ci b)++([qA x2])=(dh (evs.take (k+1)) ci b))) (A.D 7 (vS A5 (dh (evs.take (k+1)) ci b) c5) (fJ (by(rw[wP ‹_›,if_pos (by simp_all)];done))) (A.aA (k+1,A5,c5) (by omega) (by(simp;omega)) ?_)))))
   exact A.I [0]
  have p2:=e2
  refine A.p (A.s (A.k [.w ((k:Int)+1),.p] [9,25] [(12,i_ ((k:Int)+1))] [] (o1 (wj ((k:Int)+1) (by omega))) (A.su 0 (ji ao (dh (evs.take (k+1)) ci b) co) rfl (eI (by(rw[wP ‹_›,if_neg (by simp_all)];simp;done):(dh (evs.take k) ci b)=(dh (evs.take (k+1)) ci b))) (A.D 7 (vS ao (dh (evs.take (k+1)) ci b) co) (fJ (by(rw[wP ‹_›,if_neg (by simp_all)];simp;done))) (A.aA (k+1,ao,co) (by omega) (by(simp;omega)) ?_)))))
  exact A.I [0]
 have p1:=of_decide_eq_false e1
 refine A.aB (A.c (A.g [.p,.p] [1,2,10,11,12,7,13] [(6,vS ao (dh (evs.take k) ci b) co)] (A.e (A.su 0 (ji ao (dh evs ci b) co) rfl (eI (by(rw[List.take_of_length_le (by omega)];done):(dh (evs.take k) ci b)=(dh evs ci b))) (A.Y [0] [vS ao (dh (evs.take k) ci b) co] (ao,co) ?_ ?_)))))
 ·show((vS ao (dh (evs.take k) ci b) co):Value)=(vS ao (dh evs ci b) co)
  rw[List.take_of_length_le (by omega)]
 trivial
theorem Qb(a1:Option Addr)(xs:List Pk)(c1:Nat)(a2:Option Addr)(c2:Nat)(hx:xs.length≤1000000)(w:World)(r0:ez w a1 (V.dJ fR xs))(r1:ez w a2 (V.dJ fR xs)):
  CW 11 #[vS a1 xs c1,vS a2 xs c2] w (b_ true):=by
 refine A.C Tryz.func11 rfl (HS.nil w) (A.c (A.g [.p] [] [] (A.d (A.c (A.g [.p,.p,.p,.p,.p] [] [(11,b_ ((xs.length:Int)!=(xs.length:Int)))] (A.v rfl (fun e1=> ?_) (fun e1=> ?_)))))))
 ·exact absurd e1 (by simp)
 refine A.p (A.d (A.c (A.g [.p,.p,.p] [0,11] [(12,vS a1 xs c1),(13,c_ xs.length),(14,i_ 0)] (A.y (A.lp (σ:=Nat) [] (fun k=>[(14,c_ k)]) [] (fun k=>[]) (fun k=>(k≤xs.length)) (fun k=>xs.length-k) (0:Nat) (by omega) ?_ ?_)))))
 ·exact A.I []
 rintro k hk
 have hk:k≤xs.length:=hk
 refine A.c (A.g [.p] [] [(15,b_ (decide ((k:Int)<(xs.length:Int))))] (A.d (A.v rfl (fun e2=> ?_) (fun e2=> ?_))))
 ·have p2:=of_decide_eq_true e2
  refine A.p (A.d (A.y (A.c (A.kp [.p,.ix] [15] [(16,c_ k),(17,.pointer (some ((dV a1).add (k*6))))] [] (o1 (io (k:Int) (gi kS (by decide) (ef r0 (by simp[dG])) (by omega)))) ?_))))
  obtain⟨x1,hx1⟩: ∃x,(xs)[k]? =some x:=⟨_,List.getElem?_eq_getElem (by omega)⟩
  refine A.no [.rd (fR x1),.al,.p,.st 0] [16,17] (fun b2=>[(6,p_ b2),(5,c_ k)]) (fun b2=>[]) (fun b2=>cz b2 (fR x1) 45) (fun b2=>[b2]) (fun b2=>o1 (ro ((dV a1).add (k*6)) (fY (vs:=(fR x1)) kS (ef r0 (by simp[dG])) hx1 (Nat.le_of_ble_eq_true rfl) rfl))) ?_
  intro b2
  refine A.d (A.ka [.ld 0,.p,.p,.ix,.rd (fR x1),.eq] [0,1,2,3,4,5] [6,5] [(24,b_ (!((x1.qi==x1.qi)&&((x1.qn==x1.qn)&&((x1.qa==x1.qa)&&((x1.qb==x1.qb)&&((x1.qc==x1.qc)&&(x1.qd==x1.qd))))))))] [b2] (oc (io (k:Int) (gi kS (by decide) (ef r1 (by simp[dG])) (by omega))) (o1 (ro ((dV a2).add (k*6)) (fY (vs:=(fR x1)) kS (ef r1 (by simp[dG])) hx1 (Nat.le_of_ble_eq_true rfl) rfl)))) (A.v rfl (fun e3=> ?_) (fun e3=> ?_)))
  ·refine A.c (A.g [.p] [1,12,13,14,24] [(4,b_ false)] (A.e (A.N [b_ false] ?_)))
   show((b_ false):Value)=(b_ true)
   simp_all
  have p3:=e3
  refine A.p (A.s (A.k [.w ((k:Int)+1),.p] [24] [(14,i_ ((k:Int)+1))] [] (o1 (wj ((k:Int)+1) (by omega))) (A.aA (k+1) (by omega) (by omega) ?_)))
  exact A.I []
 have p2:=of_decide_eq_false e2
 refine A.aB (A.c (A.g [.p] [1,12,13,14,15] [(4,b_ true)] (A.e (A.N [b_ true] ?_))))
 rfl
theorem ON(a1:Option Addr)(xs:List Pk)(c1:Nat)(a2:Option Addr)(ys:List Pk)(c2:Nat)(hx:xs.length≤1000000)(he:xs=ys)(w:World)(r0:ez w a1 (V.dJ fR xs))(r1:ez w a2 (V.dJ fR ys)):Calls Tryz.prog 11 #[vS a1 xs c1,vS a2 ys c2] w fun e w'=>e= .returned (b_ true)∧Fr [] w w':=by
 subst he;exact Qb a1 xs c1 a2 c2 hx w r0 r1
theorem Qc{lm:Int}(h:mU t lm=true):(1≤t∧t≤65536)∧1≤lm∧lm≤16384:=by unfold mU at h;simp at h;omega
theorem OO(h:jS ops m=true):(ops.length:Int)≤m:=by unfold jS at h;simp at h;exact h.1
theorem Ge: ∀{ops:List fS}{no un clk:Int}{d:Sd}{rl:List Rl}{rsl:List Rs}{evl:List Ev},lY c t ops no d un clk rl rsl evl→Iv c d→d.ck≤clk→0≤clk∧clk≤4611686018427387904→(∀o∈ops,(∀z∈o.zl,jD z)∧0≤o.tk)→evl.length≤pg d+2*ops.length
 |[],no,un,clk,d,rl,rsl,evl,⟨h1,h2⟩,_,_,_,_=>by subst h2;simp
 |o::ops,no,un,clk,d,rl,rsl,evl,⟨x,evs,d',un',clk',rl',rsl',evl',hd,hr,h1,h2⟩,hI,hk,hc,hz=>by
  subst h1 h2
  obtain⟨z1,z2⟩:=hz o (List.mem_cons_self ..)
  obtain⟨a1,a2,a3,a4⟩:=IC G0 z1 z2 hI hk hc hd
  have:=Ge hr a1 a2 a3 fun o ho=>hz o (List.mem_cons_of_mem _ ho)
  simp;omega
theorem BN{k:Nat}{ci:Int}: ∀{ops:List fS}{rs:List Rs}{o:fS}{x:Rs}(n:Nat),k=n→ops[n]? =some o→rs[n]? =some x→fx (ops.take (n+1)) (rs.take (n+1)) ci=fx (ops.take n) (rs.take n) ci++kL o x ci∧ ∃l,fx ops rs ci=fx (ops.take n) (rs.take n) ci++kL o x ci++l
 |[],_,_,_,_,_,h,_=>by simp at h
 |_::_,[],_,_,_,_,_,h=>by simp at h
 |p::ops,y::rs,o,x,0,_,h1,h2=>by simp at h1 h2;subst h1 h2;simp[fx]
 |p::ops,y::rs,o,x,n+1,e,h1,h2=>by
  simp at h1 h2
  obtain⟨a1,l,a2⟩:=BN (k:=n) (ci:=ci) n rfl h1 h2
  refine⟨?_,l,?_⟩
  ·simp only[List.take_succ_cons,fx,List.append_assoc];rw[a1]
  ·simp only[List.take_succ_cons,fx,List.append_assoc] at a2⊢;rw[a2]
variable{rs:List Rs}
theorem Qd{l:List Pk}(h1:ops[k]? =some o)(h2:rs[k]? =some x)(hl:l=fx ops rs ci)(h:o.kd=3∧x.wq1=0∧x.wq3=ci):
  l[(fx (ops.take k) (rs.take k) ci).length]? =some o.op∧(fx (ops.take (k+1)) (rs.take (k+1)) ci).length=(fx (ops.take k) (rs.take k) ci).length+1∧(fx (ops.take k) (rs.take k) ci).length<l.length:=by
 obtain⟨a1,m,a2⟩:=BN (ci:=ci) k rfl h1 h2
 have e:kL o x ci=[o.op]:=if_pos h
 rw[hl,a2,a1,e]
 refine⟨by simp,by simp,by simp⟩
theorem OP(h1:ops[k]? =some o)(h2:rs[k]? =some x)(h: ¬(o.kd=3∧x.wq1=0∧x.wq3=ci)):fx (ops.take (k+1)) (rs.take (k+1)) ci=fx (ops.take k) (rs.take k) ci:=by
 obtain⟨a1,-⟩:=BN (ci:=ci) k rfl h1 h2
 rw[a1,kL,if_neg h,List.append_nil]
theorem TE{w:World}{za ra:Option Addr}{zc rc:Nat}(h1:ez w za (V.dJ jL [zA]))(h2:ez w ra (V.dJ fU [rA])):qw w [⟨1,za,[zA],zc,none,[],0,⟨0,0,0,0,0,0⟩,0⟩,⟨2,none,[],0,ra,[rA],rc,⟨0,0,0,0,0,0⟩,0⟩,⟨3,none,[],0,none,[],0,pA,0⟩,⟨3,none,[],0,none,[],0,pA,0⟩,⟨4,none,[],0,none,[],0,⟨0,0,0,0,0,0⟩,150⟩]:=by
 intro x hx
 have hn:ez w none ([]:List Value):=fun j u h=>by simp at h
 simp only[List.mem_cons,List.not_mem_nil,or_false] at hx
 rcases hx with rfl|rfl|rfl|rfl|rfl
 ·exact⟨h1,hn,by simp[jD,zA],by simp,by simp[jw,gI],by simp⟩
 ·exact⟨hn,h2,by simp,by simp[jx,rA],by simp[jw,gI],by simp⟩
 ·exact⟨hn,hn,by simp,by simp,by simp[jw,gI,pA],by simp⟩
 ·exact⟨hn,hn,by simp,by simp,by simp[jw,gI,pA],by simp⟩
 ·exact⟨hn,hn,by simp,by simp,by simp[jw,gI],by simp⟩
abbrev uS(p0):=(.slice (some ⟨p0,0,none⟩) 5 5:Value)
abbrev uT(p0):=(.slice (some ⟨p0,0,none⟩) 1 1:Value)
abbrev uU(p0):=(cz p0 [w_ 0,w_ 0,w_ 0,w_ 0,w_ 0,w_ 0,w_ 0,w_ 0,i_ 1] 86:V.dC)
abbrev ql(p0):=(cz p0 [i_ 3,e_,e_,u_ 7,i_ 100,w_ 0,w_ 0,w_ 0,w_ 0,u_ 0] 47:V.dC)
abbrev sO(p0):=(cz p0 [i_ 1,i_ 1,i_ 0,b_ true,u_ 0,u_ 0,u_ 0,u_ 65536,u_ 0,u_ 65536,u_ 0,u_ 0,u_ 0,i_ 3,i_ 300] 84:V.dC)
abbrev pP(p0):=(cz p0 [i_ 1,i_ 0,b_ true,u_ 0,u_ 0,u_ 0,u_ 65536,u_ 0,u_ 65536,u_ 0,u_ 0,u_ 0,i_ 3,i_ 300] 62:V.dC)
abbrev xZ(p0)(p1)(p2):=(cz p0 [i_ 1,.slice (some ⟨p1,0,none⟩) 1 1,e_,u_ 0,i_ 0,w_ 0,w_ 0,w_ 0,w_ 0,u_ 0,i_ 2,e_,.slice (some ⟨p2,0,none⟩) 1 1,u_ 0,i_ 0,w_ 0,w_ 0,w_ 0,w_ 0,u_ 0,i_ 3,e_,e_,u_ 7,i_ 100,w_ 0,w_ 0,w_ 0,w_ 0,u_ 0,i_ 3,e_,e_,u_ 7,i_ 100,w_ 0,w_ 0,w_ 0,w_ 0,u_ 0,i_ 4,e_,e_,u_ 0,i_ 0,w_ 0,w_ 0,w_ 0,w_ 0,u_ 150] 47:V.dC)
theorem Gf(w:World):
  CW 8 #[] w (b_ true):=by
 refine A.C Tryz.func8 rfl (HS.nil w) (A.aO [] [] trivial rfl (A.c (A.h [.p] [] [] (A.c (A.aH [.p,.p,.al,.st 0] [1] (fun b1=>[(1,p_ b1)]) (fun b1=>[pP b1]) (fun b1=>[b1]) (fun _=>T0) (fun _=>by kernel_rfl) (fun b1=>trivial) ?_)))))
 intro b1
 refine A.c (A.aH [.p,.p,.al,.st 1] [1,2] (fun b2=>[(1,p_ b1),(2,p_ b2)]) (fun b2=>[pP b1,ql b2]) (fun b2=>[b2]) (fun _=>T0) (fun _=>by kernel_rfl) (fun b2=>trivial) ?_)
 intro b2
 refine A.c (A.hp [.p,.ld 0,.p] [(2,p_ b2),(10,.agg #[i_ 1,i_ 100]),(12,.agg #[i_ 1,i_ 1,i_ 0,b_ true,u_ 0,u_ 0,u_ 0,u_ 65536,u_ 0,u_ 65536,u_ 0,u_ 0,u_ 0,i_ 3,i_ 300])] [b1] (A.j (A.aF 13 (e:=84) [i_ 1,i_ 1,i_ 0,b_ true,u_ 0,u_ 0,u_ 0,u_ 65536,u_ 0,u_ 65536,u_ 0,u_ 0,u_ 0,i_ 3,i_ 300] (by kernel_rfl) rfl (fun _=>by kernel_rfl) (fun b3=>[pP b1,ql b2,sO b3]) (fun _=>rfl) ?_)))
 intro b3
 refine A.hp [.p,.p] [(2,p_ b2),(10,.agg #[i_ 1,i_ 100]),(14,.agg #[i_ 1,uT b3,e_,u_ 0,i_ 0,w_ 0,w_ 0,w_ 0,w_ 0,u_ 0]),(15,.agg #[w_ 0,w_ 0,w_ 0,w_ 0,w_ 0,w_ 0,w_ 0,w_ 0,i_ 1])] [] (A.j (A.aF 16 (e:=86) [w_ 0,w_ 0,w_ 0,w_ 0,w_ 0,w_ 0,w_ 0,w_ 0,i_ 1] (by kernel_rfl) rfl (fun _=>by kernel_rfl) (fun b4=>[pP b1,ql b2,sO b3,uU b4]) (fun _=>rfl) ?_))
 intro b4
 refine A.hp [.p,.ld 1,.ld 1,.p] [(10,.agg #[i_ 1,i_ 100]),(14,.agg #[i_ 1,uT b3,e_,u_ 0,i_ 0,w_ 0,w_ 0,w_ 0,w_ 0,u_ 0]),(17,.agg #[i_ 2,e_,uT b4,u_ 0,i_ 0,w_ 0,w_ 0,w_ 0,w_ 0,u_ 0]),(18,.agg #[i_ 3,e_,e_,u_ 7,i_ 100,w_ 0,w_ 0,w_ 0,w_ 0,u_ 0]),(19,.agg #[i_ 3,e_,e_,u_ 7,i_ 100,w_ 0,w_ 0,w_ 0,w_ 0,u_ 0]),(20,.agg #[i_ 4,e_,e_,u_ 0,i_ 0,w_ 0,w_ 0,w_ 0,w_ 0,u_ 150])] [b2,b2] (A.j (A.aF 21 (e:=47) [i_ 1,uT b3,e_,u_ 0,i_ 0,w_ 0,w_ 0,w_ 0,w_ 0,u_ 0,i_ 2,e_,uT b4,u_ 0,i_ 0,w_ 0,w_ 0,w_ 0,w_ 0,u_ 0,i_ 3,e_,e_,u_ 7,i_ 100,w_ 0,w_ 0,w_ 0,w_ 0,u_ 0,i_ 3,e_,e_,u_ 7,i_ 100,w_ 0,w_ 0,w_ 0,w_ 0,u_ 0,i_ 4,e_,e_,u_ 0,i_ 0,w_ 0,w_ 0,w_ 0,w_ 0,u_ 150] (by kernel_rfl) rfl (fun _=>by kernel_rfl) (fun b5=>[pP b1,ql b2,sO b3,uU b4,xZ b5 b3 b4]) (fun _=>rfl) ?_))
 intro b5
 refine A.aH [.p,.al,.st 5] [3] (fun b6=>[(3,p_ b6)]) (fun b6=>[pP b1,ql b2,sO b3,uU b4,xZ b5 b3 b4,cz b6 [i_ 1,i_ 100,uS b5] 26]) (fun b6=>[b6]) (fun _=>T0) (fun _=>by kernel_rfl) (fun b6=>trivial) ?_
 intro b6
 refine A.c (A.hp [.ld 5] [(24,.agg #[i_ 1,i_ 100,uS b5])] [b6] (A.j (A.aX (some 25) [.agg #[i_ 1,i_ 100,uS b5]] [] ((fun((A'7,rs'8,a'9,B'10,ev'11,b'12):Option Addr×List Rs×Nat×Option Addr×List Ev×Nat)=>(.tuple #[.agg #[vS A'7 rs'8 a'9,vS B'10 ev'11 b'12],i_ 0]))) ((fun((A'7,rs'8,a'9,B'10,ev'11,b'12):Option Addr×List Rs×Nat×Option Addr×List Ev×Nat)=> ∃c d,c.lt=1∧c.lm=100∧kN d∧lY c 1 ([(⟨1,some ⟨b3,0,none⟩,[(⟨1,1,0,true,0,0,0,65536,0,65536,0,0,0,3,300⟩:Zc)],1,none,([]:List Rl),0,(⟨0,0,0,0,0,0⟩:Pk),0⟩:fS),(⟨2,none,([]:List Zc),0,some ⟨b4,0,none⟩,[(⟨0,0,0,0,0,0,0,0,1⟩:Rl)],1,(⟨0,0,0,0,0,0⟩:Pk),0⟩:fS),(⟨3,none,([]:List Zc),0,none,([]:List Rl),0,(⟨7,100,0,0,0,0⟩:Pk),0⟩:fS),(⟨3,none,([]:List Zc),0,none,([]:List Rl),0,(⟨7,100,0,0,0,0⟩:Pk),0⟩:fS),(⟨4,none,([]:List Zc),0,none,([]:List Rl),0,(⟨0,0,0,0,0,0⟩:Pk),150⟩:fS)]) 0 d 0 0 [] rs'8 ev'11)) ((fun((A'7,rs'8,a'9,B'10,ev'11,b'12):Option Addr×List Rs×Nat×Option Addr×List Ev×Nat)=>[kA A'7 rs'8 a'9,ff B'10 ev'11 b'12])) (fun((A'7,rs'8,a'9,B'10,ev'11,b'12):Option Addr×List Rs×Nat×Option Addr×List Ev×Nat)=>[kA A'7 rs'8 a'9,ff B'10 ev'11 b'12,pP b1,ql b2,sO b3,uU b4,xZ b5 b3 b4,cz b6 [i_ 1,i_ 100,uS b5] 26]) (by kernel_rfl) rfl rfl (fun ww ss hh=>G9 1 100 (some ⟨b5,0,none⟩) ([(⟨1,some ⟨b3,0,none⟩,[(⟨1,1,0,true,0,0,0,65536,0,65536,0,0,0,3,300⟩:Zc)],1,none,([]:List Rl),0,(⟨0,0,0,0,0,0⟩:Pk),0⟩:fS),(⟨2,none,([]:List Zc),0,some ⟨b4,0,none⟩,[(⟨0,0,0,0,0,0,0,0,1⟩:Rl)],1,(⟨0,0,0,0,0,0⟩:Pk),0⟩:fS),(⟨3,none,([]:List Zc),0,none,([]:List Rl),0,(⟨7,100,0,0,0,0⟩:Pk),0⟩:fS),(⟨3,none,([]:List Zc),0,none,([]:List Rl),0,(⟨7,100,0,0,0,0⟩:Pk),0⟩:fS),(⟨4,none,([]:List Zc),0,none,([]:List Rl),0,(⟨0,0,0,0,0,0⟩:Pk),150⟩:fS)]) 5 (by(simp;done)) (by omega) (by omega) ww ((gZ (i:=4) rfl) ww ss) (TE ((gZ (i:=2) rfl) ww ss) ((gZ (i:=3) rfl) ww ss)) hh) (fun _=>rfl) ?_)))
 rintro⟨A'7,rs'8,a'9,B'10,ev'11,b'12⟩ hz1
 refine A.aH [.p,.p,.p,.al,.st 8,.p] [4,5] (fun b15=>[(4,p_ b15),(5,i_ 0)]) (fun b15=>[kA A'7 rs'8 a'9,ff B'10 ev'11 b'12,pP b1,ql b2,sO b3,uU b4,xZ b5 b3 b4,cz b6 [i_ 1,i_ 100,uS b5] 26,cz b15 [vS A'7 rs'8 a'9,vS B'10 ev'11 b'12] 32]) (fun b15=>[b15]) (fun _=>T0) (fun _=>by kernel_rfl) (fun b15=>trivial) ?_
 intro b15
 refine A.d (A.d ?_)
 obtain⟨cc,dd,hc1,hc2,hnS,hRL⟩:=hz1
 obtain⟨e0,e1,e2,e3,hev,q0,q1,q2,q3⟩:=MI ⟨rfl,rfl⟩ ⟨rfl,rfl⟩ ⟨rfl,rfl⟩ ⟨rfl,rfl⟩ ⟨rfl,rfl⟩ hc1 hc2 hnS hRL
 have hel:ev'11.length=4:=by rw[hev];rfl
 have hx0_:ev'11[0]? =some e0:=by rw[hev];rfl
 have hx1_:ev'11[1]? =some e1:=by rw[hev];rfl
 have hx2_:ev'11[2]? =some e2:=by rw[hev];rfl
 have hx3_:ev'11[3]? =some e3:=by rw[hev];rfl
 refine A.s (A.h [.p,.p,.p,.p,.ld 8,.p,.p,.p] [(4,p_ b15),(35,b_ ((ev'11.length:Int)!=4))] [b15] (A.v (E:=(ev'11.length:Int)!=4) rfl (fun e2=> ?_) (fun e2=> ?_)))
 ·exact absurd e2 (by(intro h_;simp[hel] at h_))
 refine A.p (A.c (A.hk [.p,.ld 8,.ix,.p,.rd [b_ e0.vq2],.p,.o,.p,.ld 8,.ix,.p,.rd [u_ e1.vq5],.p,.cl,.p,.o,.p,.ld 8,.ix,.p,.rd [u_ e3.vq4],.p,.cl,.p,.o,.p,.ld 8,.ix,.p,.rd [u_ e3.vq5],.p,.cl,.p] [(0,b_ (((e0.vq2&&(e1.vq5==100))&&(e3.vq4==100))&&(e3.vq5==200)))] [b15,b15,b15,b15] (oc (io (0:Int) (gi lq (by decide) (fa (i:=1) rfl) (by(simp;omega)))) (oc (ro (((dV B'10).add (0*12)).add 1) (nu (f:=1) (vs:=[b_ e0.vq2]) lq (fa (i:=1) rfl) hx0_ (by simp) rfl)) (oc (go (true&&(e0.vq2==true)) fun h_=>(io (1:Int) (gi lq (by decide) (fa (i:=1) rfl) (by(simp;omega))))) (oc (go (true&&(e0.vq2==true)) fun h_=>(ro (((dV B'10).add (1*12)).add 4) (nu (f:=4) (vs:=[u_ e1.vq5]) lq (fa (i:=1) rfl) hx1_ (by simp) rfl))) (oc (go (true&&((e0.vq2&&(e1.vq5==100))==true)) fun h_=>(io (3:Int) (gi lq (by decide) (fa (i:=1) rfl) (by(simp;omega))))) (oc (go (true&&((e0.vq2&&(e1.vq5==100))==true)) fun h_=>(ro (((dV B'10).add (3*12)).add 3) (nu (f:=3) (vs:=[u_ e3.vq4]) lq (fa (i:=1) rfl) hx3_ (by simp) rfl))) (oc (go (true&&(((e0.vq2&&(e1.vq5==100))&&(e3.vq4==100))==true)) fun h_=>(io (3:Int) (gi lq (by decide) (fa (i:=1) rfl) (by(simp;omega))))) (o1 (go (true&&(((e0.vq2&&(e1.vq5==100))&&(e3.vq4==100))==true)) fun h_=>(ro (((dV B'10).add (3*12)).add 4) (nu (f:=4) (vs:=[u_ e3.vq5]) lq (fa (i:=1) rfl) hx3_ (by simp) rfl))))))))))) (A.e (A.aK [b_ (((e0.vq2&&(e1.vq5==100))&&(e3.vq4==100))&&(e3.vq5==200))] (fun aa ww rr ss=>⟨fQ rr rfl,trivial⟩) ?_))))
 show((b_ (((e0.vq2&&(e1.vq5==100))&&(e3.vq4==100))&&(e3.vq5==200))):Value)=(b_ true)
 simp[q0,q1,q2,q3]
abbrev jX(p0)(p1)(p2)(p3):=((8,vS p0 (dh p1 p2 false) p3):Nat×Value)
abbrev jK(p0)(p1)(p2)(p3):=((7,vS p0 (dh p1 p2 true) p3):Nat×Value)
abbrev pR(p0:List fS)(p1)(p2:List Rs)(p3):=((9,i_ ((fx (p0.take p1) (p2.take p1) p3).length:Int)):Nat×Value)
theorem JR(t lm:Int)(al:Option Addr)(ops:List fS)(cl:Nat)(ci:Int)(w:World)(r0:ez w al (V.dJ oP ops))(r1:qw w ops):
  CW 3 #[.agg #[i_ t,i_ lm,vS al ops cl],i_ ci] w (b_ true):=by
 refine A.C Tryz.func3 rfl (HS.nil w) (A.aO [(0,.agg #[i_ t,i_ lm,vS al ops cl]),(1,i_ ci)] [] ⟨rfl,rfl,trivial⟩ rfl (A.c (A.aH [.al,.p] [1,2] (fun b1=>[(1,i_ ci),(2,p_ b1)]) (fun b1=>[cz b1 [i_ t,i_ lm,vS al ops cl] 26]) (fun b1=>[]) (fun _=>T0) (fun _=>by kernel_rfl) (fun b1=>trivial) ?_)))
 intro b1
 refine A.d (A.c (A.hk [.ld 0,.cq (b_ (mU t lm&&jS ops 300)),.p] [(1,i_ ci),(2,p_ b1),(14,b_ (!(mU t lm&&jS ops 300)))] [b1] (o1 (qo (fun ww ss=>OM t lm al ops cl 300 (by omega) ww ((ef r0 (by simp[dG])) ww ss)))) (A.v (E:= !(mU t lm&&jS ops 300)) rfl (fun e1=> ?_) (fun e1=> ?_))))
 ·refine A.c (A.hk [.cq (b_ true),.p] [(4,b_ true)] [] (o1 (qo (fun ww ss=>Gf ww))) (A.e (A.aK [b_ true] (fun aa ww rr ss=>⟨fQ rr rfl,trivial⟩) ?_)))
  rfl
 refine A.p (A.d ?_)
 have hmf:mU t lm=true∧jS ops 300=true:=by simp_all
 obtain⟨htt,hlm⟩:=Qc hmf.1;have hol:=OO hmf.2
 refine A.s (A.hp [.ld 0] [(1,i_ ci),(2,p_ b1),(17,.agg #[i_ t,i_ lm,vS al ops cl])] [b1] (A.j (A.aX (some 18) [.agg #[i_ t,i_ lm,vS al ops cl]] [] ((fun((A'2,rs'3,a'4,B'5,ev'6,b'7):Option Addr×List Rs×Nat×Option Addr×List Ev×Nat)=>(.tuple #[.agg #[vS A'2 rs'3 a'4,vS B'5 ev'6 b'7],i_ 0]))) ((fun((A'2,rs'3,a'4,B'5,ev'6,b'7):Option Addr×List Rs×Nat×Option Addr×List Ev×Nat)=> ∃c d,c.lt=t∧c.lm=lm∧kN d∧lY c t ops 0 d 0 0 [] rs'3 ev'6)) ((fun((A'2,rs'3,a'4,B'5,ev'6,b'7):Option Addr×List Rs×Nat×Option Addr×List Ev×Nat)=>[kA A'2 rs'3 a'4,ff B'5 ev'6 b'7])) (fun((A'2,rs'3,a'4,B'5,ev'6,b'7):Option Addr×List Rs×Nat×Option Addr×List Ev×Nat)=>[kA A'2 rs'3 a'4,ff B'5 ev'6 b'7,cz b1 [i_ t,i_ lm,vS al ops cl] 26]) (by kernel_rfl) rfl rfl (fun ww ss hh=>G9 t lm al ops cl (by omega) ‹_› ‹_› ww ((ef r0 (by simp[dG])) ww ss) (OK r1 ss) hh) (fun _=>rfl) ?_)))
 rintro⟨A'2,rs'3,a'4,B'5,ev'6,b'7⟩ hz2
 refine A.aH [.p,.p,.p,.al,.st 3,.p] [1,2,5,6] (fun b10=>[(1,i_ ci),(2,p_ b1),(5,p_ b10),(6,i_ 0)]) (fun b10=>[kA A'2 rs'3 a'4,ff B'5 ev'6 b'7,cz b1 [i_ t,i_ lm,vS al ops cl] 26,cz b10 [vS A'2 rs'3 a'4,vS B'5 ev'6 b'7] 32]) (fun b10=>[b10]) (fun _=>T0) (fun _=>by kernel_rfl) (fun b10=>trivial) ?_
 intro b10
 refine A.d ?_
 obtain⟨cc,dd,hc1,hc2,hnS,hRL⟩:=hz2
 have hI:=xO (c:=cc) (by rw[hc1];exact htt) (by rw[hc2];exact hlm) hnS
 obtain⟨hlen,hacc,wx,hpre⟩:=OB (by rw[hc1];exact htt) (by rw[hc2];exact hlm) hnS hRL (fun o ho=>(r1 o ho).2.2.1) ci
 have hle:=Ge hRL hI (by rw[hnS.2.2.2.2.2.2.2.2.1];decide) (by decide) (fun o ho=>⟨(r1 o ho).2.2.1,(r1 o ho).2.2.2.2.2⟩);rw[G1 hnS] at hle
 have hli:=BM ev'6 ci true;have hlp:=BM ev'6 ci false;have hlq:=congrArg List.length hpre;rw[List.length_append] at hlq
 refine A.s (A.hp [.p,.ld 3,.p] [(1,i_ ci),(2,p_ b1),(5,p_ b10),(6,i_ 0),(22,vS B'5 ev'6 b'7),(23,i_ ci)] [b10] (A.j (A.aX (some 24) [vS B'5 ev'6 b'7,i_ ci,b_ true] [] ((fun((A'11,c'12):Option Addr×Nat)=>(vS A'11 (dh ev'6 ci true) c'12))) ((fun((A'11,c'12):Option Addr×Nat)=>True)) ((fun((A'11,c'12):Option Addr×Nat)=>[ji A'11 (dh ev'6 ci true) c'12])) (fun((A'11,c'12):Option Addr×Nat)=>[ji A'11 (dh ev'6 ci true) c'12,kA A'2 rs'3 a'4,ff B'5 ev'6 b'7,cz b1 [i_ t,i_ lm,vS al ops cl] 26,cz b10 [vS A'2 rs'3 a'4,vS B'5 ev'6 b'7] 32]) (by kernel_rfl) rfl rfl (fun ww ss hh=>Iy B'5 ev'6 b'7 ci true (by omega) ww ((fa (i:=1) rfl) ww ss) hh) (fun _=>rfl) ?_)))
 rintro⟨A'11,c'12⟩-
 refine A.h [.p] [(1,i_ ci),(2,p_ b1),(5,p_ b10),(6,i_ 0),(jK A'11 ev'6 ci c'12)] [] (A.c (A.hp [.p,.ld 4,.p] [(1,i_ ci),(2,p_ b1),(5,p_ b10),(6,i_ 0),(jK A'11 ev'6 ci c'12),(26,vS B'5 ev'6 b'7),(27,i_ ci)] [b10] (A.j (A.aX (some 28) [vS B'5 ev'6 b'7,i_ ci,b_ false] [] ((fun((A'14,c'15):Option Addr×Nat)=>(vS A'14 (dh ev'6 ci false) c'15))) ((fun((A'14,c'15):Option Addr×Nat)=>True)) ((fun((A'14,c'15):Option Addr×Nat)=>[ji A'14 (dh ev'6 ci false) c'15])) (fun((A'14,c'15):Option Addr×Nat)=>[ji A'14 (dh ev'6 ci false) c'15,ji A'11 (dh ev'6 ci true) c'12,kA A'2 rs'3 a'4,ff B'5 ev'6 b'7,cz b1 [i_ t,i_ lm,vS al ops cl] 26,cz b10 [vS A'2 rs'3 a'4,vS B'5 ev'6 b'7] 32]) (by kernel_rfl) rfl rfl (fun ww ss hh=>Iy B'5 ev'6 b'7 ci false (by omega) ww ((fa (i:=2) rfl) ww ss) hh) (fun _=>rfl) ?_))))
 rintro⟨A'14,c'15⟩-
 refine A.h [.p] [(1,i_ ci),(2,p_ b1),(5,p_ b10),(6,i_ 0),(jK A'11 ev'6 ci c'12),(jX A'14 ev'6 ci c'15)] [] (A.d (A.c (A.h [.p,.p,.p,.p,.p,.p,.o,.p,.ld 5,.p,.p,.ld 4,.p,.p,.cl] [(1,i_ ci),(2,p_ b1),(5,p_ b10),(6,i_ 0),(jK A'11 ev'6 ci c'12),(jX A'14 ev'6 ci c'15),(42,b_ ((decide (((dh ev'6 ci false).length:Int)>((dh ev'6 ci true).length:Int)))||((rs'3.length:Int)!=(ops.length:Int))))] [b10,b1] (A.v (E:=(decide (((dh ev'6 ci false).length:Int)>((dh ev'6 ci true).length:Int)))||((rs'3.length:Int)!=(ops.length:Int))) rfl (fun e5=> ?_) (fun e5=> ?_)))))
 ·exact absurd e5 (by(intro h_;simp[hlen] at h_;omega))
 refine A.p (A.c (A.h [.p] [(1,i_ ci),(2,p_ b1),(5,p_ b10),(6,i_ 0),(jK A'11 ev'6 ci c'12),(jX A'14 ev'6 ci c'15),(9,i_ 0)] [] (A.d (A.c (A.h [.p,.ld 4,.p,.p] [(1,i_ ci),(5,p_ b10),(6,i_ 0),(jK A'11 ev'6 ci c'12),(jX A'14 ev'6 ci c'15),(9,i_ 0),(44,vS al ops cl),(45,c_ ops.length),(46,i_ 0)] [b1] (A.y (A.aS [(1,i_ ci),(5,p_ b10),(6,i_ 0),(jK A'11 ev'6 ci c'12),(jX A'14 ev'6 ci c'15),(9,i_ ((fx (ops.take 0) (rs'3.take 0) ci).length:Int)),(44,vS al ops cl),(45,c_ ops.length),(46,i_ 0)] ⟨rfl,rfl,rfl,rfl,rfl,congrArg (fun z_=>some (i_ z_)) (by rfl:0=((fx (ops.take 0) (rs'3.take 0) ci).length:Int)),rfl,rfl,rfl,trivial⟩ (A.ag (fun(zz:Nat)=>match zz with|k=>[(1,i_ ci),(5,p_ b10),(6,i_ 0),(jK A'11 ev'6 ci c'12),(jX A'14 ev'6 ci c'15),(44,vS al ops cl),(45,c_ ops.length),(46,c_ k),(pR ops k rs'3 ci)]) (fun(zz:Nat)=>match zz with|k=>[ji A'14 (dh ev'6 ci false) c'15,ji A'11 (dh ev'6 ci true) c'12,kA A'2 rs'3 a'4,ff B'5 ev'6 b'7,cz b1 [i_ t,i_ lm,vS al ops cl] 26,cz b10 [vS A'2 rs'3 a'4,vS B'5 ev'6 b'7] 32]) (fun(zz:Nat)=>match zz with|k=>(k≤ops.length)) (fun(zz:Nat)=>match zz with|k=>ops.length-k) (0:Nat) (by omega) ?_ ?_))))))))
 ·exact A.aL [0,0,0,0,0,0] ⟨rfl,rfl,rfl,rfl,rfl,rfl,rfl,rfl,rfl,trivial⟩ (by kernel_rfl)
 rintro k hk
 have hk:k≤ops.length:=hk
 refine A.aO [(1,i_ ci),(5,p_ b10),(6,i_ 0),(jK A'11 ev'6 ci c'12),(jX A'14 ev'6 ci c'15),(44,vS al ops cl),(45,c_ ops.length),(46,c_ k),(pR ops k rs'3 ci)] [ji A'14 (dh ev'6 ci false) c'15,ji A'11 (dh ev'6 ci true) c'12,kA A'2 rs'3 a'4,ff B'5 ev'6 b'7,cz b1 [i_ t,i_ lm,vS al ops cl] 26,cz b10 [vS A'2 rs'3 a'4,vS B'5 ev'6 b'7] 32] ⟨rfl,rfl,rfl,rfl,rfl,rfl,rfl,rfl,rfl,trivial⟩ rfl (A.c (A.h [.p] [(1,i_ ci),(5,p_ b10),(6,i_ 0),(jK A'11 ev'6 ci c'12),(jX A'14 ev'6 ci c'15),(44,vS al ops cl),(45,c_ ops.length),(46,c_ k),(pR ops k rs'3 ci),(47,b_ (decide ((k:Int)<(ops.length:Int))))] [] (A.d (A.v (E:=decide ((k:Int)<(ops.length:Int))) rfl (fun e6=> ?_) (fun e6=> ?_)))))
 ·have p6:=of_decide_eq_true e6
  refine A.p (A.d (A.y (A.c (A.hq [.p,.ix] [(1,i_ ci),(5,p_ b10),(6,i_ 0),(jK A'11 ev'6 ci c'12),(jX A'14 ev'6 ci c'15),(44,vS al ops cl),(45,c_ ops.length),(46,c_ k),(pR ops k rs'3 ci),(48,c_ k),(49,.pointer (some ((dV al).add (k*10))))] [] (o1 (io (k:Int) (gi qH (by decide) (ef r0 (by simp[dG])) (by omega)))) ?_))))
  obtain⟨x17,hx17⟩: ∃x,(ops)[k]? =some x:=⟨_,List.getElem?_eq_getElem (by omega)⟩
  refine A.aH [.rd [i_ x17.kd,vS x17.za x17.zl x17.zc,vS x17.ra x17.rl x17.rc,u_ x17.op.qi,i_ x17.op.qn,w_ x17.op.qa,w_ x17.op.qb,w_ x17.op.qc,w_ x17.op.qd,u_ x17.tk],.al,.p,.st 6] [1,5,6,7,8,44,45,46,9,11,10] (fun b18=>[(1,i_ ci),(5,p_ b10),(6,i_ 0),(jK A'11 ev'6 ci c'12),(jX A'14 ev'6 ci c'15),(44,vS al ops cl),(45,c_ ops.length),(46,c_ k),(pR ops k rs'3 ci),(11,p_ b18),(10,c_ k)]) (fun b18=>[ji A'14 (dh ev'6 ci false) c'15,ji A'11 (dh ev'6 ci true) c'12,kA A'2 rs'3 a'4,ff B'5 ev'6 b'7,cz b1 [i_ t,i_ lm,vS al ops cl] 26,cz b10 [vS A'2 rs'3 a'4,vS B'5 ev'6 b'7] 32,cz b18 [i_ x17.kd,vS x17.za x17.zl x17.zc,vS x17.ra x17.rl x17.rc,u_ x17.op.qi,i_ x17.op.qn,w_ x17.op.qa,w_ x17.op.qb,w_ x17.op.qc,w_ x17.op.qd,u_ x17.tk] 47]) (fun b18=>[b18]) (fun _=>(fun κ=>κ.rd ((dV al).add (k*10)) [i_ x17.kd,vS x17.za x17.zl x17.zc,vS x17.ra x17.rl x17.rc,u_ x17.op.qi,i_ x17.op.qn,w_ x17.op.qa,w_ x17.op.qb,w_ x17.op.qc,w_ x17.op.qd,u_ x17.tk]∧True)) (fun _=>by kernel_rfl) (fun b18=>⟨fY (vs:=[i_ x17.kd,vS x17.za x17.zl x17.zc,vS x17.ra x17.rl x17.rc,u_ x17.op.qi,i_ x17.op.qn,w_ x17.op.qa,w_ x17.op.qb,w_ x17.op.qc,w_ x17.op.qd,u_ x17.tk]) qH (ef r0 (by simp[dG])) hx17 (Nat.le_of_ble_eq_true rfl) rfl,trivial⟩) ?_
  intro b18
  refine A.d ?_
  obtain⟨x19,hx19⟩: ∃x,(rs'3)[k]? =some x:=⟨_,List.getElem?_eq_getElem (by omega)⟩
  refine A.s (A.hk [.p,.ld 6,.p,.p,.o,.p,.ld 5,.p,.ix,.p,.rd [i_ x19.wq1],.p,.cl,.p,.o,.p,.ld 5,.p,.ix,.p,.rd [i_ x19.wq3],.p,.p,.cl] [(1,i_ ci),(5,p_ b10),(6,i_ 0),(jK A'11 ev'6 ci c'12),(jX A'14 ev'6 ci c'15),(44,vS al ops cl),(45,c_ ops.length),(46,c_ k),(pR ops k rs'3 ci),(11,p_ b18),(72,b_ (((x17.kd==3)&&(x19.wq1==0))&&(x19.wq3==ci)))] [b18,b10,b10] (oc (go (true&&((x17.kd==3)==true)) fun h_=>(dY 2 k t6 rfl (by omega))) (oc (go (true&&((x17.kd==3)==true)) fun h_=>(ro (((dV A'2).add (k*3)).add 0) (nu (f:=0) (vs:=[i_ x19.wq1]) t6 (fa (i:=2) rfl) hx19 (by simp) rfl))) (oc (go (true&&(((x17.kd==3)&&(x19.wq1==0))==true)) fun h_=>(dY 2 k t6 rfl (by omega))) (o1 (go (true&&(((x17.kd==3)&&(x19.wq1==0))==true)) fun h_=>(ro (((dV A'2).add (k*3)).add 2) (nu (f:=2) (vs:=[i_ x19.wq3]) t6 (fa (i:=2) rfl) hx19 (by simp) rfl))))))) (A.v (E:=((x17.kd==3)&&(x19.wq1==0))&&(x19.wq3==ci)) rfl (fun e7=> ?_) (fun e7=> ?_)))
  ·refine A.d (A.d ?_)
   obtain⟨hin,hsn,hlt⟩:=Qd (ci:=ci) hx17 hx19 hacc (by simp_all)
   refine A.ak [.p,.p,.p,.p,.p,.o,.p,.p,.ix,.rd (fR x17.op),.p,.ld 6,.eq,.cl] [0,1,2,3,4,5,6,7,8,9,10,11,12] [(1,i_ ci),(5,p_ b10),(6,i_ 0),(jK A'11 ev'6 ci c'12),(jX A'14 ev'6 ci c'15),(44,vS al ops cl),(45,c_ ops.length),(46,c_ k),(pR ops k rs'3 ci),(85,b_ ((decide (((fx (ops.take k) (rs'3.take k) ci).length:Int)≥((dh ev'6 ci true).length:Int)))||(!((x17.op.qi==x17.op.qi)&&((x17.op.qn==x17.op.qn)&&((x17.op.qa==x17.op.qa)&&((x17.op.qb==x17.op.qb)&&((x17.op.qc==x17.op.qc)&&(x17.op.qd==x17.op.qd)))))))))] [b18] (fun κ=>((true&&((decide (((fx (ops.take k) (rs'3.take k) ci).length:Int)≥((dh ev'6 ci true).length:Int)))==false))=true→κ.ix A'11 ((dh ev'6 ci true).length) ((fx (ops.take k) (rs'3.take k) ci).length:Int))∧((true&&((decide (((fx (ops.take k) (rs'3.take k) ci).length:Int)≥((dh ev'6 ci true).length:Int)))==false))=true→κ.rd ((dV A'11).add (((fx (ops.take k) (rs'3.take k) ci).length)*6)) (fR x17.op))∧True) (by kernel_rfl) (by kernel_rfl) ⟨(fun h_=>(gi kS (by decide) (fa (i:=1) rfl) (by omega))),(fun h_=>(fY (vs:=(fR x17.op)) kS (fa (i:=1) rfl) hin (Nat.le_of_ble_eq_true rfl) rfl)),trivial⟩ (A.v (E:=(decide (((fx (ops.take k) (rs'3.take k) ci).length:Int)≥((dh ev'6 ci true).length:Int)))||(!((x17.op.qi==x17.op.qi)&&((x17.op.qn==x17.op.qn)&&((x17.op.qa==x17.op.qa)&&((x17.op.qb==x17.op.qb)&&((x17.op.qc==x17.op.qc)&&(x17.op.qd==x17.op.qd)))))))) rfl (fun e8=> ?_) (fun e8=> ?_))
   ·exact absurd e8 (by(intro h_;simp[hlen] at h_;omega))
   refine A.p (A.s (A.hk [.p,.w (((fx (ops.take k) (rs'3.take k) ci).length:Int)+1),.p] [(1,i_ ci),(5,p_ b10),(6,i_ 0),(jK A'11 ev'6 ci c'12),(jX A'14 ev'6 ci c'15),(44,vS al ops cl),(45,c_ ops.length),(46,c_ k),(9,i_ (((fx (ops.take k) (rs'3.take k) ci).length:Int)+1))] [] (o1 (wj (((fx (ops.take k) (rs'3.take k) ci).length:Int)+1) (by omega))) (A.s (A.hk [.w ((k:Int)+1),.p] [(1,i_ ci),(5,p_ b10),(6,i_ 0),(jK A'11 ev'6 ci c'12),(jX A'14 ev'6 ci c'15),(44,vS al ops cl),(45,c_ ops.length),(46,i_ ((k:Int)+1)),(9,i_ (((fx (ops.take k) (rs'3.take k) ci).length:Int)+1))] [] (o1 (wj ((k:Int)+1) (by omega))) ?_))))
   refine A.aS [(1,i_ ci),(5,p_ b10),(6,i_ 0),(jK A'11 ev'6 ci c'12),(jX A'14 ev'6 ci c'15),(44,vS al ops cl),(45,c_ ops.length),(46,i_ ((k:Int)+1)),(9,i_ ((fx (ops.take (k+1)) (rs'3.take (k+1)) ci).length:Int))] (by exact⟨rfl,rfl,rfl,rfl,rfl,rfl,rfl,rfl,congrArg (fun z_=>some (i_ z_)) (by(rw[hsn];rfl):((fx (ops.take k) (rs'3.take k) ci).length:Int)+1=((fx (ops.take (k+1)) (rs'3.take (k+1)) ci).length:Int)),trivial⟩) (A.aA (k+1) (by omega) (by(simp;omega)) ?_)
   exact A.aL [0,0,0,0,0,0] ⟨rfl,rfl,rfl,rfl,rfl,rfl,rfl,rfl,rfl,trivial⟩ (by kernel_rfl)
  refine A.p (A.s (A.hk [.w ((k:Int)+1),.p] [(1,i_ ci),(5,p_ b10),(6,i_ 0),(jK A'11 ev'6 ci c'12),(jX A'14 ev'6 ci c'15),(44,vS al ops cl),(45,c_ ops.length),(46,i_ ((k:Int)+1)),(pR ops k rs'3 ci)] [] (o1 (wj ((k:Int)+1) (by omega))) (A.aS [(1,i_ ci),(5,p_ b10),(6,i_ 0),(jK A'11 ev'6 ci c'12),(jX A'14 ev'6 ci c'15),(44,vS al ops cl),(45,c_ ops.length),(46,i_ ((k:Int)+1)),(9,i_ ((fx (ops.take (k+1)) (rs'3.take (k+1)) ci).length:Int))] (by exact⟨rfl,rfl,rfl,rfl,rfl,rfl,rfl,rfl,congrArg (fun z_=>some (i_ z_)) (by(rw[OP ‹_› ‹_› (by simp_all)];done):((fx (ops.take k) (rs'3.take k) ci).length:Int)=((fx (ops.take (k+1)) (rs'3.take (k+1)) ci).length:Int)),trivial⟩) (A.aA (k+1) (by omega) (by(simp;omega)) ?_))))
  exact A.aL [0,0,0,0,0,0] ⟨rfl,rfl,rfl,rfl,rfl,rfl,rfl,rfl,rfl,trivial⟩ (by kernel_rfl)
 have p6:=of_decide_eq_false e6
 refine A.aB (A.c (A.hp [.p,.p,.p,.p,.p,.p,.p,.p,.p] [(jK A'11 ev'6 ci c'12),(jX A'14 ev'6 ci c'15),(97,b_ (((fx (ops.take k) (rs'3.take k) ci).length:Int)==((dh ev'6 ci true).length:Int)))] [] (A.aR (((fx (ops.take k) (rs'3.take k) ci).length:Int)==((dh ev'6 ci true).length:Int)) (fun e9=> ?_) (fun e9=> ?_))))
 ·refine A.aS [(jK A'11 ev'6 ci c'12),(jX A'14 ev'6 ci c'15),(97,b_ true)] ⟨rfl,rfl,congrArg (fun z=>some (Value.bool z)) e9,trivial⟩ (A.hp [.p,.p,.p,.p] [(97,b_ true),(98,vS A'14 (dh ev'6 ci false) c'15),(99,vS A'11 (dh ev'6 ci true) c'12),(101,i_ ((dh ev'6 ci false).length:Int))] [] (A.j (A.u (some 102) (vS A'11 ((dh ev'6 ci true).take ((dh ev'6 ci false).length)) c'12) (Ek (e:=45) (xs:=(dh ev'6 ci true)) (sz:=6) ((dh ev'6 ci false).length) rfl rfl rfl (by kernel_rfl) (by kernel_rfl) (by omega) (fun ww ss=>Am (ss.mem (i:=1) rfl))) (A.hk [.cq (b_ true),.p,.p,.o,.cq (b_ true),.cl,.p] [(4,b_ (true&&true))] [] (oc (qo (fun ww ss=>ON A'14 (dh ev'6 ci false) c'15 A'11 ((dh ev'6 ci true).take ((dh ev'6 ci false).length)) c'12 (by omega) (by(rw[hpre];simp;done)) ww ((fa (i:=0) rfl) ww ss) ((Nw kS (fa (i:=1) rfl) ((dh ev'6 ci false).length)) ww ss))) (o1 (go (true&&(true==true)) fun h_=>(qo (fun ww ss=>Gf ww))))) (A.e (A.aK [b_ (true&&true)] (fun aa ww rr ss=>⟨fQ rr rfl,trivial⟩) ?_))))))
  rfl
 exact absurd e9 (by(intro h_;rw[List.take_of_length_le (by omega),List.take_of_length_le (by omega),hacc] at h_;simp at h_))
end Go.Proofs.YtobgjpigngoggaaGreat
