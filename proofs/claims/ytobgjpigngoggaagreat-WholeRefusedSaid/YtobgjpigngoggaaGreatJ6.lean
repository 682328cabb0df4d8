/- The functions of the scheduler, layer by layer, proved operation by operation for all arguments, under the conditions that each theorem states: part 6. -/
import Derived.Test.YtobgjpigngoggaaGreatProg
import Derived.ProofKit
import Derived.OpenShut
import Derived.Below
import Derived.Lib.SmallJoins
import Derived.Test.YtobgjpigngoggaaGreatJ5
set_option linter.unusedVariables false
set_option linter.unusedSimpArgs false
set_option maxHeartbeats 4000000
set_option maxRecDepth 100000
namespace Go.Proofs.YtobgjpigngoggaaGreat
open Go V
theorem Aw(t lm:Int)(al:Option Addr)(ops:List fC)(cl:Nat)(hol:ops.length≤1000)(htt:1≤t∧t≤65536)(hlm:1≤lm∧lm≤16384)(w:World)(hoa:eo w al (V.dF eM ops))(hops:mf w ops)(hs:HS w (dE []) [] w):
  Calls Tryz.prog 9 #[.agg #[i_ t,i_ lm,vS al ops cl]] w fun e w'=> ∃zz:Option Addr×List Rs×Nat×Option Addr×List Ev×Nat,e= .returned (.tuple #[.agg #[vS zz.1 zz.2.1 zz.2.2.1,vS zz.2.2.2.1 zz.2.2.2.2.1 zz.2.2.2.2.2],i_ 0])∧(∃c d,c.lt=t∧c.lm=lm∧jT d∧jn c t ops 0 d 0 0 [] zz.2.1 zz.2.2.2.2.1)∧Turn [] [gy zz.1 zz.2.1 zz.2.2.1,eV zz.2.2.2.1 zz.2.2.2.2.1 zz.2.2.2.2.2] w w':=by
 have ho:(fA w).holds w:=⟨Nat.le_refl _,fun _ _=>rfl⟩
 have hf:dE [fA w]=List.range w.heap.size:=by simp[dE,fA]
 refine(U9 w t lm al ops cl hoa hops hol htt hlm (fun c d h1 h2 h3=>⟨Iv c,qW,Am,xm (by rw[h1];exact htt) (by rw[h2];exact hlm) h3,An h3⟩) w<|HS.start w _ (fun it hi=>by rw[List.mem_singleton] at hi;subst hi;exact ho) (by rw[hf];exact List.nodup_range)).mono ?_
 rintro e w' ⟨⟨A,rs,a,B,ev,b⟩,h1,h2,h3⟩
 have hw:=h3.all (fA w)<|List.mem_cons_self ..
 have hn:=h3.nodup
 change(dE<|[fA w]++[gy A rs a,eV B ev b]).Nodup at hn
 rw[kh] at hn
 obtain⟨-,n2,n3⟩:=List.nodup_append.1 hn
 refine⟨(A,rs,a,B,ev,b),h1,h2,⟨h3.fr.os,h3.fr.tape,h3.fr.output,h3.fr.size,fun k hk _=>hw.2 k hk⟩,fun it hi=>h3.all it<|List.mem_cons_of_mem _ hi,n2,fun b hb=> .inr ?_⟩
 rcases Nat.lt_or_ge b w.heap.size with h|h
 ·exact absurd rfl (n3 b (by rw[hf];exact List.mem_range.2 h) b hb)
 ·exact h
variable{w0 w:World}{H:List V.dB}{ops:List fC}
theorem xB(h:mf w0 ops)(s:HS w0 [] H w):mf w ops:=fun x hx=>by
 obtain⟨h1,h2,h3⟩:=h x hx
 exact⟨ef h1 (by simp) w s,ef h2 (by simp) w s,h3⟩
def lX(t lm:Int):Bool:=decide (t≥1)&&decide (t≤65536)&&decide (lm≥1)&&decide (lm≤16384)
def tp(o:fC):Bool:= !(decide ((o.zl.length:Int)>40)||decide ((o.rl.length:Int)>40))
def jJ(ops:List fC)(m:Int):Bool:=decide ((ops.length:Int)≤m)&&ops.all tp
variable{m:Int}
theorem N4(h:(ops.length:Int)>m):jJ ops m=false:=by unfold jJ;simp;omega
variable{o:fC}
theorem Rw{k:Nat}(hk:ops[k]? =some o)(h:tp o=false):jJ ops m=false:=by
 unfold jJ;rw[Bool.and_eq_false_iff];right;rw[List.all_eq_false];exact⟨o,List.mem_of_getElem? hk,by simp[h]⟩
theorem PE{k:Nat}(h: ¬(ops.length:Int)>m)(hk:ops.length≤k)(hn: ∀j y,j<k→ops[j]? =some y→tp y=true):jJ ops m=true:=by
 unfold jJ;rw[Bool.and_eq_true];refine⟨by simp;omega,?_⟩
 rw[List.all_eq_true];intro x hx
 obtain⟨j,h1,h2⟩:=List.getElem_of_mem hx
 exact hn j x (by omega) (by rw[←h2];exact List.getElem?_eq_getElem h1)
theorem UR(t lm:Int)(w:World):
  CW 29 #[.agg #[i_ t,i_ lm]] w (b_<|lX t lm):=by
 refine A.C Tryz.func29 rfl (HS.nil w) (A.c<|A.n1 [.al,.p] [0] (fun b1=>[(1,p_ b1)]) (fun b1=>cw b1 [i_ t,i_ lm] 23) ?_)
 intro b1
 refine A.c<|A.gl [.p,.ld 0,.p,.p,.o,.p,.ld 0,.p,.cl,.p,.o,.p,.ld 0,.p,.cl,.p,.o,.p,.ld 0,.p,.cl,.p] [1] [(2,b_<|(((decide (t≥1))&&(decide (t≤65536)))&&(decide (lm≥1)))&&(decide (lm≤16384)))] [b1,b1,b1,b1]<|A.e<|A.W [b_<|(((decide (t≥1))&&(decide (t≤65536)))&&(decide (lm≥1)))&&(decide (lm≤16384))] ?_
 rfl
theorem US(t lm:Int)(al:Option Addr)(ops:List fC)(cl:Nat)(m:Int)(hm:m≤1000)(w:World)(r0:eo w al (V.dF eM ops)):
  CW 30 #[.agg #[i_ t,i_ lm,vS al ops cl],i_ m] w (b_<|jJ ops m):=by
 refine A.C Tryz.func30 rfl (HS.nil w) (A.c<|A.n1 [.al,.p] [0] (fun b1=>[(2,p_ b1)]) (fun b1=>cw b1 [i_ t,i_ lm,vS al ops cl] 26) ?_)
 intro b1
 refine A.d<|A.c<|A.gl [.p,.ld 0,.p,.p,.p] [1] [(11,b_<|decide ((ops.length:Int)>m))] [b1]<|A.v rfl (fun e1=>?_) (fun e1=>?_)
 ·have p1:=of_decide_eq_true e1
  refine A.c<|A.g [.p] [2,11] [(4,b_ false)]<|A.e<|A.W [b_ false] ?_
  show((b_ false):Value)=(b_<|jJ ops m)
  rw[N4<|by omega]
 have p1:=of_decide_eq_false e1
 refine A.p<|A.d<|A.c<|A.gl [.p,.ld 0,.p,.p] [2,11] [(13,vS al ops cl),(14,c_ ops.length),(15,i_ 0)] [b1]<|A.y<|A.lp (σ:=Nat) [] (fun k=>[(15,c_ k)]) [] (fun k=>[]) (fun k=>(k≤ops.length)∧(∀j y,j<k→ops[j]? =some y→tp y=true)) (fun k=>ops.length-k) (0:Nat) ⟨(by omega),(by intro j y hj;omega)⟩ ?_ ?_
 ·exact A.J [0]
 rintro k ⟨hk,hn⟩
 refine A.c<|A.g [.p] [] [(16,b_<|decide ((k:Int)<(ops.length:Int)))]<|A.d<|A.v rfl (fun e2=>?_) (fun e2=>?_)
 ·have p2:=of_decide_eq_true e2
  refine A.p<|A.d<|A.y<|A.c<|A.kp [.ix] [16] [(17,.pointer<|some<|(dR al).add (k*10))] [] (o1<|io (k:Int)<|gW nR (by decide) (ef r0<|by simp[dE])<|by omega) ?_
  obtain⟨x2,hx2⟩: ∃x,(ops)[k]? =some x:=⟨_,List.getElem?_eq_getElem<|by omega⟩
  refine A.no [.rd [i_ x2.kd,vS x2.za x2.zl x2.zc,vS x2.ra x2.rl x2.rc,u_ x2.op.qi,i_ x2.op.qn,w_ x2.op.qa,w_ x2.op.qb,w_ x2.op.qc,w_ x2.op.qd,u_ x2.tk],.al,.st 1] [17] (fun b3=>[(6,p_ b3)]) (fun b3=>[]) (fun b3=>cw b3 [i_ x2.kd,vS x2.za x2.zl x2.zc,vS x2.ra x2.rl x2.rc,u_ x2.op.qi,i_ x2.op.qn,w_ x2.op.qa,w_ x2.op.qb,w_ x2.op.qc,w_ x2.op.qd,u_ x2.tk] 47) (fun b3=>[b3]) (fun b3=>o1<|ro ((dR al).add (k*10))<|fS (vs:=[i_ x2.kd,vS x2.za x2.zl x2.zc,vS x2.ra x2.rl x2.rc,u_ x2.op.qi,i_ x2.op.qn,w_ x2.op.qa,w_ x2.op.qb,w_ x2.op.qc,w_ x2.op.qd,u_ x2.tk]) nR (ef r0<|by simp[dE]) hx2 (Nat.le_of_ble_eq_true rfl) rfl) ?_
  intro b3
  refine A.c<|A.gl [.p,.ld 1,.p,.p,.p,.o,.p,.ld 1,.p,.p,.cl] [6] [(28,b_<|(decide ((x2.zl.length:Int)>40))||(decide ((x2.rl.length:Int)>40)))] [b3,b3]<|A.v rfl (fun e3=>?_) (fun e3=>?_)
  ·have p3:=e3;try simp only[dc] at p3
   refine A.c<|A.g [.p] [13,14,15,28] [(4,b_ false)]<|A.e<|A.W [b_ false] ?_
   show((b_ false):Value)=(b_<|jJ ops m)
   rw[Rw ‹_› (by unfold tp;simp;omega)]
  have p3:=e3
  refine A.p<|A.s<|A.k [.w<|(k:Int)+1,.p] [28] [(15,i_<|(k:Int)+1)] [] (o1<|wj ((k:Int)+1)<|by omega)<|A.Z (k+1) ⟨(by omega),(by intro j y hj_ hy_;rcases Nat.lt_succ_iff_lt_or_eq.1 hj_ with h_|rfl;exact hn j y h_ hy_;simp_all[tp])⟩ (by omega) ?_
  exact A.J [0]
 have p2:=of_decide_eq_false e2
 refine A.aA<|A.c<|A.g [.p] [13,14,15,16] [(4,b_ true)]<|A.e<|A.W [b_ true] ?_
 show((b_ true):Value)=(b_<|jJ ops m)
 rw[PE (by omega) (by omega) hn]
theorem HO(t lm:Int)(al:Option Addr)(ops:List fC)(cl:Nat)(m:Int)(hm:m≤1000)(w:World)(r0:eo w al (V.dF eM ops)):
  CW 7 #[.agg #[i_ t,i_ lm,vS al ops cl],i_ m] w (b_<|lX t lm&&jJ ops m):=by
 refine A.C Tryz.func7 rfl (HS.nil w) (A.c<|A.n1 [.al,.p] [0] (fun b1=>[(2,p_ b1)]) (fun b1=>cw b1 [i_ t,i_ lm,vS al ops cl] 26) ?_)
 intro b1
 refine A.c<|A.k [.p,.ld 0,.cq<|b_<|lX t lm,.p,.o,.ld 0,.p,.cq<|b_<|jJ ops m,.cl,.p] [1,2] [(4,b_<|(lX t lm)&&(jJ ops m))] [b1,b1] (oc (qo<|fun w s=>UR t lm w)<|o1<|go (true&&((lX t lm)==true)) fun h_=>(qo<|fun w s=>US t lm al ops cl m ‹_› w ((ef r0<|by simp[dE]) w s)))<|A.e<|A.W [b_<|(lX t lm)&&(jJ ops m)] ?_
 rfl
variable{lm:Int}
theorem Rx{t:Int}(h:lX t lm=true):(1≤t∧t≤65536)∧1≤lm∧lm≤16384:=by unfold lX at h;simp at h;omega
theorem PG(h:jJ ops m=true):(ops.length:Int)≤m:=by unfold jJ at h;simp at h;exact h.1
theorem Ax{c:Ss}{t:Int}: ∀{ops:List fC}{no un clk:Int}{d:Sd}{rl:List Rl}{rsl:List Rs}{evl:List Ev},jn c t ops no d un clk rl rsl evl→Iv c d→d.ck≤clk→0≤clk∧clk≤4611686018427387904→(∀o∈ops,(∀z∈o.zl,j0 z)∧0≤o.tk)→evl.length≤qW d+2*ops.length
 |[],no,un,clk,d,rl,rsl,evl,⟨h1,h2⟩,_,_,_,_=>by subst h2;simp
 |o::ops,no,un,clk,d,rl,rsl,evl,⟨x,evs,d',un',clk',rl',rsl',evl',hd,hr,h1,h2⟩,hI,hk,hc,hz=>by
  subst h1 h2
  obtain⟨z1,z2⟩:=hz o<|List.mem_cons_self ..
  obtain⟨a1,a2,a3,a4⟩:=CC Am z1 z2 hI hk hc hd
  have:=Ax hr a1 a2 a3 fun o ho=>hz o<|List.mem_cons_of_mem _ ho
  simp;omega
theorem Uh{za ra:Option Addr}{zc rc:Nat}(h1:eo w za (V.dF jS [zA]))(h2:eo w ra (V.dF ft [rA])):mf w [⟨1,za,[zA],zc,none,[],0,⟨0,0,0,0,0,0⟩,0⟩,⟨2,none,[],0,ra,[rA],rc,⟨0,0,0,0,0,0⟩,0⟩,⟨3,none,[],0,none,[],0,pA,0⟩,⟨3,none,[],0,none,[],0,pA,0⟩,⟨4,none,[],0,none,[],0,⟨0,0,0,0,0,0⟩,150⟩]:=by
 intro x hx
 have hn:eo w none ([]:List Value):=fun j u h=>by simp at h
 simp only[List.mem_cons,List.not_mem_nil,or_false] at hx
 rcases hx with rfl|rfl|rfl|rfl|rfl
 ·exact⟨h1,hn,by simp[j0,zA],by simp,by simp[kO,gB],by simp⟩
 ·exact⟨hn,h2,by simp,by simp[kP,rA],by simp[kO,gB],by simp⟩
 ·exact⟨hn,hn,by simp,by simp,by simp[kO,gB,pA],by simp⟩
 ·exact⟨hn,hn,by simp,by simp,by simp[kO,gB,pA],by simp⟩
 ·exact⟨hn,hn,by simp,by simp,by simp[kO,gB],by simp⟩
abbrev I8(p0):=(.slice (some ⟨p0,0,none⟩) 5 5:Value)
abbrev uj(p0):=(.slice (some ⟨p0,0,none⟩) 1 1:Value)
abbrev I9(p0):=(cw p0 [w_ 0,w_ 0,w_ 0,w_ 0,w_ 0,w_ 0,w_ 0,w_ 0,i_ 1] 86:V.dB)
abbrev xz(p0):=(cw p0 [i_ 3,e_,e_,u_ 7,i_ 100,w_ 0,w_ 0,w_ 0,w_ 0,u_ 0] 47:V.dB)
abbrev Bo(p0):=(cw p0 [i_ 1,i_ 1,i_ 0,b_ true,u_ 0,u_ 0,u_ 0,u_ 65536,u_ 0,u_ 65536,u_ 0,u_ 0,u_ 0,i_ 3,i_ 300] 84:V.dB)
abbrev yA(p0):=(cw p0 [i_ 1,i_ 0,b_ true,u_ 0,u_ 0,u_ 0,u_ 65536,u_ 0,u_ 65536,u_ 0,u_ 0,u_ 0,i_ 3,i_ 300] 62:V.dB)
abbrev Ry(p0)(p1)(p2):=(cw p0 [i_ 1,.slice (some ⟨p1,0,none⟩) 1 1,e_,u_ 0,i_ 0,w_ 0,w_ 0,w_ 0,w_ 0,u_ 0,i_ 2,e_,.slice (some ⟨p2,0,none⟩) 1 1,u_ 0,i_ 0,w_ 0,w_ 0,w_ 0,w_ 0,u_ 0,i_ 3,e_,e_,u_ 7,i_ 100,w_ 0,w_ 0,w_ 0,w_ 0,u_ 0,i_ 3,e_,e_,u_ 7,i_ 100,w_ 0,w_ 0,w_ 0,w_ 0,u_ 0,i_ 4,e_,e_,u_ 0,i_ 0,w_ 0,w_ 0,w_ 0,w_ 0,u_ 150] 47:V.dB)
theorem xC(w:World):
  CW 8 #[] w (b_ true):=by
 refine A.C Tryz.func8 rfl (HS.nil w) (A.aO [] [] trivial rfl (A.c<|A.h [.p] [] []<|A.c<|A.m1 [.p,.p,.al,.st 0] (fun b1=>[(1,p_ b1)]) (fun _=>[]) (fun b1=>yA b1) (fun b1=>[b1]) ?_))
 intro b1
 refine A.c<|A.m1 [.p,.p,.al,.st 1] (fun b2=>[(1,p_ b1),(2,p_ b2)]) (fun _=>[]) (fun b2=>xz b2) (fun b2=>[b2]) ?_
 intro b2
 refine A.c<|A.hp [.p,.ld 0,.p] [(2,p_ b2),(10,.agg #[i_ 1,i_ 100]),(12,.agg #[i_ 1,i_ 1,i_ 0,b_ true,u_ 0,u_ 0,u_ 0,u_ 65536,u_ 0,u_ 65536,u_ 0,u_ 0,u_ 0,i_ 3,i_ 300])] [b1]<|A.j<|A.aE 13 (e:=84) [i_ 1,i_ 1,i_ 0,b_ true,u_ 0,u_ 0,u_ 0,u_ 65536,u_ 0,u_ 65536,u_ 0,u_ 0,u_ 0,i_ 3,i_ 300] (by kernel_rfl) rfl (fun _=>by kernel_rfl) (fun b3=>[yA b1,xz b2,Bo b3]) (fun _=>rfl) ?_
 intro b3
 refine A.hp [.p,.p] [(2,p_ b2),(10,.agg #[i_ 1,i_ 100]),(14,.agg #[i_ 1,uj b3,e_,u_ 0,i_ 0,w_ 0,w_ 0,w_ 0,w_ 0,u_ 0]),(15,.agg #[w_ 0,w_ 0,w_ 0,w_ 0,w_ 0,w_ 0,w_ 0,w_ 0,i_ 1])] []<|A.j<|A.aE 16 (e:=86) [w_ 0,w_ 0,w_ 0,w_ 0,w_ 0,w_ 0,w_ 0,w_ 0,i_ 1] (by kernel_rfl) rfl (fun _=>by kernel_rfl) (fun b4=>[yA b1,xz b2,Bo b3,I9 b4]) (fun _=>rfl) ?_
 intro b4
 refine A.hp [.p,.ld 1,.ld 1,.p] [(10,.agg #[i_ 1,i_ 100]),(14,.agg #[i_ 1,uj b3,e_,u_ 0,i_ 0,w_ 0,w_ 0,w_ 0,w_ 0,u_ 0]),(17,.agg #[i_ 2,e_,uj b4,u_ 0,i_ 0,w_ 0,w_ 0,w_ 0,w_ 0,u_ 0]),(18,.agg #[i_ 3,e_,e_,u_ 7,i_ 100,w_ 0,w_ 0,w_ 0,w_ 0,u_ 0]),(19,.agg #[i_ 3,e_,e_,u_ 7,i_ 100,w_ 0,w_ 0,w_ 0,w_ 0,u_ 0]),(20,.agg #[i_ 4,e_,e_,u_ 0,i_ 0,w_ 0,w_ 0,w_ 0,w_ 0,u_ 150])] [b2,b2]<|A.j<|A.aE 21 (e:=47) [i_ 1,uj b3,e_,u_ 0,i_ 0,w_ 0,w_ 0,w_ 0,w_ 0,u_ 0,i_ 2,e_,uj b4,u_ 0,i_ 0,w_ 0,w_ 0,w_ 0,w_ 0,u_ 0,i_ 3,e_,e_,u_ 7,i_ 100,w_ 0,w_ 0,w_ 0,w_ 0,u_ 0,i_ 3,e_,e_,u_ 7,i_ 100,w_ 0,w_ 0,w_ 0,w_ 0,u_ 0,i_ 4,e_,e_,u_ 0,i_ 0,w_ 0,w_ 0,w_ 0,w_ 0,u_ 150] (by kernel_rfl) rfl (fun _=>by kernel_rfl) (fun b5=>[yA b1,xz b2,Bo b3,I9 b4,Ry b5 b3 b4]) (fun _=>rfl) ?_
 intro b5
 refine A.m1 [.p,.al,.st 5] (fun b6=>[(3,p_ b6)]) (fun _=>[]) (fun b6=>cw b6 [i_ 1,i_ 100,I8 b5] 26) (fun b6=>[b6]) ?_
 intro b6
 refine A.c<|A.hp [.ld 5] [(24,.agg #[i_ 1,i_ 100,I8 b5])] [b6]<|A.j<|A.I (some 25) [] (fun w s h=>Aw 1 100 (some ⟨b5,0,none⟩) ([(⟨1,some ⟨b3,0,none⟩,[(⟨1,1,0,true,0,0,0,65536,0,65536,0,0,0,3,300⟩:Zc)],1,none,([]:List Rl),0,(⟨0,0,0,0,0,0⟩:Pk),0⟩:fC),(⟨2,none,([]:List Zc),0,some ⟨b4,0,none⟩,[(⟨0,0,0,0,0,0,0,0,1⟩:Rl)],1,(⟨0,0,0,0,0,0⟩:Pk),0⟩:fC),(⟨3,none,([]:List Zc),0,none,([]:List Rl),0,(⟨7,100,0,0,0,0⟩:Pk),0⟩:fC),(⟨3,none,([]:List Zc),0,none,([]:List Rl),0,(⟨7,100,0,0,0,0⟩:Pk),0⟩:fC),(⟨4,none,([]:List Zc),0,none,([]:List Rl),0,(⟨0,0,0,0,0,0⟩:Pk),150⟩:fC)]) 5 (by(simp;done)) (by omega) (by omega) w ((gG (i:=4) rfl) w s) (Uh ((gG (i:=2) rfl) w s)<|(gG (i:=3) rfl) w s) h) ?_
 rintro⟨A'7,rs'8,a'9,B'10,ev'11,b'12⟩ hz1
 dsimp only at hz1
 refine A.m1 [.p,.p,.p,.al,.st 8,.p] (fun b15=>[(4,p_ b15),(5,i_ 0)]) (fun _=>[]) (fun b15=>cw b15 [vS A'7 rs'8 a'9,vS B'10 ev'11 b'12] 32) (fun b15=>[b15]) ?_
 intro b15
 refine A.d<|A.d ?_
 obtain⟨cc,dd,hc1,hc2,hnS,hRL⟩:=hz1
 obtain⟨e0,e1,e2,e3,hev,q0,q1,q2,q3⟩:=NU ⟨rfl,rfl⟩ ⟨rfl,rfl⟩ ⟨rfl,rfl⟩ ⟨rfl,rfl⟩ ⟨rfl,rfl⟩ hc1 hc2 hnS hRL
 have hel:ev'11.length=4:=by rw[hev];rfl
 have hx0_:ev'11[0]? =some e0:=by rw[hev];rfl
 have hx1_:ev'11[1]? =some e1:=by rw[hev];rfl
 have hx2_:ev'11[2]? =some e2:=by rw[hev];rfl
 have hx3_:ev'11[3]? =some e3:=by rw[hev];rfl
 refine A.s<|A.h [.p,.p,.p,.p,.ld 8,.p,.p,.p] [(4,p_ b15),(35,b_<|(ev'11.length:Int)!=4)] [b15]<|A.v (E:=(ev'11.length:Int)!=4) rfl (fun e2=>?_) (fun e2=>?_)
 ·exact absurd e2<|by(intro h_;simp[hel] at h_)
 refine A.p<|A.c<|A.hk [.p,.ld 8,.ix,.p,.rd [b_ e0.vq2],.p,.o,.p,.ld 8,.ix,.p,.rd [u_ e1.vq5],.p,.cl,.p,.o,.p,.ld 8,.ix,.p,.rd [u_ e3.vq4],.p,.cl,.p,.o,.p,.ld 8,.ix,.p,.rd [u_ e3.vq5],.p,.cl,.p] [(0,b_<|((e0.vq2&&(e1.vq5==100))&&(e3.vq4==100))&&(e3.vq5==200))] [b15,b15,b15,b15] (oc (io (0:Int)<|gW ju (by decide) (fM (i:=1) rfl)<|by(simp;omega))<|oc (ro (((dR B'10).add (0*12)).add 1)<|pV (f:=1) (vs:=[b_ e0.vq2]) ju (fM (i:=1) rfl) hx0_ (by simp) rfl)<|oc (go (true&&(e0.vq2==true)) fun h_=>(io (1:Int)<|gW ju (by decide) (fM (i:=1) rfl)<|by(simp;omega)))<|oc (go (true&&(e0.vq2==true)) fun h_=>(ro (((dR B'10).add (1*12)).add 4)<|pV (f:=4) (vs:=[u_ e1.vq5]) ju (fM (i:=1) rfl) hx1_ (by simp) rfl))<|oc (go (true&&((e0.vq2&&(e1.vq5==100))==true)) fun h_=>(io (3:Int)<|gW ju (by decide) (fM (i:=1) rfl)<|by(simp;omega)))<|oc (go (true&&((e0.vq2&&(e1.vq5==100))==true)) fun h_=>(ro (((dR B'10).add (3*12)).add 3)<|pV (f:=3) (vs:=[u_ e3.vq4]) ju (fM (i:=1) rfl) hx3_ (by simp) rfl))<|oc (go (true&&(((e0.vq2&&(e1.vq5==100))&&(e3.vq4==100))==true)) fun h_=>(io (3:Int)<|gW ju (by decide) (fM (i:=1) rfl)<|by(simp;omega)))<|o1<|go (true&&(((e0.vq2&&(e1.vq5==100))&&(e3.vq4==100))==true)) fun h_=>(ro (((dR B'10).add (3*12)).add 4)<|pV (f:=4) (vs:=[u_ e3.vq5]) ju (fM (i:=1) rfl) hx3_ (by simp) rfl))<|A.e<|A.aL [b_<|((e0.vq2&&(e1.vq5==100))&&(e3.vq4==100))&&(e3.vq5==200)] (fun _ w r s=>⟨fk r rfl,trivial⟩) ?_
 show((b_<|((e0.vq2&&(e1.vq5==100))&&(e3.vq4==100))&&(e3.vq5==200)):Value)=(b_ true)
 simp[q0,q1,q2,q3]
def gg{β γ:Type}(f:β→γ)(kv:List (Int×β)):List (Int×γ):=kv.map fun p=>(p.1,f p.2)
variable{β γ:Type}
theorem wL(f:β→γ): ∀(kv:List (Int×β))(k:Int),cu (gg f kv) k=(cu kv k).map f
 |[],k=>rfl
 |p::l,k=>by
  show(if p.1=k then some (f p.2) else cu (gg f l) k)=(if p.1=k then some p.2 else cu l k).map f
  split
  ·rfl
  ·exact wL f l k
theorem wM(f:β→γ): ∀(kv:List (Int×β))(k:Int)(v:β),gg f (dC kv k v)=dC (gg f kv) k (f v)
 |[],k,v=>rfl
 |p::l,k,v=>by
  show gg f (if p.1=k then(p.1,v)::l else p::dC l k v)=if p.1=k then(p.1,f v)::gg f l else(p.1,f p.2)::dC (gg f l) k (f v)
  split
  ·rfl
  ·rw[←wM f l k v];rfl
theorem AB(f:β→γ): ∀(kv:List (Int×β))(k:Int),gg f (dJ kv k)=dJ (gg f kv) k
 |[],k=>rfl
 |p::l,k=>by
  show gg f (if p.1=k then l else p::dJ l k)=if p.1=k then gg f l else(p.1,f p.2)::dJ (gg f l) k
  split
  ·rfl
  ·rw[←AB f l k];rfl
section
variable{β γ:Type}{f:β→γ}{a b:List (Int×β)}{i:Int}{m n:β}
theorem lA(h:gg f a=gg f b)(hm:cu a i=some m): ∃n,cu b i=some n∧f m=f n:=by
 have:=congrArg (cu · i) h;simp only[wL,hm,Option.map_some] at this
 cases e:cu b i with
 |none=>rw[e] at this;cases this
 |some n=>rw[e] at this;exact⟨n,rfl,by simpa using this⟩
theorem J7{δ:Type}(g:γ→δ)(h:gg f a=gg f b):(cu a i).map (fun m=>g<|f m)=(cu b i).map fun m=>g (f m):=by
 have:=congrArg (fun l=>(cu l i).map g) h;simpa only[wL,Option.map_map,Function.comp_def] using this
theorem tK(h:gg f a=gg f b)(hm:cu a i=none):cu b i=none:=by
 cases e:cu b i with
 |none=>rfl
 |some n=>obtain⟨m,h1,-⟩:=lA h.symm e;rw[hm] at h1;cases h1
theorem mZ(h:gg f a=gg f b)(e:f m=f n):gg f (dC a i m)=gg f (dC b i n):=by rw[wM,wM,h,e]
theorem ux(h:gg f a=gg f b):gg f (dJ a i)=gg f (dJ b i):=by rw[AB,AB,h]
end
def gX(m:En):Bool×List Pk×Int×Int×Nat×Cl×Int×Du×Sh×Li:=(m.qb.isSome,qC m.q,m.q.rm,m.q.bs,m.q.sx.length,m.ec,m.tot,m.du,m.sh,m.li)
def gA(a b:List (Int×En)):Prop:=gg gX a=gg gX b
def Jt(v:Vt):List (Int×It):=v.kv
def ik(a b:List (Int×Vt)):Prop:=gg Jt a=gg Jt b
def KE(kk:List (Int×Vt)):Prop:= ∀p v,cu kk p=some v→dq v.t v.kv
variable{m:En}
theorem lY{n:En}(e:gX m=gX n):m.qb.isSome=n.qb.isSome∧qC m.q=qC n.q∧m.q.rm=n.q.rm∧m.q.bs=n.q.bs∧m.q.sx.length=n.q.sx.length∧m.ec=n.ec∧m.tot=n.tot∧m.du=n.du∧m.sh=n.sh∧m.li=n.li:=by simpa only[gX,Prod.mk.injEq] using e
theorem oC{n:En}(e:m.qb.isSome=n.qb.isSome∧qC m.q=qC n.q∧m.q.rm=n.q.rm∧m.q.bs=n.q.bs∧m.q.sx.length=n.q.sx.length∧m.ec=n.ec∧m.tot=n.tot∧m.du=n.du∧m.sh=n.sh∧m.li=n.li):gX m=gX n:=by simpa only[gX,Prod.mk.injEq] using e
theorem SN{n:Int}{k:En}(e:gX m=gX k):gX (ns n m)=gX (ns n k):=by
 obtain⟨h1,h2,h3,h4,h5,h6,h7,h8,h9,h10⟩:=lY e
 exact oC ⟨h1,h2,h3,h4,h5,h6,by simp only[ns,h7],h8,by simp only[ns,h7,h9],by simp only[ns,h7,h10]⟩
theorem CB{n:Int}: ∀(l:List Int){a b:List (Int×En)},gA a b→gA (kN n l a) (kN n l b)
 |[],_,_,h=>h
 |i::l,a,b,h=>by
  cases e:cu a i with
  |none=>simp only[kN,e,tK h e];exact CB l h
  |some m=>obtain⟨k,hk,he⟩:=lA h e;simp only[kN,e,hk];exact CB l<|mZ h<|SN he
theorem Ce: ∀(l:List Int){a b:List (Int×En)},gA a b→gA (mn l a) (mn l b)
 |[],_,_,h=>h
 |i::l,a,b,h=>by
  cases e:cu a i with
  |none=>simp only[mn,e,tK h e];exact Ce l h
  |some m=>
   obtain⟨k,hk,he⟩:=lA h e;simp only[mn,e,hk]
   obtain⟨h1,h2,h3,h4,h5,h6,h7,h8,h9,h10⟩:=lY he
   exact Ce l<|mZ h<|oC ⟨h1,h2,h3,h4,h5,h6,h7,h8,rfl,h10⟩
theorem HQ: ∀{l m:List It},fa l→fa m→(∀y,y∈l↔y∈m)→l=m
 |[],[],_,_,_=>rfl
 |[],b::m,_,_,h=>by have:=(h b).2 (List.mem_cons_self ..);cases this
 |a::l,[],_,_,h=>by have:=(h a).1 (List.mem_cons_self ..);cases this
 |a::l,b::m,h1,h2,h=>by
  obtain⟨p1,q1⟩:=List.pairwise_cons.1 h1
  obtain⟨p2,q2⟩:=List.pairwise_cons.1 h2
  have e:a=b:=by
   rcases List.mem_cons.1 ((h a).1 (List.mem_cons_self ..)) with e|e
   ·exact e
   ·rcases List.mem_cons.1 ((h b).2 (List.mem_cons_self ..)) with e'|e'
    ·exact e'.symm
    ·exact absurd (p1 b e')<|wT<|p2 a e
  subst e
  rw[HQ q1 q2 fun y=>?_]
  constructor
  ·intro hy
   rcases List.mem_cons.1 ((h y).1 (List.mem_cons_of_mem _ hy)) with e|e
   ·subst e;exact absurd (p1 y hy) Hj
   ·exact e
  ·intro hy
   rcases List.mem_cons.1 ((h y).2 (List.mem_cons_of_mem _ hy)) with e|e
   ·subst e;exact absurd (p2 y hy) Hj
   ·exact e
theorem Cf{t s:T}{kv:List (Int×It)}(h:dq t kv)(k:dq s kv):t.toL=s.toL:=HQ h.wf.srt k.wf.srt fun y=>(h.mem y).trans (k.mem y).symm
theorem yZ{a b:List (Int×Vt)}(h:ik a b)(h1:KE a)(h2:KE b)(p:Int):((cu a p).map fun v:Vt=>v.t.toL)=(cu b p).map fun v:Vt=>v.t.toL:=by
 cases e:cu a p with
 |none=>rw[tK h e]
 |some v=>obtain⟨u,e2,e3⟩:=lA h e;rw[e2];exact congrArg some<|Cf (h1 p v e)<|(show v.kv=u.kv from e3)▸h2 p u e2
variable{kk:List (Int×Vt)}
theorem tL{p:Int}{v:Vt}(h:KE kk)(hv:dq v.t v.kv):KE (dC kk p v):=fun q u hu=>by
 rw[fm] at hu;split at hu
 ·cases hu;exact hv
 ·exact h q u hu
theorem Ic{p:Int}(hn:(kk.map (·.1)).Nodup)(h:KE kk):KE (dJ kk p):=fun q u hu=>by
 rw[iG hn] at hu;split at hu
 ·cases hu
 ·exact h q u hu
section
variable{a b:List (Int×En)}{ka la:List (Int×MB)}{kk lk kk' lk':List (Int×Vt)}{on:List (Int×Int)}{now:Int}
theorem rR(h:kx ka=kx la)(i:Int):fR on ka i=fR on la i:=by unfold fR;rw[h]
theorem SO(hx:kx ka=kx la)(h:ik kk lk)(h1:KE kk)(h2:KE lk){n:En}(e:gX m=gX n):kL on ka kk m=kL on la lk n:=by
 obtain⟨-,-,-,-,-,e1,-,-,-,e2⟩:=lY e
 unfold kL;rw[e1,e2,rR hx,yZ h h1 h2]
theorem SQ(h:ik kk lk)(h1:KE kk)(h2:KE lk)(p:Int):oq kk p=oq lk p:=by unfold oq;rw[yZ h h1 h2]
theorem Ci(h:ik kk lk)(h1:KE kk)(h2:KE lk): ∀(l:List Int){a b:List (Int×En)},gA a b→gA (j8 kk now l a) (j8 lk now l b)
 |[],_,_,h=>h
 |i::l,a,b,hb=>by
  cases e:cu a i with
  |none=>simp only[j8,e,tK hb e];exact Ci h h1 h2 l hb
  |some m=>
   obtain⟨k,hk,he⟩:=lA hb e;simp only[j8,e,hk]
   obtain⟨g1,g2,g3,g4,g5,g6,g7,g8,g9,g10⟩:=lY he
   exact Ci h h1 h2 l<|mZ hb<|oC ⟨g1,g2,g3,g4,g5,g6,g7,g8,by simp only[oH,g6,g7,g9,SQ h h1 h2],by simp only[oH,g6,g7,g10]⟩
theorem yE(hb:gA a b)(hx:kx ka=kx la): ∀(l:List Int){kk lk kk' lk':List (Int×Vt)},ik kk lk→KE kk→KE lk→kM on ka a l kk kk'→kM on la b l lk lk'→ik kk' lk'∧KE kk'∧KE lk'
 |[],_,_,_,_,h,h1,h2,s1,s2=>by cases s1;cases s2;exact⟨h,h1,h2⟩
 |i::l,kk,lk,kk',lk',h,h1,h2,s1,s2=>by
  rcases s1 with⟨c1,s1⟩|⟨c1,m,v,t,hm,hv,ht,s1⟩<;>rcases s2 with⟨c2,s2⟩|⟨c2,n,u,s,hn,hu,hs,s2⟩
  ·exact yE hb hx l h h1 h2 s1 s2
  ·rw[rR hx,c2] at c1;cases c1
  ·rw[rR hx,c2] at c1;cases c1
  ·obtain⟨n',g1,g2⟩:=lA hb hm
   rw[hn] at g1;cases g1
   have hc:=(lY g2).2.2.2.2.2.1
   obtain⟨u',g3,g4⟩:=lA h hv
   rw[hc,hu] at g3;cases g3
   refine yE hb hx l ?_ (tL h1 ht) (tL h2 hs) s1 s2
   rw[hc]
   refine mZ h ?_
   show dC v.kv i _=dC u.kv i _
   rw[show v.kv=u.kv from g4,SO hx h h1 h2 g2,(lY g2).2.2.2.2.2.2.2.2.1]
variable{kc:List (Int×Cl)}
theorem HT: ∀(l:List Int){kk lk kk' lk':List (Int×Vt)},ik kk lk→KE kk→KE lk→mW kc l kk kk'→mW kc l lk lk'→ik kk' lk'∧KE kk'∧KE lk'
 |[],_,_,_,_,h,h1,h2,s1,s2=>by cases s1;cases s2;exact⟨h,h1,h2⟩
 |i::l,kk,lk,kk',lk',h,h1,h2,⟨c,v,t,hc,hv,ht,s1⟩,⟨c2,u,s,hc2,hu,hs,s2⟩=>by
  rw[hc] at hc2;cases hc2
  obtain⟨u',g3,g4⟩:=lA h hv
  rw[hu] at g3;cases g3
  exact HT l (mZ h (by show dJ v.kv i=dJ u.kv i;rw[show v.kv=u.kv from g4])) (tL h1 ht) (tL h2 hs) s1 s2
theorem HU: ∀(l:List Int){a b a' b':List (Int×En)}{kk lk:List (Int×Vt)},gA a b→ik kk lk→oa kc l a kk a'→oa kc l b lk b'→gA a' b'
 |[],_,_,_,_,_,_,h,_,s1,s2=>by cases s1;cases s2;exact h
 |i::l,a,b,a',b',kk,lk,hb,h,⟨c,v,t,hc,hv,s1⟩,⟨c2,u,s,hc2,hu,s2⟩=>by
  rw[hc] at hc2;cases hc2
  obtain⟨u',g3,g4⟩:=lA h hv
  rw[hu] at g3;cases g3
  have g4:v.kv=u.kv:=g4
  refine HU l ?_ (mZ h (by show dJ v.kv i=dJ u.kv i;rw[g4])) s1 s2
  rw[g4];split
  ·exact Ce _ hb
  ·exact hb
theorem SU(h:gA a b)(i:Int):o9 a i=o9 b i:=congrArg (·.getD false)<|J7 (i:=i) (fun x=>x.2.2.2.2.2.1.hl) h
theorem SV(h:ik kk lk)(h1:KE kk)(h2:KE lk)(i:Int):kY kk now i=kY lk now i:=by unfold kY;rw[yZ h h1 h2]
theorem Ie(hb:gA a b)(h:ik kk lk)(h1:KE kk)(h2:KE lk): ∀(f:Nat)(i:Int),jQ a kk now f i=jQ b lk now f i
 |0,_=>rfl
 |f+1,i=>by
  unfold jQ;rw[SV h h1 h2]
  cases kY lk now i with
  |none=>rfl
  |some y=>simp only[SU hb,Ie hb h h1 h2 f]
variable{ek:List (Int×It)}
theorem Ui{et es:T}(hb:gA a b)(h:ik kk lk)(h1:KE kk)(h2:KE lk)(h3:dq et ek)(h4:dq es ek):eU et a kk now=eU es b lk now:=by
 unfold eU;rw[Cf h3 h4,Ie hb h h1 h2]
theorem UT{et es:T}(h:ik kk lk)(h1:KE kk)(h2:KE lk)(h3:dq et ek)(h4:dq es ek):jh et kk=jh es lk:=by
 unfold jh;rw[Cf h3 h4,yZ h h1 h2]
end
variable{ym:List (Int×Pl)}{on on1 on2:List (Int×Int)}{ka la k1 l1:List (Int×MB)}{x y:List Int}
theorem J8{c e1 e2:Int}(hx:kx ka=kx la)(h:oG ym on ka c on1 k1 x e1)(k:oG ym on la c on2 l1 y e2):on1=on2∧kx k1=kx l1∧x=y:=by
 rcases h with⟨p1,p2,-,p3,p4,p5⟩|⟨p1,-,rfl,rfl,rfl⟩<;>rcases k with⟨q1,q2,-,q3,q4,q5⟩|⟨q1,-,rfl,rfl,rfl⟩
 ·rw[p3,p4,p5,q3,q4,q5,hx];exact⟨rfl,rfl,rfl⟩
 ·rw[rR hx] at p2;rcases q1 with q1|q1
  ·rw[q1] at p1;cases p1
  ·rw[q1] at p2;cases p2
 ·rw[rR hx] at p1;rcases p1 with p1|p1
  ·rw[q1] at p1;cases p1
  ·rw[q2] at p1;cases p1
 ·exact⟨rfl,hx,rfl⟩
theorem SX{c e1 e2:Int}(hx:kx ka=kx la)(h:qR ym on ka c on1 k1 x e1)(k:qR ym on la c on2 l1 y e2):on1=on2∧kx k1=kx l1∧x=y:=by
 rcases h with⟨p1,p2,-,p3,p4,p5⟩|⟨p1,-,rfl,rfl,rfl⟩<;>rcases k with⟨q1,q2,-,q3,q4,q5⟩|⟨q1,-,rfl,rfl,rfl⟩
 ·rw[p3,p4,p5,q3,q4,q5,hx];exact⟨rfl,rfl,rfl⟩
 ·rw[rR hx] at p2;rcases q1 with q1|q1
  ·rw[q1] at p1;cases p1
  ·rw[q1] at p2;cases p2
 ·rw[rR hx] at p1;rcases p1 with p1|p1
  ·rw[q1] at p1;cases p1
  ·rw[q2] at p1;cases p1
 ·exact⟨rfl,hx,rfl⟩
variable{q:Qu}
theorem J9{b:Option Nat}(h:b.isSome=true→j7 q):eW b q=if b.isSome=false then 0 else((qC q).head?.map fun x:Pk=>x.qn).getD 0:=by
 cases b with
 |none=>rfl
 |some b=>
  have hk:=h rfl
  unfold eW qC
  cases e:q.n with
  |zero=>simp
  |succ k=>simp[List.range_succ_eq_map,Nat.mod_eq_of_lt hk.1]
variable{n:En}
theorem UU{sn:Int}{br:Bool}(e:gX m=gX n)(h:m.qb.isSome=true→j7 m.q)(k:n.qb.isSome=true→j7 n.q):y7 m sn br=y7 n sn br:=by
 obtain⟨h1,h2,-,-,-,-,-,h8,-,-⟩:=lY e
 unfold y7;rw[J9 h,J9 k,h1,h2,h8]
variable{i:Int}{a b a' b':List (Int×En)}{et es et' es':T}{ek ek' el':List (Int×It)}
theorem SY{sn:Int}{br:Bool}(hb:gA a b)(e:gX m=gX n)(hm:m.qb.isSome=true→j7 m.q)(hn:n.qb.isSome=true→j7 n.q)(h1:dq et ek)(h2:dq es ek)
  (h:ot i m sn br a et ek a' et' ek')(k:ot i n sn br b es ek b' es' el'):gA a' b'∧ek'=el'∧dq et' ek'∧dq es' el':=by
 obtain⟨g1,g2,g3,g4,g5,g6,g7,g8,g9,g10⟩:=lY e
 rcases h with⟨c1,d,rfl,p1,p2,p3⟩|⟨c1,rfl,rfl,rfl⟩<;>rcases k with⟨c2,d2,rfl,q1,q2,q3⟩|⟨c2,rfl,rfl,rfl⟩
 ·have ed:d=d2:=by rw[p3,q3,UU e hm hn]
  refine⟨mZ hb<|oC ⟨g1,g2,g3,g4,g5,g6,g7,ed,g9,g10⟩,?_,p1,q1⟩
  rcases p2 with⟨r1,rfl⟩|⟨r1,rfl⟩<;>rcases q2 with⟨r2,rfl⟩|⟨r2,rfl⟩
  ·rw[ed,g6]
  ·rw[g2] at r1;exact absurd r2 r1
  ·rw[g2] at r1;exact absurd r1 r2
  ·rw[ed,g6]
 ·rw[g6,c2] at c1;cases c1
 ·rw[g6,c2] at c1;cases c1
 ·exact⟨hb,rfl,h1,h2⟩
variable{kc:List (Int×Cl)}{lk kk' lk':List (Int×Vt)}
theorem N6(hb:gA a b)(hx:kx ka=kx la)(hk:ik kk lk)(h1:KE kk)(h2:KE lk)
  (h:sZ kc i a ym on ka kk a' on1 k1 kk')(k:sZ kc i b ym on la lk b' on2 l1 lk'):gA a' b'∧on1=on2∧kx k1=kx l1∧ik kk' lk'∧KE kk'∧KE lk':=by
 obtain⟨l,e,p1,-,-,p2,p3⟩:=h
 obtain⟨m,f,q1,-,-,q2,q3⟩:=k
 obtain⟨r1,r2,rfl⟩:=SX hx p1 q1
 obtain⟨s1,s2,s3⟩:=HT l hk h1 h2 p2 q2
 exact⟨HU l hb hk p3 q3,r1,r2,s1,s2,s3⟩
theorem SZ{r q' r':Qu}{x y:Pk}(e:qC q=qC r∧q.rm=r.rm∧q.bs=r.bs∧q.sx.length=r.sx.length)(h:rT q x q')(k:rT r y r'):x=y∧qC q'=qC r'∧q'.rm=r'.rm∧q'.bs=r'.bs∧q'.sx.length=r'.sx.length:=by
 obtain⟨e1,e2,e3,e4⟩:=e
 obtain⟨-,p1,p2,p3,p4⟩:=h
 obtain⟨-,q1,q2,q3,q4⟩:=k
 rw[e1,q1] at p1;obtain⟨rfl,s⟩:=List.cons.inj p1
 exact⟨rfl,s.symm,by rw[p2,q2,e2],by rw[p4,q4,e3],by rw[p3,q3,e4]⟩
theorem PN{ch:Int×Bool×Bool}{z y:Pd}{ok oj:Bool}
  (hb:gA a b)(hx:kx ka=kx la)(h1:dq et ek)(h2:dq es ek)(hk:ik kk lk)(h3:KE kk)(h4:KE lk)
  (h:yQ kc ch z ok a ym on ka et ek kk a' on1 k1 et' ek' kk')(k:yQ kc ch y oj b ym on la es ek lk b' on2 l1 es' el' lk'):
  ok=oj∧(ok=true→z=y)∧gA a' b'∧on1=on2∧kx k1=kx l1∧ek'=el'∧dq et' ek'∧dq es' el'∧ik kk' lk'∧KE kk'∧KE lk':=by
 rcases h with⟨c1,rfl,rfl,rfl,rfl,rfl,rfl,rfl⟩|⟨c1,rfl,z1,z8,m,q,hm,hp,m2,kb2,kb3,kk2,rfl,hm2,p1,p2,p3,hd,hs,ht⟩<;>rcases k with⟨c2,rfl,rfl,rfl,rfl,rfl,rfl,rfl⟩|⟨c2,rfl,y1,y8,n,r,hn,hq,n2,lb2,lb3,lk2,rfl,hn2,q1,q2,q3,hd',hs',ht'⟩
 ·exact⟨rfl,(fun h=>by cases h),hb,rfl,hx,rfl,h1,h2,hk,h3,h4⟩
 ·rw[c2] at c1;cases c1
 ·rw[c2] at c1;cases c1
 ·obtain⟨n',g1,ge⟩:=lA hb hm
  rw[hn] at g1;cases g1
  obtain⟨g1,g2,g3,g4,g5,g6,g7,g8,g9,g10⟩:=lY ge
  obtain⟨w1,w2,w3,w4,w5⟩:=SZ ⟨g2,g3,g4,g5⟩ hp hq
  have hz:z=y:=by
   cases z;cases y;simp only[mC,Pk.mk.injEq] at w1 z1 z8 y1 y8
   obtain⟨rfl,rfl,rfl,rfl,rfl,rfl⟩:=w1;subst z1;subst z8;subst y1;subst y8;rfl
  subst hz
  have hb2:=CB (n:=z.gq3) (db kc ch.1)<|mZ (i:=ch.1) hb<|oC (m:={m with q:=q}) (n:={n with q:=r}) ⟨g1,w2,w3,w4,w5,g6,g7,g8,g9,g10⟩
  obtain⟨n3,u1,u2⟩:=lA hb2 hm2
  rw[hn2] at u1;cases u1
  obtain⟨d1,d2,d3,d4⟩:=SY hb2 u2 (fun _=>p2▸hp.1) (fun _=>q2▸hq.1) h1 h2 hd hd'
  have hS:gA a' b'∧on1=on2∧kx k1=kx l1∧ik kk2 lk2∧KE kk2∧KE lk2:=by
   rcases hs with⟨s1,rfl,rfl,rfl,rfl⟩|⟨s1,hs⟩<;>rcases hs' with⟨t1,rfl,rfl,rfl,rfl⟩|⟨t1,hs'⟩
   ·exact⟨d1,rfl,hx,hk,h3,h4⟩
   ·rw[w2] at s1;exact absurd t1 s1
   ·rw[w2] at s1;exact absurd s1 t1
   ·exact N6 d1 hx hk h3 h4 hs hs'
  obtain⟨b1,rfl,b3,b4,b5,b6⟩:=hS
  obtain⟨a1,a2,a3⟩:=yE b1 b3 _ b4 b5 b6 ht ht'
  exact⟨rfl,fun _=>rfl,b1,rfl,b3,d2,d3,d4,a1,a2,a3⟩
variable{now:Int}
theorem PO{h:Int}
  (hb:gA a b)(e:gX m=gX n)(hx:kx ka=kx la)(h1:dq et ek)(h2:dq es ek)(hk:ik kk lk)(h3:KE kk)(h4:KE lk)
  (h5:yP kc now h i m a ym on ka et ek kk a' on1 k1 et' ek' kk')(h6:yP kc now h i n b ym on la es ek lk b' on2 l1 es' el' lk'):
  gA a' b'∧on1=on2∧kx k1=kx l1∧ek'=el'∧dq et' ek'∧dq es' el'∧ik kk' lk'∧KE kk'∧KE lk':=by
 obtain⟨g1,g2,g3,g4,g5,g6,g7,g8,g9,g10⟩:=lY e
 obtain⟨a1,pa,pb⟩:=h5
 obtain⟨b1,qa,qb⟩:=h6
 rw[g6] at pa pb
 have hA:gA a1 b1∧ek'=el'∧dq et' ek'∧dq es' el':=by
  rcases pa with⟨r1,rfl,rfl,r2⟩|⟨r1,rfl,rfl,rfl⟩<;>rcases qa with⟨s1,rfl,rfl,s2⟩|⟨s1,rfl,rfl,rfl⟩
  ·refine⟨mZ hb<|oC ⟨g1,g2,g3,g4,g5,rfl,g7,by simp only[g8],g9,g10⟩,by rw[g8],r2,s2⟩
  ·rw[s1] at r1;cases r1
  ·rw[s1] at r1;cases r1
  ·exact⟨hb,rfl,h1,h2⟩
 obtain⟨A1,A2,A3,A4⟩:=hA
 rcases pb with⟨r1,l,er,r2,rfl,r4⟩|⟨r1,rfl,rfl,rfl,rfl⟩<;>rcases qb with⟨s1,l',er',s2,rfl,s4⟩|⟨s1,rfl,rfl,rfl,rfl⟩
 ·obtain⟨rfl,t2,rfl⟩:=J8 hx r2 s2
  have hu:=Ci (now:=now) hk h3 h4 l A1
  obtain⟨v1,v2,v3⟩:=yE hu t2 _ hk h3 h4 r4 s4
  exact⟨hu,rfl,t2,A2,A3,A4,v1,v2,v3⟩
 ·rw[s1] at r1;cases r1
 ·rw[s1] at r1;cases r1
 ·exact⟨A1,rfl,hx,A2,A3,A4,hk,h3,h4⟩
variable{p:Pk}
theorem PQ{r q' r':Qu}{e f:Int}(h0:qC q=qC r∧q.rm=r.rm∧q.bs=r.bs∧q.sx.length=r.sx.length)(h:kH q p q' e)(k:kH r p r' f):e=f∧qC q'=qC r'∧q'.rm=r'.rm∧q'.bs=r'.bs∧q'.sx.length=r'.sx.length:=by
 obtain⟨e1,e2,e3,e4⟩:=h0
 have hr:qN q p↔qN r p:=by
  unfold qN;rw[e2,e3,e4,show q.n=r.n from by rw[←kT q,←kT r,e1]]
 obtain⟨-,p1,p2,p3⟩:=h
 obtain⟨-,q1,q2,q3⟩:=k
 rcases p3 with⟨r1,rfl,r2,r3⟩|⟨r1,rfl,r2,r3⟩<;>rcases q3 with⟨s1,rfl,s2,s3⟩|⟨s1,rfl,s2,s3⟩
 ·exact⟨rfl,by rw[r2,s2,e1],by rw[p1,q1,e2],by rw[r3,s3,e3],by rw[p2,q2,e4]⟩
 ·exact absurd (hr.1 r1) s1
 ·exact absurd (hr.2 s1) r1
 ·exact⟨rfl,by rw[r2,s2,e1],by rw[p1,q1,e2],by rw[r3,s3,e3],by rw[p2,q2,e4]⟩
theorem HV{e:Int}(h:kH m.q p q e)(he:e≠0):gX {m with q:=q}=gX m:=by
 obtain⟨-,p1,p2,⟨-,rfl,-⟩|⟨-,-,p3,p4⟩⟩:=h
 ·exact absurd rfl he
 ·exact oC ⟨rfl,p3,p1,p4,p2,rfl,rfl,rfl,rfl,rfl⟩
theorem If{kb:List (Int×En)}(hm:cu kb i=some m)(e:gX n=gX m):gA (dC kb i n) kb:=by
 unfold gA;rw[wM,e]
 have h:cu (gg gX kb) i=some (gX m):=by rw[wL,hm];rfl
 generalize gg gX kb=l at h
 induction l with
 |nil=>cases h
 |cons p l ih=>
  unfold cu at h;unfold dC;split
  ·rename_i c;rw[if_pos c] at h;rw[←Option.some.inj h]
  ·rename_i c;rw[if_neg c] at h;rw[ih h]
variable{ac ci:Int}
theorem S0(hb:gA a b):putE lm ac a ci p=putE lm ac b ci p:=by
 unfold putE
 cases e:cu a ci with
 |none=>rw[tK hb e]
 |some m=>obtain⟨n,h1,h2⟩:=lA hb e;rw[h1];simp only[(lY h2).2.2.2.2.2.1]
theorem HW(hb:gA a b)(h:yR lm ac a ci p m): ∃n,yR lm ac b ci p n∧gX m=gX n:=by
 obtain⟨h1,h2,h3,h4,h5,h6⟩:=h
 obtain⟨n,k1,k2⟩:=lA hb h1
 obtain⟨g1,g2,g3,g4,g5,g6,-⟩:=lY k2
 refine⟨n,⟨k1,g6▸h2,h3,h4,h5,?_⟩,k2⟩
 unfold qN at*;rw[←g3,←g4,←g5,show n.q.n=m.q.n from by rw[←kT,←kT,g2]];exact h6
variable{er:Int}
theorem S1{es_ ac' bc':Int}
  (hb:gA a b)(hx:kx ka=kx la)(h1:dq et ek)(h2:dq es ek)(hk:ik kk lk)(h3:KE kk)(h4:KE lk)
  (h:yW kc lm now ci p er a ym on ka et ek kk ac a' on1 k1 et' ek' kk' ac')(k:yW kc lm now ci p es_ b ym on la es ek lk ac b' on2 l1 es' el' lk' bc'):
  er=es_∧ac'=bc'∧gA a' b'∧on1=on2∧kx k1=kx l1∧ek'=el'∧dq et' ek'∧dq es' el'∧ik kk' lk'∧KE kk'∧KE lk':=by
 have no: ∀{x x':List (Int×En)},(x'=x∨ ∃m q e,cu x ci=some m∧kH m.q p q e∧e≠0∧x'=dC x ci {m with q:=q})→gA x' x:=by
  rintro x x' (rfl|⟨m,q,e,hm,hp,he,rfl⟩)
  ·rfl
  ·exact If hm<|HV hp he
 rcases h with⟨r1,r2,rfl,r3,rfl,rfl,rfl,rfl,rfl,r4⟩|⟨rfl,rfl,m,q,r1,r2,r3⟩<;>rcases k with⟨s1,s2,rfl,s3,rfl,rfl,rfl,rfl,rfl,s4⟩|⟨rfl,rfl,n,r,s1,s2,s3⟩
 ·exact⟨by rw[r4,s4,S0 hb],rfl,(no r3).trans (hb.trans (no s3).symm),rfl,hx,rfl,h1,h2,hk,h3,h4⟩
 ·obtain⟨m,h5,-⟩:=HW hb.symm s1;exact absurd h5<|r2 m
 ·obtain⟨m,h5,-⟩:=HW hb r1;exact absurd h5<|s2 m
 ·obtain⟨n',g0,ge⟩:=lA hb r1.1
  rw[s1.1] at g0;cases g0
  obtain⟨g1,g2,g3,g4,g5,g6,g7,g8,g9,g10⟩:=lY ge
  obtain⟨-,w2,w3,w4,w5⟩:=PQ ⟨g2,g3,g4,g5⟩ r2 s2
  have hc:gX {m with q:=q}=gX {n with q:=r}:=oC ⟨g1,w2,w3,w4,w5,g6,g7,g8,g9,g10⟩
  have hb2:gA (dC a ci {m with q:=q}) (dC b ci {n with q:=r}):=mZ hb hc
  refine⟨rfl,rfl,?_⟩
  rcases r3 with⟨t1,r3⟩|⟨t1,rfl,rfl,rfl,rfl,rfl,rfl⟩<;>rcases s3 with⟨u1,s3⟩|⟨u1,rfl,rfl,rfl,rfl,rfl,rfl⟩
  ·exact PO hb2 hc hx h1 h2 hk h3 h4 r3 s3
  ·rw[w2] at t1;exact absurd t1 u1
  ·rw[w2] at t1;exact absurd u1 t1
  ·exact⟨hb2,rfl,hx,rfl,h1,h2,hk,h3,h4⟩
theorem PR{c:Cl}(h:u9 c m)(k:u9 c n):gX m=gX n:=by
 obtain⟨a1,a2,a3,a4,a5,a6,a7,a8⟩:=h
 obtain⟨b1,b2,b3,b4,b5,b6,b7,b8⟩:=k
 have h1:=a2.lf;have h2:=b2.lf
 rw[a1] at h1;rw[b1] at h2
 have hb:m.qb.isSome=n.qb.isSome:=by cases e1:m.qb.isSome<;>cases e2:n.qb.isSome<;>simp_all
 cases e:c.hl with
 |true=>
  obtain⟨-,p1,p2,p3,p4⟩:=a7 e
  obtain⟨-,q1,q2,q3,q4⟩:=b7 e
  exact oC ⟨hb,by rw[p1,q1],by rw[p2,q2],by rw[p3,q3],by omega,by rw[a1,b1],by rw[a3,b3],by rw[a4,b4],by rw[a5,b5],by rw[a6,b6]⟩
 |false=>exact oC ⟨hb,by rw[a8 e,b8 e],by rw[a8 e,b8 e],by rw[a8 e,b8 e],by rw[a8 e,b8 e],by rw[a1,b1],by rw[a3,b3],by rw[a4,b4],by rw[a5,b5],by rw[a6,b6]⟩
theorem yV: ∀(l:List Int){a b a' b':List (Int×En)}{kk lk kk' lk':List (Int×Vt)},gA a b→ik kk lk→KE kk→KE lk→(kk.map (·.1)).Nodup→(lk.map (·.1)).Nodup→nN kc l a kk a' kk'→nN kc l b lk b' lk'→gA a' b'∧ik kk' lk'∧KE kk'∧KE lk'
 |[],_,_,_,_,_,_,_,_,hb,hk,h1,h2,_,_,⟨e1,e2⟩,⟨e3,e4⟩=>by subst e1 e2 e3 e4;exact⟨hb,hk,h1,h2⟩
 |i::l,a,b,a',b',kk,lk,kk',lk',hb,hk,h1,h2,n1,n2,⟨a1,k1,s1,r1⟩,⟨b1,l1,s2,r2⟩=>by
  have d1:=Ic (p:=i) n1 h1;have d2:=Ic (p:=i) n2 h2
  have e1:=kB n1 i;have e2:=kB n2 i
  rcases s1 with⟨p1,rfl,rfl⟩|⟨p1,m,p2,rfl,p3⟩<;>rcases s2 with⟨q1,rfl,rfl⟩|⟨q1,n,q2,rfl,q3⟩
  ·exact yV l (ux hb) (ux hk) d1 d2 e1 e2 r1 r2
  ·exact absurd q1 p1
  ·exact absurd p1 q1
  ·have hp:=mZ (i:=i) (ux (i:=i) hb)<|PR p2 q2
   rcases p3 with⟨p3,rfl⟩|⟨p3,v,p4,p5,rfl⟩<;>rcases q3 with⟨q3,rfl⟩|⟨q3,u,q4,q5,rfl⟩
   ·exact yV l hp (ux hk) d1 d2 e1 e2 r1 r2
   ·rw[p3] at q3;cases q3
   ·rw[p3] at q3;cases q3
   ·exact yV l hp (mZ (ux hk) (by show v.kv=u.kv;rw[p4,q4])) (tL d1 (by rw[p4,p5];exact pX)) (tL d2 (by rw[q4,q5];exact pX)) (kj e1 i v) (kj e2 i u) r1 r2
theorem Ig: ∀(l:List Int){on on1 on2:List (Int×Int)}{ka la k1 l1:List (Int×MB)},kx ka=kx la→ow ym l on ka on1 k1→ow ym l on la on2 l1→on1=on2∧kx k1=kx l1
 |[],_,_,_,_,_,_,_,hx,⟨e1,e2⟩,⟨e3,e4⟩=>by subst e1 e2 e3 e4;exact⟨rfl,hx⟩
 |i::l,_,_,_,_,_,_,_,hx,⟨a1,a2,a3,a4,h,hr⟩,⟨b1,b2,b3,b4,k,kr⟩=>by
  obtain⟨rfl,e,-⟩:=J8 hx h k
  exact Ig l e hr kr
theorem Uj(h:gA a b)(i:Int):qE a i=qE b i:=by
 have:=J7 (i:=i) (fun x=>x.2.1) h
 simp only[gX] at this
 have h2:=congrArg (fun o:Option (List Pk)=>(o.map (·.length)).getD 0) this
 simp only[Option.map_map,Function.comp_def] at h2
 unfold qE
 cases e:cu a i with
 |none=>rw[tK h e]
 |some m=>obtain⟨n,h1,h2⟩:=lA h e;rw[h1];simp only[Option.map_some,(lY h2).2.1]
theorem Cj(h:gA a b):eu kc a=eu kc b:=by
 unfold eu;rw[show(fun i=> !qE a i)=fun i=> !qE b i from funext fun i=>by rw[Uj h]]
theorem UW(h:gA a b):mD kc a=mD kc b:=funext fun c=>by unfold mD;rw[Cj h]
structure Sim(d e:Sd):Prop where
 kc:d.kc=e.kc
 kb:gA d.kb e.kb
 ym:d.a.ym=e.a.ym
 on:d.on=e.on
 ka:kx d.ka=kx e.ka
 ek:d.ek=e.ek
 ac:d.ac=e.ac
 kk:ik d.kk e.kk
 e1:dq d.et d.ek
 e2:dq e.et e.ek
 k1:KE d.kk
 k2:KE e.kk
variable{d e:Sd}
theorem Sim.rfl2(h:Sim d e):Sim e e:=⟨rfl,rfl,rfl,rfl,rfl,rfl,rfl,rfl,h.e2,h.e2,h.k2,h.k2⟩
theorem Sim.rfl1(h:Sim d e):Sim d d:=⟨rfl,rfl,rfl,rfl,rfl,rfl,rfl,rfl,h.e1,h.e1,h.k1,h.k1⟩
theorem Sim.symm(h:Sim d e):Sim e d:=⟨h.kc.symm,h.kb.symm,h.ym.symm,h.on.symm,h.ka.symm,h.ek.symm,h.ac.symm,h.kk.symm,h.e2,h.e1,h.k2,h.k1⟩
theorem Sim.trans{f:Sd}(h:Sim d e)(k:Sim e f):Sim d f:=⟨h.kc.trans k.kc,h.kb.trans k.kb,h.ym.trans k.ym,h.on.trans k.on,h.ka.trans k.ka,h.ek.trans k.ek,h.ac.trans k.ac,h.kk.trans k.kk,h.e1,k.e2,h.k1,k.k2⟩
theorem HY(h:jT d)(k:jT e):Sim d e:=by
 obtain⟨a1,a2,a3,a4,a5,a6,a7,⟨v,a8,a9,a10⟩,-,a11⟩:=h
 obtain⟨b1,b2,b3,b4,b5,b6,b7,⟨u,b8,b9,b10⟩,-,b11⟩:=k
 have ke: ∀{v:Vt},v.kv=[]→v.t=T.nil→KE [(0,v)]:=fun{v}h1 h2 p u hu=>by
  unfold cu at hu;split at hu
  ·cases hu;rw[h1,h2];exact pX
  ·cases hu
 refine⟨by rw[a1,b1],by rw[a2,b2];rfl,by rw[a3,b3],by rw[a4,b4],by rw[a5,b5],by rw[a7,b7],by rw[a11,b11],?_,by rw[a6,a7];exact pX,by rw[b6,b7];exact pX,by rw[a8];exact ke a9 a10,by rw[b8];exact ke b9 b10⟩
 rw[a8,b8];show[((0:Int),v.kv)]=[(0,u.kv)];rw[a9,b9]
variable{d' e':Sd}
theorem S3{z y:Pd}{ok oj:Bool}(h:Sim d e)(h1:nj d now z ok d')(h2:nj e now y oj e'):ok=oj∧(ok=true→z=y)∧Sim d' e':=by
 obtain⟨⟨-,-,p1,p2,-⟩,-,p3,p4⟩:=h1
 obtain⟨⟨-,-,q1,q2,-⟩,-,q3,q4⟩:=h2
 rw[←h.kc,←h.ym,←h.on,←h.ek,←Ui h.kb h.kk h.k1 h.k2 h.e1 (h.ek▸h.e2)] at q4
 obtain⟨r1,r2,r3,r4,r5,r6,r7,r8,r9,r10,r11⟩:=PN h.kb h.ka h.e1 (h.ek▸h.e2) h.kk h.k1 h.k2 p4 q4
 exact⟨r1,r2,by rw[p1,q1,h.kc],r3,by rw[p2,q2,h.ym],r4,r5,r6,by rw[p3,q3,h.ac],r9,r7,r8,r10,r11⟩
variable{c c2:Ss}
theorem UX{es:Int}(hc:c.lm=c2.lm)(h:Sim d e)(h1:nt c d now ci p er d')(h2:nt c2 e now ci p es e'):er=es∧Sim d' e':=by
 obtain⟨⟨-,-,p1,p2,-⟩,-,p4⟩:=h1
 obtain⟨⟨-,-,q1,q2,-⟩,-,q4⟩:=h2
 rw[←h.kc,←h.ym,←h.on,←h.ek,←hc,←h.ac] at q4
 obtain⟨r1,r2,r3,r4,r5,r6,r7,r8,r9,r10,r11⟩:=S1 h.kb h.ka h.e1 (h.ek▸h.e2) h.kk h.k1 h.k2 p4 q4
 exact⟨r1,by rw[p1,q1,h.kc],r3,by rw[p2,q2,h.ym],r4,r5,r6,r2,r9,r7,r8,r10,r11⟩
variable{l:List Zc}
theorem N7{idle:Bool}{pl ql es:Int}(hc:c.lt=c2.lt)(n1:pI d)(n2:pI e)(h:Sim d e)(h1:qy c d idle l pl er d')(h2:qy c2 e idle l ql es e'):pl=ql∧er=es∧Sim d' e':=by
 obtain⟨p1,p2,-,p3,p4,-⟩:=h1
 obtain⟨q1,q2,-,q3,q4,-⟩:=h2
 have hok:qT d.kc c.lt idle d.kb l↔qT e.kc c2.lt idle e.kb l:=by unfold qT;rw[h.kc,hc,UW h.kb,Cj h.kb]
 have E1:dq d'.et d'.ek:=by rw[p1,p2];exact h.e1
 have E2:dq e'.et e'.ek:=by rw[q1,q2];exact h.e2
 rcases p4 with⟨-,r1,-,-,r2,r3,r4,r5,r6,r7,r8,r9⟩|⟨r0,r1,r2,r3,r4,r5,r6⟩<;>rcases q4 with⟨-,s1,-,-,s2,s3,s4,s5,s6,s7,s8,s9⟩|⟨s0,s1,s2,s3,s4,s5,s6⟩
 ·refine⟨by rw[r9,s9,h.kc,hc],by rw[r8,s8,h.kc,hc],?_⟩
  exact⟨by rw[r2,s2,h.kc],by rw[r3,s3];exact h.kb,by rw[r4,s4,h.ym],by rw[r5,s5,h.on],by rw[r6,s6,h.ka],by rw[p2,q2,h.ek],by rw[p3,q3,h.ac],by rw[r7,s7];exact h.kk,E1,E2,by rw[r7];exact h.k1,by rw[s7];exact h.k2⟩
 ·exact absurd (hok.2 s1) r1
 ·exact absurd (hok.1 r1) s1
 ·have hkc:d'.kc=e'.kc:=by rw[r2,s2,h.kc]
  rw[hkc,h.kc] at r3
  obtain⟨t1,t2,t3,t4⟩:=yV _ h.kb h.kk h.k1 h.k2 n1.2.1 n2.2.1 r3 s3
  rw[r4,hkc,Cj t1] at r5;rw[s4] at s5
  obtain⟨u1,u2⟩:=Ig _ rfl r5 s5
  exact⟨by rw[r6,s6],by rw[r0,s0],hkc,t1,by rw[r4,s4,hkc],u1,u2,by rw[p2,q2,h.ek],by rw[p3,q3,h.ac],t2,E1,E2,t3,t4⟩
def pN(o:Int)(l:List Ev):List Ev:=l.map fun e=>mG e o
variable{un un1 t:Int}{evs ev1 ev2:List Ev}
theorem Ih{un2 oo pp:Int}(h:Sim d e)(h1:rS d un t oo now evs d' un1 ev1)(h2:rS e un t pp now (pN pp evs) e' un2 ev2):un1=un2∧Sim d' e'∧ev2=pN pp ev1:=by
 rcases h1 with⟨p1,rfl,rfl,rfl⟩|⟨p1,z,ok,p2,p3⟩<;>rcases h2 with⟨q1,rfl,rfl,rfl⟩|⟨q1,y,oj,q2,q3⟩
 ·exact⟨rfl,h,rfl⟩
 ·omega
 ·omega
 ·obtain⟨rfl,r2,r3⟩:=S3 h p2 q2
  rcases p3 with⟨rfl,rfl,rfl⟩|⟨rfl,rfl,rfl⟩<;>rcases q3 with⟨q3,rfl,rfl⟩|⟨q3,rfl,rfl⟩
  ·exact⟨rfl,r3,rfl⟩
  ·cases q3
  ·cases q3
  ·have:=r2 rfl;subst this
   exact⟨rfl,r3,by unfold pN;rw[List.map_append];rfl⟩
theorem DR(h:Sim d e)(clk un:Int):iU clk un d=iU clk un e:=by unfold iU;rw[UT h.kk h.k1 h.k2 h.e1<|h.ek▸h.e2]
theorem UY{oo pp fin:Int}: ∀{clk un un1:Int}{d d':Sd}{evs ev1:List Ev},oL t oo fin clk d un evs d' un1 ev1→ ∀{e e':Sd}{un2:Int}{ev2:List Ev},Sim d e→oL t pp fin clk e un (pN pp evs) e' un2 ev2→un1=un2∧Sim d' e'∧ev2=pN pp ev1:=by
 intro clk un un1 d d' evs ev1 h
 induction h with
 |stop hx=>
  intro e e' un2 ev2 hs k
  rw[DR hs] at hx
  cases k with
  |stop=>exact⟨rfl,hs,rfl⟩
  |step hy=>omega
 |step hx hp _ ih=>
  intro e e' un2 ev2 hs k
  rw[DR hs] at hx hp
  cases k with
  |stop hy=>omega
  |step hy hq kr=>
   obtain⟨rfl,s1,rfl⟩:=Ih hs hp hq
   rw[DR hs] at ih
   exact ih s1 kr
variable{kd tk no clk clk1:Int}{lr rl rl1:List Rl}{x:Rs}
theorem y5{np un2 clk2:Int}{rl2:List Rl}{y:Rs}(hlt:c.lt=c2.lt)(hlm:c.lm=c2.lm)(n1:pI d)(n2:pI e)(h:Sim d e)
  (h1:pR c t kd l lr p tk no d un clk rl x ev1 d' un1 clk1 rl1)(h2:pR c2 t kd l lr p tk np e un clk rl y ev2 e' un2 clk2 rl2):x=y∧ev2=pN np ev1∧Sim d' e'∧un1=un2∧clk1=clk2∧rl1=rl2:=by
 rcases h1 with⟨a0,⟨er,pl,a1,rfl⟩,rfl,rfl,rfl,rfl⟩|⟨a0,rfl,rfl,rfl,rfl,a1⟩|⟨a0,rfl,rfl,a1⟩|⟨a0,rfl,a1⟩|⟨a0,rfl,rfl,rfl,rfl,rfl,rfl⟩<;>
 rcases h2 with⟨b0,⟨es,ql,b1,rfl⟩,rfl,rfl,rfl,rfl⟩|⟨b0,rfl,rfl,rfl,rfl,b1⟩|⟨b0,rfl,rfl,b1⟩|⟨b0,rfl,b1⟩|⟨b0,rfl,rfl,rfl,rfl,rfl,rfl⟩<;>first|omega|skip
 ·obtain⟨rfl,rfl,s⟩:=N7 hlt n1 n2 h a1 b1
  exact⟨rfl,rfl,s,rfl,rfl,rfl⟩
 ·rcases a1 with⟨a1,rfl,rfl⟩|⟨a1,rfl,rfl⟩<;>rcases b1 with⟨b1,rfl,rfl⟩|⟨b1,rfl,rfl⟩
  ·exact⟨rfl,rfl,h,rfl,rfl,rfl⟩
  ·exact absurd a1 b1
  ·exact absurd b1 a1
  ·exact⟨rfl,rfl,h,rfl,rfl,rfl⟩
 ·rcases a1 with⟨a1,rfl,rfl,rfl,rfl⟩|⟨a1,er,d1,a2,a3⟩<;>rcases b1 with⟨b1,rfl,rfl,rfl,rfl⟩|⟨b1,es,e1,b2,b3⟩
  ·exact⟨rfl,rfl,h,rfl,rfl,rfl⟩
  ·exact absurd b1 a1
  ·exact absurd a1 b1
  ·obtain⟨rfl,s⟩:=UX hlm h a2 b2
   rcases a3 with⟨a3,rfl,rfl,rfl,rfl⟩|⟨a3,rfl,a4⟩<;>rcases b3 with⟨b3,rfl,rfl,rfl,rfl⟩|⟨b3,rfl,b4⟩
   ·exact⟨rfl,rfl,s,rfl,rfl,rfl⟩
   ·exact absurd b3 a3
   ·exact absurd a3 b3
   ·obtain⟨rfl,s1,rfl⟩:=Ih (pp:=np) s a4 b4
    exact⟨rfl,rfl,s1,rfl,rfl,rfl⟩
 ·rcases a1 with⟨a1,rfl,rfl,rfl,rfl,rfl⟩|⟨a1,rfl,rfl,a2⟩<;>rcases b1 with⟨b1,rfl,rfl,rfl,rfl,rfl⟩|⟨b1,rfl,rfl,b2⟩
  ·exact⟨rfl,rfl,h,rfl,rfl,rfl⟩
  ·omega
  ·omega
  ·obtain⟨rfl,s1,rfl⟩:=UY (pp:=np) a2 h b2
   exact⟨rfl,rfl,s1,rfl,rfl,rfl⟩
 ·exact⟨rfl,rfl,h,rfl,rfl,rfl⟩
variable{ev:List Ev}
theorem Cm(n1:pI d)(h:Sim d d)(h1:pR c t kd l lr p tk no d un clk rl x ev d' un1 clk1 rl1): ∀e∈ev,e.vq1=no:=by
 obtain⟨-,h2,-⟩:=y5 rfl rfl n1 n1 h h1 h1
 intro e he
 rw[h2] at he;obtain⟨f,-,rfl⟩:=List.mem_map.1 he;rfl
theorem UZ(h:Sim d d)(h1:pR c t kd l lr p tk no d un clk rl x ev d' un1 clk1 rl1)(hx:x.wq1≠0):Sim d' d∧un1=un∧clk1=clk∧rl1=rl∧ev=[]:=by
 rcases h1 with⟨a0,⟨er,pl,a1,rfl⟩,rfl,rfl,rfl,rfl⟩|⟨a0,rfl,rfl,rfl,rfl,a1⟩|⟨a0,rfl,rfl,a1⟩|⟨a0,rfl,a1⟩|⟨a0,rfl,rfl,rfl,rfl,rfl,rfl⟩
 ·refine⟨?_,rfl,rfl,rfl,rfl⟩
  obtain⟨p1,p2,-,p3,p4,-⟩:=a1
  rcases p4 with⟨-,r1,-,-,r2,r3,r4,r5,r6,r7,-⟩|⟨r0,-⟩
  ·exact⟨r2,by rw[r3];rfl,by rw[r4],r5,by rw[r6],p2,p3,by rw[r7];rfl,by rw[p1,p2];exact h.e1,h.e2,by rw[r7];exact h.k1,h.k2⟩
  ·exact absurd r0 hx
 ·rcases a1 with⟨a1,rfl,rfl⟩|⟨a1,rfl,rfl⟩
  ·exact absurd rfl hx
  ·exact⟨h,rfl,rfl,rfl,rfl⟩
 ·rcases a1 with⟨a1,rfl,rfl,rfl,rfl⟩|⟨a1,er,d1,a2,a3⟩
  ·exact⟨h,rfl,rfl,rfl,rfl⟩
  ·rcases a3 with⟨a3,rfl,rfl,rfl,rfl⟩|⟨a3,rfl,a4⟩
   ·refine⟨?_,rfl,rfl,rfl,rfl⟩
    obtain⟨⟨-,-,p1,p2,-⟩,-,p4⟩:=a2
    rcases p4 with⟨-,-,r2,r3,r4,r5,r6,r7,r8,-⟩|⟨r0,-⟩
    ·refine⟨p1,?_,by rw[p2],r4,by rw[r5],r7,r2,by rw[r8];rfl,by rw[r6,r7];exact h.e1,h.e2,by rw[r8];exact h.k1,h.k2⟩
     rcases r3 with r3|⟨m,q,e,hm,hp,he,r3⟩
     ·rw[r3];rfl
     ·rw[r3];exact If hm<|HV hp he
    ·exact absurd r0 a3
   ·exact absurd rfl hx
 ·rcases a1 with⟨a1,rfl,rfl,rfl,rfl,rfl⟩|⟨a1,rfl,rfl,a2⟩
  ·exact⟨h,rfl,rfl,rfl,rfl⟩
  ·exact absurd rfl hx
 ·exact⟨h,rfl,rfl,rfl,rfl⟩
def pP(c:Ss)(d:Sd)(clk:Int):Prop:=Iv c d∧d.ck≤clk∧0≤clk∧clk≤4611686018427387904
def mq(o:fC):Prop:=(∀z∈o.zl,j0 z)∧0≤o.tk
theorem tM{un' clk':Int}{rl':List Rl}(ho:mq o)(h:pP c d clk)(hd:pR c t o.kd o.zl o.rl o.op o.tk no d un clk rl x evs d' un' clk' rl'):pP c d' clk':=by
 obtain⟨a1,a2,a3,-⟩:=CC Am ho.1 ho.2 h.1 h.2.1 h.2.2 hd
 exact⟨a1,a2,a3⟩
theorem wN: ∀(ops:List fC){no un clk:Int}{d:Sd}{rl:List Rl}{rs:List Rs}{ev:List Ev},jn c t ops no d un clk rl rs ev→rs.length=ops.length
 |[],_,_,_,_,_,_,_,h=>by rw[h.1];rfl
 |o::l,_,_,_,_,_,_,_,⟨x,evs,d',un',clk',rl',rs',ev',_,h,e,_⟩=>by rw[e];simp[wN l h]
theorem Ja(hlt:c.lt=c2.lt)(hlm:c.lm=c2.lm): ∀(ops:List fC){no np un clk:Int}{d e:Sd}{rl:List Rl}{rs1 rs2:List Rs}{ev1 ev2:List Ev},(∀o∈ops,mq o)→pP c d clk→pP c2 e clk→Sim d e→jn c t ops no d un clk rl rs1 ev1→jn c2 t ops np e un clk rl rs2 ev2→
  rs1=rs2∧ev2=ev1.map (fun v=>mG v<|v.vq1+(np-no))∧ ∀v∈ev1,no≤v.vq1
 |[],_,_,_,_,_,_,_,_,_,_,_,_,_,_,_,⟨e1,e2⟩,⟨e3,e4⟩=>by subst e1 e2 e3 e4;exact⟨rfl,rfl,fun v hv=>by cases hv⟩
 |o::l,no,np,_,_,d,e,_,_,_,_,_,hz,h1,h2,hs,⟨x,evs,d',un',clk',rl',rs',ev',a1,a2,a3,a4⟩,⟨y,fvs,e',vn',dlk',sl',ss',fv',b1,b2,b3,b4⟩=>by
  have ho:=hz o<|List.mem_cons_self ..
  obtain⟨rfl,rfl,s,rfl,rfl,rfl⟩:=y5 hlt hlm h1.1.nd h2.1.nd hs a1 b1
  have hv:=Cm h1.1.nd hs.rfl1 a1
  obtain⟨rfl,p1,p2⟩:=Ja hlt hlm l (fun o h=>hz o<|List.mem_cons_of_mem _ h) (tM ho h1 a1) (tM ho h2 b1) s a2 b2
  subst a3 a4 b3 b4
  refine⟨rfl,?_,fun v h=>?_⟩
  ·rw[List.map_append,p1];congr 1
   ·unfold pN;apply List.map_congr_left;intro v h
    rw[hv v h,show no+(np-no)=np from by omega]
   ·apply List.map_congr_left;intro v h;rw[show np+1-(no+1)=np-no from by omega]
  ·rcases List.mem_append.1 h with h|h
   ·rw[hv v h];exact Int.le_refl _
   ·have:=p2 v h;omega
def ez(n:Int)(v:Ev):Ev:=if v.vq1>n then mG v (v.vq1-1) else v
theorem Ii(ho:mq o)(hlt:c.lt=c2.lt)(hlm:c.lm=c2.lm): ∀(n:Nat)(ops:List fC){no un clk:Int}{d e:Sd}{rl:List Rl}{rs1 rs2:List Rs}{ev1 ev2:List Ev},n≤ops.length→(∀o∈ops,mq o)→pP c d clk→pP c2 e clk→Sim d e→
  jn c t ops no d un clk rl rs1 ev1→jn c2 t (ops.take n++o::ops.drop n) no e un clk rl rs2 ev2→(∀r,rs2[n]? =some r→r.wq1≠0)→
  (∃r,rs2=rs1.take n++r::rs1.drop n)∧(∀v∈ev2,v.vq1≠no+n)∧ev2.map (ez<|no+n)=ev1
 |0,ops,no,un,clk,d,e,rl,rs1,rs2,ev1,ev2,_,hz,h1,h2,hs,r1,⟨y,fvs,e',vn',dlk',sl',ss',fv',b1,b2,b3,b4⟩,hx=>by
  subst b3 b4
  obtain⟨s,rfl,rfl,rfl,rfl⟩:=UZ hs.rfl2 b1<|hx y rfl
  obtain⟨rfl,p1,p2⟩:=Ja hlt hlm ops hz h1 (tM ho h2 b1) (hs.trans s.symm) r1 b2
  refine⟨⟨y,rfl⟩,fun v hv=>?_,?_⟩
  ·rw[List.nil_append,p1] at hv;obtain⟨f,hf,rfl⟩:=List.mem_map.1 hv
   have:=p2 f hf
   show f.vq1+(no+1-no)≠no+(0:Nat);omega
  ·rw[List.nil_append,p1,List.map_map]
   conv=>rhs;rw[←List.map_id ev1]
   apply List.map_congr_left;intro v hv
   have:=p2 v hv
   show ez _ (mG v _)=v
   unfold ez;rw[if_pos (by show v.vq1+(no+1-no)>no+(0:Nat);omega)]
   cases v;simp only[mG,Ev.mk.injEq,and_true,true_and];omega
 |n+1,[],_,_,_,_,_,_,_,_,_,_,hn,_,_,_,_,_,_,_=>by simp at hn
 |n+1,p::ops,no,un,clk,d,e,rl,rs1,rs2,ev1,ev2,hn,hz,h1,h2,hs,⟨x,evs,d',un',clk',rl',rs',ev',a1,a2,a3,a4⟩,⟨y,fvs,e',vn',dlk',sl',ss',fv',b1,b2,b3,b4⟩,hx=>by
  have hp:=hz p<|List.mem_cons_self ..
  obtain⟨rfl,rfl,s,rfl,rfl,rfl⟩:=y5 hlt hlm h1.1.nd h2.1.nd hs a1 b1
  have hv:=Cm h1.1.nd hs.rfl1 a1
  subst a3 a4 b3 b4
  obtain⟨⟨r,rfl⟩,q1,q2⟩:=Ii ho hlt hlm n ops (by simpa using hn) (fun o h=>hz o<|List.mem_cons_of_mem _ h) (tM hp h1 a1) (tM hp h2 b1) s a2 b2<|fun r hr=>hx r hr
  have e0:pN no evs=evs:=by
   conv=>rhs;rw[←List.map_id evs]
   unfold pN;apply List.map_congr_left;intro v h
   have:=hv v h;cases v;simp only at this;subst this;rfl
  have e1:no+((n+1:Nat):Int)=no+1+n:=by omega
  rw[e0,e1]
  refine⟨⟨r,rfl⟩,fun v h=>?_,?_⟩
  ·rcases List.mem_append.1 h with h|h
   ·rw[hv v h];omega
   ·exact q1 v h
  ·rw[List.map_append,q2];congr 1
   conv=>rhs;rw[←List.map_id evs]
   apply List.map_congr_left;intro v h
   unfold ez;rw[if_neg (by rw[hv v h];omega)];rfl
variable{rs1 rs2:List Rs}
theorem S4{n:Nat}(hz: ∀o∈ops,mq o)(ho:mq o)(hn:n≤ops.length)(h1:c.lt=t)(h2:c.lm=lm)(h3:c2.lt=t)(h4:c2.lm=lm)(htt:1≤t∧t≤65536)(hlm:1≤lm∧lm≤16384)(n1:jT d)(n2:jT e)
  (r1:jn c t ops 0 d 0 0 [] rs1 ev1)(r2:jn c2 t (ops.take n++o::ops.drop n) 0 e 0 0 [] rs2 ev2)(hx: ∀r,rs2[n]? =some r→r.wq1≠0):
  (∀(i:Nat)r,rs1[i]? =some r→rs2[if i<n then i else i+1]? =some r)∧(∀v∈ev2,v.vq1≠n)∧ev2.map (ez n)=ev1:=by
 have iv: ∀{c:Ss}{d:Sd},c.lt=t→c.lm=lm→jT d→pP c d 0:=fun{c d}h1 h2 h=>⟨xm (h1▸htt) (h2▸hlm) h,by rw[h.2.2.2.2.2.2.2.2.1];exact Int.le_refl _,by omega,by omega⟩
 obtain⟨⟨r,rfl⟩,p2,p3⟩:=Ii ho (by rw[h1,h3]) (by rw[h2,h4]) n ops hn hz (iv h1 h2 n1) (iv h3 h4 n2) (HY n1 n2) r1 r2 hx
 have hl:=wN _ r1
 rw[Int.zero_add] at p2 p3
 refine⟨fun i r h=>?_,p2,p3⟩
 have hi:=(List.getElem?_eq_some_iff.1 h).1
 split
 ·rw[List.getElem?_append_left (by simp;omega),List.getElem?_take,if_pos ‹_›];exact h
 ·rw[List.getElem?_append_right (by simp;omega)]
  rw[show i+1-(rs1.take n).length=(i-n)+1 from by simp;omega,List.getElem?_cons_succ,List.getElem?_drop,show n+(i-n)=i from by omega];exact h
theorem Ij: ∀(ops:List fC){no un clk:Int}{d:Sd}{rl:List Rl}{rs:List Rs}{ev:List Ev},(∀o∈ops,mq o)→pP c d clk→Sim d d→jn c t ops no d un clk rl rs ev→ ∀v∈ev,v.vq1<no+ops.length
 |[],_,_,_,_,_,_,_,_,_,_,⟨_,e⟩,v,hv=>by rw[e] at hv;cases hv
 |o::l,no,_,_,_,_,_,_,hz,h,hs,⟨x,evs,d',un',clk',rl',rs',ev',a,b,_,e⟩,v,hv=>by
  rw[e] at hv
  have ho:=hz o<|List.mem_cons_self ..
  rcases List.mem_append.1 hv with hv|hv
  ·rw[Cm h.1.nd hs a v hv];simp
   omega
  ·have:=Ij l (fun o h=>hz o<|List.mem_cons_of_mem _ h) (tM ho h a) (y5 rfl rfl h.1.nd h.1.nd hs a a).2.2.1 b v hv
   simp at this⊢;omega
variable{v:Ev}
theorem wO{k:Nat}(n:Int)(h:ev[k]? =some v):(ev.take<|k+1).map (ez n)=(ev.take k).map (ez n)++[ez n v]:=by
 rw[List.take_add_one,h,List.map_append];rfl
theorem Ik{n:Int}(h:v.vq1>n):ez n v={v with vq1:=v.vq1-1}:=if_pos h
theorem Il{n:Int}(h: ¬v.vq1>n):ez n v=v:=if_neg h
variable{L:List fC}
theorem PS{n:Nat}(hL:L=ops.take n++o::ops.drop n)(hz: ∀o∈ops,mq o)(ho:mq o)(hn:n≤ops.length)(h1:c.lt=t)(h2:c.lm=lm)(h3:c2.lt=t)(h4:c2.lm=lm)(htt:1≤t∧t≤65536)(hlm:1≤lm∧lm≤16384)(n1:jT d)(n2:jT e)
  (r1:jn c t ops 0 d 0 0 [] rs1 ev1)(r2:jn c2 t L 0 e 0 0 [] rs2 ev2):rs1.length=ops.length∧rs2.length=ops.length+1∧(∀v∈ev2,v.vq1<ops.length+1)∧ev1.length≤2*ops.length∧ev2.length≤2*ops.length+2∧
  ((∀r,rs2[n]? =some r→r.wq1≠0)→(∀(i:Nat)r,rs1[i]? =some r→rs2[if i<n then i else i+1]? =some r)∧(∀v∈ev2,v.vq1≠n)∧ev2.map (ez n)=ev1):=by
 have iv: ∀{c:Ss}{d:Sd},c.lt=t→c.lm=lm→jT d→pP c d 0:=fun{c d}h1 h2 h=>⟨xm (h1▸htt) (h2▸hlm) h,by rw[h.2.2.2.2.2.2.2.2.1];exact Int.le_refl _,by omega,by omega⟩
 have hLl:L.length=ops.length+1:=by rw[hL];simp;omega
 have hLz: ∀x∈L,mq x:=fun x hx=>by
  rw[hL] at hx;rcases List.mem_append.1 hx with hx|hx
  ·exact hz x<|List.mem_of_mem_take hx
  ·rcases List.mem_cons.1 hx with rfl|hx
   ·exact ho
   ·exact hz x<|List.mem_of_mem_drop hx
 have a1:=Ax r1 (iv h1 h2 n1).1 (iv h1 h2 n1).2.1 (by omega) hz
 have a2:=Ax r2 (iv h3 h4 n2).1 (iv h3 h4 n2).2.1 (by omega) hLz
 rw[An n1] at a1;rw[An n2] at a2
 have a3:=Ij L hLz (iv h3 h4 n2) (HY n2 n2) r2
 refine⟨wN _ r1,by rw[wN _ r2,hLl],fun v hv=>by have:=a3 v hv;omega,by omega,by omega,fun hx=>?_⟩
 subst hL
 exact S4 hz ho hn h1 h2 h3 h4 htt hlm n1 n2 r1 r2 hx
theorem PT{n:Nat}(h:mf w0 ops)(k:mf w0 [o])(s:HS w0 [] H w)(hL:L=ops.take n++o::ops.drop n):mf w L:=fun x hx=>by
 rw[hL] at hx;rcases List.mem_append.1 hx with hx|hx
 ·exact xB h s x<|List.mem_of_mem_take hx
 ·rcases List.mem_cons.1 hx with rfl|hx
  ·exact xB k s x<|List.mem_cons_self ..
  ·exact xB h s x<|List.mem_of_mem_drop hx
theorem PM(a1:Option Addr)(xs:List Ev)(c1:Nat)(a2:Option Addr)(c2:Nat)(hx:xs.length≤1000000)(w:World)(r0:eo w a1 (V.dF iJ xs))(r1:eo w a2 (V.dF iJ xs)):
  CW 12 #[vS a1 xs c1,vS a2 xs c2] w (b_ true):=by
 refine A.C Tryz.func12 rfl (HS.nil w) (A.c<|A.g [.p] [] []<|A.d<|A.c<|A.g (ps 5) [] [(11,b_<|(xs.length:Int)!=(xs.length:Int))]<|A.v rfl (fun e1=>?_) (fun e1=>?_))
 ·exact absurd e1<|by simp
 refine A.p<|A.d<|A.c<|A.g (ps 3) [0,11] [(12,vS a1 xs c1),(13,c_ xs.length),(14,i_ 0)]<|A.y<|A.lp (σ:=Nat) [] (fun k=>[(14,c_ k)]) [] (fun k=>[]) (fun k=>(k≤xs.length)) (fun k=>xs.length-k) (0:Nat) (by omega) ?_ ?_
 ·exact A.J []
 rintro k hk
 have hk:k≤xs.length:=hk
 refine A.c<|A.g [.p] [] [(15,b_<|decide ((k:Int)<(xs.length:Int)))]<|A.d<|A.v rfl (fun e2=>?_) (fun e2=>?_)
 ·have p2:=of_decide_eq_true e2
  refine A.p<|A.d<|A.y<|A.c<|A.kp [.p,.ix] [15] [(16,c_ k),(17,.pointer<|some<|(dR a1).add (k*12))] [] (o1<|io (k:Int)<|gW ju (by decide) (ef r0<|by simp[dE])<|by omega) ?_
  obtain⟨x1,hx1⟩: ∃x,(xs)[k]? =some x:=⟨_,List.getElem?_eq_getElem<|by omega⟩
  refine A.no [.rd<|iJ x1,.al,.p,.st 0] [16,17] (fun b2=>[(6,p_ b2),(5,c_ k)]) (fun b2=>[]) (fun b2=>cw b2 (iJ x1) 52) (fun b2=>[b2]) (fun b2=>o1<|ro ((dR a1).add (k*12))<|fS (vs:=(iJ x1)) ju (ef r0<|by simp[dE]) hx1 (Nat.le_of_ble_eq_true rfl) rfl) ?_
  intro b2
  refine A.d<|A.ka [.ld 0,.p,.p,.ix,.rd<|iJ x1,.eq] (rg 0 6) [6,5] [(24,b_ (!((x1.vq1==x1.vq1)&&((x1.vq2==x1.vq2)&&((x1.vq3==x1.vq3)&&((x1.vq4==x1.vq4)&&((x1.vq5==x1.vq5)&&((x1.vq6==x1.vq6)&&((x1.vq7==x1.vq7)&&((x1.vq8==x1.vq8)&&((x1.vq9==x1.vq9)&&((x1.vq10==x1.vq10)&&((x1.vq11==x1.vq11)&&(x1.vq12==x1.vq12))))))))))))))] [b2] (oc (io (k:Int)<|gW ju (by decide) (ef r1<|by simp[dE])<|by omega)<|o1<|ro ((dR a2).add (k*12))<|fS (vs:=(iJ x1)) ju (ef r1<|by simp[dE]) hx1 (Nat.le_of_ble_eq_true rfl) rfl)<|A.v rfl (fun e3=>?_) (fun e3=>?_)
  ·refine A.c<|A.g [.p] [1,12,13,14,24] [(4,b_ false)]<|A.e<|A.W [b_ false] ?_
   show((b_ false):Value)=(b_ true)
   simp_all
  refine A.p<|A.s<|A.k [.w<|(k:Int)+1,.p] [24] [(14,i_<|(k:Int)+1)] [] (o1<|wj ((k:Int)+1)<|by omega)<|A.Z (k+1) (by omega) (by omega) ?_
  exact A.J []
 have p2:=of_decide_eq_false e2
 refine A.aA<|A.c<|A.g [.p] [1,12,13,14,15] [(4,b_ true)]<|A.e<|A.W [b_ true] ?_
 rfl
end Go.Proofs.YtobgjpigngoggaaGreat
namespace Go.Proofs.YtobgjpigngoggaaGreat.V
open Go
section
variable{P:Program}{n:Nat}{env:dM}{w0:World}{S:List Nat}{H:List dB}{ops:Array Oper}{o:Oper}{α:Type}
variable{enc:α→List Value}{A:Option Addr}{xs:List α}
theorem N9{sz:Nat}{w:World}(he: ∀x,(enc x).length=sz)(h:eo w A (dF enc xs)){m c:Nat}(hm:m≤xs.length)(hc:xs.length≤c):eo w (iE A c m sz) (dF enc<|xs.drop m):=fun j u hj=>by
 unfold iE
 by_cases hcm:c=m
 ·rw[List.drop_eq_nil_of_le<|by omega] at hj;simp[dF] at hj
 ·rw[if_neg hcm]
  have hfl:dF enc xs=dF enc (xs.take m)++dF enc (xs.drop m):=by
   unfold dF;rw[←List.flatMap_append,List.take_append_drop]
  have hlen:(dF enc<|xs.take m).length=m*sz:=by rw[pY he,List.length_take,Nat.min_eq_left hm]
  obtain⟨h1,h2⟩:=h (m*sz+j) u (by rw[hfl,List.getElem?_append_right<|by omega,hlen];simpa using hj)
  cases A with
  |none=>simp at h1
  |some a=>
   refine⟨rfl,?_⟩
   simp only[dR,Option.map_some,Option.getD_some] at h2⊢
   rw[zo];exact h2
theorem PV{sz:Nat}(he: ∀x,(enc x).length=sz)(h:Rd w0 S H A (dF enc xs)){m c:Nat}(hm:m≤xs.length)(hc: ∀w,HS w0 S H w→xs.length≤c):Rd w0 S H (iE A c m sz) (dF enc<|xs.drop m):=
 fun w hs=>N9 he (h w hs) hm<|hc w hs
end
end Go.Proofs.YtobgjpigngoggaaGreat.V
namespace Go.Proofs.YtobgjpigngoggaaGreat
open Go V
theorem N5(a1:Option Addr)(xs:List Ev)(c1:Nat)(a2:Option Addr)(ys:List Ev)(c2:Nat)(hx:xs.length≤1000000)(he:xs=ys)(w:World)(r0:eo w a1 (V.dF iJ xs))(r1:eo w a2 (V.dF iJ ys)):Calls Tryz.prog 12 #[vS a1 xs c1,vS a2 ys c2] w fun e w'=>e= .returned (b_ true)∧Fr [] w w':=by
 subst he;exact PM a1 xs c1 a2 c2 hx w r0 r1
theorem zB(x:fC):(eM x).all Value.oneCell'=true:=rfl
theorem Jv(t lm:Int)(al:Option Addr)(ops:List fC)(cl:Nat)(n:Nat)(o:fC)(hcap:ops.length≤cl)(w:World)(r0:eo w al (V.dF eM ops))(r1:mf w ops)(r2:mf w [o]):
  CW 4 #[.agg #[i_ t,i_ lm,vS al ops cl],c_ n,.agg (eM o).toArray] w (b_ true):=by
 refine A.C Tryz.func4 rfl (HS.nil w) (A.c<|A.bw [.al,.al,.p] [1,3,5] (fun b1 b2=>[(1,c_ n),(3,p_ b1),(5,p_ b2)]) (fun b1 b2=>[cw b1 [i_ t,i_ lm,vS al ops cl] 26,cw b2 (eM o) 47]) (fun b1 b2=>[]) (fun _ _=>T0) (fun _ _=>by kernel_rfl) (fun b1 b2=>trivial) ?_)
 intro b1 b2
 refine A.d<|A.c<|A.hk [.ld 0,.cq<|b_<|lX t lm&&jJ ops 200,.p,.p,.o,.p,.p,.cl,.p,.o,.p,.p,.ld 0,.p,.p,.cl,.p,.o,.p,.ld 1,.p,.p,.cl,.p,.o,.p,.ld 1,.p,.p,.cl] [(1,c_ n),(3,p_ b1),(5,p_ b2),(43,b_<|((((!(lX t lm&&jJ ops 200))||(decide ((n:Int)<0)))||(decide ((n:Int)>(ops.length:Int))))||(decide ((o.zl.length:Int)>40)))||(decide ((o.rl.length:Int)>40)))] [b1,b1,b2,b2] (o1<|qo<|fun w s=>HO t lm al ops cl 200 (by omega) w<|(ef r0<|by simp[dE]) w s)<|A.v (E:=((((!(lX t lm&&jJ ops 200))||(decide ((n:Int)<0)))||(decide ((n:Int)>(ops.length:Int))))||(decide ((o.zl.length:Int)>40)))||(decide ((o.rl.length:Int)>40))) rfl (fun e1=>?_) (fun e1=>?_)
 ·refine A.c<|A.hk [.cq<|b_ true,.p] [(6,b_ true)] [] (o1<|qo<|fun w s=>xC w)<|A.e<|A.aL [b_ true] (fun _ w r s=>⟨fk r rfl,trivial⟩) ?_
  rfl
 refine A.p<|A.d ?_
 have hmf:lX t lm=true∧jJ ops 200=true∧n≤ops.length:=(by simp_all<;>omega)
 obtain⟨htt,hlm⟩:=Rx hmf.1;have hol:=PG hmf.2.1;have hno:=hmf.2.2
 refine A.s<|A.h [.p] [(1,c_ n),(3,p_ b1),(5,p_ b2),(7,e_)] []<|A.c<|A.hp [.p,.p,.ld 0,.p] [(1,c_ n),(3,p_ b1),(5,p_ b2),(7,e_),(45,e_),(47,vS al ops cl),(48,c_ n)] [b1]<|A.j<|A.u (some 49) (vS al (ops.take n) cl) (F6 (e:=47) (xs:=ops) (sz:=10) n rfl rfl rfl (by kernel_rfl) (by kernel_rfl) (by omega) (fun _ _=>hcap))<|A.j<|A.aM 47 10 [cw b1 [i_ t,i_ lm,vS al ops cl] 26,cw b2 (eM o) 47,sl none (([]:List fC).length) 0 47 10<|V.dF eM ([]:List fC)] rfl (A.an (enc:=eM) (xs:=([]:List fC)) (ops.take n) 2 50 (e:=47) (z:=(.agg #[i_ 0,e_,e_,u_ 0,i_ 0,w_ 0,w_ 0,w_ 0,w_ 0,u_ 0])) (sz:=10) (by_:=88) (by kernel_rfl) rfl rfl rfl (by kernel_rfl) (by kernel_rfl) (by rfl) (by decide) nR zB rfl (Om nR (ef r0<|by simp[dE]) n) (by(simp;omega)) (fun A4 c4=>[cw b1 [i_ t,i_ lm,vS al ops cl] 26,cw b2 (eM o) 47,sl A4 ((ops.take n).length) c4 47 10<|V.dF eM<|ops.take n]) (fun _ _=>rfl) ?_)
 intro A4 c4
 refine A.h [.p] [(1,c_ n),(3,p_ b1),(5,p_ b2),(7,vS A4 (ops.take n) c4)] []<|A.c<|A.hp [.p,.ld 1] [(1,c_ n),(3,p_ b1),(7,vS A4 (ops.take n) c4),(51,vS A4 (ops.take n) c4),(52,.agg (eM o).toArray)] [b2]<|A.j<|A.aE 53 (e:=47) (eM o) (by kernel_rfl) rfl (fun _=>by kernel_rfl) (fun b5=>[cw b1 [i_ t,i_ lm,vS al ops cl] 26,cw b2 (eM o) 47,sl A4 ((ops.take n).length) c4 47 10<|V.dF eM<|ops.take n,cw b5 (eM o) 47]) (fun _=>rfl) ?_
 intro b5
 refine A.j<|A.an (enc:=eM) (xs:=(ops.take n)) ([o]) 2 54 (e:=47) (z:=(.agg #[i_ 0,e_,e_,u_ 0,i_ 0,w_ 0,w_ 0,w_ 0,w_ 0,u_ 0])) (sz:=10) (by_:=88) (by kernel_rfl) rfl rfl rfl (by kernel_rfl) (by kernel_rfl) (by rfl) (by decide) nR zB rfl (gG (i:=3) rfl) (by(simp;omega)) (fun A6 c6=>[cw b1 [i_ t,i_ lm,vS al ops cl] 26,cw b2 (eM o) 47,sl A6 (((ops.take n)++([o])).length) c6 47 10<|V.dF eM<|(ops.take n)++([o]),cw b5 (eM o) 47]) (fun _ _=>rfl) ?_
 intro A6 c6
 refine A.h [.p] [(1,c_ n),(3,p_ b1),(7,vS A6 ((ops.take n)++([o])) c6)] []<|A.c<|A.hp [.p,.p,.ld 0,.p] [(1,c_ n),(3,p_ b1),(7,vS A6 ((ops.take n)++([o])) c6),(55,vS A6 ((ops.take n)++([o])) c6),(57,vS al ops cl),(58,c_ n)] [b1]<|A.j<|A.u (some 59) (vS (iE al cl n 10) (ops.drop n)<|cl-n) (wF (e:=47) (xs:=ops) (sz:=10) n rfl rfl rfl (by kernel_rfl) (by kernel_rfl) (by omega) (fun _ _=>hcap))<|A.j<|A.an (enc:=eM) (xs:=(ops.take n)++([o])) (ops.drop n) 2 60 (e:=47) (z:=(.agg #[i_ 0,e_,e_,u_ 0,i_ 0,w_ 0,w_ 0,w_ 0,w_ 0,u_ 0])) (sz:=10) (by_:=88) (by kernel_rfl) rfl rfl rfl (by kernel_rfl) (by kernel_rfl) (by rfl) (by decide) nR zB rfl (PV nR (ef r0<|by simp[dE]) (by omega)<|fun _ _=>hcap) (by(simp;omega)) (fun A7 c7=>[cw b1 [i_ t,i_ lm,vS al ops cl] 26,cw b2 (eM o) 47,sl A7 ((((ops.take n)++([o]))++(ops.drop n)).length) c7 47 10<|V.dF eM<|((ops.take n)++([o]))++(ops.drop n),cw b5 (eM o) 47]) (fun _ _=>rfl) ?_
 intro A7 c7
 refine A.h [.p] [(1,c_ n),(3,p_ b1),(7,vS A7 (((ops.take n)++([o]))++(ops.drop n)) c7)] []<|A.c<|A.hp [.ld 0] [(1,c_ n),(3,p_ b1),(7,vS A7 (((ops.take n)++([o]))++(ops.drop n)) c7),(62,.agg #[i_ t,i_ lm,vS al ops cl])] [b1]<|A.j<|A.I (some 63) [] (fun w s h=>Aw t lm al ops cl (by omega) ‹_› ‹_› w ((ef r0<|by simp[dE]) w s) (xB r1 s) h) ?_
 rintro⟨A'8,rs'9,a'10,B'11,ev'12,b'13⟩ hz2
 dsimp only at hz2
 refine A.m1 [.p,.p,.p,.al,.st 6,.p] (fun b16=>[(1,c_ n),(3,p_ b1),(7,vS A7 (((ops.take n)++([o]))++(ops.drop n)) c7),(8,p_ b16),(9,i_ 0)]) (fun _=>[]) (fun b16=>cw b16 [vS A'8 rs'9 a'10,vS B'11 ev'12 b'13] 32) (fun b16=>[b16]) ?_
 intro b16
 refine A.d ?_
 obtain⟨c1,d1,hc1,hc2,hn1,hR1⟩:=hz2
 refine A.s<|A.hp [.p,.ld 2,.p,.p] [(1,c_ n),(3,p_ b1),(7,vS A7 (((ops.take n)++([o]))++(ops.drop n)) c7),(8,p_ b16),(9,i_ 0),(70,.agg #[i_ t,i_ lm,vS A7 (((ops.take n)++([o]))++(ops.drop n)) c7])] [b1]<|A.j<|A.I (some 71) [] (fun w s h=>Aw t lm A7 (((ops.take n)++([o]))++(ops.drop n)) c7 (by(simp;omega)) ‹_› ‹_› w ((fM (i:=4) rfl) w s) (PT (n:=n) r1 r2 s<|by simp) h) ?_
 rintro⟨A'17,rs'18,a'19,B'20,ev'21,b'22⟩ hz3
 dsimp only at hz3
 refine A.au [.p,.p,.p,.al,.st 9,.p] [1,3,7,8,9,10,11] (fun b25=>[(1,c_ n),(3,p_ b1),(7,vS A7 (((ops.take n)++([o]))++(ops.drop n)) c7),(8,p_ b16),(9,i_ 0),(10,p_ b25),(11,i_ 0)]) (fun b25=>[gy A'17 rs'18 a'19,eV B'20 ev'21 b'22,gy A'8 rs'9 a'10,eV B'11 ev'12 b'13,cw b1 [i_ t,i_ lm,vS al ops cl] 26,cw b2 (eM o) 47,sl A7 ((((ops.take n)++([o]))++(ops.drop n)).length) c7 47 10<|V.dF eM<|((ops.take n)++([o]))++(ops.drop n),cw b5 (eM o) 47,cw b16 [vS A'8 rs'9 a'10,vS B'11 ev'12 b'13] 32,cw b25 [vS A'17 rs'18 a'19,vS B'20 ev'21 b'22] 32]) (fun b25=>[b25]) (fun _=>T0) (fun _=>by kernel_rfl) (fun b25=>trivial) ?_
 intro b25
 refine A.d<|A.d ?_
 obtain⟨c2,d2,hc3,hc4,hn2,hR2⟩:=hz3
 have hz1: ∀x∈ops,mq x:=fun x hx=>⟨(r1 x hx).2.2.1,(r1 x hx).2.2.2.2.2⟩
 have hz2:mq o:=⟨(r2 o<|List.mem_singleton.2 rfl).2.2.1,(r2 o<|List.mem_singleton.2 rfl).2.2.2.2.2⟩
 obtain⟨hl1,hl2,hhi,hle1,hle2,hOk⟩:=PS (o:=o) (by simp) hz1 hz2 hno hc1 hc2 hc3 hc4 htt hlm hn1 hn2 hR1 hR2
 refine A.s<|A.h [.p,.p,.p,.p,.p,.p,.p,.p,.ld 8,.p,.p,.ld 4,.p,.p,.p,.p,.o,.p,.ld 9,.p,.p,.p,.p,.cl] [(1,c_ n),(8,p_ b16),(10,p_ b25),(96,b_<|((rs'9.length:Int)!=(ops.length:Int))||((rs'18.length:Int)!=((((ops.take n)++([o]))++(ops.drop n)).length:Int)))] [b16,b1,b25]<|A.v (E:=((rs'9.length:Int)!=(ops.length:Int))||((rs'18.length:Int)!=((((ops.take n)++([o]))++(ops.drop n)).length:Int))) rfl (fun e4=>?_) (fun e4=>?_)
 ·exact absurd e4<|by(intro h_;simp[hl1,hl2] at h_;omega)
 refine A.p<|A.d<|A.c<|A.hq [.p,.ld 9,.p,.ix,.p] [(1,c_ n),(8,p_ b16),(10,p_ b25),(101,.pointer<|some<|((dR A'17).add (n*3)).add 0)] [b25] (o1<|io (n:Int)<|gW oP (by decide) (fM (i:=0) rfl)<|by omega) ?_
 obtain⟨x26,hx26⟩: ∃x,(rs'18)[n]? =some x:=⟨_,List.getElem?_eq_getElem<|by omega⟩
 refine A.hk [.rd [i_ x26.wq1],.p] [(1,c_ n),(8,p_ b16),(10,p_ b25),(103,b_<|x26.wq1==0)] [] (o1<|ro (((dR A'17).add (n*3)).add 0)<|pV (f:=0) (vs:=[i_ x26.wq1]) oP (fM (i:=0) rfl) hx26 (by simp) rfl)<|A.v (E:=x26.wq1==0) rfl (fun e5=>?_) (fun e5=>?_)
 ·refine A.c<|A.hk [.cq<|b_ true,.p] [(6,b_ true)] [] (o1<|qo<|fun w s=>xC w)<|A.e<|A.aL [b_ true] (fun _ w r s=>⟨fk r rfl,trivial⟩) ?_
  rfl
 refine A.p<|A.d<|A.d ?_
 obtain⟨hp1,hp2,hp3⟩:=hOk (fun r hr=>by have h_:=hr.symm.trans hx26;cases h_;simp_all)
 refine A.s<|A.h [.p,.ld 8,.p,.p] [(1,c_ n),(8,p_ b16),(10,p_ b25),(106,vS A'8 rs'9 a'10),(107,c_ rs'9.length),(108,i_ 0)] [b16]<|A.y<|A.aX (fun(zz:Nat)=>match zz with|k=>[(1,c_ n),(8,p_ b16),(10,p_ b25),(106,vS A'8 rs'9 a'10),(107,c_ rs'9.length),(108,c_ k)]) (fun(zz:Nat)=>match zz with|k=>[gy A'17 rs'18 a'19,eV B'20 ev'21 b'22,gy A'8 rs'9 a'10,eV B'11 ev'12 b'13,cw b1 [i_ t,i_ lm,vS al ops cl] 26,cw b2 (eM o) 47,sl A7 ((((ops.take n)++([o]))++(ops.drop n)).length) c7 47 10<|V.dF eM<|((ops.take n)++([o]))++(ops.drop n),cw b5 (eM o) 47,cw b16 [vS A'8 rs'9 a'10,vS B'11 ev'12 b'13] 32,cw b25 [vS A'17 rs'18 a'19,vS B'20 ev'21 b'22] 32]) (fun(zz:Nat)=>match zz with|k=>(k≤rs'9.length)) (fun(zz:Nat)=>match zz with|k=>rs'9.length-k) (0:Nat) (by omega) ?_ ?_
 ·exact A.aI [0,0,0,0,0,0,0,0,0,0] ⟨rfl,rfl,rfl,rfl,rfl,rfl,trivial⟩<|by kernel_rfl
 rintro k hk
 have hk:k≤rs'9.length:=hk
 refine A.aO [(1,c_ n),(8,p_ b16),(10,p_ b25),(106,vS A'8 rs'9 a'10),(107,c_ rs'9.length),(108,c_ k)] [gy A'17 rs'18 a'19,eV B'20 ev'21 b'22,gy A'8 rs'9 a'10,eV B'11 ev'12 b'13,cw b1 [i_ t,i_ lm,vS al ops cl] 26,cw b2 (eM o) 47,sl A7 ((((ops.take n)++([o]))++(ops.drop n)).length) c7 47 10<|V.dF eM<|((ops.take n)++([o]))++(ops.drop n),cw b5 (eM o) 47,cw b16 [vS A'8 rs'9 a'10,vS B'11 ev'12 b'13] 32,cw b25 [vS A'17 rs'18 a'19,vS B'20 ev'21 b'22] 32] ⟨rfl,rfl,rfl,rfl,rfl,rfl,trivial⟩ rfl (A.c<|A.h [.p] [(1,c_ n),(8,p_ b16),(10,p_ b25),(106,vS A'8 rs'9 a'10),(107,c_ rs'9.length),(108,c_ k),(109,b_<|decide ((k:Int)<(rs'9.length:Int)))] []<|A.d<|A.v (E:=decide ((k:Int)<(rs'9.length:Int))) rfl (fun e6=>?_) (fun e6=>?_))
 ·have p6:=of_decide_eq_true e6
  refine A.p<|A.d<|A.y<|A.c<|A.hq [.p,.ix] [(1,c_ n),(8,p_ b16),(10,p_ b25),(106,vS A'8 rs'9 a'10),(107,c_ rs'9.length),(108,c_ k),(110,c_ k),(111,.pointer<|some<|(dR A'8).add (k*3))] [] (o1<|io (k:Int)<|gW oP (by decide) (fM (i:=2) rfl)<|by omega) ?_
  obtain⟨x27,hx27⟩: ∃x,(rs'9)[k]? =some x:=⟨_,List.getElem?_eq_getElem<|by omega⟩
  refine A.au [.rd<|gV x27,.al,.p,.st 10] [1,8,10,106,107,108,13,12] (fun b28=>[(1,c_ n),(8,p_ b16),(10,p_ b25),(106,vS A'8 rs'9 a'10),(107,c_ rs'9.length),(108,c_ k),(13,p_ b28),(12,c_ k)]) (fun b28=>[gy A'17 rs'18 a'19,eV B'20 ev'21 b'22,gy A'8 rs'9 a'10,eV B'11 ev'12 b'13,cw b1 [i_ t,i_ lm,vS al ops cl] 26,cw b2 (eM o) 47,sl A7 ((((ops.take n)++([o]))++(ops.drop n)).length) c7 47 10<|V.dF eM<|((ops.take n)++([o]))++(ops.drop n),cw b5 (eM o) 47,cw b16 [vS A'8 rs'9 a'10,vS B'11 ev'12 b'13] 32,cw b25 [vS A'17 rs'18 a'19,vS B'20 ev'21 b'22] 32,cw b28 (gV x27) 49]) (fun b28=>[b28]) (fun _=>(fun κ=>κ.rd ((dR A'8).add (k*3)) (gV x27)∧True)) (fun _=>by kernel_rfl) (fun b28=>⟨fS (vs:=(gV x27)) oP (fM (i:=2) rfl) hx27 (Nat.le_of_ble_eq_true rfl) rfl,trivial⟩) ?_
  intro b28
  refine A.c<|A.h [.p,.p] [(1,c_ n),(8,p_ b16),(10,p_ b25),(106,vS A'8 rs'9 a'10),(107,c_ rs'9.length),(108,c_ k),(13,p_ b28),(12,c_ k),(14,c_ k)] []<|A.d<|A.c<|A.h (ps 3) [(1,c_ n),(8,p_ b16),(10,p_ b25),(106,vS A'8 rs'9 a'10),(107,c_ rs'9.length),(108,c_ k),(13,p_ b28),(12,c_ k),(14,c_ k),(116,b_<|decide ((k:Int)≥(n:Int)))] []<|A.v (E:=decide ((k:Int)≥(n:Int))) rfl (fun e7=>?_) (fun e7=>?_)
  ·have p7:=of_decide_eq_true e7
   refine A.s<|A.hk [.p,.w<|(k:Int)+1,.p] [(1,c_ n),(8,p_ b16),(10,p_ b25),(106,vS A'8 rs'9 a'10),(107,c_ rs'9.length),(108,c_ k),(13,p_ b28),(14,i_<|(k:Int)+1)] [] (o1<|wj ((k:Int)+1)<|by omega)<|A.d<|A.aZ [.p,.ld 9,.p,.ix,.rd<|gV x27,.ld 10,.eq] [0,1,2,3,4,5,6] [(1,c_ n),(8,p_ b16),(10,p_ b25),(106,vS A'8 rs'9 a'10),(107,c_ rs'9.length),(108,c_ k),(125,b_ (!((x27.wq1==x27.wq1)&&((x27.wq2==x27.wq2)&&(x27.wq3==x27.wq3)))))] [b25,b28] (fun κ=>κ.ix A'17 rs'18.length (((k:Int)+1).toNat:Int)∧κ.rd ((dR A'17).add ((((k:Int)+1).toNat)*3)) (gV x27)∧True) (by kernel_rfl) (by kernel_rfl) ⟨gW oP (by decide) (fM (i:=0) rfl)<|by omega,fS (vs:=(gV x27)) oP (fM (i:=0) rfl) ((show(if k<n then k else k+1)=((k:Int)+1).toNat from by split<;>omega)▸hp1 _ _ hx27) (Nat.le_of_ble_eq_true rfl) rfl,trivial⟩<|A.v (E:= !((x27.wq1==x27.wq1)&&((x27.wq2==x27.wq2)&&(x27.wq3==x27.wq3)))) rfl (fun e8=>?_) (fun e8=>?_)
   ·exact absurd e8<|by(intro h_;simp at h_)
   refine A.p<|A.s<|A.hk [.w<|(k:Int)+1,.p] [(1,c_ n),(8,p_ b16),(10,p_ b25),(106,vS A'8 rs'9 a'10),(107,c_ rs'9.length),(108,i_<|(k:Int)+1)] [] (o1<|wj ((k:Int)+1)<|by omega)<|A.Z (k+1) (by omega) (by(simp;omega)) ?_
   exact A.aI [0,0,0,0,0,0,0,0,0,0] ⟨rfl,rfl,rfl,rfl,rfl,rfl,trivial⟩<|by kernel_rfl
  have p7:=of_decide_eq_false e7
  refine A.p<|A.d<|A.aZ [.p,.ld 9,.p,.ix,.rd<|gV x27,.ld 10,.eq] [0,1,2,3,4,5,6] [(1,c_ n),(8,p_ b16),(10,p_ b25),(106,vS A'8 rs'9 a'10),(107,c_ rs'9.length),(108,c_ k),(125,b_ (!((x27.wq1==x27.wq1)&&((x27.wq2==x27.wq2)&&(x27.wq3==x27.wq3)))))] [b25,b28] (fun κ=>κ.ix A'17 rs'18.length (k:Int)∧κ.rd ((dR A'17).add (k*3)) (gV x27)∧True) (by kernel_rfl) (by kernel_rfl) ⟨gW oP (by decide) (fM (i:=0) rfl)<|by omega,fS (vs:=(gV x27)) oP (fM (i:=0) rfl) ((show(if k<n then k else k+1)=k from by split<;>omega)▸hp1 _ _ hx27) (Nat.le_of_ble_eq_true rfl) rfl,trivial⟩<|A.v (E:= !((x27.wq1==x27.wq1)&&((x27.wq2==x27.wq2)&&(x27.wq3==x27.wq3)))) rfl (fun e9=>?_) (fun e9=>?_)
  ·exact absurd e9<|by(intro h_;simp at h_)
  refine A.p<|A.s<|A.hk [.w<|(k:Int)+1,.p] [(1,c_ n),(8,p_ b16),(10,p_ b25),(106,vS A'8 rs'9 a'10),(107,c_ rs'9.length),(108,i_<|(k:Int)+1)] [] (o1<|wj ((k:Int)+1)<|by omega)<|A.Z (k+1) (by omega) (by(simp;omega)) ?_
  exact A.aI [0,0,0,0,0,0,0,0,0,0] ⟨rfl,rfl,rfl,rfl,rfl,rfl,trivial⟩<|by kernel_rfl
 have p6:=of_decide_eq_false e6
 refine A.aA<|A.c<|A.h [.p] [(1,c_ n),(8,p_ b16),(10,p_ b25),(15,e_)] []<|A.d<|A.c<|A.h [.p,.ld 9,.p,.p] [(1,c_ n),(8,p_ b16),(15,e_),(128,vS B'20 ev'21 b'22),(129,c_ ev'21.length),(130,i_ 0)] [b25]<|A.y<|A.aM 52 12 [gy A'17 rs'18 a'19,eV B'20 ev'21 b'22,gy A'8 rs'9 a'10,eV B'11 ev'12 b'13,cw b1 [i_ t,i_ lm,vS al ops cl] 26,cw b2 (eM o) 47,sl A7 ((((ops.take n)++([o]))++(ops.drop n)).length) c7 47 10<|V.dF eM<|((ops.take n)++([o]))++(ops.drop n),cw b5 (eM o) 47,cw b16 [vS A'8 rs'9 a'10,vS B'11 ev'12 b'13] 32,cw b25 [vS A'17 rs'18 a'19,vS B'20 ev'21 b'22] 32,eV none ([]:List Ev) 0] rfl (A.su 10 (eV none ((ev'21.take 0).map (ez n)) 0) rfl (eI (by rfl:([]:List Ev)=((ev'21.take 0).map (ez n)))) (A.aQ [(1,c_ n),(8,p_ b16),(15,vS none ((ev'21.take 0).map (ez n)) 0),(128,vS B'20 ev'21 b'22),(129,c_ ev'21.length),(130,i_ 0)] ⟨rfl,rfl,congrArg (fun z_:List Ev=>some<|Value.slice none z_.length 0) (by rfl:([]:List Ev)=((ev'21.take 0).map (ez n))),rfl,rfl,rfl,trivial⟩<|A.aX (fun((k,ao,co):Nat×(Option Addr)×Nat)=>[(1,c_ n),(8,p_ b16),(128,vS B'20 ev'21 b'22),(129,c_ ev'21.length),(130,c_ k),(15,vS ao ((ev'21.take k).map (ez n)) co)]) (fun((k,ao,co):Nat×(Option Addr)×Nat)=>[eV ao ((ev'21.take k).map (ez n)) co,gy A'17 rs'18 a'19,eV B'20 ev'21 b'22,gy A'8 rs'9 a'10,eV B'11 ev'12 b'13,cw b1 [i_ t,i_ lm,vS al ops cl] 26,cw b2 (eM o) 47,sl A7 ((((ops.take n)++([o]))++(ops.drop n)).length) c7 47 10<|V.dF eM<|((ops.take n)++([o]))++(ops.drop n),cw b5 (eM o) 47,cw b16 [vS A'8 rs'9 a'10,vS B'11 ev'12 b'13] 32,cw b25 [vS A'17 rs'18 a'19,vS B'20 ev'21 b'22] 32]) (fun((k,ao,co):Nat×(Option Addr)×Nat)=>(k≤ev'21.length)) (fun((k,ao,co):Nat×(Option Addr)×Nat)=>ev'21.length-k) (0,none,0) (by omega) ?_ ?_))
 ·exact A.aI [10,0,0,0,0,0,0,0,0,0,0] ⟨rfl,rfl,rfl,rfl,rfl,rfl,trivial⟩<|by kernel_rfl
 rintro⟨k,ao,co⟩ hk
 have hk:k≤ev'21.length:=hk
 refine A.aO [(1,c_ n),(8,p_ b16),(128,vS B'20 ev'21 b'22),(129,c_ ev'21.length),(130,c_ k),(15,vS ao ((ev'21.take k).map (ez n)) co)] [eV ao ((ev'21.take k).map (ez n)) co,gy A'17 rs'18 a'19,eV B'20 ev'21 b'22,gy A'8 rs'9 a'10,eV B'11 ev'12 b'13,cw b1 [i_ t,i_ lm,vS al ops cl] 26,cw b2 (eM o) 47,sl A7 ((((ops.take n)++([o]))++(ops.drop n)).length) c7 47 10<|V.dF eM<|((ops.take n)++([o]))++(ops.drop n),cw b5 (eM o) 47,cw b16 [vS A'8 rs'9 a'10,vS B'11 ev'12 b'13] 32,cw b25 [vS A'17 rs'18 a'19,vS B'20 ev'21 b'22] 32] ⟨rfl,rfl,rfl,rfl,rfl,rfl,trivial⟩ rfl (A.c<|A.h [.p] [(1,c_ n),(8,p_ b16),(128,vS B'20 ev'21 b'22),(129,c_ ev'21.length),(130,c_ k),(15,vS ao ((ev'21.take k).map (ez n)) co),(131,b_<|decide ((k:Int)<(ev'21.length:Int)))] []<|A.d<|A.v (E:=decide ((k:Int)<(ev'21.length:Int))) rfl (fun e10=>?_) (fun e10=>?_))
 ·have p10:=of_decide_eq_true e10
  refine A.p<|A.d<|A.y<|A.c<|A.hq [.ix] [(1,c_ n),(8,p_ b16),(128,vS B'20 ev'21 b'22),(129,c_ ev'21.length),(130,c_ k),(15,vS ao ((ev'21.take k).map (ez n)) co),(132,.pointer<|some<|(dR B'20).add (k*12))] [] (o1<|io (k:Int)<|gW ju (by decide) (fM (i:=2) rfl)<|by omega) ?_
  obtain⟨x30,hx30⟩: ∃x,(ev'21)[k]? =some x:=⟨_,List.getElem?_eq_getElem<|by omega⟩
  refine A.au [.rd<|iJ x30,.al,.st 11] [1,8,128,129,130,15,17] (fun b31=>[(1,c_ n),(8,p_ b16),(128,vS B'20 ev'21 b'22),(129,c_ ev'21.length),(130,c_ k),(15,vS ao ((ev'21.take k).map (ez n)) co),(17,p_ b31)]) (fun b31=>[eV ao ((ev'21.take k).map (ez n)) co,gy A'17 rs'18 a'19,eV B'20 ev'21 b'22,gy A'8 rs'9 a'10,eV B'11 ev'12 b'13,cw b1 [i_ t,i_ lm,vS al ops cl] 26,cw b2 (eM o) 47,sl A7 ((((ops.take n)++([o]))++(ops.drop n)).length) c7 47 10<|V.dF eM<|((ops.take n)++([o]))++(ops.drop n),cw b5 (eM o) 47,cw b16 [vS A'8 rs'9 a'10,vS B'11 ev'12 b'13] 32,cw b25 [vS A'17 rs'18 a'19,vS B'20 ev'21 b'22] 32,cw b31 (iJ x30) 52]) (fun b31=>[b31]) (fun _=>(fun κ=>κ.rd ((dR B'20).add (k*12)) (iJ x30)∧True)) (fun _=>by kernel_rfl) (fun b31=>⟨fS (vs:=(iJ x30)) ju (fM (i:=2) rfl) hx30 (Nat.le_of_ble_eq_true rfl) rfl,trivial⟩) ?_
  intro b31
  refine A.d<|A.c<|A.h [.p,.ld 11,.p,.p] [(1,c_ n),(8,p_ b16),(128,vS B'20 ev'21 b'22),(129,c_ ev'21.length),(130,c_ k),(15,vS ao ((ev'21.take k).map (ez n)) co),(17,p_ b31),(137,b_<|x30.vq1==(n:Int))] [b31]<|A.v (E:=x30.vq1==(n:Int)) rfl (fun e11=>?_) (fun e11=>?_)
  ·exact absurd e11<|by(intro h_;simp at h_;exact hp2 _ (List.mem_of_getElem? ‹_›) h_)
  refine A.p<|A.d<|A.c<|A.h [.p,.ld 11,.p,.p] [(1,c_ n),(8,p_ b16),(128,vS B'20 ev'21 b'22),(129,c_ ev'21.length),(130,c_ k),(15,vS ao ((ev'21.take k).map (ez n)) co),(17,p_ b31),(141,b_<|decide (x30.vq1>(n:Int)))] [b31]<|A.v (E:=decide (x30.vq1>(n:Int))) rfl (fun e12=>?_) (fun e12=>?_)
  ·have p12:=of_decide_eq_true e12
   refine A.s<|A.gU [.p,.ld 11,.w<|x30.vq1-1,.p,.st 11] [(1,c_ n),(8,p_ b16),(128,vS B'20 ev'21 b'22),(129,c_ ev'21.length),(130,c_ k),(15,vS ao ((ev'21.take k).map (ez n)) co),(17,p_ b31)] [(11,cw b31 [i_<|x30.vq1-1,b_ x30.vq2,b_ x30.vq3,u_ x30.vq4,u_ x30.vq5,i_ x30.vq6,u_ x30.vq7,i_ x30.vq8,w_ x30.vq9,w_ x30.vq10,w_ x30.vq11,w_ x30.vq12] 52)] [b31,b31] (o1<|wo<|km (e:=x30.vq1-1)<|by(have h_:=hhi _<|List.mem_of_getElem? (show ev'21[k]? =some _ by assumption);constructor<;>omega)) ?_
   refine A.s<|A.hp [.p,.ld 11] [(1,c_ n),(8,p_ b16),(128,vS B'20 ev'21 b'22),(129,c_ ev'21.length),(130,c_ k),(15,vS ao ((ev'21.take k).map (ez n)) co),(146,vS ao ((ev'21.take k).map (ez n)) co),(147,.agg #[i_<|x30.vq1-1,b_ x30.vq2,b_ x30.vq3,u_ x30.vq4,u_ x30.vq5,i_ x30.vq6,u_ x30.vq7,i_ x30.vq8,w_ x30.vq9,w_ x30.vq10,w_ x30.vq11,w_ x30.vq12])] [b31]<|A.j<|A.aE 148 (e:=52) [i_<|x30.vq1-1,b_ x30.vq2,b_ x30.vq3,u_ x30.vq4,u_ x30.vq5,i_ x30.vq6,u_ x30.vq7,i_ x30.vq8,w_ x30.vq9,w_ x30.vq10,w_ x30.vq11,w_ x30.vq12] (by kernel_rfl) rfl (fun _=>by kernel_rfl) (fun b32=>[eV ao ((ev'21.take k).map (ez n)) co,gy A'17 rs'18 a'19,eV B'20 ev'21 b'22,gy A'8 rs'9 a'10,eV B'11 ev'12 b'13,cw b1 [i_ t,i_ lm,vS al ops cl] 26,cw b2 (eM o) 47,sl A7 ((((ops.take n)++([o]))++(ops.drop n)).length) c7 47 10<|V.dF eM<|((ops.take n)++([o]))++(ops.drop n),cw b5 (eM o) 47,cw b16 [vS A'8 rs'9 a'10,vS B'11 ev'12 b'13] 32,cw b25 [vS A'17 rs'18 a'19,vS B'20 ev'21 b'22] 32,cw b31 [i_<|x30.vq1-1,b_ x30.vq2,b_ x30.vq3,u_ x30.vq4,u_ x30.vq5,i_ x30.vq6,u_ x30.vq7,i_ x30.vq8,w_ x30.vq9,w_ x30.vq10,w_ x30.vq11,w_ x30.vq12] 52,cw b32 [i_<|x30.vq1-1,b_ x30.vq2,b_ x30.vq3,u_ x30.vq4,u_ x30.vq5,i_ x30.vq6,u_ x30.vq7,i_ x30.vq8,w_ x30.vq9,w_ x30.vq10,w_ x30.vq11,w_ x30.vq12] 52]) (fun _=>rfl) ?_
   intro b32
   refine A.j<|A.an (enc:=iJ) (xs:=((ev'21.take k).map (ez n))) ([(⟨x30.vq1-1,x30.vq2,x30.vq3,x30.vq4,x30.vq5,x30.vq6,x30.vq7,x30.vq8,x30.vq9,x30.vq10,x30.vq11,x30.vq12⟩:Ev)]) 0 149 (e:=52) (z:=(.agg #[i_ 0,b_ false,b_ false,u_ 0,u_ 0,i_ 0,u_ 0,i_ 0,w_ 0,w_ 0,w_ 0,w_ 0])) (sz:=12) (by_:=64) (by kernel_rfl) rfl rfl rfl (by kernel_rfl) (by kernel_rfl) (by rfl) (by decide) ju vn rfl (gG (i:=12) rfl) (by(simp;omega)) (fun A33 c33=>[eV A33 (((ev'21.take k).map (ez n))++([(⟨x30.vq1-1,x30.vq2,x30.vq3,x30.vq4,x30.vq5,x30.vq6,x30.vq7,x30.vq8,x30.vq9,x30.vq10,x30.vq11,x30.vq12⟩:Ev)])) c33,gy A'17 rs'18 a'19,eV B'20 ev'21 b'22,gy A'8 rs'9 a'10,eV B'11 ev'12 b'13,cw b1 [i_ t,i_ lm,vS al ops cl] 26,cw b2 (eM o) 47,sl A7 ((((ops.take n)++([o]))++(ops.drop n)).length) c7 47 10<|V.dF eM<|((ops.take n)++([o]))++(ops.drop n),cw b5 (eM o) 47,cw b16 [vS A'8 rs'9 a'10,vS B'11 ev'12 b'13] 32,cw b25 [vS A'17 rs'18 a'19,vS B'20 ev'21 b'22] 32,cw b31 [i_<|x30.vq1-1,b_ x30.vq2,b_ x30.vq3,u_ x30.vq4,u_ x30.vq5,i_ x30.vq6,u_ x30.vq7,i_ x30.vq8,w_ x30.vq9,w_ x30.vq10,w_ x30.vq11,w_ x30.vq12] 52,cw b32 [i_<|x30.vq1-1,b_ x30.vq2,b_ x30.vq3,u_ x30.vq4,u_ x30.vq5,i_ x30.vq6,u_ x30.vq7,i_ x30.vq8,w_ x30.vq9,w_ x30.vq10,w_ x30.vq11,w_ x30.vq12] 52]) (fun _ _=>rfl) ?_
   intro A33 c33
   refine A.h [.p] [(1,c_ n),(8,p_ b16),(128,vS B'20 ev'21 b'22),(129,c_ ev'21.length),(130,c_ k),(15,vS A33 (((ev'21.take k).map (ez n))++([(⟨x30.vq1-1,x30.vq2,x30.vq3,x30.vq4,x30.vq5,x30.vq6,x30.vq7,x30.vq8,x30.vq9,x30.vq10,x30.vq11,x30.vq12⟩:Ev)])) c33)] []<|A.s<|A.hk [.w<|(k:Int)+1,.p] [(1,c_ n),(8,p_ b16),(128,vS B'20 ev'21 b'22),(129,c_ ev'21.length),(130,i_<|(k:Int)+1),(15,vS A33 (((ev'21.take k).map (ez n))++([(⟨x30.vq1-1,x30.vq2,x30.vq3,x30.vq4,x30.vq5,x30.vq6,x30.vq7,x30.vq8,x30.vq9,x30.vq10,x30.vq11,x30.vq12⟩:Ev)])) c33)] [] (o1<|wj ((k:Int)+1)<|by omega)<|A.su 0 (eV A33 ((ev'21.take<|k+1).map (ez n)) c33) rfl (eI (by(rw[wO (n:Int) ‹_›,Ik ‹_›];done):((ev'21.take k).map (ez n))++([(⟨x30.vq1-1,x30.vq2,x30.vq3,x30.vq4,x30.vq5,x30.vq6,x30.vq7,x30.vq8,x30.vq9,x30.vq10,x30.vq11,x30.vq12⟩:Ev)])=((ev'21.take<|k+1).map (ez n)))) (A.aQ [(1,c_ n),(8,p_ b16),(128,vS B'20 ev'21 b'22),(129,c_ ev'21.length),(130,i_<|(k:Int)+1),(15,vS A33 ((ev'21.take<|k+1).map (ez n)) c33)] (by exact⟨rfl,rfl,rfl,rfl,rfl,congrArg (fun z_:List Ev=>some<|Value.slice A33 z_.length c33) (by(rw[wO (n:Int) ‹_›,Ik ‹_›];done):((ev'21.take k).map (ez n))++([(⟨x30.vq1-1,x30.vq2,x30.vq3,x30.vq4,x30.vq5,x30.vq6,x30.vq7,x30.vq8,x30.vq9,x30.vq10,x30.vq11,x30.vq12⟩:Ev)])=((ev'21.take<|k+1).map (ez n))),trivial⟩)<|A.Z (k+1,A33,c33) (by omega) (by(simp;omega)) ?_)
   exact A.aI [0,0,0,0,0,0,0,0,0,0,0] ⟨rfl,rfl,rfl,rfl,rfl,rfl,trivial⟩<|by kernel_rfl
  have p12:=of_decide_eq_false e12
  refine A.p<|A.s<|A.hp [.p,.ld 11] [(1,c_ n),(8,p_ b16),(128,vS B'20 ev'21 b'22),(129,c_ ev'21.length),(130,c_ k),(15,vS ao ((ev'21.take k).map (ez n)) co),(146,vS ao ((ev'21.take k).map (ez n)) co),(147,.agg (iJ x30).toArray)] [b31]<|A.j<|A.aE 148 (e:=52) (iJ x30) (by kernel_rfl) rfl (fun _=>by kernel_rfl) (fun b34=>[eV ao ((ev'21.take k).map (ez n)) co,gy A'17 rs'18 a'19,eV B'20 ev'21 b'22,gy A'8 rs'9 a'10,eV B'11 ev'12 b'13,cw b1 [i_ t,i_ lm,vS al ops cl] 26,cw b2 (eM o) 47,sl A7 ((((ops.take n)++([o]))++(ops.drop n)).length) c7 47 10<|V.dF eM<|((ops.take n)++([o]))++(ops.drop n),cw b5 (eM o) 47,cw b16 [vS A'8 rs'9 a'10,vS B'11 ev'12 b'13] 32,cw b25 [vS A'17 rs'18 a'19,vS B'20 ev'21 b'22] 32,cw b31 (iJ x30) 52,cw b34 (iJ x30) 52]) (fun _=>rfl) ?_
  intro b34
  refine A.j<|A.an (enc:=iJ) (xs:=((ev'21.take k).map (ez n))) ([x30]) 0 149 (e:=52) (z:=(.agg #[i_ 0,b_ false,b_ false,u_ 0,u_ 0,i_ 0,u_ 0,i_ 0,w_ 0,w_ 0,w_ 0,w_ 0])) (sz:=12) (by_:=64) (by kernel_rfl) rfl rfl rfl (by kernel_rfl) (by kernel_rfl) (by rfl) (by decide) ju vn rfl (gG (i:=12) rfl) (by(simp;omega)) (fun A35 c35=>[eV A35 (((ev'21.take k).map (ez n))++([x30])) c35,gy A'17 rs'18 a'19,eV B'20 ev'21 b'22,gy A'8 rs'9 a'10,eV B'11 ev'12 b'13,cw b1 [i_ t,i_ lm,vS al ops cl] 26,cw b2 (eM o) 47,sl A7 ((((ops.take n)++([o]))++(ops.drop n)).length) c7 47 10<|V.dF eM<|((ops.take n)++([o]))++(ops.drop n),cw b5 (eM o) 47,cw b16 [vS A'8 rs'9 a'10,vS B'11 ev'12 b'13] 32,cw b25 [vS A'17 rs'18 a'19,vS B'20 ev'21 b'22] 32,cw b31 (iJ x30) 52,cw b34 (iJ x30) 52]) (fun _ _=>rfl) ?_
  intro A35 c35
  refine A.h [.p] [(1,c_ n),(8,p_ b16),(128,vS B'20 ev'21 b'22),(129,c_ ev'21.length),(130,c_ k),(15,vS A35 (((ev'21.take k).map (ez n))++([x30])) c35)] []<|A.s<|A.hk [.w<|(k:Int)+1,.p] [(1,c_ n),(8,p_ b16),(128,vS B'20 ev'21 b'22),(129,c_ ev'21.length),(130,i_<|(k:Int)+1),(15,vS A35 (((ev'21.take k).map (ez n))++([x30])) c35)] [] (o1<|wj ((k:Int)+1)<|by omega)<|A.su 0 (eV A35 ((ev'21.take<|k+1).map (ez n)) c35) rfl (eI (by(rw[wO (n:Int) ‹_›,Il ‹_›];done):((ev'21.take k).map (ez n))++([x30])=((ev'21.take<|k+1).map (ez n)))) (A.aQ [(1,c_ n),(8,p_ b16),(128,vS B'20 ev'21 b'22),(129,c_ ev'21.length),(130,i_<|(k:Int)+1),(15,vS A35 ((ev'21.take<|k+1).map (ez n)) c35)] (by exact⟨rfl,rfl,rfl,rfl,rfl,congrArg (fun z_:List Ev=>some<|Value.slice A35 z_.length c35) (by(rw[wO (n:Int) ‹_›,Il ‹_›];done):((ev'21.take k).map (ez n))++([x30])=((ev'21.take<|k+1).map (ez n))),trivial⟩)<|A.Z (k+1,A35,c35) (by omega) (by(simp;omega)) ?_)
  exact A.aI [0,0,0,0,0,0,0,0,0,0,0] ⟨rfl,rfl,rfl,rfl,rfl,rfl,trivial⟩<|by kernel_rfl
 have p10:=of_decide_eq_false e10
 refine A.aA<|A.c<|A.hk [.p,.p,.ld 9,.cq<|b_ true,.p,.o,.cq<|b_ true,.cl,.p] [(6,b_<|true&&true)] [b16] (oc (qo<|fun w s=>N5 ao ((ev'21.take k).map (ez n)) co B'11 ev'12 b'13 (by(simp;omega)) (by(rw[List.take_of_length_le<|by omega];exact hp3)) w ((fM (i:=0) rfl) w s)<|(fM (i:=4) rfl) w s)<|o1<|go (true&&(true==true)) fun h_=>(qo<|fun w s=>xC w))<|A.e<|A.aL [b_<|true&&true] (fun _ w r s=>⟨fk r rfl,trivial⟩) ?_
 show((b_<|true&&true):Value)=(b_ true)
 rfl
theorem Jw(t lm:Int)(al:Option Addr)(ops:List fC)(cl:Nat)(n:Int)(o:fC)(hn:n<0)(w:World)(r0:eo w al (V.dF eM ops)):
  CW 4 #[.agg #[i_ t,i_ lm,vS al ops cl],i_ n,.agg (eM o).toArray] w (b_ true):=by
 refine A.C Tryz.func4 rfl (HS.nil w) (A.c<|A.n2 [.al,.al,.p] [0,2] (fun b1 b2=>[(3,p_ b1),(5,p_ b2)]) (fun b1 b2=>[cw b1 [i_ t,i_ lm,vS al ops cl] 26,cw b2 (eM o) 47]) ?_)
 intro b1 b2
 refine A.d<|A.c<|A.k [.ld 0,.cq<|b_<|lX t lm&&jJ ops 200,.p,.p,.o,.p,.p,.cl,.p,.o,.p,.p,.ld 0,.p,.p,.cl,.p,.o,.p,.ld 1,.p,.p,.cl,.p,.o,.p,.ld 1,.p,.p,.cl] [] [(43,b_<|((((!(lX t lm&&jJ ops 200))||(decide (n<0)))||(decide (n>(ops.length:Int))))||(decide ((o.zl.length:Int)>40)))||(decide ((o.rl.length:Int)>40)))] [b1,b1,b2,b2] (o1<|qo<|fun w s=>HO t lm al ops cl 200 (by omega) w<|(ef r0<|by simp[dE]) w s)<|A.v rfl (fun e1=>?_) (fun e1=>?_)
 ·refine A.c<|A.k [.cq<|b_ true,.p] [1,3,5,43] [(6,b_ true)] [] (o1<|qo<|fun w s=>xC w)<|A.e<|A.W [b_ true] ?_
  rfl
 exact absurd e1<|by(intro h_;simp at h_;omega)
end Go.Proofs.YtobgjpigngoggaaGreat
namespace Go.Proofs.YtobgjpigngoggaaGreat
open Go V
open Go.ChangeShapes Go.WideShapes Go.ChangeAt Go.RowKit
section
variable{H:Type}{enc:TypeId×Value→H}{P:Program}{w:World}{base:Nat}{spare:Nat→Bool}{held:Bool}
variable{cs:List Value}
theorem AD{α:Type}{ea:α→List Value}{ok:α→Prop}{sz fu:Nat}{t e:TypeId}{x:DataW H×List MemPlace}(ht:P.underlying t=some (.slice e))(hs:P.cellsOf e=sz)(hlen: ∀x,(ea x).length=sz)(hp:0<sz)
  (ho: ∀fu cs x,DataW.trod enc P w base spare held fu e cs=some x→ ∃y,cs=ea y∧ok y)(h:DataW.trod enc P w base spare held fu t cs=some x): ∃(A0:Option Addr)(cap:Nat)(xs:List α),cs=[.slice A0 xs.length cap]∧eo w A0 (dF ea xs)∧(∀x∈xs,ok x)∧xs.length≤cap:=by
 rcases Go.Deep.open_slice ht h with⟨rfl,-⟩|⟨a,len,cap,m,n,D,Pl,rfl,hb,h1,h2,h3,-,hx⟩
 ·exact⟨none,0,[],rfl,by intro j u hu;simp[dF] at hu,by simp,by simp⟩
 ·have hlm:len≤m:=by rw[h3];split<;>omega
  have key: ∀j,j≤len→ ∃xs:List α,xs.length=j∧eo w (some a) (dF ea xs)∧ ∀x∈xs,ok x:=by
   intro j
   induction j with
   |zero=>intro _;exact⟨[],rfl,by intro j u hu;simp[dF] at hu,by simp⟩
   |succ j ih=>
    intro hj
    obtain⟨xs,hxl,hxa,hxo⟩:=ih<|by omega
    obtain⟨cs',hc,htr⟩:=hx j<|by omega
    obtain⟨y,rfl,hy⟩:=ho _ _ _ htr
    refine⟨xs++[y],by simp[hxl],?_,by intro z hz;simp at hz;rcases hz with hz|rfl;exact hxo z hz;exact hy⟩
    intro i u hu
    rw[yo] at hu
    by_cases hi:i<(dF ea xs).length
    ·rw[List.getElem?_append_left hi] at hu;exact hxa i u hu
    ·rw[List.getElem?_append_right<|by omega] at hu
     have hfl:=pY hlen xs
     rw[hxl] at hfl
     rw[show dF ea [y]=ea y by simp[dF]] at hu
     obtain⟨-,-,hcell⟩:=World.cells?_some hc
     have hlt:i-(dF ea xs).length<sz:=by
      have:=(List.getElem?_eq_some_iff.1 hu).1;rw[hlen y] at this;exact this
     have h8:=hcell (i-(dF ea xs).length) (by rw[hs];exact hlt)
     refine⟨rfl,?_⟩
     simp only[dR,Option.getD_some]
     rw[Addr.add_add,hs] at h8
     rw[show j*sz+(i-(dF ea xs).length)=i by omega] at h8
     rw[h8,hu]
  obtain⟨xs,h4,h5,h6⟩:=key len<|Nat.le_refl _
  exact⟨some a,cap,xs,by rw[h4],h5,h6,by rw[h4];exact h1⟩
def yf(w:World)(x:fC):Prop:=eo w x.za (V.dF jS x.zl)∧eo w x.ra (V.dF ft x.rl)∧(∀z∈x.zl,j0 z)∧(∀y∈x.rl,kP y)∧kO (gB x.op)∧0≤x.tk
theorem U0(h:cs.length=10):cs=(cs.drop 0).take 1++((cs.drop 1).take 1++((cs.drop 2).take 1++((cs.drop 3).take 6++(cs.drop 9).take 1))):=by
 match cs,h with
 |[a,b,c,d,e,f,g,h,i,j],_=>rfl
theorem Im(fu:Nat)(cs:List Value)(x:DataW H×List MemPlace)(h:DataW.trod enc Tryz.prog w base spare held fu 47 cs=some x): ∃o:fC,cs=eM o∧yf w o:=by
 obtain⟨xs,n,-,-,hl,hlen,hf⟩:=DataW.trod_struct Tryz.underlying47 h
 have hl:cs.length=10:=hl.trans<|by kernel_rfl
 have g0:=hf 0 _ rfl;have g1:=hf 1 _ rfl;have g2:=hf 2 _ rfl;have g3:=hf 3 _ rfl;have g4:=hf 4 _ rfl
 match xs,hlen with
 |[y0,y1,y2,y3,y4],_=>
  change DataW.trod enc Tryz.prog w base spare held n 3 ((cs.drop 0).take (Tryz.prog.cellsOf 3))=some y0 at g0
  change DataW.trod enc Tryz.prog w base spare held n 38 ((cs.drop 1).take (Tryz.prog.cellsOf 38))=some y1 at g1
  change DataW.trod enc Tryz.prog w base spare held n 39 ((cs.drop 2).take (Tryz.prog.cellsOf 39))=some y2 at g2
  change DataW.trod enc Tryz.prog w base spare held n 45 ((cs.drop 3).take (Tryz.prog.cellsOf 45))=some y3 at g3
  change DataW.trod enc Tryz.prog w base spare held n 40 ((cs.drop 9).take (Tryz.prog.cellsOf 40))=some y4 at g4
  rw[show Tryz.prog.cellsOf 3=1 by kernel_rfl] at g0
  rw[show Tryz.prog.cellsOf 38=1 by kernel_rfl] at g1
  rw[show Tryz.prog.cellsOf 39=1 by kernel_rfl] at g2
  rw[show Tryz.prog.cellsOf 45=6 by kernel_rfl] at g3
  rw[show Tryz.prog.cellsOf 40=1 by kernel_rfl] at g4
  obtain⟨v0,c0,e0,f0,z0⟩:=gP<|rq 9 n 3 [.int .i64] _ _ (by kernel_rfl) g0
  obtain⟨k,rfl,-⟩:=n0 f0
  obtain⟨za,zc,zl,e1,a1,o1,-⟩:=AD (ea:=jS) (ok:=j0) (sz:=15) Tryz.underlying38 (by kernel_rfl) uJ (by decide) (fun fu cs x h=>TE cs<|rq 9 fu 84 _ _ _ (by kernel_rfl) h) g1
  obtain⟨ra,rc,rl,e2,a2,o2,-⟩:=AD (ea:=ft) (ok:=kP) (sz:=9) Tryz.underlying39 (by kernel_rfl) lK (by decide) (fun fu cs x h=>RO cs<|rq 9 fu 86 _ _ _ (by kernel_rfl) h) g2
  obtain⟨p0,c1,e3,f1,z1⟩:=gP<|rq 9 n 45 [.int .u64,.int .i64,.int .u16,.int .u16,.int .u16,.int .u16] _ _ (by kernel_rfl) g3
  obtain⟨qi,rfl,-⟩:=nD f1
  obtain⟨p1,c2,rfl,f2,z2⟩:=gP z1
  obtain⟨qn,rfl,-⟩:=n0 f2
  obtain⟨p2,c3,rfl,f3,z3⟩:=gP z2
  obtain⟨qa,rfl,r1⟩:=mO f3
  obtain⟨p3,c4,rfl,f4,z4⟩:=gP z3
  obtain⟨qb,rfl,r2⟩:=mO f4
  obtain⟨p4,c5,rfl,f5,z5⟩:=gP z4
  obtain⟨qc,rfl,r3⟩:=mO f5
  obtain⟨p5,c6,rfl,f6,z6⟩:=gP z5
  obtain⟨qd,rfl,r4⟩:=mO f6
  obtain⟨v4,c7,e4,f7,z7⟩:=gP<|rq 9 n 40 [.int .u64] _ _ (by kernel_rfl) g4
  obtain⟨tk,rfl,r5⟩:=nD f7
  rw[rp z0] at e0;rw[rp z6] at e3;rw[rp z7] at e4
  refine⟨⟨k,za,zl,zc,ra,rl,rc,⟨qi,qn,qa,qb,qc,qd⟩,tk⟩,?_,a1,a2,o1,o2,⟨r1,r2,r3,r4⟩,r5.1⟩
  rw[U0 hl,e0,e1,e2,e3,e4];rfl
variable{d:DataW H}{ps:List MemPlace}
theorem N8{v:Value}(hv: ∃cs,v= .agg cs∧cs.size=Tryz.prog.cellsOf 26)(h:DataW.Trod enc Tryz.prog w base spare held 26 v d ps):
  ∃(t lm:Int)(al:Option Addr)(ops:List fC)(cl:Nat),v= .agg #[i_ t,i_ lm,vS al ops cl]∧eo w al (V.dF eM ops)∧mf w ops∧ops.length≤cl:=by
 obtain⟨cs,rfl,hcs⟩:=hv
 have hcs:cs.size=3:=hcs.trans<|by kernel_rfl
 obtain⟨fu,h⟩:=h
 change DataW.trod enc Tryz.prog w base spare held fu 26 cs.toList=_ at h
 obtain⟨xs,n,-,-,hl,hlen,hf⟩:=DataW.trod_struct Tryz.underlying26 h
 have g0:=hf 0 _ rfl;have g1:=hf 1 _ rfl
 match xs,hlen with
 |[y0,y1],_=>
  change DataW.trod enc Tryz.prog w base spare held n 23 ((cs.toList.drop 0).take (Tryz.prog.cellsOf 23))=some y0 at g0
  change DataW.trod enc Tryz.prog w base spare held n 24 ((cs.toList.drop 2).take (Tryz.prog.cellsOf 24))=some y1 at g1
  rw[show Tryz.prog.cellsOf 23=2 by kernel_rfl] at g0
  rw[show Tryz.prog.cellsOf 24=1 by kernel_rfl] at g1
  obtain⟨v0,c0,e0,f0,z0⟩:=gP<|rq 9 n 23 [.int .i64,.int .i64] _ _ (by kernel_rfl) g0
  obtain⟨t,rfl,-⟩:=n0 f0
  obtain⟨v1,c1,rfl,f1,z1⟩:=gP z0
  obtain⟨lm,rfl,-⟩:=n0 f1
  rw[rp z1] at e0
  obtain⟨al,cl,ops,e1,a1,o1,o2⟩:=AD (ea:=eM) (ok:=yf w) (sz:=10) Tryz.underlying24 (by kernel_rfl) nR (by decide) Im g1
  refine⟨t,lm,al,ops,cl,?_,a1,o1,o2⟩
  congr 1
  apply Array.ext'
  have hl3:cs.toList.length=3:=by simpa using hcs
  generalize cs.toList=l at e0 e1 hl3
  match l,hl3 with
  |[a,b,c],_=>simp at e0 e1;obtain⟨rfl,rfl⟩:=e0;subst e1;rfl
theorem PU{v:Value}(hv: ∃cs,v= .agg cs∧cs.size=Tryz.prog.cellsOf 47)(h:DataW.Trod enc Tryz.prog w base spare held 47 v d ps): ∃o:fC,v= .agg (eM o).toArray∧yf w o:=by
 obtain⟨cs,rfl,hcs⟩:=hv
 obtain⟨fu,h⟩:=h
 change DataW.trod enc Tryz.prog w base spare held fu 47 cs.toList=_ at h
 obtain⟨o,h1,h2⟩:=Im fu _ _ h
 exact⟨o,by rw[←h1],h2⟩
theorem Jx(t lm:Int)(al:Option Addr)(ops:List fC)(cl:Nat)(n:Int)(o:fC)(w:World)(r0:eo w al (V.dF eM ops))(r1:mf w ops)(hc:ops.length≤cl)(ho:yf w o):Calls Tryz.prog 4 #[.agg #[i_ t,i_ lm,vS al ops cl],i_ n,.agg (eM o).toArray] w fun e w'=>e= .returned (b_ true)∧Fr [] w w':=by
 rcases(show n<0∨0≤n by omega) with h|h
 ·exact Jw t lm al ops cl n o h w r0
 ·obtain⟨m,rfl⟩:=Int.eq_ofNat_of_zero_le h
  exact Jv t lm al ops cl m o hc w r0 r1 (fun x hx=>by rw[List.mem_singleton.1 hx];exact ho)
end
end Go.Proofs.YtobgjpigngoggaaGreat
