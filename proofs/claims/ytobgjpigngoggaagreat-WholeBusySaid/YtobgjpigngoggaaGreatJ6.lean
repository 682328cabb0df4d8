/- The functions of the scheduler, layer by layer, proved operation by operation for all arguments, under the conditions that each theorem states: part 6. -/
import Derived.Test.YtobgjpigngoggaaGreatProg
import Derived.ProofKit
import Derived.OpenShut
import Derived.Below
import Derived.Lib.SmallJoins
import Derived.Test.YtobgjpigngoggaaGreatJ5
set_option linter.unusedVariables false
set_option linter.unusedSimpArgs false
set_option maxHeartbeats 4000000
set_option maxRecDepth 100000
namespace Go.Proofs.YtobgjpigngoggaaGreat
open Go V
theorem iF(x:Cl):(ag x).length=14:=rfl
theorem vG(x:Cl):(ag x).all Value.oneCell'=true:=rfl
abbrev dw(A:bn)(xs:List Cl)(c:Nat):V.aH:=sl A xs.length c 62 14<|V.aQ ag xs
theorem HN(c:Cl):
  CS 120 #[.agg (ag c).toArray] [] (fun(v:Int)=>(i_ v)) (fun _=>True) fun _=>[]:=by
 intro w hs
 refine aU Tryz.func120 rfl hs (aC<|dD [.al] [] (fun b1=>[(1,p_ b1)]) (fun b1=>aA b1 (ag c) 62) ?_)
 intro b1
 refine cS<|bF [.ld 0,.p,.p,.o,.ld 0,.p,.cl,.p,.o,.ld 0,.p,.cl,.p,.o,.ld 0,.p,.cl,.p,.o,.ld 0,.ld 0,.p,.cl] [(30,b_<|((((decide (c.hi<1))||(decide (c.hi>65536)))||(decide (c.hp<0)))||(decide (c.hp>65536)))||(c.hi==c.hp))]<|aI rfl (fun e1=>?_) (fun e1=>?_)
 ·refine aD [(2,i_ 1)]<|aF<|bJ [] [i_ 1] (1) ?_ ?_
  ·rfl
  trivial
 refine aP<|bW [.ld 0,.cq<|i_<|cR c.ra c.rb c.rc] [(3,i_<|cR c.ra c.rb c.rc)] (o1<|qw<|lN c.ra c.rb c.rc)<|bW [.ld 0,.cq<|i_<|cR c.la c.lb c.lc] [(4,i_<|cR c.la c.lb c.lc)] (o1<|qw<|lN c.la c.lb c.lc)<|bW [.ld 0,.cq<|i_<|cR c.ua c.ub c.uc] [(5,i_<|cR c.ua c.ub c.uc)] (o1<|qw<|lN c.ua c.ub c.uc)<|cS<|bF [.p,.p,.p,.o,.p,.p,.cl,.p,.o,.p,.p,.cl,.p,.o,.p,.p,.cl,.p,.o,.p,.p,.cl] [(57,b_<|(((((cR c.ra c.rb c.rc)==0)||((cR c.la c.lb c.lc)==0))||((cR c.ua c.ub c.uc)==0))||((cR c.la c.lb c.lc)==4))||((cR c.ua c.ub c.uc)==4))]<|aI rfl (fun e2=>?_) (fun e2=>?_)
 ·refine aD [(2,i_ 21)]<|aF<|bJ [] [i_ 21] (21) ?_ ?_
  ·rfl
  trivial
 refine aP<|cS<|bF [.p,.p,.p,.o,.p,.p,.cl] [(63,b_<|(decide ((cR c.ua c.ub c.uc)>1))&&((cR c.la c.lb c.lc)==1))]<|aI rfl (fun e3=>?_) (fun e3=>?_)
 ·refine aD [(2,i_ 29)]<|aF<|bJ [] [i_ 29] (29) ?_ ?_
  ·rfl
  trivial
 refine aP<|cS<|bF [.ld 0] [(65,b_ c.hl)]<|fx c.hl (fun e4=>?_)<|fun e4=>?_
 ·refine cS<|bF [.ld 0,.p,.p,.o,.ld 0,.p,.cl,.p,.o,.ld 0,.p,.cl,.p,.o,.ld 0,.p,.cl,.p,.o,.p,.p,.p,.o,.p,.p,.cl,.cl] [(91,b_<|((((decide (c.hk<1))||(decide (c.hk>64)))||(decide (c.hq<1)))||(decide (c.hq>1048576)))||(((cR c.ra c.rb c.rc)==1)&&((cR c.la c.lb c.lc)==1)))]<|aI rfl (fun e5=>?_) (fun e5=>?_)
  ·refine aD [(2,i_ 29)]<|aF<|bJ [] [i_ 29] (29) ?_ ?_
   ·rfl
   trivial
  refine aP<|aD [(2,i_ 0)]<|aF<|bJ [] [i_ 0] (0) ?_ ?_
  ·rfl
  trivial
 refine aP<|cS<|bF [.ld 0,.o,.ld 0,.cl,.o,.cl] [(103,b_<|((c.hk !=0)||(c.hq !=0))||((cR c.ra c.rb c.rc)!=1))]<|aI rfl (fun e6=>?_) (fun e6=>?_)
 ·refine aD [(2,i_ 29)]<|aF<|bJ [] [i_ 29] (29) ?_ ?_
  ·rfl
  trivial
 refine aP<|aD [(2,i_ 0)]<|aF<|bJ [] [i_ 0] (0) ?_ ?_
 ·rfl
 trivial
abbrev yw(p0)(p1:List Cl):=(b_ (decide ((p0:Int)<(p1.length:Int))):Value)
theorem t6(al:bn)(l:List Cl)(cl:Nat)(a:Int)(hl:l.length≤100000)(w:World)(r0:dR w al (V.aQ ag l))(hs:HI w []):
  CV 14 #[vS al l cl,i_ a] w [] (fun(v:Int)=>(i_ v)) (fun v=>(v= -1∨ ∃(m:Nat)(x:Cl),v=(m:Int)∧l[m]? =some x)) fun _=>[]:=by
 refine aU Tryz.func14 rfl hs (aD []<|aE<|aD [(7,vS al l cl),(8,c_ l.length),(9,i_ 0)]<|aO<|fm (fun(zz:Nat)=>match zz with|k=>[(1,i_ a),(7,vS al l cl),(8,c_ l.length),(9,c_ k)]) (fun(zz:Nat)=>match zz with|k=>[]) (fun(zz:Nat)=>match zz with|k=>(k≤l.length)) (fun(zz:Nat)=>match zz with|k=>l.length-k) (0:Nat) (by omega) ?_ ?_)
 ·exact cQ [] ⟨rfl,rfl,rfl,rfl,trivial⟩<|by kernel_rfl
 rintro k hk
 have hk:k≤l.length:=hk
 refine eo [(1,i_ a),(7,vS al l cl),(8,c_ l.length),(9,c_ k)] [] ⟨rfl,rfl,rfl,rfl,trivial⟩ rfl (aD [(9,c_ k),(10,yw k l)]<|aE<|aI (E:=decide ((k:Int)<(l.length:Int))) rfl (fun e1=>?_) (fun e1=>?_))
 ·have p1:=dZ e1
  refine au<|aO<|aC<|dm 2 [.ix] [(11,c_ k),(12,.pointer<|some<|(aZ al).add (k*14))] (o1<|io (k:Int)<|dh iF (by decide) (bg r0<|by simp[aL])<|by omega) ?_
  obtain⟨x1,hx1⟩: ∃x,(l)[k]? =some x:=⟨_,dA<|by omega⟩
  refine jN [.rd<|ag x1,.al,.p,.st 0] [1,7,8,9,6,5] (fun b2=>[(1,i_ a),(7,vS al l cl),(8,c_ l.length),(9,c_ k),(6,p_ b2),(5,c_ k)]) (fun b2=>[aA b2 (ag x1) 62]) (fun b2=>[b2]) (fun _=>(fun κ=>κ.rd ((aZ al).add (k*14)) (ag x1)∧True)) (fun _=>by kernel_rfl) (fun b2=>⟨dY (vs:=(ag x1)) iF (bg r0<|by simp[aL]) hx1 (Nat.le_of_ble_eq_true rfl) rfl,trivial⟩) ?_
  intro b2
  refine aC<|bF [.ld 0] [(5,c_ k),(17,b_<|x1.hi==a)]<|aI (E:=x1.hi==a) rfl (fun e2=>?_) (fun e2=>?_)
  ·refine aC<|dQ [] [(4,c_ k)]<|aF<|cN [] [c_ k] (fun _ w r s=>⟨dM r rfl,trivial⟩) ((k:Int)) ?_ ?_<|by kernel_rfl
   ·rfl
   exact .inr ⟨k,_,rfl,‹_›⟩
  refine aP<|aM<|fy [.w<|(k:Int)+1] [(1,i_ a),(7,vS al l cl),(8,c_ l.length),(9,i_<|(k:Int)+1)] (o1<|wj ((k:Int)+1)<|by omega)<|bC (k+1) (by omega) (by(simp;omega)) ?_
  exact cQ [] ⟨rfl,rfl,rfl,rfl,trivial⟩<|by kernel_rfl
 have p1:=ga e1
 refine bR<|aD [(4,i_ (-1))]<|aF<|cN [] [i_ (-1)] (fun _ w r s=>⟨dM r rfl,trivial⟩) ((-1)) ?_ ?_<|by kernel_rfl
 ·rfl
 exact .inl rfl
theorem yx(al:bn)(l:List Cl)(cl:Nat)(a:Int)(hl:l.length≤100000)(w:World)(r0:dR w al (V.aQ ag l))(hs:HI w []):
  CV 121 #[vS al l cl,i_ a] w [] (fun(b:Bool)=>(b_ b)) (fun _=>True) fun _=>[]:=by
 refine aU Tryz.func121 rfl hs (aD []<|aC<|bA 2 [] [(6,vS al l cl),(7,i_ a)]<|aG<|dG (some 8) [] (fun w s h=>t6 al l cl a ‹_› w ((bg r0<|by simp[aL]) w s) h) ?_)
 rintro v1 hz1
 refine ak [(5,i_ v1)]<|aE ?_
 by_cases ho:v1= -1
 ·refine aW 5 (i_ (-1)) (ko ho)<|aM<|bA 3 [] [(11,b_<|a==0)]<|iM (a==0) (fun e2=>?_)<|fun e2=>?_
  ·refine aW 11 (b_ true) (fM e2)<|bF [.sk,.sk,.sk,.sk,.sk,.sk,.sk,.sk,.sk,.sk,.sk] [(4,b_ true)]<|aF<|bJ [] [b_ true] (true) ?_ ?_
   ·rfl
   trivial
  refine aW 11 (b_ false) (fM e2)<|bF [.p,.p,.p,.sk,.sk,.sk,.sk,.sk,.sk,.sk] [(4,b_ false)]<|aF<|bJ [] [b_ false] (false) ?_ ?_
  ·rfl
  trivial
 obtain⟨m,x,hv,hx⟩:=hz1.resolve_left ho;have hlt:=(dT.1 hx).1
 refine aW 5 (c_ m) (ko hv)<|aM<|az [.p,.p,.p,.o,.p,.p,.p,.o,.ix,.rd [u_ x.la,u_ x.lb,u_ x.lc],.cq<|i_<|cR x.la x.lb x.lc,.p,.cl,.cl] [(4,b_<|(a==0)||((decide ((m:Int)≥0))&&(decide ((cR x.la x.lb x.lc)>1))))] (oc (go ((true&&((a==0)==false))&&((decide ((m:Int)≥0))==true)) fun h_=>(io (m:Int)<|dh iF (by decide) (bg r0<|by simp[aL])<|by omega))<|oc (go ((true&&((a==0)==false))&&((decide ((m:Int)≥0))==true)) fun h_=>(ro (((aZ al).add (m*14)).add 6)<|kR (f:=6) (vs:=[u_ x.la,u_ x.lb,u_ x.lc]) iF (bg r0<|by simp[aL]) hx (by simp) rfl))<|o1<|go ((true&&((a==0)==false))&&((decide ((m:Int)≥0))==true)) fun h_=>(qw<|lN x.la x.lb x.lc))<|aF<|bJ [] [b_<|(a==0)||((decide ((m:Int)≥0))&&(decide ((cR x.la x.lb x.lc)>1)))] ((a==0)||((decide ((m:Int)≥0))&&(decide ((cR x.la x.lb x.lc)>1)))) ?_ ?_
 ·rfl
 trivial
theorem AG(al:bn)(l:List Cl)(cl:Nat)(a:Int)(hl:l.length≤100000)(w:World)(r0:dR w al (V.aQ ag l))(hs:HI w []):
  CV 35 #[vS al l cl,i_ a] w [] (fun((A',xs',c'):(bn)×(bT)×Nat)=>(vS A' xs' c')) (fun(A',xs',c')=>xs'.length≤70) fun(A',xs',c')=>[sI A' xs' c']:=by
 refine aU Tryz.func35 rfl hs (aD []<|aD [(5,e_)]<|aD [(6,i_ a)]<|aE<|aD [(9,i_ 0)]<|aO<|gC 3 1 [sI none ([]:bT) 0] rfl (fm (fun((k,ta,ao,xs,co):Nat×Int×(bn)×(bT)×Nat)=>[(0,vS al l cl),(9,c_ k),(6,i_ ta),(5,vS ao xs co)]) (fun((k,ta,ao,xs,co):Nat×Int×(bn)×(bT)×Nat)=>[sI ao xs co]) (fun((k,ta,ao,xs,co):Nat×Int×(bn)×(bT)×Nat)=>(k≤70)∧(xs.length≤k)) (fun((k,ta,ao,xs,co):Nat×Int×(bn)×(bT)×Nat)=>70-k) (0,a,none,([]:bT),0) ⟨(by omega),(by(simp;done))⟩ ?_ ?_))
 ·exact cQ [0] ⟨rfl,rfl,rfl,rfl,trivial⟩<|by kernel_rfl
 rintro⟨k,ta,ao,xs,co⟩ ⟨hk,hx⟩
 refine eo [(0,vS al l cl),(9,c_ k),(6,i_ ta),(5,vS ao xs co)] [sI ao xs co] ⟨rfl,rfl,rfl,rfl,trivial⟩ rfl (aD [(9,c_ k),(6,i_ ta),(5,vS ao xs co),(10,b_<|decide ((k:Int)<70))]<|aE<|aI (E:=decide ((k:Int)<70)) rfl (fun e1=>?_) (fun e1=>?_))
 ·have p1:=dZ e1
  refine au<|aO<|aC<|j0 [.p,.p] [(0,vS al l cl),(9,c_ k),(6,i_ ta),(5,vS ao xs co),(11,vS al l cl),(12,i_ ta)]<|aG<|dG (some 13) [] (fun w s h=>t6 al l cl ta ‹_› w ((bg r0<|by simp[aL]) w s) h) ?_
  rintro v2 hz2
  refine ak [(7,i_ v2)]<|aE<|aE ?_
  by_cases ho:v2= -1
  ·refine fE [(0,vS al l cl),(9,c_ k),(6,i_ ta),(5,vS ao xs co),(7,i_ (-1))] ⟨rfl,rfl,rfl,rfl,congrArg (fun z_=>some<|i_ z_) (by exact ho:v2= -1),trivial⟩<|bX [(7,i_ (-1)),(15,b_ true)]<|xP<|kE rfl (bR<|ni<|nh rfl (ni<|ni<|MX<|xP<|aD [(4,vS ao xs co)]<|aF<|cN [0] [vS ao xs co] (fun _ w r s=>⟨dM r rfl,trivial⟩) (ao,xs,co) ?_ ?_<|by kernel_rfl))
   ·rfl
   omega
  obtain⟨m,x,hv,hx⟩:=hz2.resolve_left ho;have hlt:=(dT.1 hx).1
  refine fE [(0,vS al l cl),(9,c_ k),(6,i_ ta),(5,vS ao xs co),(7,c_ m)] ⟨rfl,rfl,rfl,rfl,congrArg (fun z_=>some<|i_ z_) (by exact hv:v2=(m:Int)),trivial⟩<|bX [(7,c_ m),(15,b_<|decide ((m:Int)<0))]<|aI (E:=decide ((m:Int)<0)) rfl (fun e3=>?_) (fun e3=>?_)
  ·exact absurd e3<|by(intro h_;simp at h_;omega)
  have p3:=ga e3
  refine aP<|aC<|bA 2 [] [(16,vS ao xs co),(17,i_ ta)]<|aG<|eB 18 (e:=3) [i_ ta] (by kernel_rfl) rfl (fun _=>by kernel_rfl) (fun b3=>[sI ao xs co,aA b3 [i_ ta] 3]) (fun _=>rfl) ?_
  intro b3
  refine aG<|jj (enc:=i6) (xs:=xs) ([ta]) 0 19 (e:=3) (z:=(i_ 0)) (sz:=1) (by_:=8) (by kernel_rfl) rfl rfl rfl (by kernel_rfl) (by kernel_rfl) (by rfl) (by decide) dL jo rfl (eV (i:=1) rfl) (by(simp_all<;>omega)) (fun A4 c4=>[sI A4 (xs++([ta])) c4,aA b3 [i_ ta] 3]) (fun _ _=>rfl) ?_
  intro A4 c4
  refine ak [(5,vS A4 (xs++([ta])) c4)]<|aM<|az [.ix,.rd [i_ x.hp]] [(6,i_ x.hp)] (oc (io (m:Int)<|dh iF (by decide) (bg r0<|by simp[aL])<|by omega)<|o1<|ro (((aZ al).add (m*14)).add 1)<|kR (f:=1) (vs:=[i_ x.hp]) iF (bg r0<|by simp[aL]) hx (by simp) rfl)<|aM<|fy [.w<|(k:Int)+1] [(0,vS al l cl),(9,i_<|(k:Int)+1),(5,vS A4 (xs++([ta])) c4),(6,i_ x.hp)] (o1<|wj ((k:Int)+1)<|by omega)<|bC (k+1,x.hp,A4,xs++([ta]),c4) ⟨(by omega),(by(simp_all<;>omega))⟩ (by(simp;omega)) ?_
  exact cQ [0] ⟨rfl,rfl,rfl,rfl,trivial⟩<|by kernel_rfl
 have p1:=ga e1
 refine bR<|aC<|dQ [] [(4,vS ao xs co)]<|aF<|cN [0] [vS ao xs co] (fun _ w r s=>⟨dM r rfl,trivial⟩) (ao,xs,co) ?_ ?_<|by kernel_rfl
 ·rfl
 omega
theorem DW(al:bn)(l:List Cl)(cl:Nat)(a:Int)(hl:l.length≤100000)(w:World)(r0:dR w al (V.aQ ag l))(hs:HI w []):
  CV 123 #[vS al l cl,i_ a] w [] (fun((A',xs',c'):(bn)×(bT)×Nat)=>(vS A' xs' c')) (fun(A',xs',c')=>xs'.length≤l.length) fun(A',xs',c')=>[sI A' xs' c']:=by
 refine aU Tryz.func123 rfl hs (aD []<|aD [(5,e_)]<|aE<|aD [(8,vS al l cl),(9,c_ l.length),(10,i_ 0)]<|aO<|gC 3 1 [sI none ([]:bT) 0] rfl (fm (fun((k,ao,xs,co):Nat×(bn)×(bT)×Nat)=>[(1,i_ a),(8,vS al l cl),(9,c_ l.length),(10,c_ k),(5,vS ao xs co)]) (fun((k,ao,xs,co):Nat×(bn)×(bT)×Nat)=>[sI ao xs co]) (fun((k,ao,xs,co):Nat×(bn)×(bT)×Nat)=>(k≤l.length)∧(xs.length≤k)) (fun((k,ao,xs,co):Nat×(bn)×(bT)×Nat)=>l.length-k) (0,none,([]:bT),0) ⟨(by omega),(by(simp;done))⟩ ?_ ?_))
 ·exact cQ [0] ⟨rfl,rfl,rfl,rfl,rfl,trivial⟩<|by kernel_rfl
 rintro⟨k,ao,xs,co⟩ ⟨hk,hx⟩
 refine eo [(1,i_ a),(8,vS al l cl),(9,c_ l.length),(10,c_ k),(5,vS ao xs co)] [sI ao xs co] ⟨rfl,rfl,rfl,rfl,rfl,trivial⟩ rfl (aD [(10,c_ k),(5,vS ao xs co),(11,yw k l)]<|aE<|aI (E:=decide ((k:Int)<(l.length:Int))) rfl (fun e1=>?_) (fun e1=>?_))
 ·have p1:=dZ e1
  refine au<|aO<|aC<|ic [.ix] [(12,.pointer<|some<|(aZ al).add (k*14))] (o1<|io (k:Int)<|dh iF (by decide) (bg r0<|by simp[aL])<|by omega) ?_
  obtain⟨x2,hx2⟩: ∃x,(l)[k]? =some x:=⟨_,dA<|by omega⟩
  refine jN [.rd<|ag x2,.al,.st 1] [1,8,9,10,5,7] (fun b3=>[(1,i_ a),(8,vS al l cl),(9,c_ l.length),(10,c_ k),(5,vS ao xs co),(7,p_ b3)]) (fun b3=>[sI ao xs co,aA b3 (ag x2) 62]) (fun b3=>[b3]) (fun _=>(fun κ=>κ.rd ((aZ al).add (k*14)) (ag x2)∧True)) (fun _=>by kernel_rfl) (fun b3=>⟨dY (vs:=(ag x2)) iF (bg r0<|by simp[aL]) hx2 (Nat.le_of_ble_eq_true rfl) rfl,trivial⟩) ?_
  intro b3
  refine aC<|dQ [.ld 1] [(1,i_ a),(8,vS al l cl),(9,c_ l.length),(10,c_ k),(5,vS ao xs co),(7,p_ b3),(17,b_<|x2.hp==a)]<|aI (E:=x2.hp==a) rfl (fun e2=>?_) (fun e2=>?_)
  ·refine aM<|bA 3 [.ld 1] [(18,vS ao xs co),(20,i_ x2.hi)]<|aG<|eB 21 (e:=3) [i_ x2.hi] (by kernel_rfl) rfl (fun _=>by kernel_rfl) (fun b4=>[sI ao xs co,aA b3 (ag x2) 62,aA b4 [i_ x2.hi] 3]) (fun _=>rfl) ?_
   intro b4
   refine aG<|jj (enc:=i6) (xs:=xs) ([x2.hi]) 0 22 (e:=3) (z:=(i_ 0)) (sz:=1) (by_:=8) (by kernel_rfl) rfl rfl rfl (by kernel_rfl) (by kernel_rfl) (by rfl) (by decide) dL jo rfl (eV (i:=2) rfl) (by(simp_all<;>omega)) (fun A5 c5=>[sI A5 (xs++([x2.hi])) c5,aA b3 (ag x2) 62,aA b4 [i_ x2.hi] 3]) (fun _ _=>rfl) ?_
   intro A5 c5
   refine ak [(5,vS A5 (xs++([x2.hi])) c5)]<|aM<|az [.w<|(k:Int)+1] [(10,i_<|(k:Int)+1)] (o1<|wj ((k:Int)+1)<|by omega)<|bC (k+1,A5,xs++([x2.hi]),c5) ⟨(by omega),(by(simp_all<;>omega))⟩ (by(simp;omega)) ?_
   exact cQ [0] ⟨rfl,rfl,rfl,rfl,rfl,trivial⟩<|by kernel_rfl
  refine aP<|aM<|az [.w<|(k:Int)+1] [(10,i_<|(k:Int)+1)] (o1<|wj ((k:Int)+1)<|by omega)<|bC (k+1,ao,xs,co) ⟨(by omega),(by(simp_all<;>omega))⟩ (by(simp;omega)) ?_
  exact cQ [0] ⟨rfl,rfl,rfl,rfl,rfl,trivial⟩<|by kernel_rfl
 have p1:=ga e1
 refine bR<|aD [(4,vS ao xs co)]<|aF<|cN [0] [vS ao xs co] (fun _ w r s=>⟨dM r rfl,trivial⟩) (ao,xs,co) ?_ ?_<|by kernel_rfl
 ·rfl
 omega
abbrev yy:=((.agg #[i_ 0,i_ 0,b_ false,u_ 0,u_ 0,u_ 0,u_ 0,u_ 0,u_ 0,u_ 0,u_ 0,u_ 0,i_ 0,i_ 0]):Value)
theorem uE(al:bn)(l:List Cl)(cl:Nat)(c:Cl)(hl:l.length≤100000)(w:World)(r0:dR w al (V.aQ ag l))(hs:HI w []):
  CV 122 #[vS al l cl,.agg (ag c).toArray] w [] (fun((A',xs',c'):(bn)×(List Cl)×Nat)=>(vS A' xs' c')) (fun(A',xs',c')=>xs'.length≤l.length+1∧ ∀y,y∈xs'↔y=c∨(y∈l∧y.hi≠c.hi)) fun(A',xs',c')=>[dw A' xs' c']:=by
 refine aU Tryz.func122 rfl hs (aC<|dS [.al] [] (fun b1=>[(3,p_ b1)]) (fun _=>[]) (fun b1=>aA b1 (ag c) 62) ?_)
 intro b1
 refine aD [(5,e_)]<|aD [(6,b_ false)]<|aE<|aD [(9,vS al l cl),(10,c_ l.length),(11,i_ 0)]<|aO<|gC 62 14 [aA b1 (ag c) 62,dw none ([]:List Cl) 0] rfl (fm (fun((k,ao,xs,co,bp):Nat×(bn)×(List Cl)×Nat×Bool)=>[(3,p_ b1),(9,vS al l cl),(10,c_ l.length),(11,c_ k),(5,vS ao xs co),(6,b_ bp)]) (fun((k,ao,xs,co,bp):Nat×(bn)×(List Cl)×Nat×Bool)=>[dw ao xs co,aA b1 (ag c) 62]) (fun((k,ao,xs,co,bp):Nat×(bn)×(List Cl)×Nat×Bool)=>(k≤l.length)∧(xs.length+(bif bp then 0 else 1)≤k+1)∧(∀y,y∈xs↔(bp=true∧y=c)∨(y∈l.take k∧y.hi≠c.hi))) (fun((k,ao,xs,co,bp):Nat×(bn)×(List Cl)×Nat×Bool)=>l.length-k) (0,none,([]:List Cl),0,false) ⟨(by omega),(by(simp;done)),(by(simp;done))⟩ ?_ ?_)
 ·exact cQ [1,0] ⟨rfl,rfl,rfl,rfl,rfl,rfl,trivial⟩<|by kernel_rfl
 rintro⟨k,ao,xs,co,bp⟩ ⟨hk,hx,hm⟩
 refine eo [(3,p_ b1),(9,vS al l cl),(10,c_ l.length),(11,c_ k),(5,vS ao xs co),(6,b_ bp)] [dw ao xs co,aA b1 (ag c) 62] ⟨rfl,rfl,rfl,rfl,rfl,rfl,trivial⟩ rfl (aD [(11,c_ k),(5,vS ao xs co),(6,b_ bp),(12,yw k l)]<|aE<|aI (E:=decide ((k:Int)<(l.length:Int))) rfl (fun e1=>?_) (fun e1=>?_))
 ·have p1:=dZ e1
  refine au<|aO<|aC<|tJ [.ix] [(3,p_ b1),(9,vS al l cl),(10,c_ l.length),(11,c_ k),(5,vS ao xs co),(6,b_ bp),(13,.pointer<|some<|(aZ al).add (k*14))] (o1<|io (k:Int)<|dh iF (by decide) (bg r0<|by simp[aL])<|by omega) ?_
  obtain⟨x3,hx3⟩: ∃x,(l)[k]? =some x:=⟨_,dA<|by omega⟩
  refine jN [.rd<|ag x3,.al,.st 2] [3,9,10,11,5,6,8] (fun b4=>[(3,p_ b1),(9,vS al l cl),(10,c_ l.length),(11,c_ k),(5,vS ao xs co),(6,b_ bp),(8,p_ b4)]) (fun b4=>[dw ao xs co,aA b1 (ag c) 62,aA b4 (ag x3) 62]) (fun b4=>[b4]) (fun _=>(fun κ=>κ.rd ((aZ al).add (k*14)) (ag x3)∧True)) (fun _=>by kernel_rfl) (fun b4=>⟨dY (vs:=(ag x3)) iF (bg r0<|by simp[aL]) hx3 (Nat.le_of_ble_eq_true rfl) rfl,trivial⟩) ?_
  intro b4
  refine cS<|bF [.o,.ld 2,.ld 1,.cl] [(8,p_ b4),(23,b_<|(!bp)&&(decide (x3.hi≥c.hi)))]<|aI (E:=(!bp)&&(decide (x3.hi≥c.hi))) rfl (fun e2=>?_) (fun e2=>?_)
  ·refine aC<|bA 2 [.ld 1] [(24,vS ao xs co),(25,.agg (ag c).toArray)]<|aG<|eB 26 (e:=62) (ag c) (by kernel_rfl) rfl (fun _=>by kernel_rfl) (fun b5=>[dw ao xs co,aA b1 (ag c) 62,aA b4 (ag x3) 62,aA b5 (ag c) 62]) (fun _=>rfl) ?_
   intro b5
   refine aG<|jj (enc:=ag) (xs:=xs) ([c]) 0 27 (e:=62) (z:=yy) (sz:=14) (by_:=112) (by kernel_rfl) rfl rfl rfl (by kernel_rfl) (by kernel_rfl) (by rfl) (by decide) iF vG rfl (eV (i:=3) rfl) (by(simp_all<;>omega)) (fun A6 c6=>[dw A6 (xs++([c])) c6,aA b1 (ag c) 62,aA b4 (ag x3) 62,aA b5 (ag c) 62]) (fun _ _=>rfl) ?_
   intro A6 c6
   refine ak [(5,vS A6 (xs++([c])) c6)]<|bX [(6,b_ true)]<|aC<|bF [.ld 2,.ld 1] [(32,b_<|x3.hi !=c.hi)]<|aI (E:=x3.hi !=c.hi) rfl (fun e3=>?_) (fun e3=>?_)
   ·refine aM<|j0 [.p,.ld 2] [(3,p_ b1),(9,vS al l cl),(10,c_ l.length),(11,c_ k),(5,vS A6 (xs++([c])) c6),(6,b_ true),(33,vS A6 (xs++([c])) c6),(34,.agg (ag x3).toArray)]<|aG<|eB 35 (e:=62) (ag x3) (by kernel_rfl) rfl (fun _=>by kernel_rfl) (fun b7=>[dw A6 (xs++([c])) c6,aA b1 (ag c) 62,aA b4 (ag x3) 62,aA b5 (ag c) 62,aA b7 (ag x3) 62]) (fun _=>rfl) ?_
    intro b7
    refine aG<|jj (enc:=ag) (xs:=xs++([c])) ([x3]) 0 36 (e:=62) (z:=yy) (sz:=14) (by_:=112) (by kernel_rfl) rfl rfl rfl (by kernel_rfl) (by kernel_rfl) (by rfl) (by decide) iF vG rfl (eV (i:=4) rfl) (by(simp_all<;>omega)) (fun A8 c8=>[dw A8 ((xs++([c]))++([x3])) c8,aA b1 (ag c) 62,aA b4 (ag x3) 62,aA b5 (ag c) 62,aA b7 (ag x3) 62]) (fun _ _=>rfl) ?_
    intro A8 c8
    refine ak [(5,vS A8 ((xs++([c]))++([x3])) c8)]<|aM<|az [.w<|(k:Int)+1] [(11,i_<|(k:Int)+1)] (o1<|wj ((k:Int)+1)<|by omega)<|bC (k+1,A8,(xs++([c]))++([x3]),c8,true) ⟨(by omega),(by(simp_all<;>omega)),(by(rw[jC ‹_›];intro y;simp only[List.mem_append,List.mem_singleton,hm];grind))⟩ (by(simp;omega)) ?_
    exact cQ [0,0] ⟨rfl,rfl,rfl,rfl,rfl,rfl,trivial⟩<|by kernel_rfl
   refine aP<|aM<|fy [.w<|(k:Int)+1] [(3,p_ b1),(9,vS al l cl),(10,c_ l.length),(11,i_<|(k:Int)+1),(5,vS A6 (xs++([c])) c6),(6,b_ true)] (o1<|wj ((k:Int)+1)<|by omega)<|bC (k+1,A6,xs++([c]),c6,true) ⟨(by omega),(by(simp_all<;>omega)),(by(rw[jC ‹_›];intro y;simp only[List.mem_append,List.mem_singleton,hm];grind))⟩ (by(simp;omega)) ?_
   exact cQ [0,0] ⟨rfl,rfl,rfl,rfl,rfl,rfl,trivial⟩<|by kernel_rfl
  refine aP<|aC<|bF [.ld 2,.ld 1] [(32,b_<|x3.hi !=c.hi)]<|aI (E:=x3.hi !=c.hi) rfl (fun e4=>?_) (fun e4=>?_)
  ·refine aM<|bA 2 [.ld 2] [(33,vS ao xs co),(34,.agg (ag x3).toArray)]<|aG<|eB 35 (e:=62) (ag x3) (by kernel_rfl) rfl (fun _=>by kernel_rfl) (fun b9=>[dw ao xs co,aA b1 (ag c) 62,aA b4 (ag x3) 62,aA b9 (ag x3) 62]) (fun _=>rfl) ?_
   intro b9
   refine aG<|jj (enc:=ag) (xs:=xs) ([x3]) 0 36 (e:=62) (z:=yy) (sz:=14) (by_:=112) (by kernel_rfl) rfl rfl rfl (by kernel_rfl) (by kernel_rfl) (by rfl) (by decide) iF vG rfl (eV (i:=3) rfl) (by(simp_all<;>omega)) (fun A10 c10=>[dw A10 (xs++([x3])) c10,aA b1 (ag c) 62,aA b4 (ag x3) 62,aA b9 (ag x3) 62]) (fun _ _=>rfl) ?_
   intro A10 c10
   refine ak [(5,vS A10 (xs++([x3])) c10)]<|aM<|az [.w<|(k:Int)+1] [(11,i_<|(k:Int)+1)] (o1<|wj ((k:Int)+1)<|by omega)<|bC (k+1,A10,xs++([x3]),c10,bp) ⟨(by omega),(by(simp_all<;>omega)),(by(rw[jC ‹_›];intro y;simp only[List.mem_append,List.mem_singleton,hm];grind))⟩ (by(simp;omega)) ?_
   exact cQ [0,0] ⟨rfl,rfl,rfl,rfl,rfl,rfl,trivial⟩<|by kernel_rfl
  refine aP<|aM<|az [.w<|(k:Int)+1] [(11,i_<|(k:Int)+1)] (o1<|wj ((k:Int)+1)<|by omega)<|bC (k+1,ao,xs,co,bp) ⟨(by omega),(by(simp_all<;>omega)),(by(rw[jC ‹_›];intro y;simp only[List.mem_append,List.mem_singleton,hm];grind))⟩ (by(simp;omega)) ?_
  exact cQ [0,0] ⟨rfl,rfl,rfl,rfl,rfl,rfl,trivial⟩<|by kernel_rfl
 have p1:=ga e1
 refine bR<|cS<|dQ [] [(3,p_ b1),(5,vS ao xs co),(39,b_ (!bp))]<|aI (E:= !bp) rfl (fun e5=>?_) (fun e5=>?_)
 ·refine aM<|bA 2 [.ld 1] [(40,vS ao xs co),(41,.agg (ag c).toArray)]<|aG<|eB 42 (e:=62) (ag c) (by kernel_rfl) rfl (fun _=>by kernel_rfl) (fun b11=>[dw ao xs co,aA b1 (ag c) 62,aA b11 (ag c) 62]) (fun _=>rfl) ?_
  intro b11
  refine aG<|jj (enc:=ag) (xs:=xs) ([c]) 0 43 (e:=62) (z:=yy) (sz:=14) (by_:=112) (by kernel_rfl) rfl rfl rfl (by kernel_rfl) (by kernel_rfl) (by rfl) (by decide) iF vG rfl (eV (i:=2) rfl) (by(simp_all<;>omega)) (fun A12 c12=>[dw A12 (xs++([c])) c12,aA b1 (ag c) 62,aA b11 (ag c) 62]) (fun _ _=>rfl) ?_
  intro A12 c12
  refine ak [(5,vS A12 (xs++([c])) c12)]<|aD [(4,vS A12 (xs++([c])) c12)]<|aF<|cN [0] [vS A12 (xs++([c])) c12] (fun _ w r s=>⟨dM r rfl,trivial⟩) (A12,xs++([c]),c12) ?_ ?_<|by kernel_rfl
  ·rfl
  refine⟨by(simp_all<;>omega),?_⟩;rw[List.take_of_length_le<|by omega] at hm;intro y;simp only[List.mem_append,List.mem_singleton,hm];grind
 refine aP<|aD [(4,vS ao xs co)]<|aF<|cN [0] [vS ao xs co] (fun _ w r s=>⟨dM r rfl,trivial⟩) (ao,xs,co) ?_ ?_<|by kernel_rfl
 ·rfl
 refine⟨by(simp_all<;>omega),?_⟩;rw[List.take_of_length_le<|by omega] at hm;intro y;simp only[List.mem_append,List.mem_singleton,hm];grind
theorem TO(al:bn)(l:List Cl)(cl:Nat)(hl:l.length≤100000)(w:World)(r0:dR w al (V.aQ ag l))(hs:HI w []):
  CV 52 #[vS al l cl] w [] (fun((A',xs',c'):(bn)×(List Cv)×Nat)=>(vS A' xs' c')) (fun(A',xs',c')=>xs'.length≤l.length) fun(A',xs',c')=>[mm A' xs' c']:=by
 refine aU Tryz.func52 rfl hs (aD []<|aD [(3,e_)]<|aE<|aD [(6,vS al l cl),(7,c_ l.length),(8,i_ 0)]<|aO<|gC 60 3 [mm none ([]:List Cv) 0] rfl (fm (fun((k,ao,xs,co):Nat×(bn)×(List Cv)×Nat)=>[(6,vS al l cl),(7,c_ l.length),(8,c_ k),(3,vS ao xs co)]) (fun((k,ao,xs,co):Nat×(bn)×(List Cv)×Nat)=>[mm ao xs co]) (fun((k,ao,xs,co):Nat×(bn)×(List Cv)×Nat)=>(k≤l.length)∧(xs.length≤k)) (fun((k,ao,xs,co):Nat×(bn)×(List Cv)×Nat)=>l.length-k) (0,none,([]:List Cv),0) ⟨(by omega),(by(simp;done))⟩ ?_ ?_))
 ·exact cQ [0] ⟨rfl,rfl,rfl,rfl,trivial⟩<|by kernel_rfl
 rintro⟨k,ao,xs,co⟩ ⟨hk,hx⟩
 refine eo [(6,vS al l cl),(7,c_ l.length),(8,c_ k),(3,vS ao xs co)] [mm ao xs co] ⟨rfl,rfl,rfl,rfl,trivial⟩ rfl (aD [(8,c_ k),(3,vS ao xs co),(9,yw k l)]<|aE<|aI (E:=decide ((k:Int)<(l.length:Int))) rfl (fun e1=>?_) (fun e1=>?_))
 ·have p1:=dZ e1
  refine au<|aO<|aC<|ic [.ix] [(10,.pointer<|some<|(aZ al).add (k*14))] (o1<|io (k:Int)<|dh iF (by decide) (bg r0<|by simp[aL])<|by omega) ?_
  obtain⟨x2,hx2⟩: ∃x,(l)[k]? =some x:=⟨_,dA<|by omega⟩
  refine jN [.rd<|ag x2,.al,.st 1] [6,7,8,3,5] (fun b3=>[(6,vS al l cl),(7,c_ l.length),(8,c_ k),(3,vS ao xs co),(5,p_ b3)]) (fun b3=>[mm ao xs co,aA b3 (ag x2) 62]) (fun b3=>[b3]) (fun _=>(fun κ=>κ.rd ((aZ al).add (k*14)) (ag x2)∧True)) (fun _=>by kernel_rfl) (fun b3=>⟨dY (vs:=(ag x2)) iF (bg r0<|by simp[aL]) hx2 (Nat.le_of_ble_eq_true rfl) rfl,trivial⟩) ?_
  intro b3
  refine aC<|fy [.ld 1,.cq<|i_<|cR x2.ra x2.rb x2.rc] [(6,vS al l cl),(7,c_ l.length),(8,c_ k),(3,vS ao xs co),(5,p_ b3),(15,b_<|decide ((cR x2.ra x2.rb x2.rc)>1))] (o1<|qw<|lN x2.ra x2.rb x2.rc)<|aI (E:=decide ((cR x2.ra x2.rb x2.rc)>1)) rfl (fun e2=>?_) (fun e2=>?_)
  ·have p2:=dZ e2
   refine aM<|bA 3 [.ld 1] [(16,vS ao xs co),(18,.agg #[u_ x2.ra,u_ x2.rb,u_ x2.rc])]<|aG<|eB 19 (e:=60) [u_ x2.ra,u_ x2.rb,u_ x2.rc] (by kernel_rfl) rfl (fun _=>by kernel_rfl) (fun b4=>[mm ao xs co,aA b3 (ag x2) 62,aA b4 [u_ x2.ra,u_ x2.rb,u_ x2.rc] 60]) (fun _=>rfl) ?_
   intro b4
   refine aG<|jj (enc:=cZ) (xs:=xs) ([gm x2]) 0 20 (e:=60) (z:=(.agg #[u_ 0,u_ 0,u_ 0])) (sz:=3) (by_:=24) (by kernel_rfl) rfl rfl rfl (by kernel_rfl) (by kernel_rfl) (by rfl) (by decide) kG G8 rfl (eV (i:=2) rfl) (by(simp_all<;>omega)) (fun A5 c5=>[mm A5 (xs++([gm x2])) c5,aA b3 (ag x2) 62,aA b4 [u_ x2.ra,u_ x2.rb,u_ x2.rc] 60]) (fun _ _=>rfl) ?_
   intro A5 c5
   refine ak [(3,vS A5 (xs++([gm x2])) c5)]<|aM<|az [.w<|(k:Int)+1] [(8,i_<|(k:Int)+1)] (o1<|wj ((k:Int)+1)<|by omega)<|bC (k+1,A5,xs++([gm x2]),c5) ⟨(by omega),(by(simp_all<;>omega))⟩ (by(simp;omega)) ?_
   exact cQ [0] ⟨rfl,rfl,rfl,rfl,trivial⟩<|by kernel_rfl
  have p2:=ga e2
  refine aP<|aM<|az [.w<|(k:Int)+1] [(8,i_<|(k:Int)+1)] (o1<|wj ((k:Int)+1)<|by omega)<|bC (k+1,ao,xs,co) ⟨(by omega),(by(simp_all<;>omega))⟩ (by(simp;omega)) ?_
  exact cQ [0] ⟨rfl,rfl,rfl,rfl,trivial⟩<|by kernel_rfl
 have p1:=ga e1
 refine bR<|aD [(2,vS ao xs co)]<|aF<|cN [0] [vS ao xs co] (fun _ w r s=>⟨dM r rfl,trivial⟩) (ao,xs,co) ?_ ?_<|by kernel_rfl
 ·rfl
 omega
def uX(z:Zc)(l m:List Cl):Prop:=((z.zk=1∨z.zk=3)∧ ∀y,y∈m↔y=pD z∨(y∈l∧y.hi≠(pD z).hi))∨(z.zk=2∧ ∀y,y∈m↔y∈l∧y.hi≠z.zi)
inductive nQ(c:List Zc):Nat→List Cl→Prop
 |nil:nQ c 0 []
 |snoc {k:Nat} {z:Zc} {l m:List Cl}:nQ c k l→c[k]? =some z→uX z l m→nQ c (k+1) m
theorem TP(al:bn)(l:List Cl)(cl:Nat)(c:Cl)(hl:l.length≤100000):
  CS 80 #[vS al l cl,.agg (ag c).toArray] [dw al l cl] (fun((A',xs',c',e):(bn)×(List Cl)×Nat×Int)=>(.agg #[vS A' xs' c',i_ e])) (fun(A',xs',c',e)=>xs'.length≤l.length+1∧(e=0→ ∀y,y∈xs'↔y=c∨(y∈l∧y.hi≠c.hi))) fun(A',xs',c',e)=>[dw A' xs' c']:=by
 intro w hs
 refine aU Tryz.func80 rfl hs (aC<|fz [.al,.al] [1] (fun b1 b2=>[(3,p_ b1),(4,p_ b2)]) (fun b1 b2=>[aA b1 (ag c) 62,aA b2 [e_,i_ 0] 122]) ?_)
 intro b1 b2
 refine aE<|aC<|fg [.ld 1] [] [(7,.agg (ag c).toArray)]<|aG<|dG (some 8) [] (fun w s h=>HN c w h) ?_
 rintro v3-
 refine dV [.p] [7,8] [(5,i_ v3)]<|aC<|dV [.p,.p] [] [(10,b_<|v3 !=0)]<|fx (v3 !=0) (fun e2=>?_)<|fun e2=>?_
 ·have p2:=e2;try simp only[bQ] at p2
  refine aC<|gY [.p,.p,.p,.st 2] [0,3,5,10] [] [(2,aA b2 [vS al l cl,i_ v3] 122)]<|aF<|cN [0] [.agg #[vS al l cl,i_ v3]] (fun _ w r s=>⟨dU 2 r s,trivial⟩) (al,l,cl,v3) ?_ ?_<|by kernel_rfl
  ·rfl
  (refine⟨by omega,fun h_=>absurd h_ ‹_›⟩)
 refine aP<|aE<|aC<|fg [.p,.p,.ld 1] [5,10] [(14,vS al l cl),(16,i_ c.hi)]<|aG<|dG (some 17) [] (fun w s h=>t6 al l cl c.hi ‹_› w ((cV (i:=0) rfl) w s) h) ?_
 rintro v4 hz3
 refine dV [.p] [14,16,17] [(18,b_<|decide (v4≥0))]<|aI rfl (fun e4=>?_) (fun e4=>?_)
 ·have p4:=dZ e4
  refine aC<|gY [.p,.p,.st 2] [0,3,18] [] [(2,aA b2 [vS al l cl,i_ 8] 122)]<|aF<|cN [0] [.agg #[vS al l cl,i_ 8]] (fun _ w r s=>⟨dU 2 r s,trivial⟩) (al,l,cl,8) ?_ ?_<|by kernel_rfl
  ·rfl
  (refine⟨by omega,fun h_=>absurd h_<|by decide⟩)
 have p4:=ga e4
 refine aP<|aE<|aC<|dV (ps 3) [18] [(23,b_<|(l.length:Int)==64)]<|aI rfl (fun e5=>?_) (fun e5=>?_)
 ·refine aC<|gY [.p,.p,.st 2] [0,3,23] [] [(2,aA b2 [vS al l cl,i_ 5] 122)]<|aF<|cN [0] [.agg #[vS al l cl,i_ 5]] (fun _ w r s=>⟨dU 2 r s,trivial⟩) (al,l,cl,5) ?_ ?_<|by kernel_rfl
  ·rfl
  (refine⟨by omega,fun h_=>absurd h_<|by decide⟩)
 refine aP<|aC<|fg [.p,.p,.ld 1] [23] [(26,vS al l cl),(28,i_ c.hp)]<|aG<|dG (some 29) [] (fun w s h=>t6 al l cl c.hp ‹_› w ((cV (i:=0) rfl) w s) h) ?_
 rintro v5 hz6
 refine dV [.p] [26,28,29] [(6,i_ v5)]<|aE<|aE ?_
 by_cases ho:v5= -1
 ·refine aW 6 (i_ (-1)) (ko ho)<|aM<|fg [.p,.ld 1,.p,.p] [] [(33,b_<|c.hp !=0)]<|iM (c.hp !=0) (fun e7=>?_)<|fun e7=>?_
  ·refine aW 33 (b_ true) (fM e7)<|dV [.p,.p,.p,.sk,.sk,.sk,.sk,.sk,.p,.p] [6,33] [(43,b_ true)]<|dX<|aC<|gY [.p,.p,.st 2] [0,3,43] [] [(2,aA b2 [vS al l cl,i_ 23] 122)]<|aF<|cN [0] [.agg #[vS al l cl,i_ 23]] (fun _ w r s=>⟨dU 2 r s,trivial⟩) (al,l,cl,23) ?_ ?_<|by kernel_rfl
   ·rfl
   (refine⟨by omega,fun h_=>absurd h_<|by decide⟩)
  refine aW 33 (b_ false) (fM e7)<|dV [.sk,.sk,.sk,.sk,.sk,.sk,.sk,.sk,.sk,.p] [6,33] [(43,b_ false)]<|bY<|aP<|aE<|aC<|tK [.p,.ld 1,.cq<|i_<|cR c.la c.lb c.lc,.p,.p] [43] [(50,b_<|decide ((cR c.la c.lb c.lc)>1))] (o1<|qo<|fun w s=>lN c.la c.lb c.lc w)<|iM (decide ((cR c.la c.lb c.lc)>1)) (fun e8=>?_)<|fun e8=>?_
  ·refine aW 50 (b_ true) (fM e8)<|fg [.p,.p,.ld 1] [] [(51,vS al l cl),(53,i_ c.hp)]<|aG<|dG (some 54) [] (fun w s h=>yx al l cl c.hp ‹_› w ((cV (i:=0) rfl) w s) h) ?_
   rintro b6-
   refine dV [.p,.p] [50,51,53,54] [(56,b_ (!b6))]<|fx (!b6) (fun e10=>?_)<|fun e10=>?_
   ·refine aC<|gY [.p,.p,.st 2] [0,3,56] [] [(2,aA b2 [vS al l cl,i_ 29] 122)]<|aF<|cN [0] [.agg #[vS al l cl,i_ 29]] (fun _ w r s=>⟨dU 2 r s,trivial⟩) (al,l,cl,29) ?_ ?_<|by kernel_rfl
    ·rfl
    (refine⟨by omega,fun h_=>absurd h_<|by decide⟩)
   refine aP<|aE<|aC<|fg [.p,.p,.ld 1] [56] [(59,vS al l cl),(61,i_ c.hp)]<|aG<|dG (some 62) [] (fun w s h=>AG al l cl c.hp ‹_› w ((cV (i:=0) rfl) w s) h) ?_
   rintro⟨A'7,xs'8,c'9⟩ hz11
   refine dV [.p,.p] [] [(3,p_ b1),(4,p_ b2),(64,b_<|decide ((xs'8.length:Int)≥16))]<|aI rfl (fun e12=>?_) (fun e12=>?_)
   ·have p12:=dZ e12
    refine aC<|gY [.p,.p,.st 3] [0,3,64] [] [(3,aA b2 [vS al l cl,i_ 25] 122)]<|aF<|cN [1] [.agg #[vS al l cl,i_ 25]] (fun _ w r s=>⟨dU 3 r s,trivial⟩) (al,l,cl,25) ?_ ?_<|by kernel_rfl
    ·rfl
    (refine⟨by omega,fun h_=>absurd h_<|by decide⟩)
   have p12:=ga e12
   refine aP<|aC<|fg [.p,.ld 2] [0,3,64] [(67,vS al l cl),(68,.agg (ag c).toArray)]<|aG<|dG (some 69) [] (fun w s h=>uE al l cl c ‹_› w ((cV (i:=1) rfl) w s) h) ?_
   rintro⟨A'11,xs'12,c'13⟩ hz13
   refine gY [.p,.st 4] [67,68,69] [] [(4,aA b2 [vS A'11 xs'12 c'13,i_ 0] 122)]<|aF<|cN [0] [.agg #[vS A'11 xs'12 c'13,i_ 0]] (fun _ w r s=>⟨dU 4 r s,trivial⟩) (A'11,xs'12,c'13,0) ?_ ?_<|by kernel_rfl
   ·rfl
   (refine⟨by omega,fun _=>?_⟩;exact(by assumption:_∧_).2)
  refine aW 50 (b_ false) (fM e8)<|dV [.sk,.sk,.sk,.sk,.sk,.p] [50] [(56,b_ false)]<|bY<|aP<|aE<|aC<|fg [.p,.p,.ld 1] [56] [(59,vS al l cl),(61,i_ c.hp)]<|aG<|dG (some 62) [] (fun w s h=>AG al l cl c.hp ‹_› w ((cV (i:=0) rfl) w s) h) ?_
  rintro⟨A'15,xs'16,c'17⟩ hz14
  refine dV [.p,.p] [59,61,62] [(64,b_<|decide ((xs'16.length:Int)≥16))]<|aI rfl (fun e15=>?_) (fun e15=>?_)
  ·have p15:=dZ e15
   refine aC<|gY [.p,.p,.st 3] [] [(4,p_ b2)] [(3,aA b2 [vS al l cl,i_ 25] 122)]<|aF<|cN [1] [.agg #[vS al l cl,i_ 25]] (fun _ w r s=>⟨dU 3 r s,trivial⟩) (al,l,cl,25) ?_ ?_<|by kernel_rfl
   ·rfl
   (refine⟨by omega,fun h_=>absurd h_<|by decide⟩)
  have p15:=ga e15
  refine aP<|aC<|fg [.p,.ld 2] [] [(4,p_ b2),(67,vS al l cl),(68,.agg (ag c).toArray)]<|aG<|dG (some 69) [] (fun w s h=>uE al l cl c ‹_› w ((cV (i:=1) rfl) w s) h) ?_
  rintro⟨A'19,xs'20,c'21⟩ hz16
  refine gY [.p,.st 4] [67,68,69] [] [(4,aA b2 [vS A'19 xs'20 c'21,i_ 0] 122)]<|aF<|cN [0] [.agg #[vS A'19 xs'20 c'21,i_ 0]] (fun _ w r s=>⟨dU 4 r s,trivial⟩) (A'19,xs'20,c'21,0) ?_ ?_<|by kernel_rfl
  ·rfl
  (refine⟨by omega,fun _=>?_⟩;exact(by assumption:_∧_).2)
 obtain⟨m,x,hv,hx⟩:=hz6.resolve_left ho;have hlt:=(dT.1 hx).1
 refine aW 6 (c_ m) (ko hv)<|aM<|kq [.p,.ld 1,.p,.p,.o,.p,.p,.p,.o,.p,.p,.ix,.p,.rd [b_ x.hl],.cl,.cl] [6] [(43,b_<|(c.hp !=0)&&((decide ((m:Int)<0))||x.hl))] (oc (go ((true&&((c.hp !=0)==true))&&((decide ((m:Int)<0))==false)) fun h_=>(bH 0 m iF rfl (by omega)))<|o1<|go ((true&&((c.hp !=0)==true))&&((decide ((m:Int)<0))==false)) fun h_=>(ro (((aZ al).add (m*14)).add 2)<|kR (f:=2) (vs:=[b_ x.hl]) iF (cV (i:=0) rfl) hx (by simp) rfl))<|aI rfl (fun e17=>?_) (fun e17=>?_)
 ·refine aC<|gY [.p,.p,.st 2] [0,3,43] [] [(2,aA b2 [vS al l cl,i_ 23] 122)]<|aF<|cN [0] [.agg #[vS al l cl,i_ 23]] (fun _ w r s=>⟨dU 2 r s,trivial⟩) (al,l,cl,23) ?_ ?_<|by kernel_rfl
  ·rfl
  (refine⟨by omega,fun h_=>absurd h_<|by decide⟩)
 refine aP<|aE<|aC<|tK [.p,.ld 1,.cq<|i_<|cR c.la c.lb c.lc,.p,.p] [43] [(50,b_<|decide ((cR c.la c.lb c.lc)>1))] (o1<|qo<|fun w s=>lN c.la c.lb c.lc w)<|iM (decide ((cR c.la c.lb c.lc)>1)) (fun e18=>?_)<|fun e18=>?_
 ·refine aW 50 (b_ true) (fM e18)<|fg [.p,.p,.ld 1] [] [(51,vS al l cl),(53,i_ c.hp)]<|aG<|dG (some 54) [] (fun w s h=>yx al l cl c.hp ‹_› w ((cV (i:=0) rfl) w s) h) ?_
  rintro b23-
  refine dV [.p,.p] [50,51,53,54] [(56,b_ (!b23))]<|fx (!b23) (fun e20=>?_)<|fun e20=>?_
  ·refine aC<|gY [.p,.p,.st 2] [0,3,56] [] [(2,aA b2 [vS al l cl,i_ 29] 122)]<|aF<|cN [0] [.agg #[vS al l cl,i_ 29]] (fun _ w r s=>⟨dU 2 r s,trivial⟩) (al,l,cl,29) ?_ ?_<|by kernel_rfl
   ·rfl
   (refine⟨by omega,fun h_=>absurd h_<|by decide⟩)
  refine aP<|aE<|aC<|fg [.p,.p,.ld 1] [56] [(59,vS al l cl),(61,i_ c.hp)]<|aG<|dG (some 62) [] (fun w s h=>AG al l cl c.hp ‹_› w ((cV (i:=0) rfl) w s) h) ?_
  rintro⟨A'24,xs'25,c'26⟩ hz21
  refine dV [.p,.p] [59,61,62] [(64,b_<|decide ((xs'25.length:Int)≥16))]<|aI rfl (fun e22=>?_) (fun e22=>?_)
  ·have p22:=dZ e22
   refine aC<|gY [.p,.p,.st 3] [] [(4,p_ b2)] [(3,aA b2 [vS al l cl,i_ 25] 122)]<|aF<|cN [1] [.agg #[vS al l cl,i_ 25]] (fun _ w r s=>⟨dU 3 r s,trivial⟩) (al,l,cl,25) ?_ ?_<|by kernel_rfl
   ·rfl
   (refine⟨by omega,fun h_=>absurd h_<|by decide⟩)
  have p22:=ga e22
  refine aP<|aC<|fg [.p,.ld 2] [] [(4,p_ b2),(67,vS al l cl),(68,.agg (ag c).toArray)]<|aG<|dG (some 69) [] (fun w s h=>uE al l cl c ‹_› w ((cV (i:=1) rfl) w s) h) ?_
  rintro⟨A'28,xs'29,c'30⟩ hz23
  refine gY [.p,.st 4] [67,68,69] [] [(4,aA b2 [vS A'28 xs'29 c'30,i_ 0] 122)]<|aF<|cN [0] [.agg #[vS A'28 xs'29 c'30,i_ 0]] (fun _ w r s=>⟨dU 4 r s,trivial⟩) (A'28,xs'29,c'30,0) ?_ ?_<|by kernel_rfl
  ·rfl
  (refine⟨by omega,fun _=>?_⟩;exact(by assumption:_∧_).2)
 refine aW 50 (b_ false) (fM e18)<|dV [.sk,.sk,.sk,.sk,.sk,.p] [50] [(56,b_ false)]<|bY<|aP<|aE<|aC<|fg [.p,.p,.ld 1] [56] [(59,vS al l cl),(61,i_ c.hp)]<|aG<|dG (some 62) [] (fun w s h=>AG al l cl c.hp ‹_› w ((cV (i:=0) rfl) w s) h) ?_
 rintro⟨A'32,xs'33,c'34⟩ hz24
 refine dV [.p,.p] [59,61,62] [(64,b_<|decide ((xs'33.length:Int)≥16))]<|aI rfl (fun e25=>?_) (fun e25=>?_)
 ·have p25:=dZ e25
  refine aC<|gY [.p,.p,.st 3] [0,3,64] [] [(3,aA b2 [vS al l cl,i_ 25] 122)]<|aF<|cN [1] [.agg #[vS al l cl,i_ 25]] (fun _ w r s=>⟨dU 3 r s,trivial⟩) (al,l,cl,25) ?_ ?_<|by kernel_rfl
  ·rfl
  (refine⟨by omega,fun h_=>absurd h_<|by decide⟩)
 have p25:=ga e25
 refine aP<|aC<|fg [.p,.ld 2] [0,3,64] [(67,vS al l cl),(68,.agg (ag c).toArray)]<|aG<|dG (some 69) [] (fun w s h=>uE al l cl c ‹_› w ((cV (i:=1) rfl) w s) h) ?_
 rintro⟨A'36,xs'37,c'38⟩ hz26
 refine gY [.p,.st 4] [] [(4,p_ b2)] [(4,aA b2 [vS A'36 xs'37 c'38,i_ 0] 122)]<|aF<|cN [0] [.agg #[vS A'36 xs'37 c'38,i_ 0]] (fun _ w r s=>⟨dU 4 r s,trivial⟩) (A'36,xs'37,c'38,0) ?_ ?_<|by kernel_rfl
 ·rfl
 (refine⟨by omega,fun _=>?_⟩;exact(by assumption:_∧_).2)
theorem TQ(al:bn)(l:List Cl)(cl:Nat)(a:Int)(hl:l.length≤100000):
  CS 81 #[vS al l cl,i_ a] [dw al l cl] (fun((A',xs',c',e):(bn)×(List Cl)×Nat×Int)=>(.agg #[vS A' xs' c',i_ e])) (fun(A',xs',c',e)=>xs'.length≤l.length+1∧(e=0→ ∀y,y∈xs'↔y∈l∧y.hi≠a)) fun(A',xs',c',e)=>[dw A' xs' c']:=by
 intro w hs
 refine aU Tryz.func81 rfl hs (aC<|dS [.al] [] (fun b1=>[(4,p_ b1)]) (fun _=>[]) (fun b1=>aA b1 [e_,i_ 0] 122) ?_)
 intro b1
 refine aE<|aC<|fg [.p,.p] [] [(8,vS al l cl),(9,i_ a)]<|aG<|dG (some 10) [] (fun w s h=>t6 al l cl a ‹_› w ((cV (i:=0) rfl) w s) h) ?_
 rintro v2 hz1
 refine dQ [.p] [(0,vS al l cl),(1,i_ a),(4,p_ b1),(11,b_<|decide (v2<0))]<|aI (E:=decide (v2<0)) rfl (fun e2=>?_) (fun e2=>?_)
 ·have p2:=dZ e2
  refine aC<|gY [.p,.p,.st 1] [] [] [(1,aA b1 [vS al l cl,i_ 6] 122)]<|aF<|cN [0] [.agg #[vS al l cl,i_ 6]] (fun _ w r s=>⟨dU 1 r s,trivial⟩) (al,l,cl,6) ?_ ?_<|by kernel_rfl
  ·rfl
  (refine⟨by omega,fun h_=>absurd h_<|by decide⟩)
 have p2:=ga e2
 refine aP<|aE<|aC<|fg [.p,.p] [] [(14,vS al l cl),(15,i_ a)]<|aG<|dG (some 16) [] (fun w s h=>DW al l cl a ‹_› w ((cV (i:=0) rfl) w s) h) ?_
 rintro⟨A'3,xs'4,c'5⟩ hz3
 dsimp only at hz3
 refine dV [.p,.p] [] [(18,b_<|decide ((xs'4.length:Int)>0))]<|aI (E:=decide ((xs'4.length:Int)>0)) rfl (fun e4=>?_) (fun e4=>?_)
 ·have p4:=dZ e4
  refine aC<|Aj [.p,.p,.st 2] [(4,p_ b1)] [(2,aA b1 [vS al l cl,i_ 23] 122)]<|aF<|cN [1] [.agg #[vS al l cl,i_ 23]] (fun _ w r s=>⟨dU 2 r s,trivial⟩) (al,l,cl,23) ?_ ?_<|by kernel_rfl
  ·rfl
  (refine⟨by omega,fun h_=>absurd h_<|by decide⟩)
 have p4:=ga e4
 refine aP<|aC<|dQ [.p] [(0,vS al l cl),(1,i_ a),(4,p_ b1),(5,e_)]<|aE<|aC<|dV (ps 3) [] [(21,vS al l cl),(22,c_ l.length),(23,i_ 0)]<|aO<|gC 62 14 [sI A'3 xs'4 c'5,dw al l cl,aA b1 [e_,i_ 0] 122,dw none ([]:List Cl) 0] rfl (fm (fun((k,ao,xs,co):Nat×(bn)×(List Cl)×Nat)=>[(1,i_ a),(4,p_ b1),(21,vS al l cl),(22,c_ l.length),(23,c_ k),(5,vS ao xs co)]) (fun((k,ao,xs,co):Nat×(bn)×(List Cl)×Nat)=>[dw ao xs co,sI A'3 xs'4 c'5,dw al l cl,aA b1 [e_,i_ 0] 122]) (fun((k,ao,xs,co):Nat×(bn)×(List Cl)×Nat)=>(k≤l.length)∧(xs.length≤k)∧(∀y,y∈xs↔y∈l.take k∧y.hi≠a)) (fun((k,ao,xs,co):Nat×(bn)×(List Cl)×Nat)=>l.length-k) (0,none,([]:List Cl),0) ⟨(by omega),(by(simp;done)),(by(simp;done))⟩ ?_ ?_)
 ·exact cQ [3,0,0,0] ⟨rfl,rfl,rfl,rfl,rfl,rfl,trivial⟩<|by kernel_rfl
 rintro⟨k,ao,xs,co⟩ ⟨hk,hx,hm⟩
 refine eo [(1,i_ a),(4,p_ b1),(21,vS al l cl),(22,c_ l.length),(23,c_ k),(5,vS ao xs co)] [dw ao xs co,sI A'3 xs'4 c'5,dw al l cl,aA b1 [e_,i_ 0] 122] ⟨rfl,rfl,rfl,rfl,rfl,rfl,trivial⟩ rfl (aC<|dV [.p] [] [(23,c_ k),(5,vS ao xs co),(24,b_<|decide ((k:Int)<(l.length:Int)))]<|aE<|aI (E:=decide ((k:Int)<(l.length:Int))) rfl (fun e5=>?_) (fun e5=>?_))
 ·have p5:=dZ e5
  refine aP<|aE<|aO<|aC<|tJ [.ix] [(1,i_ a),(4,p_ b1),(21,vS al l cl),(22,c_ l.length),(23,c_ k),(5,vS ao xs co),(25,.pointer<|some<|(aZ al).add (k*14))] (o1<|io (k:Int)<|dh iF (by decide) (cV (i:=2) rfl)<|by omega) ?_
  obtain⟨x8,hx8⟩: ∃x,(l)[k]? =some x:=⟨_,dA<|by omega⟩
  refine jN [.rd<|ag x8,.al,.st 4] [1,4,21,22,23,5,7] (fun b9=>[(1,i_ a),(4,p_ b1),(21,vS al l cl),(22,c_ l.length),(23,c_ k),(5,vS ao xs co),(7,p_ b9)]) (fun b9=>[dw ao xs co,sI A'3 xs'4 c'5,dw al l cl,aA b1 [e_,i_ 0] 122,aA b9 (ag x8) 62]) (fun b9=>[b9]) (fun _=>(fun κ=>κ.rd ((aZ al).add (k*14)) (ag x8)∧True)) (fun _=>by kernel_rfl) (fun b9=>⟨dY (vs:=(ag x8)) iF (cV (i:=2) rfl) hx8 (Nat.le_of_ble_eq_true rfl) rfl,trivial⟩) ?_
  intro b9
  refine aC<|dV [.p,.ld 4,.p,.p] [] [(7,p_ b9),(30,b_<|x8.hi !=a)]<|aI (E:=x8.hi !=a) rfl (fun e6=>?_) (fun e6=>?_)
  ·refine aM<|fg [.p,.ld 4] [] [(31,vS ao xs co),(32,.agg (ag x8).toArray)]<|aG<|eB 33 (e:=62) (ag x8) (by kernel_rfl) rfl (fun _=>by kernel_rfl) (fun b10=>[dw ao xs co,sI A'3 xs'4 c'5,dw al l cl,aA b1 [e_,i_ 0] 122,aA b9 (ag x8) 62,aA b10 (ag x8) 62]) (fun _=>rfl) ?_
   intro b10
   refine aG<|jj (enc:=ag) (xs:=xs) ([x8]) 0 34 (e:=62) (z:=(.agg #[i_ 0,i_ 0,b_ false,u_ 0,u_ 0,u_ 0,u_ 0,u_ 0,u_ 0,u_ 0,u_ 0,u_ 0,i_ 0,i_ 0])) (sz:=14) (by_:=112) (by kernel_rfl) rfl rfl rfl (by kernel_rfl) (by kernel_rfl) (by rfl) (by decide) iF vG rfl (eV (i:=5) rfl) (by(simp_all<;>omega)) (fun A11 c11=>[dw A11 (xs++([x8])) c11,sI A'3 xs'4 c'5,dw al l cl,aA b1 [e_,i_ 0] 122,aA b9 (ag x8) 62,aA b10 (ag x8) 62]) (fun _ _=>rfl) ?_
   intro A11 c11
   refine dQ [.p] [(1,i_ a),(4,p_ b1),(21,vS al l cl),(22,c_ l.length),(23,c_ k),(5,vS A11 (xs++([x8])) c11)]<|aM<|kq [.w<|(k:Int)+1,.p] [] [(23,i_<|(k:Int)+1)] (o1<|wj ((k:Int)+1)<|by omega)<|bC (k+1,A11,xs++([x8]),c11) ⟨(by omega),(by(simp_all<;>omega)),(by(rw[jC ‹_›];intro y;simp only[List.mem_append,List.mem_singleton,hm];grind))⟩ (by(simp;omega)) ?_
   exact cQ [0,0,0,0] ⟨rfl,rfl,rfl,rfl,rfl,rfl,trivial⟩<|by kernel_rfl
  refine aP<|aM<|kq [.w<|(k:Int)+1,.p] [] [(23,i_<|(k:Int)+1)] (o1<|wj ((k:Int)+1)<|by omega)<|bC (k+1,ao,xs,co) ⟨(by omega),(by(simp_all<;>omega)),(by(rw[jC ‹_›];intro y;simp only[List.mem_append,List.mem_singleton,hm];grind))⟩ (by(simp;omega)) ?_
  exact cQ [0,0,0,0] ⟨rfl,rfl,rfl,rfl,rfl,rfl,trivial⟩<|by kernel_rfl
 have p5:=ga e5
 refine bR<|aC<|Aj [.p,.p,.st 3] [(4,p_ b1)] [(3,aA b1 [vS ao xs co,i_ 0] 122)]<|aF<|cN [0] [.agg #[vS ao xs co,i_ 0]] (fun _ w r s=>⟨dU 3 r s,trivial⟩) (ao,xs,co,0) ?_ ?_<|by kernel_rfl
 ·rfl
 (refine⟨by omega,fun _=>?_⟩;rw[List.take_of_length_le<|by omega] at hm;exact hm)
abbrev yz(p0)(p1)(p2)(p3)(p4)(p5)(p6)(p7)(p8):=([sI p0 p1 p2,dw p3 p4 p5,aA p6 (ag p7) 62,aA p8 [e_,i_ 0] 122]:List V.aH)
theorem TR(al:bn)(l:List Cl)(cl:Nat)(c:Cl)(hl:l.length≤100000):
  CS 82 #[vS al l cl,.agg (ag c).toArray] [dw al l cl] (fun((A',xs',c',e):(bn)×(List Cl)×Nat×Int)=>(.agg #[vS A' xs' c',i_ e])) (fun(A',xs',c',e)=>xs'.length≤l.length+1∧(e=0→ ∀y,y∈xs'↔y=c∨(y∈l∧y.hi≠c.hi))) fun(A',xs',c',e)=>[dw A' xs' c']:=by
 intro w hs
 refine aU Tryz.func82 rfl hs (aC<|MP [.al,.al] [0,3,4] (fun b1 b2=>[(0,vS al l cl),(3,p_ b1),(4,p_ b2)]) (fun b1 b2=>[dw al l cl,aA b1 (ag c) 62,aA b2 [e_,i_ 0] 122]) (fun b1 b2=>[]) (fun _ _=>T0) (fun _ _=>by kernel_rfl) (fun b1 b2=>trivial) ?_)
 intro b1 b2
 refine aE<|aC<|fg [.ld 1] [] [(3,p_ b1),(4,p_ b2),(10,.agg (ag c).toArray)]<|aG<|dG (some 11) [] (fun w s h=>HN c w h) ?_
 rintro v3-
 refine dV [.p] [] [(5,i_ v3)]<|aC<|dQ [.p,.p] [(0,vS al l cl),(3,p_ b1),(4,p_ b2),(5,i_ v3),(13,b_<|v3 !=0)]<|aI (E:=v3 !=0) rfl (fun e2=>?_) (fun e2=>?_)
 ·have p2:=e2;try simp only[bQ] at p2
  refine aC<|gY [.p,.p,.p,.st 2] [] [] [(2,aA b2 [vS al l cl,i_ v3] 122)]<|aF<|cN [0] [.agg #[vS al l cl,i_ v3]] (fun _ w r s=>⟨dU 2 r s,trivial⟩) (al,l,cl,v3) ?_ ?_<|by kernel_rfl
  ·rfl
  (refine⟨by omega,fun h_=>absurd h_ ‹_›⟩)
 refine aP<|aC<|fg [.p,.p,.ld 1] [] [(17,vS al l cl),(19,i_ c.hi)]<|aG<|dG (some 20) [] (fun w s h=>t6 al l cl c.hi ‹_› w ((cV (i:=0) rfl) w s) h) ?_
 rintro v4 hz3
 refine dV [.p] [] [(6,i_ v4)]<|aE<|aE ?_
 by_cases ho:v4= -1
 ·refine fE [(0,vS al l cl),(3,p_ b1),(4,p_ b2),(6,i_ (-1))] ⟨rfl,rfl,rfl,congrArg (fun z_=>some<|i_ z_) (by exact ho:v4= -1),trivial⟩<|aM<|dQ [.p,.p] [(0,vS al l cl),(3,p_ b1),(4,p_ b2),(6,i_ (-1)),(22,b_ true)]<|kE rfl (aC<|gY [.p,.p,.st 2] [] [] [(2,aA b2 [vS al l cl,i_ 6] 122)]<|aF<|cN [0] [.agg #[vS al l cl,i_ 6]] (fun _ w r s=>⟨dU 2 r s,trivial⟩) (al,l,cl,6) ?_ ?_<|by kernel_rfl)
  ·rfl
  (refine⟨by omega,fun h_=>absurd h_<|by decide⟩)
 obtain⟨m,x,hv,hx⟩:=hz3.resolve_left ho;have hlt:=(dT.1 hx).1
 refine fE [(0,vS al l cl),(3,p_ b1),(4,p_ b2),(6,c_ m)] ⟨rfl,rfl,rfl,congrArg (fun z_=>some<|i_ z_) (by exact hv:v4=(m:Int)),trivial⟩<|aM<|dQ [.p,.p] [(0,vS al l cl),(3,p_ b1),(4,p_ b2),(6,c_ m),(22,b_<|decide ((m:Int)<0))]<|aI (E:=decide ((m:Int)<0)) rfl (fun e4=>?_) (fun e4=>?_)
 ·exact absurd e4<|by(intro h_;simp at h_;omega)
 have p4:=ga e4
 refine aP<|aE<|aE<|qP [.p,.p,.ix,.p,.rd [i_ x.hp],.p,.ld 1,.p,.p,.o,.p,.p,.ix,.p,.rd [b_ x.hl],.p,.ld 1,.eq,.cl] [0,1,2,3,4,5,6,7,8,9,10,11,12,13,14,15,16,17] [(0,vS al l cl),(3,p_ b1),(4,p_ b2),(42,b_<|(x.hp !=c.hp)||(!(x.hl==c.hl)))] [b1,b1] (fun κ=>κ.ix al l.length (m:Int)∧κ.rd (((aZ al).add (m*14)).add 1) [i_ x.hp]∧((true&&((x.hp !=c.hp)==false))=true→κ.ix al l.length (m:Int))∧((true&&((x.hp !=c.hp)==false))=true→κ.rd (((aZ al).add (m*14)).add 2) [b_ x.hl])∧True) (by kernel_rfl) (by kernel_rfl) ⟨dh iF (by decide) (cV (i:=0) rfl)<|by omega,kR (f:=1) (vs:=[i_ x.hp]) iF (cV (i:=0) rfl) hx (by simp) rfl,(fun h_=>(dh iF (by decide) (cV (i:=0) rfl)<|by omega)),(fun h_=>(kR (f:=2) (vs:=[b_ x.hl]) iF (cV (i:=0) rfl) hx (by simp) rfl)),trivial⟩<|aI (E:=(x.hp !=c.hp)||(!(x.hl==c.hl))) rfl (fun e5=>?_) (fun e5=>?_)
 ·refine aC<|gY [.p,.p,.st 2] [] [] [(2,aA b2 [vS al l cl,i_ 1] 122)]<|aF<|cN [0] [.agg #[vS al l cl,i_ 1]] (fun _ w r s=>⟨dU 2 r s,trivial⟩) (al,l,cl,1) ?_ ?_<|by kernel_rfl
  ·rfl
  (refine⟨by omega,fun h_=>absurd h_<|by decide⟩)
 refine aP<|aC<|kq [.p,.ld 1,.cq<|i_<|cR c.la c.lb c.lc,.p,.p] [] [(7,b_<|decide ((cR c.la c.lb c.lc)>1))] (o1<|qo<|fun w s=>lN c.la c.lb c.lc w)<|aE<|aC<|fg [.p,.p] [] [(50,b_<|decide ((cR c.la c.lb c.lc)>1))]<|iM (decide ((cR c.la c.lb c.lc)>1)) (fun e6=>?_)<|fun e6=>?_
 ·refine fE [(0,vS al l cl),(3,p_ b1),(4,p_ b2),(7,b_ true),(50,b_ true)] ⟨rfl,rfl,rfl,congrArg (fun z=>some<|Value.bool z) e6,congrArg (fun z=>some<|Value.bool z) e6,trivial⟩<|j0 [.p,.p,.ld 1] [(0,vS al l cl),(3,p_ b1),(4,p_ b2),(7,b_ true),(50,b_ true),(51,vS al l cl),(53,i_ c.hp)]<|aG<|dG (some 54) [] (fun w s h=>yx al l cl c.hp ‹_› w ((cV (i:=0) rfl) w s) h) ?_
  rintro b5-
  refine dV [.p,.p] [] [(56,b_ (!b5))]<|aI (E:= !b5) rfl (fun e8=>?_) (fun e8=>?_)
  ·refine aC<|gY [.p,.p,.st 2] [] [] [(2,aA b2 [vS al l cl,i_ 29] 122)]<|aF<|cN [0] [.agg #[vS al l cl,i_ 29]] (fun _ w r s=>⟨dU 2 r s,trivial⟩) (al,l,cl,29) ?_ ?_<|by kernel_rfl
   ·rfl
   (refine⟨by omega,fun h_=>absurd h_<|by decide⟩)
  refine aP<|aE<|aC<|fg [.p,.p,.ld 1] [] [(59,vS al l cl),(61,i_ c.hi)]<|aG<|dG (some 62) [] (fun w s h=>DW al l cl c.hi ‹_› w ((cV (i:=0) rfl) w s) h) ?_
  rintro⟨A'6,xs'7,c'8⟩ hz9
  dsimp only at hz9
  refine dQ [.p,.p] [(0,vS al l cl),(3,p_ b1),(4,p_ b2),(7,b_ true),(62,vS A'6 xs'7 c'8),(63,c_ xs'7.length),(64,i_ 0)]<|aO<|fm (fun(zz:Nat)=>match zz with|k=>[(0,vS al l cl),(3,p_ b1),(4,p_ b2),(7,b_ true),(62,vS A'6 xs'7 c'8),(63,c_ xs'7.length),(64,c_ k)]) (fun(zz:Nat)=>match zz with|k=>(yz A'6 xs'7 c'8 al l cl b1 c b2)) (fun(zz:Nat)=>match zz with|k=>(k≤xs'7.length)) (fun(zz:Nat)=>match zz with|k=>xs'7.length-k) (0:Nat) (by omega) ?_ ?_
  ·exact cQ [0,0,0,0] ⟨rfl,rfl,rfl,rfl,rfl,rfl,rfl,trivial⟩<|by kernel_rfl
  rintro k hk
  have hk:k≤xs'7.length:=hk
  refine eo [(0,vS al l cl),(3,p_ b1),(4,p_ b2),(7,b_ true),(62,vS A'6 xs'7 c'8),(63,c_ xs'7.length),(64,c_ k)] (yz A'6 xs'7 c'8 al l cl b1 c b2) ⟨rfl,rfl,rfl,rfl,rfl,rfl,rfl,trivial⟩ rfl (aC<|dV [.p] [] [(64,c_ k),(65,b_<|decide ((k:Int)<(xs'7.length:Int)))]<|aE<|aI (E:=decide ((k:Int)<(xs'7.length:Int))) rfl (fun e10=>?_) (fun e10=>?_))
  ·have p10:=dZ e10
   refine aP<|aE<|aO<|aC<|tK [.ix] [] [(66,.pointer<|some<|(aZ A'6).add (k*1))] (o1<|io (k:Int)<|dh dL (by decide) (cV (i:=0) rfl)<|by omega) ?_
   obtain⟨x10,hx10⟩: ∃x,(xs'7)[k]? =some x:=⟨_,dA<|by omega⟩
   refine fy [.rd [i_ x10],.p] [(0,vS al l cl),(3,p_ b1),(4,p_ b2),(7,b_ true),(62,vS A'6 xs'7 c'8),(63,c_ xs'7.length),(64,c_ k),(9,i_ x10)] (o1<|ro ((aZ A'6).add (k*1))<|dY (vs:=[i_ x10]) dL (cV (i:=0) rfl) hx10 (Nat.le_of_ble_eq_true rfl) rfl)<|aC<|dV [.p,.p,.p,.sk,.sk,.sk,.p] [] [(74,b_ false)]<|pG rfl (aP<|aM<|kq [.w<|(k:Int)+1,.p] [] [(64,i_<|(k:Int)+1)] (o1<|wj ((k:Int)+1)<|by omega)<|bC (k+1) (by omega) (by(simp;omega)) ?_)
   exact cQ [0,0,0,0] ⟨rfl,rfl,rfl,rfl,rfl,rfl,rfl,trivial⟩<|by kernel_rfl
  have p10:=ga e10
  refine bR<|aC<|fg [.p,.ld 2] [] [(78,vS al l cl),(79,.agg (ag c).toArray)]<|aG<|dG (some 80) [] (fun w s h=>uE al l cl c ‹_› w ((cV (i:=1) rfl) w s) h) ?_
  rintro⟨A'11,xs'12,c'13⟩ hz11
  dsimp only at hz11
  refine Aj [.p,.st 4] [(4,p_ b2)] [(4,aA b2 [vS A'11 xs'12 c'13,i_ 0] 122)]<|aF<|cN [0] [.agg #[vS A'11 xs'12 c'13,i_ 0]] (fun _ w r s=>⟨dU 4 r s,trivial⟩) (A'11,xs'12,c'13,0) ?_ ?_<|by kernel_rfl
  ·rfl
  (refine⟨by omega,fun _=>?_⟩;exact(by assumption:_∧_).2)
 refine fE [(0,vS al l cl),(3,p_ b1),(4,p_ b2),(7,b_ false),(50,b_ false)] ⟨rfl,rfl,rfl,congrArg (fun z=>some<|Value.bool z) e6,congrArg (fun z=>some<|Value.bool z) e6,trivial⟩<|dQ [.sk,.sk,.sk,.sk,.sk,.p] [(0,vS al l cl),(3,p_ b1),(4,p_ b2),(7,b_ false),(56,b_ false)]<|pG rfl (aP<|aE<|aC<|fg [.p,.p,.ld 1] [] [(59,vS al l cl),(61,i_ c.hi)]<|aG<|dG (some 62) [] (fun w s h=>DW al l cl c.hi ‹_› w ((cV (i:=0) rfl) w s) h) ?_)
 rintro⟨A'15,xs'16,c'17⟩ hz12
 dsimp only at hz12
 refine dV [.p,.p] [] [(63,c_ xs'16.length),(64,i_ 0)]<|aO<|fm (fun(zz:Nat)=>match zz with|k=>[(0,vS al l cl),(3,p_ b1),(4,p_ b2),(7,b_ false),(62,vS A'15 xs'16 c'17),(63,c_ xs'16.length),(64,c_ k)]) (fun(zz:Nat)=>match zz with|k=>(yz A'15 xs'16 c'17 al l cl b1 c b2)) (fun(zz:Nat)=>match zz with|k=>(k≤xs'16.length)) (fun(zz:Nat)=>match zz with|k=>xs'16.length-k) (0:Nat) (by omega) ?_ ?_
 ·exact cQ [0,0,0,0] ⟨rfl,rfl,rfl,rfl,rfl,rfl,rfl,trivial⟩<|by kernel_rfl
 rintro k hk
 have hk:k≤xs'16.length:=hk
 refine eo [(0,vS al l cl),(3,p_ b1),(4,p_ b2),(7,b_ false),(62,vS A'15 xs'16 c'17),(63,c_ xs'16.length),(64,c_ k)] (yz A'15 xs'16 c'17 al l cl b1 c b2) ⟨rfl,rfl,rfl,rfl,rfl,rfl,rfl,trivial⟩ rfl (aC<|dQ [.p] [(0,vS al l cl),(3,p_ b1),(4,p_ b2),(7,b_ false),(62,vS A'15 xs'16 c'17),(63,c_ xs'16.length),(64,c_ k),(65,b_<|decide ((k:Int)<(xs'16.length:Int)))]<|aE<|aI (E:=decide ((k:Int)<(xs'16.length:Int))) rfl (fun e13=>?_) (fun e13=>?_))
 ·have p13:=dZ e13
  refine aP<|aE<|aO<|aC<|tK [.ix] [] [(66,.pointer<|some<|(aZ A'15).add (k*1))] (o1<|io (k:Int)<|dh dL (by decide) (cV (i:=0) rfl)<|by omega) ?_
  obtain⟨x19,hx19⟩: ∃x,(xs'16)[k]? =some x:=⟨_,dA<|by omega⟩
  refine kq [.rd [i_ x19],.p] [] [(9,i_ x19)] (o1<|ro ((aZ A'15).add (k*1))<|dY (vs:=[i_ x19]) dL (cV (i:=0) rfl) hx19 (Nat.le_of_ble_eq_true rfl) rfl)<|aC<|j0 (ps 5) [(0,vS al l cl),(3,p_ b1),(4,p_ b2),(7,b_ false),(62,vS A'15 xs'16 c'17),(63,c_ xs'16.length),(64,c_ k),(70,b_ true),(71,vS al l cl),(72,i_ x19)]<|aG<|dG (some 73) [] (fun w s h=>yx al l cl x19 ‹_› w ((cV (i:=1) rfl) w s) h) ?_
  rintro b20-
  refine dV [.p] [] [(74,b_ b20)]<|aI (E:=b20) rfl (fun e15=>?_) (fun e15=>?_)
  ·refine aC<|gY [.p,.p,.st 3] [] [] [(3,aA b2 [vS al l cl,i_ 29] 122)]<|aF<|cN [1] [.agg #[vS al l cl,i_ 29]] (fun _ w r s=>⟨dU 3 r s,trivial⟩) (al,l,cl,29) ?_ ?_<|by kernel_rfl
   ·rfl
   (refine⟨by omega,fun h_=>absurd h_<|by decide⟩)
  refine aP<|aM<|kq [.w<|(k:Int)+1,.p] [] [(64,i_<|(k:Int)+1)] (o1<|wj ((k:Int)+1)<|by omega)<|bC (k+1) (by omega) (by(simp;omega)) ?_
  exact cQ [0,0,0,0] ⟨rfl,rfl,rfl,rfl,rfl,rfl,rfl,trivial⟩<|by kernel_rfl
 have p13:=ga e13
 refine bR<|aC<|fg [.p,.ld 2] [] [(78,vS al l cl),(79,.agg (ag c).toArray)]<|aG<|dG (some 80) [] (fun w s h=>uE al l cl c ‹_› w ((cV (i:=1) rfl) w s) h) ?_
 rintro⟨A'21,xs'22,c'23⟩ hz16
 dsimp only at hz16
 refine gY [.p,.st 4] [] [] [(4,aA b2 [vS A'21 xs'22 c'23,i_ 0] 122)]<|aF<|cN [0] [.agg #[vS A'21 xs'22 c'23,i_ 0]] (fun _ w r s=>⟨dU 4 r s,trivial⟩) (A'21,xs'22,c'23,0) ?_ ?_<|by kernel_rfl
 ·rfl
 (refine⟨by omega,fun _=>?_⟩;exact(by assumption:_∧_).2)
abbrev Jk(p0:Zc):=(.agg #[i_ p0.zi,i_ p0.zp,b_ p0.zl,u_ p0.ya,u_ p0.yb,u_ p0.yc,u_ p0.va,u_ p0.vb,u_ p0.vc,u_ p0.wa,u_ p0.wb,u_ p0.wc,i_ p0.zn,i_ p0.zq]:Value)
theorem TS(al:bn)(l:List Cl)(cl:Nat)(z:Zc)(hl:l.length≤100000):
  CS 50 #[vS al l cl,.agg (gi z).toArray] [dw al l cl] (fun((A',xs',c',e):(bn)×(List Cl)×Nat×Int)=>(.agg #[vS A' xs' c',i_ e])) (fun(A',xs',c',e)=>xs'.length≤l.length+1∧(e=0→uX z l xs')) fun(A',xs',c',e)=>[dw A' xs' c']:=by
 intro w hs
 refine aU Tryz.func50 rfl hs (aC<|fz [.al,.al] [1] (fun b1 b2=>[(3,p_ b1),(4,p_ b2)]) (fun b1 b2=>[aA b1 (gi z) 84,aA b2 [e_,i_ 0] 122]) ?_)
 intro b1 b2
 refine aE<|aC<|dV [.p,.ld 1] [] [(6,i_ z.zk)]<|aO<|aC<|dV [.p,.p] [] [(7,b_<|z.zk==1)]<|aI rfl (fun e1=>?_) (fun e1=>?_)
 ·have p1:=e1;try simp only[bQ] at p1
  refine aC<|fg [.p,.p,.ld 1] [0,3,6,7] [(9,vS al l cl),(11,Jk z)]<|aG<|dG (some 12) [0] (fun w s h=>TP al l cl (⟨z.zi,z.zp,z.zl,z.ya,z.yb,z.yc,z.va,z.vb,z.vc,z.wa,z.wb,z.wc,z.zn,z.zq⟩:Cl) ‹_› w h) ?_
  rintro⟨A'3,xs'4,c'5,e6⟩ hz2
  refine gY [.st 2] [9,11,12] [] [(2,aA b2 [vS A'3 xs'4 c'5,i_ e6] 122)]<|aF<|cN [0] [.agg #[vS A'3 xs'4 c'5,i_ e6]] (fun _ w r s=>⟨dU 2 r s,trivial⟩) (A'3,xs'4,c'5,e6) ?_ ?_<|by kernel_rfl
  ·rfl
  (refine⟨‹(_≤_)∧(_=(0:Int)→_)›.1,fun h_=>?_⟩;have h2_:=‹(_≤_)∧(_=(0:Int)→_)›.2 h_;unfold uX;exact .inl ⟨.inl ‹_›,h2_⟩)
 refine aC<|dV [.p,.p] [7] [(13,b_<|z.zk==2)]<|aI rfl (fun e3=>?_) (fun e3=>?_)
 ·have p3:=e3;try simp only[bQ] at p3
  refine aC<|fg [.p,.p,.p,.ld 1] [0,3,6,13] [(15,vS al l cl),(18,i_ z.zi)]<|aG<|dG (some 19) [0] (fun w s h=>TQ al l cl z.zi ‹_› w h) ?_
  rintro⟨A'8,xs'9,c'10,e11⟩ hz4
  refine gY [.st 2] [15,18,19] [] [(2,aA b2 [vS A'8 xs'9 c'10,i_ e11] 122)]<|aF<|cN [0] [.agg #[vS A'8 xs'9 c'10,i_ e11]] (fun _ w r s=>⟨dU 2 r s,trivial⟩) (A'8,xs'9,c'10,e11) ?_ ?_<|by kernel_rfl
  ·rfl
  (refine⟨‹(_≤_)∧(_=(0:Int)→_)›.1,fun h_=>?_⟩;have h2_:=‹(_≤_)∧(_=(0:Int)→_)›.2 h_;unfold uX;exact .inr ⟨‹_›,h2_⟩)
 refine aC<|dV [.p,.p] [6,13] [(20,b_<|z.zk==3)]<|aI rfl (fun e5=>?_) (fun e5=>?_)
 ·have p5:=e5;try simp only[bQ] at p5
  refine aC<|fg [.p,.p,.ld 1] [0,3,20] [(22,vS al l cl),(24,Jk z)]<|aG<|dG (some 25) [0] (fun w s h=>TR al l cl (⟨z.zi,z.zp,z.zl,z.ya,z.yb,z.yc,z.va,z.vb,z.vc,z.wa,z.wb,z.wc,z.zn,z.zq⟩:Cl) ‹_› w h) ?_
  rintro⟨A'13,xs'14,c'15,e16⟩ hz6
  refine gY [.st 2] [22,24,25] [] [(2,aA b2 [vS A'13 xs'14 c'15,i_ e16] 122)]<|aF<|cN [0] [.agg #[vS A'13 xs'14 c'15,i_ e16]] (fun _ w r s=>⟨dU 2 r s,trivial⟩) (A'13,xs'14,c'15,e16) ?_ ?_<|by kernel_rfl
  ·rfl
  (refine⟨‹(_≤_)∧(_=(0:Int)→_)›.1,fun h_=>?_⟩;have h2_:=‹(_≤_)∧(_=(0:Int)→_)›.2 h_;unfold uX;exact .inl ⟨.inr ‹_›,h2_⟩)
 refine aP<|aC<|gY [.p,.p,.st 2] [0,3,20] [] [(2,aA b2 [vS al l cl,i_ 1] 122)]<|aF<|cN [0] [.agg #[vS al l cl,i_ 1]] (fun _ w r s=>⟨dU 2 r s,trivial⟩) (al,l,cl,1) ?_ ?_<|by kernel_rfl
 ·rfl
 (refine⟨by omega,fun h_=>absurd h_<|by decide⟩)
abbrev vx(p0):=(aA p0 [e_,i_ 0,i_ 0] 93:V.aH)
theorem HO(t:Int)(bl:bn)(zs:List Zc)(dl:Nat)(w:World)(r0:dR w bl (V.aQ gi zs))(hs:HI w []):
  CV 33 #[e_,i_ t,vS bl zs dl] w [] (fun((A',xs',c',i,e):(bn)×(List Cl)×Nat×Int×Int)=>(.agg #[vS A' xs' c',i_ i,i_ e])) (fun(A',xs',c',i,e)=>xs'.length≤32∧(e=0→nQ zs zs.length xs')) fun(A',xs',c',i,e)=>[dw A' xs' c']:=by
 refine aU Tryz.func33 rfl hs (aC<|dS [.al] [] (fun b1=>[(6,p_ b1)]) (fun _=>[]) (fun b1=>vx b1) ?_)
 intro b1
 refine cS<|bF [.o,.cl] [(16,b_<|(decide (t<1))||(decide (t>65536)))]<|aI (E:=(decide (t<1))||(decide (t>65536))) rfl (fun e1=>?_) (fun e1=>?_)
 ·refine aC<|bU [.st 0] [] [(0,aA b1 [e_,i_ 0,i_ 1] 93)]<|aF<|gC 62 14 [aA b1 [e_,i_ 0,i_ 1] 93,dw none ([]:List Cl) 0] rfl (cN [1] [.agg #[e_,i_ 0,i_ 1]] (fun _ w r s=>⟨dU 0 r s,trivial⟩) (none,([]:List Cl),0,0,1) ?_ ?_<|by kernel_rfl)
  ·rfl
  refine⟨by(simp;done),fun h_=>?_⟩;exact absurd h_<|by decide
 refine au<|aD [(20,b_<|decide ((zs.length:Int)>32))]<|aI (E:=decide ((zs.length:Int)>32)) rfl (fun e2=>?_) (fun e2=>?_)
 ·have p2:=dZ e2
  refine aC<|bU [.st 0] [] [(0,aA b1 [e_,i_ 0,i_ 2] 93)]<|aF<|gC 62 14 [aA b1 [e_,i_ 0,i_ 2] 93,dw none ([]:List Cl) 0] rfl (cN [1] [.agg #[e_,i_ 0,i_ 2]] (fun _ w r s=>⟨dU 0 r s,trivial⟩) (none,([]:List Cl),0,0,2) ?_ ?_<|by kernel_rfl)
  ·rfl
  refine⟨by(simp;done),fun h_=>?_⟩;exact absurd h_<|by decide
 have p2:=ga e2
 refine aP<|aD [(7,e_)]<|aE<|aD [(23,vS bl zs dl),(24,c_ zs.length),(25,i_ 0)]<|aO<|gC 62 14 [vx b1,dw none ([]:List Cl) 0] rfl (fm (fun((k,ao,m,co):Nat×(bn)×(List Cl)×Nat)=>[(1,i_ t),(6,p_ b1),(23,vS bl zs dl),(24,c_ zs.length),(25,c_ k),(7,vS ao m co)]) (fun((k,ao,m,co):Nat×(bn)×(List Cl)×Nat)=>[dw ao m co,vx b1]) (fun((k,ao,m,co):Nat×(bn)×(List Cl)×Nat)=>(k≤zs.length)∧(m.length≤k)∧(nQ zs k m)) (fun((k,ao,m,co):Nat×(bn)×(List Cl)×Nat)=>zs.length-k) (0,none,([]:List Cl),0) ⟨(by omega),(by(simp;done)),.nil⟩ ?_ ?_)
 ·exact cQ [1,0] ⟨rfl,rfl,rfl,rfl,rfl,rfl,trivial⟩<|by kernel_rfl
 rintro⟨k,ao,m,co⟩ ⟨hk,hx,hf⟩
 refine eo [(1,i_ t),(6,p_ b1),(23,vS bl zs dl),(24,c_ zs.length),(25,c_ k),(7,vS ao m co)] [dw ao m co,vx b1] ⟨rfl,rfl,rfl,rfl,rfl,rfl,trivial⟩ rfl (aC<|dQ [] [(1,i_ t),(6,p_ b1),(23,vS bl zs dl),(24,c_ zs.length),(25,c_ k),(7,vS ao m co),(26,b_<|decide ((k:Int)<(zs.length:Int)))]<|aE<|aI (E:=decide ((k:Int)<(zs.length:Int))) rfl (fun e3=>?_) (fun e3=>?_))
 ·have p3:=dZ e3
  refine au<|aO<|aC<|dm 2 [.ix] [(27,c_ k),(28,.pointer<|some<|(aZ bl).add (k*15))] (o1<|io (k:Int)<|dh ri (by decide) (bg r0<|by simp[aL])<|by omega) ?_
  obtain⟨x5,hx5⟩: ∃x,(zs)[k]? =some x:=⟨_,dA<|by omega⟩
  refine jN [.rd<|gi x5,.al,.p,.st 2] [1,6,23,24,25,7,9,8] (fun b6=>[(1,i_ t),(6,p_ b1),(23,vS bl zs dl),(24,c_ zs.length),(25,c_ k),(7,vS ao m co),(9,p_ b6),(8,c_ k)]) (fun b6=>[dw ao m co,vx b1,aA b6 (gi x5) 84]) (fun b6=>[b6]) (fun _=>(fun κ=>κ.rd ((aZ bl).add (k*15)) (gi x5)∧True)) (fun _=>by kernel_rfl) (fun b6=>⟨dY (vs:=(gi x5)) ri (bg r0<|by simp[aL]) hx5 (Nat.le_of_ble_eq_true rfl) rfl,trivial⟩) ?_
  intro b6
  refine aC<|bA 2 [.ld 2] [(8,c_ k),(30,vS ao m co),(31,.agg (gi x5).toArray)]<|aG<|bM (some 32) [0] (TS ao m co x5<|by omega) ?_
  rintro⟨A'7,xs'8,c'9,e10⟩ hz4
  dsimp only at hz4
  refine dS [.al,.st 3] [] (fun b12=>[(10,p_ b12)]) (fun _=>[]) (fun b12=>aA b12 [vS A'7 xs'8 c'9,i_ e10] 122) ?_
  intro b12
  refine cS<|bF [.ld 3] [(35,b_<|e10 !=0)]<|aI (E:=e10 !=0) rfl (fun e5=>?_) (fun e5=>?_)
  ·have p5:=e5;try simp only[bQ] at p5
   refine aC<|bU [.ld 3,.st 1] [] [(1,aA b1 [e_,c_ k,i_ e10] 93)]<|aF<|gC 62 14 [dw A'7 xs'8 c'9,aA b1 [e_,c_ k,i_ e10] 93,aA b6 (gi x5) 84,aA b12 [vS A'7 xs'8 c'9,i_ e10] 122,dw none ([]:List Cl) 0] rfl (cN [4] [.agg #[e_,c_ k,i_ e10]] (fun _ w r s=>⟨dU 1 r s,trivial⟩) (none,([]:List Cl),0,(k:Int),e10) ?_ ?_<|by kernel_rfl)
   ·rfl
   refine⟨by(simp;done),fun h_=>?_⟩;exact absurd h_ ‹_›
  refine aP<|aM<|bF [.ld 3] [(7,vS A'7 xs'8 c'9)]<|aM<|fy [.w<|(k:Int)+1] [(1,i_ t),(6,p_ b1),(23,vS bl zs dl),(24,c_ zs.length),(25,i_<|(k:Int)+1),(7,vS A'7 xs'8 c'9)] (o1<|wj ((k:Int)+1)<|by omega)<|bC (k+1,A'7,xs'8,c'9) ⟨(by omega),(by omega),(.snoc hf ‹_› (‹(_≤_)∧(_=(0:Int)→_)›.2 (by simp_all)))⟩ (by(simp;omega)) ?_
  exact cQ [0,0] ⟨rfl,rfl,rfl,rfl,rfl,rfl,trivial⟩<|by kernel_rfl
 have p3:=ga e3
 refine bR<|aC<|bA 3 [] [(43,vS ao m co),(44,i_ t),(45,vS ao m co)]<|aG<|dG (some 46) [] (fun w s h=>TO ao m co (by omega) w ((cV (i:=0) rfl) w s) h) ?_
 rintro⟨A'14,xs'15,c'16⟩ hz6
 dsimp only at hz6
 refine aG<|dG (some 47) [] (fun w s h=>TM A'14 xs'15 c'16 t (by omega) w ((cV (i:=0) rfl) w s) h) ?_
 rintro v18-
 refine bU [.st 2] [] [(2,aA b1 [vS ao m co,i_ 0,i_ v18] 93)]<|aF<|cN [1] [.agg #[vS ao m co,i_ 0,i_ v18]] (fun _ w r s=>⟨dU 2 r s,trivial⟩) (ao,m,co,0,v18) ?_ ?_<|by kernel_rfl
 ·rfl
 refine⟨by omega,fun h_=>?_⟩;((have h2_:k=zs.length:=by omega);exact h2_▸hf)
def s7(c:Cl):Bool:= !((c.hl&&decide (cR c.la c.lb c.lc<2))||decide (cR c.ua c.ub c.uc>1))
def nv(l:List Cl):Bool:=l.all s7
def eS(evs:List Ev)(m:Int):Nat:=(evs.filter fun e=>decide (e.vq1<m)).length
def jv(out:Int)(o:eX):Int:=if o.kd=4∧o.tk≤4611686018427387904-out then out+o.tk else out
def m8(ops:List eX):Int:=ops.foldl jv 0
theorem V.qt_indexN{P:Program}{n:Nat}{env:aT}{w0:World}{S:bO}{H:List V.aH}{o:Oper}{α:Type}{enc:α→cn}{xs:List α}{x y:Operand}{t el:TypeId}{A:bn}{cap sz:Nat}{k:IntKind}{m:Nat}(ho:o.op= .indexAddr t x y)(hx:ev env x=some (.slice A xs.length cap))(hy:ev env y=some (.int k (m:Int)))
  (ht:P.underlying t=some (.slice el))(hs:(P.info? el).map (·.size)=some sz)(he: ∀x,(enc x).length=sz)(hr:V.Rd w0 S H A (V.aQ enc xs))(hz:0<sz)(hi:m<xs.length):V.Qt P n env w0 S H o (.pointer<|some<|(aZ A).add (m*sz)):=
 V.gg fun a w r s=>by
  have hi2:0≤(m:Int)∧(m:Int)<(xs.length:Int):=by omega
  have h1:=(V.dh (P:=P) (w0:=w0) (S:=S) (H:=H) he hz hr hi).2 w s
  obtain⟨b,rfl⟩:=Option.isSome_iff_exists.1 h1
  simp only[Option.map_eq_some_iff] at hs
  obtain⟨i,hinf,rfl⟩:=hs
  simp[execOp,ho,r.ev hx,r.ev hy,Instr.indexAt,asIntOf,run_underlying ht,sizeOf,typeInfo,hinf,hi2,aZ];exact fun h=>absurd h<|by omega
abbrev uF(p0):=(aA p0 [e_,i_ 0,i_ 0] 93:V.aH)
theorem Q7(t lm:Int)(al:bn)(ops:List eX)(cl:Nat)(hol:ops.length≤9223372036854775807)(w:World)(r0:dR w al (V.aQ mW ops))(r1:pj w ops)(hs:HI w []):
  CV 13 #[.agg #[i_ t,i_ lm,vS al ops cl]] w [] (fun((A',xs',c',b):(bn)×(List Cl)×Nat×Bool)=>(.tuple #[vS A' xs' c',b_ b])) (fun(A',xs',c',b)=>xs'.length≤32∧(b=true→ ∃o,ops[0]? =some o∧o.kd=1∧(∀j y,0<j→ops[j]? =some y→y.kd≠1)∧nQ o.zl o.zl.length xs')) fun(A',xs',c',b)=>[dw A' xs' c']:=by
 refine aU Tryz.func13 rfl hs (aC<|dS [.al] [] (fun b1=>[(1,p_ b1)]) (fun _=>[]) (fun b1=>aA b1 [i_ t,i_ lm,vS al ops cl] 26) ?_)
 intro b1
 refine aE<|aE ?_
 by_cases ne:ops=[]
 ·refine aM<|bA 5 [.ld 0] [(11,b_<|(ops.length:Int)==0)]<|iM ((ops.length:Int)==0) (fun e1=>?_)<|fun e1=>?_
  ·refine fE [(1,p_ b1),(11,b_ true)] ⟨rfl,congrArg (fun z=>some<|Value.bool z) e1,trivial⟩<|bF [.sk,.sk,.sk,.sk,.sk,.sk] [(18,b_ true)]<|kE rfl (aD [(2,e_),(3,b_ false)]<|aF<|gC 62 14 [aA b1 [i_ t,i_ lm,vS al ops cl] 26,dw none ([]:List Cl) 0] rfl (cN [1] [e_,b_ false] (fun _ w r s=>⟨dM r rfl,dM r rfl,trivial⟩) (none,([]:List Cl),0,false) ?_ ?_<|by kernel_rfl))
   ·rfl
   refine⟨by(simp;done),fun h_=>?_⟩;exact absurd h_<|by decide
  exact absurd e1<|by(intro h_;simp[ne] at h_)
 obtain⟨o,ho⟩: ∃o,ops[0]? =some o:=by cases ops with|nil=>exact absurd rfl ne|cons o l=>exact⟨o,rfl⟩
 refine aM<|bA 5 [.ld 0] [(11,b_<|(ops.length:Int)==0)]<|iM ((ops.length:Int)==0) (fun e2=>?_)<|fun e2=>?_
 ·exact absurd e2<|by(intro h_;simp at h_;exact ne h_)
 have p2:=e2;try simp only[bQ] at p2
 refine fE [(1,p_ b1),(11,b_ false)] ⟨rfl,congrArg (fun z=>some<|Value.bool z) e2,trivial⟩<|az [.ld 0,.ix,.rd [i_ o.kd]] [(18,b_<|o.kd !=1)] (oc (io (0:Int)<|dh mO (by decide) (bg r0<|by simp[aL])<|List.length_pos_iff.2 ne)<|o1<|ro (((aZ al).add (0*10)).add 0)<|kR (f:=0) (vs:=[i_ o.kd]) mO (bg r0<|by simp[aL]) ho (by simp) rfl)<|aI (E:=o.kd !=1) rfl (fun e3=>?_) (fun e3=>?_)
 ·have p3:=e3;try simp only[bQ] at p3
  refine aD [(2,e_),(3,b_ false)]<|aF<|gC 62 14 [aA b1 [i_ t,i_ lm,vS al ops cl] 26,dw none ([]:List Cl) 0] rfl (cN [1] [e_,b_ false] (fun _ w r s=>⟨dM r rfl,dM r rfl,trivial⟩) (none,([]:List Cl),0,false) ?_ ?_<|by kernel_rfl)
  ·rfl
  refine⟨by(simp;done),fun h_=>?_⟩;exact absurd h_<|by decide
 have p3:=e3;try simp only[bQ] at p3
 refine aP<|cS<|bF [.ld 0] [(20,vS al ops cl),(21,c_ ops.length),(22,i_ 0)]<|aO<|fm (fun(zz:Nat)=>match zz with|k=>[(1,p_ b1),(20,vS al ops cl),(21,c_ ops.length),(22,c_ k)]) (fun(zz:Nat)=>match zz with|k=>[aA b1 [i_ t,i_ lm,vS al ops cl] 26]) (fun(zz:Nat)=>match zz with|k=>(k≤ops.length)∧(∀j y,j<k→0<j→ops[j]? =some y→y.kd≠1)) (fun(zz:Nat)=>match zz with|k=>ops.length-k) (0:Nat) ⟨(by omega),(by(intro j y h_;omega))⟩ ?_ ?_
 ·exact cQ [0] ⟨rfl,rfl,rfl,rfl,trivial⟩<|by kernel_rfl
 rintro k ⟨hk,hn⟩
 refine eo [(1,p_ b1),(20,vS al ops cl),(21,c_ ops.length),(22,c_ k)] [aA b1 [i_ t,i_ lm,vS al ops cl] 26] ⟨rfl,rfl,rfl,rfl,trivial⟩ rfl (aD [(22,c_ k),(23,b_<|decide ((k:Int)<(ops.length:Int)))]<|aE<|aI (E:=decide ((k:Int)<(ops.length:Int))) rfl (fun e4=>?_) (fun e4=>?_))
 ·have p4:=dZ e4
  refine au<|aO<|aC<|dm 2 [.ix] [(1,p_ b1),(20,vS al ops cl),(21,c_ ops.length),(22,c_ k),(24,c_ k),(25,.pointer<|some<|(aZ al).add (k*10))] (o1<|io (k:Int)<|dh mO (by decide) (bg r0<|by simp[aL])<|by omega) ?_
  obtain⟨x4,hx4⟩: ∃x,(ops)[k]? =some x:=⟨_,dA<|by omega⟩
  refine jN [.rd [i_ x4.kd,vS x4.za x4.zl x4.zc,vS x4.ra x4.rl x4.rc,u_ x4.op.qi,i_ x4.op.qn,w_ x4.op.qa,w_ x4.op.qb,w_ x4.op.qc,w_ x4.op.qd,u_ x4.tk],.al,.p,.st 1] [1,20,21,22,5,4] (fun b5=>[(1,p_ b1),(20,vS al ops cl),(21,c_ ops.length),(22,c_ k),(5,p_ b5),(4,c_ k)]) (fun b5=>[aA b1 [i_ t,i_ lm,vS al ops cl] 26,aA b5 [i_ x4.kd,vS x4.za x4.zl x4.zc,vS x4.ra x4.rl x4.rc,u_ x4.op.qi,i_ x4.op.qn,w_ x4.op.qa,w_ x4.op.qb,w_ x4.op.qc,w_ x4.op.qd,u_ x4.tk] 47]) (fun b5=>[b5]) (fun _=>(fun κ=>κ.rd ((aZ al).add (k*10)) [i_ x4.kd,vS x4.za x4.zl x4.zc,vS x4.ra x4.rl x4.rc,u_ x4.op.qi,i_ x4.op.qn,w_ x4.op.qa,w_ x4.op.qb,w_ x4.op.qc,w_ x4.op.qd,u_ x4.tk]∧True)) (fun _=>by kernel_rfl) (fun b5=>⟨dY (vs:=[i_ x4.kd,vS x4.za x4.zl x4.zc,vS x4.ra x4.rl x4.rc,u_ x4.op.qi,i_ x4.op.qn,w_ x4.op.qa,w_ x4.op.qb,w_ x4.op.qc,w_ x4.op.qd,u_ x4.tk]) mO (bg r0<|by simp[aL]) hx4 (Nat.le_of_ble_eq_true rfl) rfl,trivial⟩) ?_
  intro b5
  refine aC<|bA 3 [] [(5,p_ b5),(29,b_<|decide ((k:Int)>0))]<|iM (decide ((k:Int)>0)) (fun e5=>?_)<|fun e5=>?_
  ·have p5:=dZ e5
   refine fE [(1,p_ b1),(20,vS al ops cl),(21,c_ ops.length),(22,c_ k),(5,p_ b5),(29,b_ true)] ⟨rfl,rfl,rfl,rfl,rfl,congrArg (fun z=>some<|Value.bool z) e5,trivial⟩<|bF [.ld 1] [(30,p_ b5),(31,i_ x4.kd),(32,b_<|x4.kd==1),(33,b_<|x4.kd==1)]<|aI (E:=x4.kd==1) rfl (fun e6=>?_) (fun e6=>?_)
   ·have p6:=e6;try simp only[bQ] at p6
    refine aD [(2,e_),(3,b_ false)]<|aF<|gC 62 14 [aA b1 [i_ t,i_ lm,vS al ops cl] 26,aA b5 [i_ x4.kd,vS x4.za x4.zl x4.zc,vS x4.ra x4.rl x4.rc,u_ x4.op.qi,i_ x4.op.qn,w_ x4.op.qa,w_ x4.op.qb,w_ x4.op.qc,w_ x4.op.qd,u_ x4.tk] 47,dw none ([]:List Cl) 0] rfl (cN [2] [e_,b_ false] (fun _ w r s=>⟨dM r rfl,dM r rfl,trivial⟩) (none,([]:List Cl),0,false) ?_ ?_<|by kernel_rfl)
    ·rfl
    refine⟨by(simp;done),fun h_=>?_⟩;exact absurd h_<|by decide
   have p6:=e6
   refine aP<|aM<|az [.w<|(k:Int)+1] [(22,i_<|(k:Int)+1)] (o1<|wj ((k:Int)+1)<|by omega)<|bC (k+1) ⟨(by omega),(by(intro j y h1_ h2_ h3_;rcases Nat.lt_or_ge j k with h4_|h4_;exact hn j y h4_ h2_ h3_;(have h5_:j=k:=by omega);subst h5_;grind))⟩ (by(simp;omega)) ?_
   exact cQ [0] ⟨rfl,rfl,rfl,rfl,trivial⟩<|by kernel_rfl
  have p5:=ga e5
  refine fE [(1,p_ b1),(20,vS al ops cl),(21,c_ ops.length),(22,c_ k),(5,p_ b5),(29,b_ false)] ⟨rfl,rfl,rfl,rfl,rfl,congrArg (fun z=>some<|Value.bool z) e5,trivial⟩<|bF [.sk,.sk,.sk] [(33,b_ false)]<|pG rfl (aP<|aM<|az [.w<|(k:Int)+1] [(22,i_<|(k:Int)+1)] (o1<|wj ((k:Int)+1)<|by omega)<|bC (k+1) ⟨(by omega),(by(intro j y h1_ h2_ h3_;rcases Nat.lt_or_ge j k with h4_|h4_;exact hn j y h4_ h2_ h3_;(have h5_:j=k:=by omega);subst h5_;grind))⟩ (by(simp;omega)) ?_)
  exact cQ [0] ⟨rfl,rfl,rfl,rfl,trivial⟩<|by kernel_rfl
 have p4:=ga e4
 refine bR<|aE<|MW [aA b1 [i_ t,i_ lm,vS al ops cl] 26] (by kernel_rfl)<|mM 0 (some 35) (p_ b1) rfl (by kernel_rfl) (by kernel_rfl) (.refl _) (jJ (by kernel_rfl) fun _=>by kernel_rfl) (mM 1 (some 36) (p_ b1) rfl (by kernel_rfl) (by kernel_rfl) (.refl _) (jJ (by kernel_rfl) fun _=>by kernel_rfl) (mM 2 (some 37) (i_ t) rfl (by kernel_rfl) (by kernel_rfl) (.refl _) (mR rfl rfl (by kernel_rfl) (ky (i:=0) rfl rfl)) (mM 3 (some 38) (q_ b1 2) rfl (by kernel_rfl) (by kernel_rfl) (.refl _) (jJ (by kernel_rfl) fun _=>by kernel_rfl) (mM 4 (some 39) (vS al ops cl) rfl (by kernel_rfl) (by kernel_rfl) (.refl _) (mR rfl rfl (by kernel_rfl) (ky (i:=0) rfl rfl)) (mM 5 (some 40) (.pointer<|some<|(aZ al).add (0*10)) rfl (by kernel_rfl) (by kernel_rfl) (.refl _) (qt_indexN (el:=47) (enc:=mW) (xs:=ops) (m:=0) rfl rfl rfl (by kernel_rfl) (by kernel_rfl) mO (bg r0<|by simp[aL]) (by decide) (by omega)) (mM 6 (some 41) (.pointer<|some<|((aZ al).add (0*10)).add 1) rfl (by kernel_rfl) (by kernel_rfl) (.refl _) (jJ (by kernel_rfl) fun _=>by kernel_rfl) (mM 7 (some 42) (vS o.za o.zl o.zc) rfl (by kernel_rfl) (by kernel_rfl) (.refl _) (mR rfl rfl (by kernel_rfl) (kR (f:=1) (vs:=[vS o.za o.zl o.zc]) mO (bg r0<|by simp[aL]) ho (by simp) rfl)) (jO (fun((A'7,xs'8,c'9,i10,e11,b13):bn×List Cl×Nat×Int×Int×Nat)=>[(6,p_ b13)]) (fun((A'7,xs'8,c'9,i10,e11,b13):bn×List Cl×Nat×Int×Int×Nat)=>[dw A'7 xs'8 c'9,aA b1 [i_ t,i_ lm,vS al ops cl] 26,aA b13 [vS A'7 xs'8 c'9,i_ i10,i_ e11] 93]) (fun((A'7,xs'8,c'9,i10,e11,b13):bn×List Cl×Nat×Int×Int×Nat)=>(xs'8.length≤32∧(e11=0→nQ o.zl o.zl.length xs'8))∧True) 0 #[true,true,true,true,true,true,true,true,true,true,true] ?_ (fun hN0=>?_)))))))))
 ·rintro⟨A'7,xs'8,c'9,i10,e11,b13⟩ ⟨hpf8,-⟩
  refine eo [(6,p_ b13)] [dw A'7 xs'8 c'9,aA b1 [i_ t,i_ lm,vS al ops cl] 26,aA b13 [vS A'7 xs'8 c'9,i_ i10,i_ e11] 93] ⟨rfl,trivial⟩ rfl (MZ (by kernel_rfl)<|aE<|kD [.ld 2,.ld 2] [0,1,2,3,4,5,6] [(2,vS A'7 xs'8 c'9),(3,b_<|e11==0)]<|aF<|cN [0] [vS A'7 xs'8 c'9,b_<|e11==0] (fun _ w r s=>⟨dM r rfl,dM r rfl,trivial⟩) (A'7,xs'8,c'9,e11==0) ?_ ?_<|by kernel_rfl)
  ·rfl
  refine⟨by omega,fun h_=>?_⟩;exact⟨o,ho,by simp_all,fun j y h1_ h2_=>hn j y (by have:=(dT.1 h2_).1;omega) h1_ h2_,‹(_≤32)∧(_=(0:Int)→_)›.2 (by simpa using h_)⟩
 refine jO (fun((A'7,xs'8,c'9,i10,e11,b13):bn×List Cl×Nat×Int×Int×Nat)=>[(6,p_ b13),(43,.agg #[vS A'7 xs'8 c'9,i_ i10,i_ e11])]) (fun((A'7,xs'8,c'9,i10,e11,b13):bn×List Cl×Nat×Int×Int×Nat)=>[dw A'7 xs'8 c'9,aA b1 [i_ t,i_ lm,vS al ops cl] 26,uF b13]) (fun((A'7,xs'8,c'9,i10,e11,b13):bn×List Cl×Nat×Int×Int×Nat)=>(xs'8.length≤32∧(e11=0→nQ o.zl o.zl.length xs'8))∧True) 1 #[true,true,true,true,true,true,true,true,true,true,false] ?_ (fun hN1=>?_)
 ·rintro⟨A'7,xs'8,c'9,i10,e11,b13⟩ ⟨hpf8,-⟩
  refine eo [(6,p_ b13),(43,.agg #[vS A'7 xs'8 c'9,i_ i10,i_ e11])] [dw A'7 xs'8 c'9,aA b1 [i_ t,i_ lm,vS al ops cl] 26,uF b13] ⟨rfl,rfl,trivial⟩ rfl (jQ [10] (by kernel_rfl) ⟨⟨_,rfl,?_⟩,trivial⟩)
  ·refine dN 2 [vS A'7 xs'8 c'9,i_ i10,i_ e11] rfl (eU (sd [2,0]) ?_)
   exact fY hN0 (A'7,xs'8,c'9,i10,e11,b13) ⟨hpf8,trivial⟩ [0,0,0] (by kernel_rfl) ⟨rfl,trivial⟩ rfl
 refine jO (fun((A'7,xs'8,c'9,i10,e11):bn×List Cl×Nat×Int×Int)=>[(43,.agg #[vS A'7 xs'8 c'9,i_ i10,i_ e11])]) (fun((A'7,xs'8,c'9,i10,e11):bn×List Cl×Nat×Int×Int)=>[dw A'7 xs'8 c'9,aA b1 [i_ t,i_ lm,vS al ops cl] 26]) (fun((A'7,xs'8,c'9,i10,e11):bn×List Cl×Nat×Int×Int)=>(xs'8.length≤32∧(e11=0→nQ o.zl o.zl.length xs'8))∧True) 2 #[true,true,true,true,true,true,true,true,true,false,false] ?_ (fun hN2=>?_)
 ·rintro⟨A'7,xs'8,c'9,i10,e11⟩ ⟨hpf8,-⟩
  refine eo [(43,.agg #[vS A'7 xs'8 c'9,i_ i10,i_ e11])] [dw A'7 xs'8 c'9,aA b1 [i_ t,i_ lm,vS al ops cl] 26] ⟨rfl,trivial⟩ rfl (jQ [9] (by kernel_rfl) ⟨⟨_,rfl,?_⟩,trivial⟩)
  ·refine mL 6 [e_,i_ 0,i_ 0] (by kernel_rfl) rfl (by kernel_rfl) (fun b21=>[dw A'7 xs'8 c'9,aA b1 [i_ t,i_ lm,vS al ops cl] 26,uF b21]) (fun _=>rfl) ?_
   intro b21
   refine eU (sd [2,0]) ?_
   exact fY hN1 (A'7,xs'8,c'9,i10,e11,b21) ⟨hpf8,trivial⟩ [0,0,0] (by kernel_rfl) ⟨rfl,rfl,trivial⟩ rfl
 refine jO (fun(b13:Nat)=>[(6,p_ b13),(37,i_ t),(42,vS o.za o.zl o.zc)]) (fun(b13:Nat)=>[aA b1 [i_ t,i_ lm,vS al ops cl] 26,uF b13]) (fun(b13:Nat)=>True) 2 #[true,true,true,true,true,true,true,true,false,true,false] ?_ (fun hN3=>?_)
 ·rintro b13-
  refine eo [(6,p_ b13),(37,i_ t),(42,vS o.za o.zl o.zc)] [aA b1 [i_ t,i_ lm,vS al ops cl] 26,uF b13] ⟨rfl,rfl,rfl,trivial⟩ rfl (jQ [8] (by kernel_rfl) ⟨⟨_,rfl,?_⟩,trivial⟩)
  ·refine dG (some 43) [] (fun w s h=>HO t o.za o.zl o.zc w ((yj r1 s) o<|cT ho).1 h) ?_
   rintro⟨A'22,xs'23,c'24,i25,e26⟩ hz9
   dsimp only at hz9
   refine eU (sd [2,0]) ?_
   exact fY hN1 (A'22,xs'23,c'24,i25,e26,b13) ⟨hz9,trivial⟩ [0,0,0] (by kernel_rfl) ⟨rfl,rfl,trivial⟩ rfl
 refine jQ [8,9] (by kernel_rfl) ⟨⟨_,rfl,?_⟩,⟨_,rfl,?_⟩,trivial⟩
 ·refine dG (some 43) [] (fun w s h=>HO t o.za o.zl o.zc w ((yj r1 s) o<|cT ho).1 h) ?_
  rintro⟨A'28,xs'29,c'30,i31,e32⟩ hz10
  dsimp only at hz10
  refine eU (sd [0]) ?_
  exact fY hN2 (A'28,xs'29,c'30,i31,e32) ⟨hz10,trivial⟩ [0,0] (by kernel_rfl) ⟨rfl,trivial⟩ rfl
 refine mL 6 [e_,i_ 0,i_ 0] (by kernel_rfl) rfl (by kernel_rfl) (fun b34=>[aA b1 [i_ t,i_ lm,vS al ops cl] 26,uF b34]) (fun _=>rfl) ?_
 intro b34
 refine eU (sd [1]) ?_
 exact fY hN3 b34 trivial [0,0] (by kernel_rfl) ⟨rfl,rfl,rfl,trivial⟩ rfl
variable{l:List Cl}{k:Nat}
theorem TT{y:Cl}(h:l[k]? =some y)(e:s7 y=false):nv l=false:=by
 unfold nv;rw[List.all_eq_false];exact⟨y,cT h,by simp[e]⟩
theorem Q8(hk:l.length≤k)(hn: ∀j y,j<k→l[j]? =some y→s7 y=true):nv l=true:=by
 unfold nv;rw[List.all_eq_true];intro x hx
 obtain⟨j,h1,h2⟩:=List.getElem_of_mem hx
 exact hn j x (by omega) (by rw[←h2];exact dA h1)
theorem Jl(evs:List Ev)(m:Int):eS evs m≤evs.length:=List.length_filter_le _ _
theorem HQ(evs:List Ev)(e:Ev)(m:Int):eS (evs++[e]) m=eS evs m+if e.vq1<m then 1 else 0:=by
 unfold eS;rw[List.filter_append,List.length_append];congr 1;by_cases h:e.vq1<m<;>simp[h]
def gb(ops:List eX)(m:Int)(k:Nat):Int:=m8<|ops.take<|min k m.toNat
variable{o:eX}
theorem HT{c:Int}(h:0≤c∧c≤4611686018427387904)(ho:0≤o.tk):0≤jv c o∧jv c o≤4611686018427387904:=by unfold jv;split<;>omega
theorem OF(l:List eX)(o:eX):m8 (l++[o])=jv (m8 l) o:=by unfold m8;rw[List.foldl_append];rfl
theorem HU: ∀(l:List eX)(c:Int),(∀o∈l,0≤o.tk)→0≤c∧c≤4611686018427387904→0≤l.foldl jv c∧l.foldl jv c≤4611686018427387904
 |[],c,_,h=>h
 |o::l,c,ho,h=>HU l _ (fun x hx=>ho x<|List.mem_cons_of_mem _ hx)<|HT h<|ho o<|List.mem_cons_self ..
variable{ops:List eX}
theorem Q9(h: ∀o∈ops,0≤o.tk)(m:Int)(k:Nat):0≤gb ops m k∧gb ops m k≤4611686018427387904:=
 HU _ _ (fun o ho=>h o<|List.mem_of_mem_take ho) (by decide)
variable{m v:Int}
theorem HV(h:ops[k]? =some o)(e:v=if(k:Int)<m then jv (gb ops m k) o else gb ops m k):gb ops m (k+1)=v:=by
 rw[e];unfold gb
 split
 ·rw[show min (k+1) m.toNat=k+1 by omega,show min k m.toNat=k by omega,jC h,OF]
 ·rw[show min (k+1) m.toNat=m.toNat by omega,show min k m.toNat=m.toNat by omega]
theorem Qa(h:ops.length≤k):gb ops m k=m8 (ops.take m.toNat):=by
 unfold gb
 rcases Nat.le_total k m.toNat with h1|h1
 ·rw[Nat.min_eq_left h1,List.take_of_length_le h,List.take_of_length_le<|by omega]
 ·rw[Nat.min_eq_right h1]
theorem Qb(al:bn)(l:List Cl)(cl:Nat)(hl:l.length≤100000)(w:World)(r0:dR w al (V.aQ ag l)):
  CW 24 #[vS al l cl] w (b_<|nv l):=by
 refine aU Tryz.func24 rfl (HS.nil w) (aD []<|aE<|aD [(5,vS al l cl),(6,c_ l.length),(7,i_ 0)]<|aO<|fm (fun(zz:Nat)=>match zz with|k=>[(5,vS al l cl),(6,c_ l.length),(7,c_ k)]) (fun(zz:Nat)=>match zz with|k=>[]) (fun(zz:Nat)=>match zz with|k=>(k≤l.length)∧(∀j y,j<k→l[j]? =some y→s7 y=true)) (fun(zz:Nat)=>match zz with|k=>l.length-k) (0:Nat) ⟨(by omega),(by(intro j y h_;omega))⟩ ?_ ?_)
 ·exact cQ [] ⟨rfl,rfl,rfl,trivial⟩<|by kernel_rfl
 rintro k ⟨hk,hn⟩
 refine eo [(5,vS al l cl),(6,c_ l.length),(7,c_ k)] [] ⟨rfl,rfl,rfl,trivial⟩ rfl (aD [(7,c_ k),(8,b_<|decide ((k:Int)<(l.length:Int)))]<|aE<|aI (E:=decide ((k:Int)<(l.length:Int))) rfl (fun e1=>?_) (fun e1=>?_))
 ·have p1:=dZ e1
  refine au<|aO<|aC<|ic [.ix] [(9,.pointer<|some<|(aZ al).add (k*14))] (o1<|io (k:Int)<|dh iF (by decide) (bg r0<|by simp[aL])<|by omega) ?_
  obtain⟨x1,hx1⟩: ∃x,(l)[k]? =some x:=⟨_,dA<|by omega⟩
  refine jN [.rd<|ag x1,.al,.st 0] [5,6,7,4] (fun b2=>[(5,vS al l cl),(6,c_ l.length),(7,c_ k),(4,p_ b2)]) (fun b2=>[aA b2 (ag x1) 62]) (fun b2=>[b2]) (fun _=>(fun κ=>κ.rd ((aZ al).add (k*14)) (ag x1)∧True)) (fun _=>by kernel_rfl) (fun b2=>⟨dY (vs:=(ag x1)) iF (bg r0<|by simp[aL]) hx1 (Nat.le_of_ble_eq_true rfl) rfl,trivial⟩) ?_
  intro b2
  refine bW [.ld 0,.o,.ld 0,.cq<|i_<|cR x1.la x1.lb x1.lc,.cl,.o,.ld 0,.cq<|i_<|cR x1.ua x1.ub x1.uc,.cl] [(24,b_<|(x1.hl&&(decide ((cR x1.la x1.lb x1.lc)<2)))||(decide ((cR x1.ua x1.ub x1.uc)>1)))] (oc (go (true&&(x1.hl==true)) fun h_=>(qw<|lN x1.la x1.lb x1.lc))<|o1<|go (true&&((x1.hl&&(decide ((cR x1.la x1.lb x1.lc)<2)))==false)) fun h_=>(qw<|lN x1.ua x1.ub x1.uc))<|aI (E:=(x1.hl&&(decide ((cR x1.la x1.lb x1.lc)<2)))||(decide ((cR x1.ua x1.ub x1.uc)>1))) rfl (fun e2=>?_) (fun e2=>?_)
  ·refine aC<|dQ [] [(2,b_ false)]<|aF<|gX [b_ false] (fun _ w r s=>⟨dM r rfl,trivial⟩) ?_
   refine congrArg Value.bool ?_;exact(TT ‹_› (by unfold s7;grind)).symm
  refine aP<|aM<|fy [.w<|(k:Int)+1] [(5,vS al l cl),(6,c_ l.length),(7,i_<|(k:Int)+1)] (o1<|wj ((k:Int)+1)<|by omega)<|bC (k+1) ⟨(by omega),(by(intro j y h1_ h2_;rcases Nat.lt_or_ge j k with h4_|h4_;exact hn j y h4_ h2_;(have h5_:j=k:=by omega);subst h5_;unfold s7;grind))⟩ (by(simp;omega)) ?_
  exact cQ [] ⟨rfl,rfl,rfl,trivial⟩<|by kernel_rfl
 have p1:=ga e1
 refine bR<|aD [(2,b_ true)]<|aF<|gX [b_ true] (fun _ w r s=>⟨dM r rfl,trivial⟩) ?_
 refine congrArg Value.bool ?_;exact(Q8 (by omega) hn).symm
theorem TU(ae:bn)(evs:List Ev)(ce:Nat)(m:Int)(hle:evs.length≤1000000)(w:World)(r0:dR w ae (V.aQ fh evs)):
  CW 20 #[vS ae evs ce,i_ m] w (i_ (eS evs m:Int)):=by
 refine aU Tryz.func20 rfl (HS.nil w) (aD []<|aD [(5,i_ 0)]<|aE<|aD [(8,vS ae evs ce),(9,c_ evs.length),(10,i_ 0)]<|aO<|fE [(1,i_ m),(5,i_ (eS (evs.take 0) m:Int)),(8,vS ae evs ce),(9,c_ evs.length),(10,i_ 0)] ⟨rfl,congrArg (fun z_=>some<|i_ z_) (by rfl:0=(eS (evs.take 0) m:Int)),rfl,rfl,rfl,trivial⟩<|fm (fun(zz:Nat)=>match zz with|k=>[(1,i_ m),(8,vS ae evs ce),(9,c_ evs.length),(10,c_ k),(5,i_ (eS (evs.take k) m:Int))]) (fun(zz:Nat)=>match zz with|k=>[]) (fun(zz:Nat)=>match zz with|k=>(k≤evs.length)) (fun(zz:Nat)=>match zz with|k=>evs.length-k) (0:Nat) (by omega) ?_ ?_)
 ·exact cQ [] ⟨rfl,rfl,rfl,rfl,rfl,trivial⟩<|by kernel_rfl
 rintro k hk
 have hk:k≤evs.length:=hk
 have hul:=Jl (evs.take k) m;rw[List.length_take] at hul
 refine eo [(1,i_ m),(8,vS ae evs ce),(9,c_ evs.length),(10,c_ k),(5,i_ (eS (evs.take k) m:Int))] [] ⟨rfl,rfl,rfl,rfl,rfl,trivial⟩ rfl (aD [(10,c_ k),(5,i_ (eS (evs.take k) m:Int)),(11,b_<|decide ((k:Int)<(evs.length:Int)))]<|aE<|aI (E:=decide ((k:Int)<(evs.length:Int))) rfl (fun e1=>?_) (fun e1=>?_))
 ·have p1:=dZ e1
  refine au<|aO<|aC<|ic [.ix] [(12,.pointer<|some<|(aZ ae).add (k*12))] (o1<|io (k:Int)<|dh ig (by decide) (bg r0<|by simp[aL])<|by omega) ?_
  obtain⟨x1,hx1⟩: ∃x,(evs)[k]? =some x:=⟨_,dA<|by omega⟩
  refine jN [.rd<|fh x1,.al,.st 0] [1,8,9,10,5,7] (fun b2=>[(1,i_ m),(8,vS ae evs ce),(9,c_ evs.length),(10,c_ k),(5,i_ (eS (evs.take k) m:Int)),(7,p_ b2)]) (fun b2=>[aA b2 (fh x1) 52]) (fun b2=>[b2]) (fun _=>(fun κ=>κ.rd ((aZ ae).add (k*12)) (fh x1)∧True)) (fun _=>by kernel_rfl) (fun b2=>⟨dY (vs:=(fh x1)) ig (bg r0<|by simp[aL]) hx1 (Nat.le_of_ble_eq_true rfl) rfl,trivial⟩) ?_
  intro b2
  refine aC<|dQ [.ld 0] [(1,i_ m),(8,vS ae evs ce),(9,c_ evs.length),(10,c_ k),(5,i_ (eS (evs.take k) m:Int)),(17,b_<|decide (x1.vq1<m))]<|aI (E:=decide (x1.vq1<m)) rfl (fun e2=>?_) (fun e2=>?_)
  ·have p2:=dZ e2
   refine aM<|az [.w<|(eS (evs.take k) m:Int)+1] [(5,i_<|(eS (evs.take k) m:Int)+1)] (o1<|wj ((eS (evs.take k) m:Int)+1)<|by omega)<|aM<|az [.w<|(k:Int)+1] [(10,i_<|(k:Int)+1)] (o1<|wj ((k:Int)+1)<|by omega)<|fE [(1,i_ m),(8,vS ae evs ce),(9,c_ evs.length),(10,i_<|(k:Int)+1),(5,i_ (eS (evs.take<|k+1) m:Int))] (by exact⟨rfl,rfl,rfl,rfl,congrArg (fun z_=>some<|i_ z_) (by(rw[jC ‹_›,HQ];simp_all<;>(try split)<;>omega):(eS (evs.take k) m:Int)+1=(eS (evs.take<|k+1) m:Int)),trivial⟩)<|bC (k+1) (by omega) (by(simp;omega)) ?_
   exact cQ [] ⟨rfl,rfl,rfl,rfl,rfl,trivial⟩<|by kernel_rfl
  have p2:=ga e2
  refine aP<|aM<|az [.w<|(k:Int)+1] [(10,i_<|(k:Int)+1)] (o1<|wj ((k:Int)+1)<|by omega)<|fE [(1,i_ m),(8,vS ae evs ce),(9,c_ evs.length),(10,i_<|(k:Int)+1),(5,i_ (eS (evs.take<|k+1) m:Int))] (by exact⟨rfl,rfl,rfl,rfl,congrArg (fun z_=>some<|i_ z_) (by(rw[jC ‹_›,HQ];simp_all<;>(try split)<;>omega):(eS (evs.take k) m:Int)=(eS (evs.take<|k+1) m:Int)),trivial⟩)<|bC (k+1) (by omega) (by(simp;omega)) ?_
  exact cQ [] ⟨rfl,rfl,rfl,rfl,rfl,trivial⟩<|by kernel_rfl
 have p1:=ga e1
 refine bR<|aD [(4,i_ (eS (evs.take k) m:Int))]<|aF<|gX [i_ (eS (evs.take k) m:Int)] (fun _ w r s=>⟨dM r rfl,trivial⟩) ?_
 show((i_ (eS (evs.take k) m:Int)):Value)=(i_ (eS evs m:Int))
 (rw[List.take_of_length_le<|by omega])
theorem Qc(t lm:Int)(al:bn)(ops:List eX)(cl:Nat)(m:Int)(hol:ops.length≤1000)(htk: ∀o∈ops,0≤o.tk)(w:World)(r0:dR w al (V.aQ mW ops)):
  CW 27 #[.agg #[i_ t,i_ lm,vS al ops cl],i_ m] w (u_<|m8<|ops.take m.toNat):=by
 refine aU Tryz.func27 rfl (HS.nil w) (aC<|dS [.al] [] (fun b1=>[(2,p_ b1)]) (fun _=>[]) (fun b1=>aA b1 [i_ t,i_ lm,vS al ops cl] 26) ?_)
 intro b1
 refine aD [(5,u_ 0)]<|cS<|bF [.ld 0] [(9,vS al ops cl),(10,c_ ops.length),(11,i_ 0)]<|aO<|fE [(1,i_ m),(5,u_<|gb ops m 0),(9,vS al ops cl),(10,c_ ops.length),(11,i_ 0)] ⟨rfl,congrArg (fun z_=>some<|u_ z_) (by rfl:0=(gb ops m 0)),rfl,rfl,rfl,trivial⟩<|fm (fun(zz:Nat)=>match zz with|k=>[(1,i_ m),(9,vS al ops cl),(10,c_ ops.length),(11,c_ k),(5,u_<|gb ops m k)]) (fun(zz:Nat)=>match zz with|k=>[aA b1 [i_ t,i_ lm,vS al ops cl] 26]) (fun(zz:Nat)=>match zz with|k=>(k≤ops.length)) (fun(zz:Nat)=>match zz with|k=>ops.length-k) (0:Nat) (by omega) ?_ ?_
 ·exact cQ [0] ⟨rfl,rfl,rfl,rfl,rfl,trivial⟩<|by kernel_rfl
 rintro k hk
 have hk:k≤ops.length:=hk
 have hcr:=Q9 htk m k
 refine eo [(1,i_ m),(9,vS al ops cl),(10,c_ ops.length),(11,c_ k),(5,u_<|gb ops m k)] [aA b1 [i_ t,i_ lm,vS al ops cl] 26] ⟨rfl,rfl,rfl,rfl,rfl,trivial⟩ rfl (aD [(11,c_ k),(5,u_<|gb ops m k),(12,b_<|decide ((k:Int)<(ops.length:Int)))]<|aE<|aI (E:=decide ((k:Int)<(ops.length:Int))) rfl (fun e1=>?_) (fun e1=>?_))
 ·have p1:=dZ e1
  refine au<|aO<|aC<|dm 2 [.ix] [(13,c_ k),(14,.pointer<|some<|(aZ al).add (k*10))] (o1<|io (k:Int)<|dh mO (by decide) (bg r0<|by simp[aL])<|by omega) ?_
  obtain⟨x2,hx2⟩: ∃x,(ops)[k]? =some x:=⟨_,dA<|by omega⟩
  refine jN [.rd [i_ x2.kd,vS x2.za x2.zl x2.zc,vS x2.ra x2.rl x2.rc,u_ x2.op.qi,i_ x2.op.qn,w_ x2.op.qa,w_ x2.op.qb,w_ x2.op.qc,w_ x2.op.qd,u_ x2.tk],.al,.p,.st 1] [1,9,10,11,5,7,6] (fun b3=>[(1,i_ m),(9,vS al ops cl),(10,c_ ops.length),(11,c_ k),(5,u_<|gb ops m k),(7,p_ b3),(6,c_ k)]) (fun b3=>[aA b1 [i_ t,i_ lm,vS al ops cl] 26,aA b3 [i_ x2.kd,vS x2.za x2.zl x2.zc,vS x2.ra x2.rl x2.rc,u_ x2.op.qi,i_ x2.op.qn,w_ x2.op.qa,w_ x2.op.qb,w_ x2.op.qc,w_ x2.op.qd,u_ x2.tk] 47]) (fun b3=>[b3]) (fun _=>(fun κ=>κ.rd ((aZ al).add (k*10)) [i_ x2.kd,vS x2.za x2.zl x2.zc,vS x2.ra x2.rl x2.rc,u_ x2.op.qi,i_ x2.op.qn,w_ x2.op.qa,w_ x2.op.qb,w_ x2.op.qc,w_ x2.op.qd,u_ x2.tk]∧True)) (fun _=>by kernel_rfl) (fun b3=>⟨dY (vs:=[i_ x2.kd,vS x2.za x2.zl x2.zc,vS x2.ra x2.rl x2.rc,u_ x2.op.qi,i_ x2.op.qn,w_ x2.op.qa,w_ x2.op.qb,w_ x2.op.qc,w_ x2.op.qd,u_ x2.tk]) mO (bg r0<|by simp[aL]) hx2 (Nat.le_of_ble_eq_true rfl) rfl,trivial⟩) ?_
  intro b3
  refine aC<|fy [.o,.ld 1,.cl,.o,.ld 1,.w<|4611686018427387904-(gb ops m k),.cl] [(1,i_ m),(9,vS al ops cl),(10,c_ ops.length),(11,c_ k),(5,u_<|gb ops m k),(7,p_ b3),(30,b_<|((decide ((k:Int)<m))&&(x2.kd==4))&&(decide (x2.tk≤(4611686018427387904-(gb ops m k)))))] (o1<|go (true&&(((decide ((k:Int)<m))&&(x2.kd==4))==true)) fun h_=>(wv (4611686018427387904-(gb ops m k))<|by omega))<|aI (E:=((decide ((k:Int)<m))&&(x2.kd==4))&&(decide (x2.tk≤(4611686018427387904-(gb ops m k))))) rfl (fun e2=>?_) (fun e2=>?_)
  ·have p2:=e2;try simp only[bQ] at p2
   refine aM<|az [.ld 1,.w<|(gb ops m k)+x2.tk] [(5,u_<|(gb ops m k)+x2.tk)] (o1<|wo<|wrap_u64 (e:=(gb ops m k)+x2.tk)<|by(have h_:=htk _<|cT ‹ops[k]? =some _›;constructor<;>omega))<|aM<|az [.w<|(k:Int)+1] [(11,i_<|(k:Int)+1)] (o1<|wj ((k:Int)+1)<|by omega)<|fE [(1,i_ m),(9,vS al ops cl),(10,c_ ops.length),(11,i_<|(k:Int)+1),(5,u_<|gb ops m<|k+1)] (by exact⟨rfl,rfl,rfl,rfl,congrArg (fun z_=>some<|u_ z_) (by(refine(HV ‹_› ?_).symm;unfold jv;grind):(gb ops m k)+x2.tk=(gb ops m<|k+1)),trivial⟩) ?_
   refine bC (k+1) (by omega) (by(simp;omega)) ?_
   exact cQ [0] ⟨rfl,rfl,rfl,rfl,rfl,trivial⟩<|by kernel_rfl
  refine aP<|aM<|az [.w<|(k:Int)+1] [(11,i_<|(k:Int)+1)] (o1<|wj ((k:Int)+1)<|by omega)<|fE [(1,i_ m),(9,vS al ops cl),(10,c_ ops.length),(11,i_<|(k:Int)+1),(5,u_<|gb ops m<|k+1)] (by exact⟨rfl,rfl,rfl,rfl,congrArg (fun z_=>some<|u_ z_) (by(refine(HV ‹_› ?_).symm;unfold jv;grind):(gb ops m k)=(gb ops m<|k+1)),trivial⟩) ?_
  refine bC (k+1) (by omega) (by(simp;omega)) ?_
  exact cQ [0] ⟨rfl,rfl,rfl,rfl,rfl,trivial⟩<|by kernel_rfl
 have p1:=ga e1
 refine bR<|aD [(4,u_<|gb ops m k)]<|aF<|gX [u_<|gb ops m k] (fun _ w r s=>⟨dM r rfl,trivial⟩) ?_
 show((u_<|gb ops m k):Value)=(u_<|m8<|ops.take m.toNat)
 rw[Qa<|by omega]
def uk(out:Int)(e:Ev):Int:=if e.vq2=false∧e.vq5>out then e.vq5 else out
def jX(l:List Ev):Int:=l.foldl uk 0
theorem BO(l:List Ev)(e:Ev):jX (l++[e])=uk (jX l) e:=by unfold jX;rw[List.foldl_append];rfl
def iw(evs:List Ev)(m:Int)(k:Nat):Int:=jX<|evs.take<|min k m.toNat
variable{evs:List Ev}{e:Ev}
theorem HW(h:evs[k]? =some e)(q:v=if(k:Int)<m then uk (iw evs m k) e else iw evs m k):iw evs m (k+1)=v:=by
 rw[q];unfold iw
 split
 ·rw[show min (k+1) m.toNat=k+1 by omega,show min k m.toNat=k by omega,jC h,BO]
 ·rw[show min (k+1) m.toNat=m.toNat by omega,show min k m.toNat=m.toNat by omega]
theorem Qd(h:evs.length≤k):iw evs m k=jX (evs.take m.toNat):=by
 unfold iw
 rcases Nat.le_total k m.toNat with h1|h1
 ·rw[Nat.min_eq_left h1,List.take_of_length_le h,List.take_of_length_le<|by omega]
 ·rw[Nat.min_eq_right h1]
def wF(n:Nat)(e:Ev):Nat:=if e.vq2=true then n+1 else n-1
def ca(l:List Ev):Nat:=l.foldl wF 0
theorem xw(l:List Ev)(e:Ev):ca (l++[e])=wF (ca l) e:=by unfold ca;rw[List.foldl_append];rfl
theorem Jm: ∀(l:List Ev)(n:Nat),l.foldl wF n≤n+l.length
 |[],n=>by simp
 |e::l,n=>by
  have:=Jm l<|wF n e
  have h:wF n e≤n+1:=by unfold wF;split<;>omega
  simp only[List.foldl_cons,List.length_cons];omega
theorem TV(l:List Ev):ca l≤l.length:=by have:=Jm l 0;unfold ca;omega
def dE(evs:List Ev)(k:Nat):List Int:=(List.range<|k+1).map fun j=>((ca (evs.take j):Nat):Int)
theorem pL(evs:List Ev)(k:Nat):(dE evs k).length=k+1:=by simp[dE]
theorem vy{j:Nat}(h:j<k+1):(dE evs k)[j]? =some ((ca (evs.take j):Nat):Int):=by simp[dE,h]
theorem qU(h:evs[k]? =some e)(q:v=((wF (ca<|evs.take k) e:Nat):Int)):dE evs (k+1)=dE evs k++[v]:=by
 rw[q,←xw,←jC h];unfold dE;rw[List.range_succ,List.map_append];rfl
def sF(x:Nat×Int)(e:Ev):Nat×Int:=(wF x.1 e,if x.1=0∧wF x.1 e=1 then e.vq4 else x.2)
def s9(l:List Ev):Int:=(l.foldl sF (0,0)).2
theorem I0: ∀(l:List Ev)(x:Nat×Int),(l.foldl sF x).1=l.foldl wF x.1
 |[],_=>rfl
 |e::l,x=>I0 l<|sF x e
theorem G3(l:List Ev)(e:Ev):s9 (l++[e])=if ca l=0∧ca (l++[e])=1 then e.vq4 else s9 l:=by
 rw[xw];unfold s9;rw[List.foldl_append]
 show(if(l.foldl sF (0,0)).1=0∧wF (l.foldl sF (0,0)).1 e=1 then e.vq4 else(l.foldl sF (0,0)).2)=_
 rw[I0];rfl
def jH(evs:List Ev)(m k:Nat):Int:=s9<|evs.take<|min k m
theorem HY{m:Nat}(h:evs[k]? =some e)(q:v=if k<m∧ca (evs.take k)=0∧ca (evs.take<|k+1)=1 then e.vq4 else jH evs m k):jH evs m (k+1)=v:=by
 rw[q];unfold jH
 by_cases hk:k<m
 ·rw[Nat.min_eq_left<|by omega,Nat.min_eq_left<|by omega,jC h,G3];simp only[hk,true_and]
 ·rw[if_neg<|by simp[hk],Nat.min_eq_right<|by omega,Nat.min_eq_right<|by omega]
def oa(evs:List Ev)(m:Nat):Bool:=match evs[m]? with
 |some e=> !(e.vq2||ca (evs.take m)==0)&&(decide (e.vq4>s9 (evs.take m))&&decide (e.vq4>jX (evs.take m)))
 |none=>false
abbrev nM(p0):=((10,i_<|(p0:Int)+1):Nat×Value)
theorem I1(ae:bn)(evs:List Ev)(ce:Nat)(m:Int)(hle:evs.length≤1000000)(w:World)(r0:dR w ae (V.aQ fh evs)):
  CW 26 #[vS ae evs ce,i_ m] w (u_<|jX<|evs.take m.toNat):=by
 refine aU Tryz.func26 rfl (HS.nil w) (aD []<|aD [(5,u_ 0)]<|aE<|aD [(8,vS ae evs ce),(9,c_ evs.length),(10,i_ 0)]<|aO<|fE [(1,i_ m),(5,u_<|iw evs m 0),(8,vS ae evs ce),(9,c_ evs.length),(10,i_ 0)] ⟨rfl,congrArg (fun z_=>some<|u_ z_) (by rfl:0=(iw evs m 0)),rfl,rfl,rfl,trivial⟩<|fm (fun(zz:Nat)=>match zz with|k=>[(1,i_ m),(8,vS ae evs ce),(9,c_ evs.length),(10,c_ k),(5,u_<|iw evs m k)]) (fun(zz:Nat)=>match zz with|k=>[]) (fun(zz:Nat)=>match zz with|k=>(k≤evs.length)) (fun(zz:Nat)=>match zz with|k=>evs.length-k) (0:Nat) (by omega) ?_ ?_)
 ·exact cQ [] ⟨rfl,rfl,rfl,rfl,rfl,trivial⟩<|by kernel_rfl
 rintro k hk
 have hk:k≤evs.length:=hk
 refine eo [(1,i_ m),(8,vS ae evs ce),(9,c_ evs.length),(10,c_ k),(5,u_<|iw evs m k)] [] ⟨rfl,rfl,rfl,rfl,rfl,trivial⟩ rfl (aD [(10,c_ k),(5,u_<|iw evs m k),(11,b_<|decide ((k:Int)<(evs.length:Int)))]<|aE<|aI (E:=decide ((k:Int)<(evs.length:Int))) rfl (fun e1=>?_) (fun e1=>?_))
 ·have p1:=dZ e1
  refine au<|aO<|aC<|dm 2 [.ix] [(12,c_ k),(13,.pointer<|some<|(aZ ae).add (k*12))] (o1<|io (k:Int)<|dh ig (by decide) (bg r0<|by simp[aL])<|by omega) ?_
  obtain⟨x1,hx1⟩: ∃x,(evs)[k]? =some x:=⟨_,dA<|by omega⟩
  refine jN [.rd<|fh x1,.al,.p,.st 0] [1,8,9,10,5,7,6] (fun b2=>[(1,i_ m),(8,vS ae evs ce),(9,c_ evs.length),(10,c_ k),(5,u_<|iw evs m k),(7,p_ b2),(6,c_ k)]) (fun b2=>[aA b2 (fh x1) 52]) (fun b2=>[b2]) (fun _=>(fun κ=>κ.rd ((aZ ae).add (k*12)) (fh x1)∧True)) (fun _=>by kernel_rfl) (fun b2=>⟨dY (vs:=(fh x1)) ig (bg r0<|by simp[aL]) hx1 (Nat.le_of_ble_eq_true rfl) rfl,trivial⟩) ?_
  intro b2
  refine aC<|bF [.o,.ld 0,.cl,.o,.ld 0,.cl] [(8,vS ae evs ce),(9,c_ evs.length),(10,c_ k),(5,u_<|iw evs m k),(7,p_ b2),(28,b_<|((decide ((k:Int)<m))&&(!x1.vq2))&&(decide (x1.vq5>(iw evs m k))))]<|aI (E:=((decide ((k:Int)<m))&&(!x1.vq2))&&(decide (x1.vq5>(iw evs m k)))) rfl (fun e2=>?_) (fun e2=>?_)
  ·refine aM<|bF [.ld 0] [(5,u_ x1.vq5)]<|aM<|fy [.w<|(k:Int)+1] [(1,i_ m),(8,vS ae evs ce),(9,c_ evs.length),(nM k),(5,u_ x1.vq5)] (o1<|wj ((k:Int)+1)<|by omega)<|fE [(1,i_ m),(8,vS ae evs ce),(9,c_ evs.length),(nM k),(5,u_<|iw evs m<|k+1)] (by exact⟨rfl,rfl,rfl,rfl,congrArg (fun z_=>some<|u_ z_) (by(refine(HW ‹_› ?_).symm;unfold uk;grind):x1.vq5=(iw evs m<|k+1)),trivial⟩) ?_
   refine bC (k+1) (by omega) (by(simp;omega)) ?_
   exact cQ [] ⟨rfl,rfl,rfl,rfl,rfl,trivial⟩<|by kernel_rfl
  refine aP<|aM<|fy [.w<|(k:Int)+1] [(1,i_ m),(8,vS ae evs ce),(9,c_ evs.length),(nM k),(5,u_<|iw evs m k)] (o1<|wj ((k:Int)+1)<|by omega)<|fE [(1,i_ m),(8,vS ae evs ce),(9,c_ evs.length),(nM k),(5,u_<|iw evs m<|k+1)] (by exact⟨rfl,rfl,rfl,rfl,congrArg (fun z_=>some<|u_ z_) (by(refine(HW ‹_› ?_).symm;unfold uk;grind):(iw evs m k)=(iw evs m<|k+1)),trivial⟩) ?_
  refine bC (k+1) (by omega) (by(simp;omega)) ?_
  exact cQ [] ⟨rfl,rfl,rfl,rfl,rfl,trivial⟩<|by kernel_rfl
 have p1:=ga e1
 refine bR<|aD [(4,u_<|iw evs m k)]<|aF<|gX [u_<|iw evs m k] (fun _ w r s=>⟨dM r rfl,trivial⟩) ?_
 show((u_<|iw evs m k):Value)=(u_<|jX<|evs.take m.toNat)
 rw[Qd<|by omega]
abbrev lB(p0)(p1)(p2)(p3):=((3,vS p0 (dE p1 p2) p3):Nat×Value)
abbrev vz(p0:List Ev)(p1):=(i_ (((ca (p0.take<|p1):Nat):Int)-1):Value)
abbrev wC(p0:List Ev)(p1):=(i_ ((((ca (p0.take<|p1):Nat):Int)+1)-1):Value)
abbrev uG(p0:List Ev)(p1):=(i_ (((ca (p0.take<|p1):Nat):Int)+1):Value)
theorem Jn(ae:bn)(evs:List Ev)(ce:Nat)(hle:evs.length≤1000000)(w:World)(r0:dR w ae (V.aQ fh evs))(hs:HI w []):
  CV 25 #[vS ae evs ce] w [] (fun((A',c'):(bn)×Nat)=>(vS A' (dE evs evs.length) c')) (fun _=>True) fun(A',c')=>[sI A' (dE evs evs.length) c']:=by
 refine aU Tryz.func25 rfl hs (aD []<|aC<|aG<|eB 7 (e:=3) [i_ 0] (by kernel_rfl) rfl (fun _=>by kernel_rfl) (fun b1=>[aA b1 [i_ 0] 3]) (fun _=>rfl) ?_)
 intro b1
 refine ak [(3,.slice (some ⟨b1,0,none⟩) 1 1)]<|aE<|aD [(8,vS ae evs ce),(9,c_ evs.length),(10,i_ 0)]<|aO<|xO 0 (b:=b1) 1 1 [sI (some ⟨b1,0,none⟩) ([0]) 1] rfl rfl (by decide) rfl (bj 0 (sI (some ⟨b1,0,none⟩) (dE evs 0) 1) rfl (cw (by rfl:[0]=(dE evs 0))) (fE [(3,vS (some ⟨b1,0,none⟩) (dE evs 0) 1),(8,vS ae evs ce),(9,c_ evs.length),(10,i_ 0)] ⟨congrArg (fun z_:bT=>some<|Value.slice (some ⟨b1,0,none⟩) z_.length 1) (by rfl:[0]=(dE evs 0)),rfl,rfl,rfl,trivial⟩<|fm (fun((k,ao,co):Nat×(bn)×Nat)=>[(8,vS ae evs ce),(9,c_ evs.length),(10,c_ k),(lB ao evs k co)]) (fun((k,ao,co):Nat×(bn)×Nat)=>[sI ao (dE evs k) co]) (fun((k,ao,co):Nat×(bn)×Nat)=>(k≤evs.length)) (fun((k,ao,co):Nat×(bn)×Nat)=>evs.length-k) (0,some ⟨b1,0,none⟩,1) (by omega) ?_ ?_))
 ·exact cQ [0] ⟨rfl,rfl,rfl,rfl,trivial⟩<|by kernel_rfl
 rintro⟨k,ao,co⟩ hk
 have hk:k≤evs.length:=hk
 have hwl:=pL evs k;have hwn:=TV<|evs.take k;rw[List.length_take] at hwn
 refine eo [(8,vS ae evs ce),(9,c_ evs.length),(10,c_ k),(lB ao evs k co)] [sI ao (dE evs k) co] ⟨rfl,rfl,rfl,rfl,trivial⟩ rfl (aC<|dQ [] [(8,vS ae evs ce),(9,c_ evs.length),(10,c_ k),(lB ao evs k co),(11,b_<|decide ((k:Int)<(evs.length:Int)))]<|aE<|aI (E:=decide ((k:Int)<(evs.length:Int))) rfl (fun e1=>?_) (fun e1=>?_))
 ·have p1:=dZ e1
  refine au<|aO<|aC<|tJ [.p,.ix] [(8,vS ae evs ce),(9,c_ evs.length),(10,c_ k),(lB ao evs k co),(12,c_ k),(13,.pointer<|some<|(aZ ae).add (k*12))] (o1<|io (k:Int)<|dh ig (by decide) (bg r0<|by simp[aL])<|by omega) ?_
  obtain⟨x2,hx2⟩: ∃x,(evs)[k]? =some x:=⟨_,dA<|by omega⟩
  refine jN [.rd<|fh x2,.al,.p,.st 1] [8,9,10,3,5,4] (fun b3=>[(8,vS ae evs ce),(9,c_ evs.length),(10,c_ k),(lB ao evs k co),(5,p_ b3),(4,c_ k)]) (fun b3=>[sI ao (dE evs k) co,aA b3 (fh x2) 52]) (fun b3=>[b3]) (fun _=>(fun κ=>κ.rd ((aZ ae).add (k*12)) (fh x2)∧True)) (fun _=>by kernel_rfl) (fun b3=>⟨dY (vs:=(fh x2)) ig (bg r0<|by simp[aL]) hx2 (Nat.le_of_ble_eq_true rfl) rfl,trivial⟩) ?_
  intro b3
  refine aC<|fy [.ix,.rd [c_ (ca (evs.take<|k):Nat)]] [(8,vS ae evs ce),(9,c_ evs.length),(10,c_ k),(lB ao evs k co),(5,p_ b3),(6,c_ (ca (evs.take<|k):Nat))] (oc (io (k:Int)<|dh dL (by decide) (cV (i:=0) rfl)<|by omega)<|o1<|ro ((aZ ao).add (k*1))<|dY (vs:=[c_ (ca (evs.take<|k):Nat)]) dL (cV (i:=0) rfl) (vy<|by omega) (Nat.le_of_ble_eq_true rfl) rfl)<|cS<|dQ [.ld 1] [(8,vS ae evs ce),(9,c_ evs.length),(10,c_ k),(lB ao evs k co),(5,p_ b3),(6,c_ (ca (evs.take<|k):Nat)),(20,b_ x2.vq2)]<|aI (E:=x2.vq2) rfl (fun e2=>?_) (fun e2=>?_)
  ·refine aM<|fy [.w<|((ca (evs.take<|k):Nat):Int)+1] [(8,vS ae evs ce),(9,c_ evs.length),(10,c_ k),(lB ao evs k co),(5,p_ b3),(6,uG evs k)] (o1<|wj (((ca (evs.take<|k):Nat):Int)+1)<|by omega)<|cS<|dQ [.ld 1,.o,.cl] [(8,vS ae evs ce),(9,c_ evs.length),(10,c_ k),(lB ao evs k co),(6,uG evs k),(29,b_<|(!x2.vq2)&&(decide ((((ca (evs.take<|k):Nat):Int)+1)>0)))]<|aI (E:=(!x2.vq2)&&(decide ((((ca (evs.take<|k):Nat):Int)+1)>0))) rfl (fun e3=>?_) (fun e3=>?_)
   ·refine aM<|fy [.w<|(((ca (evs.take<|k):Nat):Int)+1)-1] [(8,vS ae evs ce),(9,c_ evs.length),(10,c_ k),(lB ao evs k co),(6,wC evs k)] (o1<|wj ((((ca (evs.take<|k):Nat):Int)+1)-1)<|by omega)<|aM<|j0 [.p,.p] [(8,vS ae evs ce),(9,c_ evs.length),(10,c_ k),(lB ao evs k co),(32,vS ao (dE evs k) co),(33,wC evs k)]<|aG<|eB 34 (e:=3) [wC evs k] (by kernel_rfl) rfl (fun _=>by kernel_rfl) (fun b4=>[sI ao (dE evs k) co,aA b3 (fh x2) 52,aA b4 [wC evs k] 3]) (fun _=>rfl) ?_
    intro b4
    refine aG<|jj (enc:=i6) (xs:=(dE evs k)) ([(((ca (evs.take<|k):Nat):Int)+1)-1]) 0 35 (e:=3) (z:=(i_ 0)) (sz:=1) (by_:=8) (by kernel_rfl) rfl rfl rfl (by kernel_rfl) (by kernel_rfl) (by rfl) (by decide) dL jo rfl (eV (i:=2) rfl) (by(simp[pL];omega)) (fun A5 c5=>[sI A5 ((dE evs k)++([(((ca (evs.take<|k):Nat):Int)+1)-1])) c5,aA b3 (fh x2) 52,aA b4 [wC evs k] 3]) (fun _ _=>rfl) ?_
    intro A5 c5
    refine ak [(10,c_ k),(3,vS A5 ((dE evs k)++([(((ca (evs.take<|k):Nat):Int)+1)-1])) c5)]<|aM<|fy [.w<|(k:Int)+1] [(8,vS ae evs ce),(9,c_ evs.length),(nM k),(3,vS A5 ((dE evs k)++([(((ca (evs.take<|k):Nat):Int)+1)-1])) c5)] (o1<|wj ((k:Int)+1)<|by omega)<|bj 0 (sI A5 (dE evs<|k+1) c5) rfl (cw (by(refine(qU ‹_› ?_).symm;unfold wF;(try simp only[bQ] at*);grind):(dE evs k)++([(((ca (evs.take<|k):Nat):Int)+1)-1])=(dE evs<|k+1))) ?_
    refine fE [(8,vS ae evs ce),(9,c_ evs.length),(nM k),(3,vS A5 (dE evs<|k+1) c5)] (by exact⟨rfl,rfl,rfl,congrArg (fun z_:bT=>some<|Value.slice A5 z_.length c5) (by(refine(qU ‹_› ?_).symm;unfold wF;(try simp only[bQ] at*);grind):(dE evs k)++([(((ca (evs.take<|k):Nat):Int)+1)-1])=(dE evs<|k+1)),trivial⟩) ?_
    refine bC (k+1,A5,c5) (by omega) (by(simp;omega)) ?_
    exact cQ [0] ⟨rfl,rfl,rfl,rfl,trivial⟩<|by kernel_rfl
   refine aP<|aM<|j0 [.p,.p] [(8,vS ae evs ce),(9,c_ evs.length),(10,c_ k),(lB ao evs k co),(32,vS ao (dE evs k) co),(33,uG evs k)]<|aG<|eB 34 (e:=3) [uG evs k] (by kernel_rfl) rfl (fun _=>by kernel_rfl) (fun b6=>[sI ao (dE evs k) co,aA b3 (fh x2) 52,aA b6 [uG evs k] 3]) (fun _=>rfl) ?_
   intro b6
   refine aG<|jj (enc:=i6) (xs:=(dE evs k)) ([((ca (evs.take<|k):Nat):Int)+1]) 0 35 (e:=3) (z:=(i_ 0)) (sz:=1) (by_:=8) (by kernel_rfl) rfl rfl rfl (by kernel_rfl) (by kernel_rfl) (by rfl) (by decide) dL jo rfl (eV (i:=2) rfl) (by(simp[pL];omega)) (fun A7 c7=>[sI A7 ((dE evs k)++([((ca (evs.take<|k):Nat):Int)+1])) c7,aA b3 (fh x2) 52,aA b6 [uG evs k] 3]) (fun _ _=>rfl) ?_
   intro A7 c7
   refine ak [(10,c_ k),(3,vS A7 ((dE evs k)++([((ca (evs.take<|k):Nat):Int)+1])) c7)]<|aM<|fy [.w<|(k:Int)+1] [(8,vS ae evs ce),(9,c_ evs.length),(nM k),(3,vS A7 ((dE evs k)++([((ca (evs.take<|k):Nat):Int)+1])) c7)] (o1<|wj ((k:Int)+1)<|by omega)<|bj 0 (sI A7 (dE evs<|k+1) c7) rfl (cw (by(refine(qU ‹_› ?_).symm;unfold wF;(try simp only[bQ] at*);grind):(dE evs k)++([((ca (evs.take<|k):Nat):Int)+1])=(dE evs<|k+1))) ?_
   refine fE [(8,vS ae evs ce),(9,c_ evs.length),(nM k),(3,vS A7 (dE evs<|k+1) c7)] (by exact⟨rfl,rfl,rfl,congrArg (fun z_:bT=>some<|Value.slice A7 z_.length c7) (by(refine(qU ‹_› ?_).symm;unfold wF;(try simp only[bQ] at*);grind):(dE evs k)++([((ca (evs.take<|k):Nat):Int)+1])=(dE evs<|k+1)),trivial⟩) ?_
   refine bC (k+1,A7,c7) (by omega) (by(simp;omega)) ?_
   exact cQ [0] ⟨rfl,rfl,rfl,rfl,trivial⟩<|by kernel_rfl
  refine aP<|cS<|dQ [.ld 1,.o,.cl] [(8,vS ae evs ce),(9,c_ evs.length),(10,c_ k),(lB ao evs k co),(6,c_ (ca (evs.take<|k):Nat)),(29,b_<|(!x2.vq2)&&(decide (((ca (evs.take<|k):Nat):Int)>0)))]<|aI (E:=(!x2.vq2)&&(decide (((ca (evs.take<|k):Nat):Int)>0))) rfl (fun e4=>?_) (fun e4=>?_)
  ·refine aM<|fy [.w<|((ca (evs.take<|k):Nat):Int)-1] [(8,vS ae evs ce),(9,c_ evs.length),(10,c_ k),(lB ao evs k co),(6,vz evs k)] (o1<|wj (((ca (evs.take<|k):Nat):Int)-1)<|by omega)<|aM<|j0 [.p,.p] [(8,vS ae evs ce),(9,c_ evs.length),(10,c_ k),(lB ao evs k co),(32,vS ao (dE evs k) co),(33,vz evs k)]<|aG<|eB 34 (e:=3) [vz evs k] (by kernel_rfl) rfl (fun _=>by kernel_rfl) (fun b8=>[sI ao (dE evs k) co,aA b3 (fh x2) 52,aA b8 [vz evs k] 3]) (fun _=>rfl) ?_
   intro b8
   refine aG<|jj (enc:=i6) (xs:=(dE evs k)) ([((ca (evs.take<|k):Nat):Int)-1]) 0 35 (e:=3) (z:=(i_ 0)) (sz:=1) (by_:=8) (by kernel_rfl) rfl rfl rfl (by kernel_rfl) (by kernel_rfl) (by rfl) (by decide) dL jo rfl (eV (i:=2) rfl) (by(simp[pL];omega)) (fun A9 c9=>[sI A9 ((dE evs k)++([((ca (evs.take<|k):Nat):Int)-1])) c9,aA b3 (fh x2) 52,aA b8 [vz evs k] 3]) (fun _ _=>rfl) ?_
   intro A9 c9
   refine ak [(10,c_ k),(3,vS A9 ((dE evs k)++([((ca (evs.take<|k):Nat):Int)-1])) c9)]<|aM<|fy [.w<|(k:Int)+1] [(8,vS ae evs ce),(9,c_ evs.length),(nM k),(3,vS A9 ((dE evs k)++([((ca (evs.take<|k):Nat):Int)-1])) c9)] (o1<|wj ((k:Int)+1)<|by omega)<|bj 0 (sI A9 (dE evs<|k+1) c9) rfl (cw (by(refine(qU ‹_› ?_).symm;unfold wF;(try simp only[bQ] at*);grind):(dE evs k)++([((ca (evs.take<|k):Nat):Int)-1])=(dE evs<|k+1))) ?_
   refine fE [(8,vS ae evs ce),(9,c_ evs.length),(nM k),(3,vS A9 (dE evs<|k+1) c9)] (by exact⟨rfl,rfl,rfl,congrArg (fun z_:bT=>some<|Value.slice A9 z_.length c9) (by(refine(qU ‹_› ?_).symm;unfold wF;(try simp only[bQ] at*);grind):(dE evs k)++([((ca (evs.take<|k):Nat):Int)-1])=(dE evs<|k+1)),trivial⟩) ?_
   refine bC (k+1,A9,c9) (by omega) (by(simp;omega)) ?_
   exact cQ [0] ⟨rfl,rfl,rfl,rfl,trivial⟩<|by kernel_rfl
  refine aP<|aM<|j0 [.p,.p] [(8,vS ae evs ce),(9,c_ evs.length),(10,c_ k),(lB ao evs k co),(32,vS ao (dE evs k) co),(33,c_ (ca (evs.take<|k):Nat))]<|aG<|eB 34 (e:=3) [c_ (ca (evs.take<|k):Nat)] (by kernel_rfl) rfl (fun _=>by kernel_rfl) (fun b10=>[sI ao (dE evs k) co,aA b3 (fh x2) 52,aA b10 [c_ (ca (evs.take<|k):Nat)] 3]) (fun _=>rfl) ?_
  intro b10
  refine aG<|jj (enc:=i6) (xs:=(dE evs k)) ([((ca (evs.take<|k):Nat):Int)]) 0 35 (e:=3) (z:=(i_ 0)) (sz:=1) (by_:=8) (by kernel_rfl) rfl rfl rfl (by kernel_rfl) (by kernel_rfl) (by rfl) (by decide) dL jo rfl (eV (i:=2) rfl) (by(simp[pL];omega)) (fun A11 c11=>[sI A11 ((dE evs k)++([((ca (evs.take<|k):Nat):Int)])) c11,aA b3 (fh x2) 52,aA b10 [c_ (ca (evs.take<|k):Nat)] 3]) (fun _ _=>rfl) ?_
  intro A11 c11
  refine ak [(10,c_ k),(3,vS A11 ((dE evs k)++([((ca (evs.take<|k):Nat):Int)])) c11)]<|aM<|fy [.w<|(k:Int)+1] [(8,vS ae evs ce),(9,c_ evs.length),(nM k),(3,vS A11 ((dE evs k)++([((ca (evs.take<|k):Nat):Int)])) c11)] (o1<|wj ((k:Int)+1)<|by omega)<|bj 0 (sI A11 (dE evs<|k+1) c11) rfl (cw (by(refine(qU ‹_› ?_).symm;unfold wF;(try simp only[bQ] at*);grind):(dE evs k)++([((ca (evs.take<|k):Nat):Int)])=(dE evs<|k+1))) ?_
  refine fE [(8,vS ae evs ce),(9,c_ evs.length),(nM k),(3,vS A11 (dE evs<|k+1) c11)] (by exact⟨rfl,rfl,rfl,congrArg (fun z_:bT=>some<|Value.slice A11 z_.length c11) (by(refine(qU ‹_› ?_).symm;unfold wF;(try simp only[bQ] at*);grind):(dE evs k)++([((ca (evs.take<|k):Nat):Int)])=(dE evs<|k+1)),trivial⟩) ?_
  refine bC (k+1,A11,c11) (by omega) (by(simp;omega)) ?_
  exact cQ [0] ⟨rfl,rfl,rfl,rfl,trivial⟩<|by kernel_rfl
 have p1:=ga e1
 refine bR<|aD [(2,vS ao (dE evs k) co)]<|aF<|bj 0 (sI ao (dE evs evs.length) co) rfl (cw (by((have h_:k=evs.length:=by omega);rw[h_]):(dE evs k)=(dE evs evs.length))) (cN [0] [vS ao (dE evs k) co] (fun _ w r s=>⟨dM r rfl,trivial⟩) (ao,co) ?_ ?_<|by kernel_rfl)
 ·(have hk2:k=evs.length:=by omega);subst hk2;rfl
 trivial
abbrev kT(p0)(p1:List Ev)(p2):=((5,vS p0 (dE p1 p1.length) p2):Nat×Value)
theorem TW(ae:bn)(evs:List Ev)(ce:Nat)(m:Nat)(hle:evs.length≤1000000)(hm:m<evs.length)(w:World)(r0:dR w ae (V.aQ fh evs))(hs:HI w []):
  CV 28 #[vS ae evs ce,c_ m] w [] (fun(zz:Unit)=>(b_<|oa evs m)) (fun _=>True) fun _=>[]:=by
 refine aU Tryz.func28 rfl hs (aD []<|aC<|cP [.p] [(9,vS ae evs ce)]<|aG<|dG (some 10) [] (fun w s h=>Jn ae evs ce ‹_› w ((bg r0<|by simp[aL]) w s) h) ?_)
 rintro⟨A'1,c'2⟩-
 refine dQ [] [(0,vS ae evs ce),(1,c_ m),(kT A'1 evs c'2)]<|cS<|tJ [.p,.p,.ix,.p] [(0,vS ae evs ce),(1,c_ m),(kT A'1 evs c'2),(14,.pointer<|some<|((aZ ae).add (m*12)).add 1)] (o1<|io (m:Int)<|dh ig (by decide) (bg r0<|by simp[aL])<|by omega) ?_
 obtain⟨x4,hx4⟩: ∃x,(evs)[m]? =some x:=⟨_,dA<|by omega⟩
 refine fy [.rd [b_ x4.vq2],.o,.ix,.rd [c_ (ca (evs.take<|m):Nat)],.cl] [(0,vS ae evs ce),(1,c_ m),(kT A'1 evs c'2),(22,b_<|x4.vq2||(((ca (evs.take<|m):Nat):Int)==0))] (oc (ro (((aZ ae).add (m*12)).add 1)<|kR (f:=1) (vs:=[b_ x4.vq2]) ig (bg r0<|by simp[aL]) hx4 (by simp) rfl)<|oc (go (true&&(x4.vq2==false)) fun h_=>(io (m:Int)<|dh dL (by decide) (cV (i:=0) rfl)<|by(rw[pL];omega)))<|o1<|go (true&&(x4.vq2==false)) fun h_=>(ro ((aZ A'1).add (m*1))<|dY (vs:=[c_ (ca (evs.take<|m):Nat)]) dL (cV (i:=0) rfl) (vy<|by omega) (Nat.le_of_ble_eq_true rfl) rfl))<|aI (E:=x4.vq2||(((ca (evs.take<|m):Nat):Int)==0)) rfl (fun e2=>?_) (fun e2=>?_)
 ·refine aD [(4,b_ false)]<|aF<|cN [] [b_ false] (fun _ w r s=>⟨dM r rfl,trivial⟩) () ?_ ?_<|by kernel_rfl
  ·refine congrArg Value.bool ?_;unfold oa;rw[‹evs[m]? =some _›];grind
  trivial
 refine aP<|aC<|dQ [] [(0,vS ae evs ce),(1,c_ m),(kT A'1 evs c'2),(6,u_ 0)]<|cS<|dQ [] [(0,vS ae evs ce),(1,c_ m),(kT A'1 evs c'2),(6,u_ 0),(23,vS ae evs ce),(24,c_ evs.length),(25,i_ 0)]<|aO<|fE [(0,vS ae evs ce),(1,c_ m),(kT A'1 evs c'2),(6,u_<|jH evs m 0),(23,vS ae evs ce),(24,c_ evs.length),(25,i_ 0)] ⟨rfl,rfl,rfl,congrArg (fun z_=>some<|u_ z_) (by rfl:0=(jH evs m 0)),rfl,rfl,rfl,trivial⟩<|fm (fun(zz:Nat)=>match zz with|k=>[(0,vS ae evs ce),(1,c_ m),(kT A'1 evs c'2),(23,vS ae evs ce),(24,c_ evs.length),(25,c_ k),(6,u_<|jH evs m k)]) (fun(zz:Nat)=>match zz with|k=>[sI A'1 (dE evs evs.length) c'2]) (fun(zz:Nat)=>match zz with|k=>(k≤evs.length)) (fun(zz:Nat)=>match zz with|k=>evs.length-k) (0:Nat) (by omega) ?_ ?_
 ·exact cQ [0] ⟨rfl,rfl,rfl,rfl,rfl,rfl,rfl,trivial⟩<|by kernel_rfl
 rintro k hk
 have hk:k≤evs.length:=hk
 refine eo [(0,vS ae evs ce),(1,c_ m),(kT A'1 evs c'2),(23,vS ae evs ce),(24,c_ evs.length),(25,c_ k),(6,u_<|jH evs m k)] [sI A'1 (dE evs evs.length) c'2] ⟨rfl,rfl,rfl,rfl,rfl,rfl,rfl,trivial⟩ rfl (aC<|dQ [] [(0,vS ae evs ce),(1,c_ m),(kT A'1 evs c'2),(23,vS ae evs ce),(24,c_ evs.length),(25,c_ k),(6,u_<|jH evs m k),(26,b_<|decide ((k:Int)<(evs.length:Int)))]<|aE<|aI (E:=decide ((k:Int)<(evs.length:Int))) rfl (fun e3=>?_) (fun e3=>?_))
 ·have p3:=dZ e3
  refine au<|aO<|aC<|tJ [.p,.ix] [(0,vS ae evs ce),(1,c_ m),(kT A'1 evs c'2),(23,vS ae evs ce),(24,c_ evs.length),(25,c_ k),(6,u_<|jH evs m k),(27,c_ k),(28,.pointer<|some<|(aZ ae).add (k*12))] (o1<|io (k:Int)<|dh ig (by decide) (bg r0<|by simp[aL])<|by omega) ?_
  obtain⟨x5,hx5⟩: ∃x,(evs)[k]? =some x:=⟨_,dA<|by omega⟩
  refine jN [.rd<|fh x5,.al,.p,.st 1] [0,1,5,23,24,25,6,8,7] (fun b6=>[(0,vS ae evs ce),(1,c_ m),(kT A'1 evs c'2),(23,vS ae evs ce),(24,c_ evs.length),(25,c_ k),(6,u_<|jH evs m k),(8,p_ b6),(7,c_ k)]) (fun b6=>[sI A'1 (dE evs evs.length) c'2,aA b6 (fh x5) 52]) (fun b6=>[b6]) (fun _=>(fun κ=>κ.rd ((aZ ae).add (k*12)) (fh x5)∧True)) (fun _=>by kernel_rfl) (fun b6=>⟨dY (vs:=(fh x5)) ig (bg r0<|by simp[aL]) hx5 (Nat.le_of_ble_eq_true rfl) rfl,trivial⟩) ?_
  intro b6
  refine aC<|fy [.o,.ix,.rd [c_ (ca (evs.take<|k):Nat)],.cl,.o,.w<|(k:Int)+1,.ix,.rd [c_ (ca (evs.take<|k+1):Nat)],.cl] [(0,vS ae evs ce),(1,c_ m),(kT A'1 evs c'2),(23,vS ae evs ce),(24,c_ evs.length),(25,c_ k),(6,u_<|jH evs m k),(8,p_ b6),(47,b_<|((decide ((k:Int)<(m:Int)))&&(((ca (evs.take<|k):Nat):Int)==0))&&(((ca (evs.take<|k+1):Nat):Int)==1))] (oc (go (true&&((decide ((k:Int)<(m:Int)))==true)) fun h_=>(io (k:Int)<|dh dL (by decide) (cV (i:=0) rfl)<|by(rw[pL];omega)))<|oc (go (true&&((decide ((k:Int)<(m:Int)))==true)) fun h_=>(ro ((aZ A'1).add (k*1))<|dY (vs:=[c_ (ca (evs.take<|k):Nat)]) dL (cV (i:=0) rfl) (vy<|by omega) (Nat.le_of_ble_eq_true rfl) rfl))<|oc (go (true&&(((decide ((k:Int)<(m:Int)))&&(((ca (evs.take<|k):Nat):Int)==0))==true)) fun h_=>(wj ((k:Int)+1)<|by omega))<|oc (go (true&&(((decide ((k:Int)<(m:Int)))&&(((ca (evs.take<|k):Nat):Int)==0))==true)) fun h_=>(io (((k:Int)+1).toNat:Int)<|dh dL (by decide) (cV (i:=0) rfl)<|by(rw[pL];omega)))<|o1<|go (true&&(((decide ((k:Int)<(m:Int)))&&(((ca (evs.take<|k):Nat):Int)==0))==true)) fun h_=>(ro ((aZ A'1).add ((((k:Int)+1).toNat)*1))<|dY (vs:=[c_ (ca (evs.take<|k+1):Nat)]) dL (cV (i:=0) rfl) (show _ from by rw[show((k:Int)+1).toNat=k+1 by omega];exact vy<|by omega) (Nat.le_of_ble_eq_true rfl) rfl))<|aI (E:=((decide ((k:Int)<(m:Int)))&&(((ca (evs.take<|k):Nat):Int)==0))&&(((ca (evs.take<|k+1):Nat):Int)==1)) rfl (fun e4=>?_) (fun e4=>?_)
  ·refine aM<|dQ [.ld 1] [(0,vS ae evs ce),(1,c_ m),(kT A'1 evs c'2),(23,vS ae evs ce),(24,c_ evs.length),(25,c_ k),(6,u_ x5.vq4)]<|aM<|fy [.w<|(k:Int)+1] [(0,vS ae evs ce),(1,c_ m),(kT A'1 evs c'2),(23,vS ae evs ce),(24,c_ evs.length),(25,i_<|(k:Int)+1),(6,u_ x5.vq4)] (o1<|wj ((k:Int)+1)<|by omega)<|fE [(0,vS ae evs ce),(1,c_ m),(kT A'1 evs c'2),(23,vS ae evs ce),(24,c_ evs.length),(25,i_<|(k:Int)+1),(6,u_<|jH evs m<|k+1)] (by exact⟨rfl,rfl,rfl,rfl,rfl,rfl,congrArg (fun z_=>some<|u_ z_) (by(refine(HY ‹_› ?_).symm;simp only[Bool.and_eq_true,Bool.and_eq_false_iff,decide_eq_true_eq,decide_eq_false_iff_not,beq_iff_eq,beq_eq_false_iff_ne] at*;split<;>first|rfl|(exfalso;omega)):x5.vq4=(jH evs m<|k+1)),trivial⟩) ?_
   refine bC (k+1) (by omega) (by(simp;omega)) ?_
   exact cQ [0] ⟨rfl,rfl,rfl,rfl,rfl,rfl,rfl,trivial⟩<|by kernel_rfl
  refine aP<|aM<|fy [.w<|(k:Int)+1] [(0,vS ae evs ce),(1,c_ m),(kT A'1 evs c'2),(23,vS ae evs ce),(24,c_ evs.length),(25,i_<|(k:Int)+1),(6,u_<|jH evs m k)] (o1<|wj ((k:Int)+1)<|by omega)<|fE [(0,vS ae evs ce),(1,c_ m),(kT A'1 evs c'2),(23,vS ae evs ce),(24,c_ evs.length),(25,i_<|(k:Int)+1),(6,u_<|jH evs m<|k+1)] (by exact⟨rfl,rfl,rfl,rfl,rfl,rfl,congrArg (fun z_=>some<|u_ z_) (by(refine(HY ‹_› ?_).symm;simp only[Bool.and_eq_true,Bool.and_eq_false_iff,decide_eq_true_eq,decide_eq_false_iff_not,beq_iff_eq,beq_eq_false_iff_ne] at*;split<;>first|rfl|(exfalso;omega)):(jH evs m k)=(jH evs m<|k+1)),trivial⟩) ?_
  refine bC (k+1) (by omega) (by(simp;omega)) ?_
  exact cQ [0] ⟨rfl,rfl,rfl,rfl,rfl,rfl,rfl,trivial⟩<|by kernel_rfl
 have p3:=ga e3
 refine bR<|aE<|qP [.p,.p,.ix,.p,.rd [u_ x4.vq4],.p,.p,.p,.o,.p,.p,.ix,.p,.rd [u_ x4.vq4],.p,.p,.cq<|u_<|jX<|evs.take (m:Int).toNat,.p,.cl,.p] [0,1,2,3,4,5,6,7,8,9,10,11,12,13,14,15,16,17,18] [(4,b_<|(decide (x4.vq4>(jH evs m k)))&&(decide (x4.vq4>(jX<|evs.take (m:Int).toNat))))] [] (fun κ=>κ.ix ae evs.length (m:Int)∧κ.rd (((aZ ae).add (m*12)).add 3) [u_ x4.vq4]∧((true&&((decide (x4.vq4>(jH evs m k)))==true))=true→κ.ix ae evs.length (m:Int))∧((true&&((decide (x4.vq4>(jH evs m k)))==true))=true→κ.rd (((aZ ae).add (m*12)).add 3) [u_ x4.vq4])∧((true&&((decide (x4.vq4>(jH evs m k)))==true))=true→κ.call 26 [vS ae evs ce,c_ m] (u_<|jX<|evs.take (m:Int).toNat))∧True) (by kernel_rfl) (by kernel_rfl) ⟨dh ig (by decide) (bg r0<|by simp[aL])<|by omega,kR (f:=3) (vs:=[u_ x4.vq4]) ig (bg r0<|by simp[aL]) hx4 (by simp) rfl,(fun h_=>(dh ig (by decide) (bg r0<|by simp[aL])<|by omega)),(fun h_=>(kR (f:=3) (vs:=[u_ x4.vq4]) ig (bg r0<|by simp[aL]) hx4 (by simp) rfl)),(fun h_=>(fun w s=>I1 ae evs ce (m:Int) ‹_› w ((bg r0<|by simp[aL]) w s))),trivial⟩<|aF<|cN [] [b_<|(decide (x4.vq4>(jH evs m k)))&&(decide (x4.vq4>(jX<|evs.take (m:Int).toNat)))] (fun _ w r s=>⟨dM r rfl,trivial⟩) () ?_ ?_<|by kernel_rfl
 ·refine congrArg Value.bool ?_;unfold oa;rw[‹evs[m]? =some _›];(unfold jH;rw[show min k m=m by omega];grind)
 trivial
theorem Ej: ∀l:bT,(l.map fun _=>0).sum=0
 |[]=>rfl
 |_::l=>by simp only[List.map_cons,List.sum_cons];rw[Ej l]
def Ek(kv:List (Int×Cl))(L:List Cl):Prop:= ∀i c,aB kv i=some c→c∈L∧c.hi=i∧(0≤c.la∧0≤c.lb∧0≤c.lc)∧0≤c.ua∧0≤c.ub∧0≤c.uc
variable{L:List Cl}
theorem Oy{kv:bm Cl}{M:List Cl}{z:Zc}(hn:(kv.map (·.1)).Nodup)(h:Ek kv L)(hz:iy z)(hs:fw kv z=0)(hr:uX z L M):Ek (iL kv z) M:=by
 intro i c hc
 rcases hr with⟨hk,hr⟩|⟨hk,hr⟩
 ·have e:iL kv z=aK kv (pD z).hi (pD z):=by
   unfold fw at hs;unfold iL
   rcases hk with hk|hk
   ·rw[if_pos hk] at hs⊢;unfold mI;rw[if_pos hs]
   ·rw[if_neg<|by omega,if_pos hk] at hs⊢;unfold lU;rw[if_pos hs]
  rw[e,fN] at hc
  split at hc
  ·rename_i e2;cases hc
   refine⟨(hr _).2 (.inl rfl),e2,?_⟩
   unfold iy at hz;unfold pD;simp only;omega
  ·rename_i e2;obtain⟨h1,h2,h3⟩:=h i c hc
   exact⟨(hr c).2 (.inr ⟨h1,by rw[h2];exact fun e3=>e2 e3.symm⟩),h2,h3⟩
 ·have e:iL kv z=aY kv z.zi:=by
   unfold fw at hs;unfold iL
   rw[if_neg<|by omega,if_neg<|by omega,if_pos hk] at hs⊢;unfold om;rw[if_pos hs]
  rw[e,gx hn] at hc
  split at hc
  ·cases hc
  ·rename_i e2;obtain⟨h1,h2,h3⟩:=h i c hc
   exact⟨(hr c).2 ⟨h1,by rw[h2];exact fun e3=>e2 e3.symm⟩,h2,h3⟩
variable{zl:List Zc}
theorem Oz(hz: ∀z∈zl,iy z)(he:jZ [] zl=0)(h:nQ zl k L):cK (cF []<|zl.take k)∧jZ [] (zl.take k)=0∧Ek (cF []<|zl.take k) L:=by
 induction h with
 |nil=>exact⟨Hi,rfl,fun i c h=>by cases h⟩
 |snoc h hk hs ih=>
  obtain⟨i1,i2,i3⟩:=ih
  rename_i k z l m
  have hst:fw (cF []<|zl.take k) z=0:=Classical.byContradiction fun hn=>hn<|(AP hk i2 hn).1.symm.trans he
  rw[jC hk,CG,CH _ _ _ i2]
  exact⟨vu i1 z,hst,Oy i1.nd i3 (hz z<|cT hk) hst hs⟩
structure Bz(c:Ss)(d:Sd):Prop where
 iv:Iv c d
 z:gP d.kb∧ZK d.kc d.kk
 eg: ∀i x,aB d.kc i=some x→x.hl=true→eL d.kc i=true
variable{c:Ss}{d d':Sd}
theorem TY{idle:Bool}{pl er:Int}(h1:1≤c.lt∧c.lt≤65536)(h2:1≤c.lm∧c.lm≤16384)(hn:lZ d)(hz: ∀z∈zl,iy z)(hF:nQ zl zl.length L)(hE:nv L=true)(ht:tc c d idle zl pl er d'):Bz c d'∧i8 d'=0:=by
 have hI:=zV h1 h2 hn
 obtain⟨k1,k2⟩:=Dt hI hz ht
 obtain⟨e1,e2,-,-,-,-,-,⟨v,e8,e9,-⟩,-,-⟩:=hn
 refine⟨?_,?_⟩
 rotate_left
 ·unfold i8
  have:(fun i=>(qk d'.kb i).length)=fun _=>0:=funext fun i=>by rw[k2];unfold qk;rw[e2];rfl
  rw[this];exact Ej _
 obtain⟨-,-,-,-,hR,-⟩:=ht
 rw[e1,e2,e8] at hR
 have hv: ∀p w,aB [((0:Int),v)] p=some w→ ∀i y,aB w.kv i=some y→False:=fun p w hw i y hy=>by
  simp only[aB] at hw;split at hw
  ·cases hw;rw[e9] at hy;cases hy
  ·cases hw
 rcases hR with⟨-,-,-,-,hkc,hkb,-,-,-,hkk,-⟩|⟨-,hok,hkc,hC,-⟩
 ·refine⟨k1,⟨fun i m hm=>?_,fun p w hp hw i y hy=>?_⟩,fun i x hx=>?_⟩
  ·rw[hkb] at hm;cases hm
  ·rw[hkk] at hw;exact(hv p w hw i y hy).elim
  ·rw[hkc] at hx;cases hx
 have he:jZ [] zl=0:=by
  have:=hok.1;unfold gw at this
  split at this
  ·omega
  ·split at this
   ·omega
   ·split at this
    ·exact this
    ·rename_i h;exact Classical.byContradiction h
 have hS:=(Oz hz he hF).2.2;rw[List.take_length,←hkc] at hS
 have hcl: ∀i x,aB d'.kc i=some x→(x.hl=true→aV x.la x.lb x.lc>1)∧aV x.ua x.ub x.uc≤1:=by
  intro i x hx
  obtain⟨q1,-,⟨q2,q3,q4⟩,q5,q6,q7⟩:=hS i x hx
  have:=List.all_eq_true.1 hE x q1
  unfold s7 at this;rw[←td q2 q3 q4,←td q5 q6 q7] at this
  simp at this
  exact⟨fun h=>by have:=this.1.resolve_left (by rw[h];decide);omega,this.2⟩
 have hg:=fun i=>yf (by simp) (by simp) hC i
 refine⟨k1,⟨fun i m hm=>?_,fun p w hp hw i y hy=>?_⟩,fun i x hx hl=>?_⟩
 ·refine⟨(hcl i _<|lO k1.by_ hm).2,?_⟩
  by_cases e:i∈dC [] d'.kc
  ·rcases(hg i).2 (.inl e) with⟨-,h1⟩|⟨-,m',h1,h2,-⟩
   ·rw[h1] at hm;cases hm
   ·rw[h2] at hm;cases hm
    exact h1.2.2.2.2.2.1
  ·rw[((hg i).1 e).1] at hm;cases hm
 ·exfalso
  by_cases e:p∈dC [] d'.kc
  ·rcases hp with rfl|⟨x,hx,hl⟩
   ·have:=((vv [] d'.kc).2 0).1 e
    unfold kh at this;simp only[decide_eq_true_eq] at this
    cases h0:aB d'.kc 0 with
    |none=>exact this.2 (by rw[h0];rfl)
    |some x=>
     obtain⟨h3,h4⟩:=k1.laid.key 0 x h0
     have:=(rq h4).1;omega
   ·rcases(hg p).2 (.inl e) with⟨h1,-⟩|⟨-,m',-,-,h3⟩
    ·rw[E1 h1] at hx;cases hx
    ·obtain⟨v',q1,-,q3⟩:=h3 (by rw[iP hx];exact hl)
     rw[q3] at hw;cases hw;rw[q1] at hy;cases hy
  ·rw[((hg p).1 e).2] at hw;exact hv p w hw i y hy
 ·unfold eL;rw[iP hx];simp;have:=(hcl i x hx).1 hl;omega
variable{now:Int}
theorem PC{z:Pd}{ok:Bool}(h:Bz c d)(ht:pa d now z ok d'):Bz c d'∧i8 d=i8 d'+(if ok=true then 1 else 0):=by
 obtain⟨h1,h2,h3,h4⟩:=Cf h.iv ht
 have hkc:d'.kc=d.kc:=ht.1.2.2.1
 refine⟨⟨h1,h4 h.z,by rw[hkc];exact h.eg⟩,?_⟩
 unfold i8;rw[hkc]
 cases ok with
 |false=>
  have:(fun i=>(qk d'.kb i).length)=fun i=>(qk d.kb i).length:=funext fun i=>by rw[h2 i];simp
  rw[this];rfl
 |true=>
  obtain⟨m,-,h5,-⟩:=nu h.iv.by_<|h3 rfl
  have:=vo (f:=fun i=>(qk d.kb i).length) (g:=fun i=>(qk d'.kb i).length) (i:=z.gq1) (fun j hj=>by
   rw[h2 j];simp[show¬z.gq1=j from fun e=>hj e.symm]) h.iv.laid.nd<|lz.1 (by rw[h5];simp)
  have h6:=congrArg List.length<|h2 z.gq1;simp at h6
  simp only[if_true];omega
theorem Qe{ci er:Int}{p:Pk}(h:Bz c d)(ht:pq c d now ci p er d'):Bz c d'∧i8 d'=i8 d+(if er=0 then 1 else 0):=by
 obtain⟨h1,h2,h3,h4⟩:=Dp h.iv ht
 have hkc:d'.kc=d.kc:=ht.1.2.2.1
 refine⟨⟨h1,h4 h.z,by rw[hkc];exact h.eg⟩,?_⟩
 unfold i8;rw[hkc]
 by_cases e:er=0
 ·have:=vo (f:=fun i=>(qk d.kb i).length) (g:=fun i=>(qk d'.kb i).length) (i:=ci) (fun j hj=>by
   rw[h2 j];simp[show¬ci=j from fun e=>hj e.symm]) h.iv.laid.nd<|h3 e
  have h5:=congrArg List.length<|h2 ci;simp[e] at h5
  rw[if_pos e];omega
 ·have:(fun i=>(qk d'.kb i).length)=fun i=>(qk d.kb i).length:=funext fun i=>by rw[h2 i];simp[e]
  rw[this,if_neg e];rfl
theorem ET(h:Bz c d)(hc:0<i8 d):kY d.et d.kk≤0:=by
 have: ∃i,qk d.kb i≠[]:=Classical.byContradiction fun hn=>by
  have:(fun i=>(qk d.kb i).length)=fun _=>0:=funext fun i=>by rw[Classical.not_not.1 fun q=>hn ⟨i,q⟩];rfl
  unfold i8 at hc;rw[this,Ej] at hc;omega
 obtain⟨i,hi⟩:=this
 obtain⟨m,-,h1,h2,h3⟩:=nu h.iv.by_ hi
 exact Ea h.iv h.z (h.eg i _ h1 h2) (by rw[h3];exact h2) hi
def wE(l:List Ev):Prop:= ∀n,oa l n=false
theorem G4{l:List Ev}(h:wE l)(he:e.vq2=true∨e.vq4≤s9 l∨e.vq4≤jX l):wE (l++[e]):=fun n=>by
 rcases Nat.lt_trichotomy n l.length with h1|h1|h1
 ·have h2:=h n
  unfold oa at h2⊢
  rw[List.getElem?_append_left h1,List.take_append_of_le_length<|by omega];exact h2
 ·unfold oa;subst h1
  rw[List.getElem?_append_right<|Nat.le_refl _,Nat.sub_self,List.take_append_of_le_length<|Nat.le_refl _,List.take_length]
  simp only[List.getElem?_cons_zero]
  rcases he with he|he|he
  ·simp[he]
  ·simp;intro _ _ h3;omega
  ·simp;intro _ _ h3;omega
 ·unfold oa;rw[List.getElem?_eq_none (by simp;omega)]
structure Bi(c:Ss)(d:Sd)(un clk:Int)(evs:List Ev):Prop where
 bz:Bz c d
 ck:d.ck≤clk
 wk:ca evs=i8 d
 ut:jX evs=un
 bs:0<i8 d→clk<un
 ok:wE evs
variable{un un' t oo:Int}{evs':List Ev}
theorem Jo(ht:1≤t)(hz:Bz c d)(hck:d.ck≤now)(hn:0≤now∧now≤4611686018427387904)(hw:ca evs=i8 d)(hu:jX evs=un)(hl:wE evs)
  (ho:0<i8 d→now<un∨now≤s9 evs∨now≤un)(hp:rI d un t oo now evs d' un' evs'):Bi c d' un' now evs'∧ ∃l,evs'=evs++l∧ ∀e∈l,e.vq1=oo:=by
 rcases hp with⟨h1,rfl,rfl,rfl⟩|⟨h1,z,ok,hT,hp⟩
 ·exact⟨⟨hz,hck,hw,hu,fun _=>h1,hl⟩,[],by simp,by simp⟩
 have hpk:=J6 (KW hz.iv) hT
 obtain⟨hz',hc⟩:=PC hz hT
 have hck':d'.ck≤now:=by have:=hT.2.1;omega
 by_cases h0:0<i8 d
 ·have hd:=ET hz h0
  have hok:=E9 hz.iv (by omega) hn.2 hT
  subst hok
  rcases hp with⟨h2,-⟩|⟨-,rfl,rfl⟩
  ·cases h2
  obtain⟨p1,p2⟩:=hpk rfl
  have hm:1*1≤z.gq3*t:=Int.mul_le_mul p1 ht (by omega)<|by omega
  simp only[if_true] at hc
  refine⟨⟨hz',hck',?_,?_,fun _=>by omega,G4 hl<|.inr ?_⟩,[_],rfl,by simp[Ey]⟩
  ·rw[xw,hw,hc];rfl
  ·rw[BO,hu];unfold uk Ey;simp;omega
  ·have:=ho h0;rw[hu];show now≤_∨now≤_;omega
 ·cases ok with
  |true=>simp at hc;omega
  |false=>
   rcases hp with⟨-,rfl,rfl⟩|⟨h2,-⟩
   ·simp at hc
    exact⟨⟨hz',hck',by omega,hu,fun q=>by omega,hl⟩,[],by simp,by simp⟩
   ·cases h2
variable{rl:List Rl}
theorem PD{clk:Int}{p:Pk}{x:Rs}(ht:1≤t)(hn:0≤clk∧clk≤4611686018427387904)(h:Bi c d un clk evs)(hp:uB c rl d un t oo clk p evs x d' un' evs'):Bi c d' un' clk evs'∧ ∃l,evs'=evs++l∧ ∀e∈l,e.vq1=oo:=by
 rcases hp with⟨-,-,rfl,rfl,rfl⟩|⟨-,er,d1,hP,hp⟩
 ·exact⟨h,[],by simp,by simp⟩
 obtain⟨hz,hc⟩:=Qe h.bz hP
 have hck:d1.ck≤clk:=by have:=hP.2.1;omega
 rcases hp with⟨he,-,rfl,rfl,rfl⟩|⟨he,-,hp⟩
 ·rw[if_neg he] at hc
  exact⟨⟨hz,hck,by rw[h.wk];omega,h.ut,fun q=>h.bs<|by omega,h.ok⟩,[],by simp,by simp⟩
 ·rw[if_pos he] at hc
  have hw:ca (evs++[FQ oo clk (ef rl<|fR p) p])=i8 d+1:=by rw[xw,h.wk];rfl
  obtain⟨b1,l,b2,b3⟩:=Jo ht hz hck hn (by rw[hw,hc]) (by rw[BO,h.ut];rfl) (G4 h.ok<|.inl rfl) (fun _=>by
   by_cases h0:0<i8 d
   ·exact .inl<|h.bs h0
   ·right;left
    rw[G3,if_pos ⟨by rw[h.wk];omega,by rw[hw];omega⟩];exact Int.le_refl _) hp
  exact⟨b1,FQ oo clk (ef rl<|fR p) p::l,by rw[b2];simp,fun e he=>by rcases List.mem_cons.1 he with rfl|he;rfl;exact b3 e he⟩
theorem Vy{fin:Int}(ht:1≤t)(hf:fin≤4611686018427387904): ∀{clk un un':Int}{d d':Sd}{evs evs':List Ev},oI t oo fin clk d un evs d' un' evs'→0≤clk→clk≤fin→Bi c d un clk evs→Bi c d' un' fin evs'∧ ∃l,evs'=evs++l∧ ∀e∈l,e.vq1=oo:=by
 intro clk un un' d d' evs evs' h
 induction h with
 |@stop clk d un evs h1=>
  intro h0 hc hb
  refine⟨⟨hb.bz,by have:=hb.ck;omega,hb.wk,hb.ut,fun q=>?_,hb.ok⟩,[],by simp,by simp⟩
  have hd:=ET hb.bz q
  have hs:=hb.bs q
  unfold iU nW pE bD at h1;grind
 |@step clk d d1 d2 un un1 un2 evs evs1 evs2 hx hp _ ih=>
  intro h0 hc hb
  obtain⟨n1,n2,n3⟩:=vt hx hf
  obtain⟨b1,l,b2,b3⟩:=Jo ht hb.bz (by have:=hb.ck;omega) ⟨by omega,by omega⟩ hb.wk hb.ut hb.ok (fun q=>by
   have hd:=ET hb.bz q
   have hs:=hb.bs q
   right;right
   unfold iU nW pE bD;grind) hp
  obtain⟨b4,l2,b5,b6⟩:=ih (by omega) hx b1
  exact⟨b4,l++l2,by rw[b5,b2];simp,fun e he=>by rcases List.mem_append.1 he with he|he;exact b3 e he;exact b6 e he⟩
theorem HZ(P:List Ev)(h:rI d un t oo now evs d' un' evs'):rI d un t oo now (P++evs) d' un' (P++evs'):=by
 rcases h with⟨h1,h2,h3,rfl⟩|⟨h1,z,ok,h2,⟨h3,h4,rfl⟩|⟨h3,h4,rfl⟩⟩
 ·exact .inl ⟨h1,h2,h3,rfl⟩
 ·exact .inr ⟨h1,z,ok,h2,.inl ⟨h3,h4,rfl⟩⟩
 ·exact .inr ⟨h1,z,ok,h2,.inr ⟨h3,h4,by rw[List.append_assoc]⟩⟩
theorem Qg{fin:Int}(P:List Ev): ∀{clk un un':Int}{d d':Sd}{evs evs':List Ev},oI t oo fin clk d un evs d' un' evs'→oI t oo fin clk d un (P++evs) d' un' (P++evs'):=by
 intro clk un un' d d' evs evs' h
 induction h with
 |stop h=>exact .stop h
 |step h1 h2 _ ih=>exact .step h1 (HZ P h2) ih
theorem Ws{no clk clk':Int}{rl':List Rl}{x:Rs}(pre:List Ev)(ht:1≤t)(hk:o.kd≠1)(htk:0≤o.tk)(hn:0≤clk∧clk≤4611686018427387904)(hb:Bi c d un clk pre)
  (h:xJ c t o.kd o.zl o.rl o.op o.tk no d un clk rl x evs d' un' clk' rl'):Bi c d' un' clk' (pre++evs)∧clk'=jv clk o∧ ∀e∈evs,e.vq1=no:=by
 have fin: ∀{l:List Ev},(∃m,pre++evs=pre++m∧ ∀e∈m,e.vq1=no)→ ∀e∈evs,e.vq1=no:=fun⟨m,h1,h2⟩=>by rw[List.append_cancel_left h1];exact h2
 rcases h with⟨h1,-⟩|⟨h1,rfl,rfl,rfl,rfl,-⟩|⟨h1,rfl,-,hp⟩|⟨h1,-,hp⟩|⟨h1,-,rfl,rfl,rfl,-,rfl⟩
 ·exact absurd h1 hk
 ·exact⟨by rw[List.append_nil];exact hb,by unfold jv;rw[if_neg<|by omega],by simp⟩
 ·have hp':uB c rl d un t no clk' o.op pre x d' un' (pre++evs):=by
   rcases hp with⟨q1,q2,q3,q4,rfl⟩|⟨q1,er,d1,q2,⟨q3,q4,q5,q6,rfl⟩|⟨q3,q4,q5⟩⟩
   ·exact .inl ⟨q1,q2,q3,q4,by simp⟩
   ·exact .inr ⟨q1,er,d1,q2,.inl ⟨q3,q4,q5,q6,by simp⟩⟩
   ·exact .inr ⟨q1,er,d1,q2,.inr ⟨q3,q4,by have:=HZ pre q5;simpa using this⟩⟩
  obtain⟨b1,b2⟩:=PD ht hn hb hp'
  exact⟨b1,by unfold jv;rw[if_neg<|by omega],fin (l:=[]) b2⟩
 ·rcases hp with⟨q1,-,rfl,rfl,rfl,rfl⟩|⟨q1,-,rfl,q2⟩
  ·exact⟨by rw[List.append_nil];exact hb,by unfold jv;rw[if_neg<|by omega],by simp⟩
  ·have q3:=Qg pre q2;rw[List.append_nil] at q3
   obtain⟨b1,b2⟩:=Vy ht (by omega) q3 hn.1 (by omega) hb
   exact⟨b1,by unfold jv;rw[if_pos<|by omega],fin (l:=[]) b2⟩
 ·exact⟨by rw[List.append_nil];exact hb,by unfold jv;rw[if_neg<|by omega],by simp⟩
theorem H2{A B:List Ev}(hA: ∀e∈A,e.vq1<m)(hB: ∀e∈B,m≤e.vq1):(A++B).take (eS (A++B) m)=A:=by
 have:eS (A++B) m=A.length:=by
  unfold eS
  rw[List.filter_append,List.filter_eq_self.2<|fun e he=>by simpa using hA e he,List.filter_eq_nil_iff.2 (fun e he=>by have:=hB e he;simp;omega)];simp
 rw[this,List.take_left'];rfl
theorem H3(ht:1≤t): ∀(ops:List eX)(no un clk:Int)(d:Sd)(rl:List Rl)(rsl:List Rs)(evl pre:List Ev),oD c t ops no d un clk rl rsl evl→Bi c d un clk pre→0≤clk∧clk≤4611686018427387904→
  (∀o∈ops,o.kd≠1∧0≤o.tk)→(∀e∈pre,e.vq1<no)→wE (pre++evl)∧(∀e∈evl,no≤e.vq1)∧
  ∀k:Nat,k<ops.length→0<ca ((pre++evl).take (eS (pre++evl)<|no+k+1))→(ops.take<|k+1).foldl jv clk<jX ((pre++evl).take (eS (pre++evl)<|no+k+1))
 |[],no,un,clk,d,rl,rsl,evl,pre,⟨h1,h2⟩,hb,hn,ho,hp=>by
  subst h2;exact⟨by rw[List.append_nil];exact hb.ok,by simp,fun k hk=>absurd hk<|by simp⟩
 |o::ops,no,un,clk,d,rl,rsl,evl,pre,⟨x,evs,d',un',clk',rl',rsl',evl',hd,hr,h1,h2⟩,hb,hn,ho,hp=>by
  obtain⟨o1,o2⟩:=ho o<|List.mem_cons_self ..
  obtain⟨b1,b2,b3⟩:=Ws pre ht o1 o2 hn hb hd
  have hpe: ∀e∈pre++evs,e.vq1<no+1:=fun e he=>by
   rcases List.mem_append.1 he with he|he
   ·have:=hp e he;omega
   ·have:=b3 e he;omega
  obtain⟨c1,c2,c3⟩:=H3 ht ops (no+1) un' clk' d' rl' rsl' evl' (pre++evs) hr b1 (by rw[b2];exact HT hn o2) (fun y hy=>ho y<|List.mem_cons_of_mem _ hy) hpe
  subst h2
  rw[←List.append_assoc]
  refine⟨c1,fun e he=>?_,fun k hk hw=>?_⟩
  ·rcases List.mem_append.1 he with he|he
   ·have:=b3 e he;omega
   ·have:=c2 e he;omega
  ·cases k with
   |zero=>
    rw[show no+((0:Nat):Int)+1=no+1 by omega,H2 hpe c2] at hw⊢
    rw[b1.wk] at hw;rw[b1.ut]
    have:=b1.bs hw
    simp only[List.take_succ_cons,List.take_zero,List.foldl_cons,List.foldl_nil];rw[←b2];exact this
   |succ k=>
    have e:no+((k+1:Nat):Int)+1=no+1+(k:Int)+1:=by omega
    rw[e] at hw⊢
    have:=c3 k (by simp at hk;omega) hw
    simp only[List.take_succ_cons,List.foldl_cons];rw[←b2];exact this
theorem Qh{rs:List Rs}{ev:List Ev}(hlt:c.lt=t)(htt:1≤t∧t≤65536)(hlm:1≤c.lm∧c.lm≤16384)(hn:lZ d)(hR:oD c t ops 0 d 0 0 [] rs ev)(hz: ∀o∈ops,(∀z∈o.zl,iy z)∧0≤o.tk)
  (ho:ops[0]? =some o)(hk:o.kd=1)(hnk: ∀(j:Nat)(y:eX),0<j→ops[j]? =some y→y.kd≠1)(hF:nQ o.zl o.zl.length L)(hE:nv L=true):
  (∀n,oa ev n=false)∧ ∀k:Nat,k<ops.length→0<ca (ev.take<|eS ev<|(k:Int)+1)→m8 (ops.take<|k+1)<jX (ev.take<|eS ev<|(k:Int)+1):=by
 cases ops with
 |nil=>cases ho
 |cons a ops=>
  simp only[List.getElem?_cons_zero,Option.some.injEq] at ho;subst ho
  obtain⟨x,evs,d',un',clk',rl',rsl',evl',hd,hr,-,rfl⟩:=hR
  obtain⟨-,⟨er,pl,hC,-⟩,rfl,rfl,rfl,rfl⟩|⟨q,-⟩|⟨q,-⟩|⟨q,-⟩|⟨q,-⟩:=hd
  rotate_left
  ·omega
  ·omega
  ·omega
  ·omega
  obtain⟨b1,b2⟩:=TY (by rw[hlt];exact htt) hlm hn (hz a<|List.mem_cons_self ..).1 hF hE hC
  have hck:d'.ck=0:=hC.2.2.1.trans hn.2.2.2.2.2.2.2.2.1
  obtain⟨c1,c2,c3⟩:=H3 htt.1 ops 1 0 0 d' [] rsl' evl' [] hr ⟨b1,by omega,by rw[b2];rfl,rfl,fun q=>by omega,fun n=>by simp[oa]⟩ (by decide) (fun y hy=>by
   obtain⟨j,h1,h2⟩:=List.getElem_of_mem hy
   exact⟨hnk (j+1) y (by omega) (by rw[List.getElem?_cons_succ,←h2];exact dA h1),(hz y<|List.mem_cons_of_mem _ hy).2⟩)<|by simp
  rw[List.nil_append] at c1 c3⊢
  refine⟨c1,fun k hk2 hw=>?_⟩
  have h0:jv 0 a=0:=by unfold jv;rw[if_neg<|by omega]
  cases k with
  |zero=>
   have:=H2 (A:=[]) (B:=evl') (m:=1) (by simp) c2
   rw[List.nil_append] at this
   rw[show((0:Nat):Int)+1=1 by omega,this] at hw;exact absurd hw<|by decide
  |succ k=>
   have e:((k+1:Nat):Int)+1=1+(k:Int)+1:=by omega
   rw[e] at hw⊢
   have:=c3 k (by simp at hk2;omega) hw
   unfold m8;simp only[List.take_succ_cons,List.foldl_cons];rw[h0];exact this
abbrev zB(p0)(p1:List Ev)(p2):=(sI p0 (dE p1 p1.length) p2:V.aH)
abbrev pU(p0)(p1:List Ev)(p2):=((8,vS p0 (dE p1 p1.length) p2):Nat×Value)
theorem NB(t lm:Int)(al:bn)(ops:List eX)(cl:Nat)(hol:ops.length≤9223372036854775807)(w:World)(r0:dR w al (V.aQ mW ops))(r1:pj w ops):
  CW 6 #[.agg #[i_ t,i_ lm,vS al ops cl]] w (b_ true):=by
 refine aU Tryz.func6 rfl (HS.nil w) (aC<|dS [.al] [] (fun b1=>[(1,p_ b1)]) (fun _=>[]) (fun b1=>aA b1 [i_ t,i_ lm,vS al ops cl] 26) ?_)
 intro b1
 refine aC<|cP [.ld 0] [(13,.agg #[i_ t,i_ lm,vS al ops cl])]<|aG<|dG (some 14) [] (fun w s h=>Q7 t lm al ops cl ‹_› w ((bg r0<|by simp[aL]) w s) (yj r1 s) h) ?_
 rintro⟨A'2,xs'3,c'4,b5⟩ hz1
 dsimp only at hz1
 refine ak [(3,vS A'2 xs'3 c'4),(4,b_ b5)]<|aE<|aE ?_
 have hfl:=hz1.1
 refine aM<|az [.ld 1,.cq<|b_<|mi t lm&&jY ops 100,.o,.cl,.o,.cq<|b_<|nv xs'3,.cl] [(28,b_<|((!(mi t lm&&jY ops 100))||(!b5))||(!(nv xs'3)))] (oc (qo<|fun w s=>Rx t lm al ops cl 100 (by omega) w<|(bg r0<|by simp[aL]) w s)<|o1<|go (true&&(((!(mi t lm&&jY ops 100))||(!b5))==false)) fun h_=>(qo<|fun w s=>Qb A'2 xs'3 c'4 (by omega) w<|(cV (i:=0) rfl) w s))<|aI (E:=((!(mi t lm&&jY ops 100))||(!b5))||(!(nv xs'3))) rfl (fun e2=>?_) (fun e2=>?_)
 ·refine bW [.cq<|b_ true] [(2,b_ true)] (o1<|qw J0)<|aF<|gX [b_ true] (fun _ w r s=>⟨dM r rfl,trivial⟩) ?_
  rfl
 refine au ?_
 have hmf:mi t lm=true∧jY ops 100=true∧nv xs'3=true:=by simp_all
 obtain⟨o,ho,hk1,hnk,hF⟩:=hz1.2<|by simp_all
 obtain⟨htt,hlm⟩:=VJ hmf.1;have hof:=Ry hmf.2.1;have htk: ∀o∈ops,0≤o.tk:=fun o ho=>(r1 o ho).2.2.2.2.2
 refine aM<|cP [.ld 1] [(31,.agg #[i_ t,i_ lm,vS al ops cl])]<|aG<|dG (some 32) [] (fun w s h=>JY t lm al ops cl (by omega) ‹_› ‹_› w ((bg r0<|by simp[aL]) w s) (yj r1 s) h) ?_
 rintro⟨A'7,rs'8,a'9,B'10,ev'11,b'12⟩ hz3
 dsimp only at hz3
 refine dS [.al,.st 4] [] (fun b15=>[(1,p_ b1),(5,p_ b15),(6,i_ 0)]) (fun _=>[]) (fun b15=>aA b15 [vS A'7 rs'8 a'9,vS B'10 ev'11 b'12] 32) ?_
 intro b15
 refine aE ?_
 obtain⟨cc,dd,hc1,hc2,hnS,hRL⟩:=hz3
 have hI:=zV (c:=cc) (by rw[hc1];exact htt) (by rw[hc2];exact hlm) hnS
 have hle:=JZ hRL hI (by rw[hnS.2.2.2.2.2.2.2.2.1];decide) (by decide)<|fun o ho=>⟨(r1 o ho).2.2.1,(r1 o ho).2.2.2.2.2⟩;rw[JP hnS] at hle
 obtain⟨hLt,hBz⟩:=Qh hc1 htt (by rw[hc2];exact hlm) hnS hRL (fun o ho=>⟨(r1 o ho).2.2.1,(r1 o ho).2.2.2.2.2⟩) ho hk1 hnk hF hmf.2.2
 refine aM<|bF [.ld 4] [(7,vS B'10 ev'11 b'12)]<|aC<|cP [.p] [(37,vS B'10 ev'11 b'12)]<|aG<|dG (some 38) [] (fun w s h=>Jn B'10 ev'11 b'12 (by omega) w ((cV (i:=1) rfl) w s) h) ?_
 rintro⟨A'16,c'17⟩-
 refine dQ [] [(1,p_ b1),(6,i_ 0),(7,vS B'10 ev'11 b'12),(pU A'16 ev'11 c'17)]<|cS<|dQ [.ld 4] [(1,p_ b1),(6,i_ 0),(7,vS B'10 ev'11 b'12),(pU A'16 ev'11 c'17),(41,c_ ops.length),(42,i_ 0)]<|aO<|fm (fun(zz:Nat)=>match zz with|k=>[(1,p_ b1),(6,i_ 0),(7,vS B'10 ev'11 b'12),(pU A'16 ev'11 c'17),(41,c_ ops.length),(42,c_ k)]) (fun(zz:Nat)=>match zz with|k=>[zB A'16 ev'11 c'17,pC A'7 rs'8 a'9,gW B'10 ev'11 b'12,dw A'2 xs'3 c'4,aA b1 [i_ t,i_ lm,vS al ops cl] 26,aA b15 [vS A'7 rs'8 a'9,vS B'10 ev'11 b'12] 32]) (fun(zz:Nat)=>match zz with|k=>(k≤ops.length)) (fun(zz:Nat)=>match zz with|k=>ops.length-k) (0:Nat) (by omega) ?_ ?_
 ·exact cQ [0,0,0,0,0,0] ⟨rfl,rfl,rfl,rfl,rfl,rfl,trivial⟩<|by kernel_rfl
 rintro k hk
 have hk:k≤ops.length:=hk
 have hun:=Jl ev'11<|(k:Int)+1
 refine eo [(1,p_ b1),(6,i_ 0),(7,vS B'10 ev'11 b'12),(pU A'16 ev'11 c'17),(41,c_ ops.length),(42,c_ k)] [zB A'16 ev'11 c'17,pC A'7 rs'8 a'9,gW B'10 ev'11 b'12,dw A'2 xs'3 c'4,aA b1 [i_ t,i_ lm,vS al ops cl] 26,aA b15 [vS A'7 rs'8 a'9,vS B'10 ev'11 b'12] 32] ⟨rfl,rfl,rfl,rfl,rfl,rfl,trivial⟩ rfl (aC<|dQ [] [(1,p_ b1),(6,i_ 0),(7,vS B'10 ev'11 b'12),(pU A'16 ev'11 c'17),(41,c_ ops.length),(42,c_ k),(43,b_<|decide ((k:Int)<(ops.length:Int)))]<|aE<|aI (E:=decide ((k:Int)<(ops.length:Int))) rfl (fun e5=>?_) (fun e5=>?_))
 ·have p5:=dZ e5
  refine au<|aO<|aC<|dQ [] [(1,p_ b1),(6,i_ 0),(7,vS B'10 ev'11 b'12),(pU A'16 ev'11 c'17),(41,c_ ops.length),(42,c_ k),(9,c_ k)]<|aC<|fy [.w<|(k:Int)+1,.cq<|i_ (eS ev'11 ((k:Int)+1):Int)] [(1,p_ b1),(6,i_ 0),(7,vS B'10 ev'11 b'12),(pU A'16 ev'11 c'17),(41,c_ ops.length),(42,c_ k),(9,c_ k),(10,i_ (eS ev'11 ((k:Int)+1):Int))] (oc (wj ((k:Int)+1)<|by omega)<|o1<|qo<|fun w s=>TU B'10 ev'11 b'12 ((k:Int)+1) (by omega) w<|(cV (i:=2) rfl) w s)<|aE<|qP [.p,.p,.ix,.rd [c_ (ca (ev'11.take<|eS ev'11<|(k:Int)+1):Nat)],.p,.p,.o,.p,.p,.cq<|u_<|jX<|ev'11.take (eS ev'11 ((k:Int)+1):Int).toNat,.ld 4,.p,.w<|(k:Int)+1,.cq<|u_<|m8<|ops.take ((k:Int)+1).toNat,.p,.cl] [0,1,2,3,4,5,6,7,8,9,10,11,12,13,14] [(1,p_ b1),(6,i_ 0),(7,vS B'10 ev'11 b'12),(pU A'16 ev'11 c'17),(41,c_ ops.length),(42,c_ k),(63,b_<|(decide (((ca (ev'11.take<|eS ev'11<|(k:Int)+1):Nat):Int)>0))&&(decide ((jX<|ev'11.take (eS ev'11 ((k:Int)+1):Int).toNat)≤(m8<|ops.take ((k:Int)+1).toNat))))] [b1] (fun κ=>κ.ix A'16 ((dE ev'11 ev'11.length).length) (eS ev'11 ((k:Int)+1):Int)∧κ.rd ((aZ A'16).add ((eS ev'11<|(k:Int)+1)*1)) [c_ (ca (ev'11.take<|eS ev'11<|(k:Int)+1):Nat)]∧((true&&((decide (((ca (ev'11.take<|eS ev'11<|(k:Int)+1):Nat):Int)>0))==true))=true→κ.call 26 [vS B'10 ev'11 b'12,i_ (eS ev'11 ((k:Int)+1):Int)] (u_<|jX<|ev'11.take (eS ev'11 ((k:Int)+1):Int).toNat))∧((true&&((decide (((ca (ev'11.take<|eS ev'11<|(k:Int)+1):Nat):Int)>0))==true))=true→(IntKind.i64.wrap ((k:Int)+1)=((k:Int)+1)))∧((true&&((decide (((ca (ev'11.take<|eS ev'11<|(k:Int)+1):Nat):Int)>0))==true))=true→κ.call 27 [.agg #[i_ t,i_ lm,vS al ops cl],i_<|(k:Int)+1] (u_<|m8<|ops.take ((k:Int)+1).toNat))∧True) (by kernel_rfl) (by kernel_rfl) ⟨dh dL (by decide) (cV (i:=0) rfl)<|by(rw[pL];omega),dY (vs:=[c_ (ca (ev'11.take<|eS ev'11<|(k:Int)+1):Nat)]) dL (cV (i:=0) rfl) (vy<|by omega) (Nat.le_of_ble_eq_true rfl) rfl,(fun h_=>(fun w s=>I1 B'10 ev'11 b'12 (eS ev'11 ((k:Int)+1):Int) (by omega) w<|(cV (i:=2) rfl) w s)),(fun h_=>(j8 (e:=(k:Int)+1) (by constructor<;>omega))),(fun h_=>(fun w s=>Qc t lm al ops cl ((k:Int)+1) (by omega) ‹_› w ((bg r0<|by simp[aL]) w s))),trivial⟩ ?_
  refine aI (E:=(decide (((ca (ev'11.take<|eS ev'11<|(k:Int)+1):Nat):Int)>0))&&(decide ((jX<|ev'11.take (eS ev'11 ((k:Int)+1):Int).toNat)≤(m8<|ops.take ((k:Int)+1).toNat)))) rfl (fun e6=>?_) (fun e6=>?_)
  ·exact absurd e6<|by(intro h_;simp only[Bool.and_eq_true,decide_eq_true_eq,Int.toNat_natCast] at h_;have h2_:=hBz k (by omega) (by omega);rw[show((k:Int)+1).toNat=k+1 by omega] at h_;omega)
  refine aP<|aM<|fy [.w<|(k:Int)+1] [(1,p_ b1),(6,i_ 0),(7,vS B'10 ev'11 b'12),(pU A'16 ev'11 c'17),(41,c_ ops.length),(42,i_<|(k:Int)+1)] (o1<|wj ((k:Int)+1)<|by omega)<|bC (k+1) (by omega) (by(simp;omega)) ?_
  exact cQ [0,0,0,0,0,0] ⟨rfl,rfl,rfl,rfl,rfl,rfl,trivial⟩<|by kernel_rfl
 have p5:=ga e5
 refine bR<|aE<|aD [(66,c_ ev'11.length),(67,i_ 0)]<|aO<|fm (fun(zz:Nat)=>match zz with|k=>[(6,i_ 0),(7,vS B'10 ev'11 b'12),(66,c_ ev'11.length),(67,c_ k)]) (fun(zz:Nat)=>match zz with|k=>[zB A'16 ev'11 c'17,pC A'7 rs'8 a'9,gW B'10 ev'11 b'12,dw A'2 xs'3 c'4,aA b1 [i_ t,i_ lm,vS al ops cl] 26,aA b15 [vS A'7 rs'8 a'9,vS B'10 ev'11 b'12] 32]) (fun(zz:Nat)=>match zz with|k=>(k≤ev'11.length)) (fun(zz:Nat)=>match zz with|k=>ev'11.length-k) (0:Nat) (by omega) ?_ ?_
 ·exact cQ [0,0,0,0,0,0] ⟨rfl,rfl,rfl,rfl,trivial⟩<|by kernel_rfl
 rintro k hk
 have hk:k≤ev'11.length:=hk
 refine eo [(6,i_ 0),(7,vS B'10 ev'11 b'12),(66,c_ ev'11.length),(67,c_ k)] [zB A'16 ev'11 c'17,pC A'7 rs'8 a'9,gW B'10 ev'11 b'12,dw A'2 xs'3 c'4,aA b1 [i_ t,i_ lm,vS al ops cl] 26,aA b15 [vS A'7 rs'8 a'9,vS B'10 ev'11 b'12] 32] ⟨rfl,rfl,rfl,rfl,trivial⟩ rfl (aD [(67,c_ k),(68,b_<|decide ((k:Int)<(ev'11.length:Int)))]<|aE<|aI (E:=decide ((k:Int)<(ev'11.length:Int))) rfl (fun e7=>?_) (fun e7=>?_))
 ·have p7:=dZ e7
  refine au<|aO<|aD [(11,c_ k)]<|aC<|bA 2 [] [(7,vS B'10 ev'11 b'12),(66,c_ ev'11.length),(67,c_ k),(70,vS B'10 ev'11 b'12),(71,c_ k)]<|aG<|dG (some 72) [] (fun w s h=>TW B'10 ev'11 b'12 k (by omega) (by omega) w ((cV (i:=2) rfl) w s) h) ?_
  rintro⟨⟩-
  refine dP<|aI (E:=(oa ev'11 k)) rfl (fun e9=>?_) (fun e9=>?_)
  ·exact absurd e9<|by(intro h_;rw[hLt] at h_;cases h_)
  refine aP<|aM<|az [.w<|(k:Int)+1] [(67,i_<|(k:Int)+1)] (o1<|wj ((k:Int)+1)<|by omega)<|bC (k+1) (by omega) (by(simp;omega)) ?_
  exact cQ [0,0,0,0,0,0] ⟨rfl,rfl,rfl,rfl,trivial⟩<|by kernel_rfl
 have p7:=ga e7
 refine bR<|bW [.cq<|b_ true] [(2,b_ true)] (o1<|qw J0)<|aF<|gX [b_ true] (fun _ w r s=>⟨dM r rfl,trivial⟩) ?_
 rfl
end Go.Proofs.YtobgjpigngoggaaGreat
namespace Go.Proofs.YtobgjpigngoggaaGreat
open Go V
open Go.ChangeShapes Go.WideShapes Go.ChangeAt Go.RowKit
section
variable{H:Type}{enc:TypeId×Value→H}{P:Program}{w:World}{base:Nat}{spare:Nat→Bool}{held:Bool}
variable{cs:cn}
theorem Ba{α:Type}{ea:α→cn}{ok:α→Prop}{sz fu:Nat}{t e:TypeId}{x:DataW H×List MemPlace}(ht:P.underlying t=some (.slice e))(hs:P.cellsOf e=sz)(hlen: ∀x,(ea x).length=sz)(hp:0<sz)
  (ho: ∀fu cs x,DataW.trod enc P w base spare held fu e cs=some x→ ∃y,cs=ea y∧ok y)(h:DataW.trod enc P w base spare held fu t cs=some x): ∃(A0:bn)(cap:Nat)(xs:List α),cs=[.slice A0 xs.length cap]∧dR w A0 (aQ ea xs)∧(∀x∈xs,ok x)∧xs.length≤9223372036854775807:=by
 rcases Go.Deep.open_slice ht h with⟨rfl,-⟩|⟨a,len,cap,m,n,D,Pl,rfl,hb,h1,h2,h3,-,hx⟩
 ·exact⟨none,0,[],rfl,by intro j u hu;simp[aQ] at hu,by simp,by simp⟩
 ·have hlm:len≤m:=by rw[h3];split<;>omega
  have key: ∀j,j≤len→ ∃xs:List α,xs.length=j∧dR w (some a) (aQ ea xs)∧ ∀x∈xs,ok x:=by
   intro j
   induction j with
   |zero=>intro _;exact⟨[],rfl,by intro j u hu;simp[aQ] at hu,by simp⟩
   |succ j ih=>
    intro hj
    obtain⟨xs,hxl,hxa,hxo⟩:=ih<|by omega
    obtain⟨cs',hc,htr⟩:=hx j<|by omega
    obtain⟨y,rfl,hy⟩:=ho _ _ _ htr
    refine⟨xs++[y],by simp[hxl],?_,by intro z hz;simp at hz;rcases hz with hz|rfl;exact hxo z hz;exact hy⟩
    intro i u hu
    rw[Ax] at hu
    by_cases hi:i<(aQ ea xs).length
    ·rw[List.getElem?_append_left hi] at hu;exact hxa i u hu
    ·rw[List.getElem?_append_right<|by omega] at hu
     have hfl:=sA hlen xs
     rw[hxl] at hfl
     rw[show aQ ea [y]=ea y by simp[aQ]] at hu
     obtain⟨-,-,hcell⟩:=World.cells?_some hc
     have hlt:i-(aQ ea xs).length<sz:=by
      have:=(dT.1 hu).1;rw[hlen y] at this;exact this
     have h8:=hcell (i-(aQ ea xs).length) (by rw[hs];exact hlt)
     refine⟨rfl,?_⟩
     simp only[aZ,Option.getD_some]
     rw[Addr.add_add,hs] at h8
     rw[show j*sz+(i-(aQ ea xs).length)=i by omega] at h8
     rw[h8,hu]
  obtain⟨xs,h4,h5,h6⟩:=key len<|Nat.le_refl _
  exact⟨some a,cap,xs,by rw[h4],h5,h6,by rw[h4];exact Nat.le_trans h1<|Nat.le_trans h2<|by decide⟩
def MF(w:World)(x:eX):Prop:=dR w x.za (V.aQ gi x.zl)∧dR w x.ra (V.aQ fV x.rl)∧(∀z∈x.zl,iy z)∧(∀y∈x.rl,kg y)∧k7 (fR x.op)∧0≤x.tk
theorem Vx(h:cs.length=10):cs=(cs.drop 0).take 1++((cs.drop 1).take 1++((cs.drop 2).take 1++((cs.drop 3).take 6++(cs.drop 9).take 1))):=by
 match cs,h with
 |[a,b,c,d,e,f,g,h,i,j],_=>rfl
theorem TX(fu:Nat)(cs:cn)(x:DataW H×List MemPlace)(h:DataW.trod enc Tryz.prog w base spare held fu 47 cs=some x): ∃o:eX,cs=mW o∧MF w o:=by
 obtain⟨xs,n,-,-,hl,hlen,hf⟩:=DataW.trod_struct Tryz.underlying47 h
 have hl:cs.length=10:=hl.trans<|by kernel_rfl
 have g0:=hf 0 _ rfl;have g1:=hf 1 _ rfl;have g2:=hf 2 _ rfl;have g3:=hf 3 _ rfl;have g4:=hf 4 _ rfl
 match xs,hlen with
 |[y0,y1,y2,y3,y4],_=>
  change DataW.trod enc Tryz.prog w base spare held n 3 ((cs.drop 0).take (Tryz.prog.cellsOf 3))=some y0 at g0
  change DataW.trod enc Tryz.prog w base spare held n 38 ((cs.drop 1).take (Tryz.prog.cellsOf 38))=some y1 at g1
  change DataW.trod enc Tryz.prog w base spare held n 39 ((cs.drop 2).take (Tryz.prog.cellsOf 39))=some y2 at g2
  change DataW.trod enc Tryz.prog w base spare held n 45 ((cs.drop 3).take (Tryz.prog.cellsOf 45))=some y3 at g3
  change DataW.trod enc Tryz.prog w base spare held n 40 ((cs.drop 9).take (Tryz.prog.cellsOf 40))=some y4 at g4
  rw[show Tryz.prog.cellsOf 3=1 by kernel_rfl] at g0
  rw[show Tryz.prog.cellsOf 38=1 by kernel_rfl] at g1
  rw[show Tryz.prog.cellsOf 39=1 by kernel_rfl] at g2
  rw[show Tryz.prog.cellsOf 45=6 by kernel_rfl] at g3
  rw[show Tryz.prog.cellsOf 40=1 by kernel_rfl] at g4
  obtain⟨v0,c0,e0,f0,z0⟩:=fp<|tQ 9 n 3 [.int .i64] _ _ (by kernel_rfl) g0
  obtain⟨k,rfl,-⟩:=oW f0
  obtain⟨za,zc,zl,e1,a1,o1,-⟩:=Ba (ea:=gi) (ok:=iy) (sz:=15) Tryz.underlying38 (by kernel_rfl) ri (by decide) (fun fu cs x h=>Vb cs<|tQ 9 fu 84 _ _ _ (by kernel_rfl) h) g1
  obtain⟨ra,rc,rl,e2,a2,o2,-⟩:=Ba (ea:=fV) (ok:=kg) (sz:=9) Tryz.underlying39 (by kernel_rfl) lq (by decide) (fun fu cs x h=>Ui cs<|tQ 9 fu 86 _ _ _ (by kernel_rfl) h) g2
  obtain⟨p0,c1,e3,f1,z1⟩:=fp<|tQ 9 n 45 [.int .u64,.int .i64,.int .u16,.int .u16,.int .u16,.int .u16] _ _ (by kernel_rfl) g3
  obtain⟨qi,rfl,-⟩:=np f1
  obtain⟨p1,c2,rfl,f2,z2⟩:=fp z1
  obtain⟨qn,rfl,-⟩:=oW f2
  obtain⟨p2,c3,rfl,f3,z3⟩:=fp z2
  obtain⟨qa,rfl,r1⟩:=nG f3
  obtain⟨p3,c4,rfl,f4,z4⟩:=fp z3
  obtain⟨qb,rfl,r2⟩:=nG f4
  obtain⟨p4,c5,rfl,f5,z5⟩:=fp z4
  obtain⟨qc,rfl,r3⟩:=nG f5
  obtain⟨p5,c6,rfl,f6,z6⟩:=fp z5
  obtain⟨qd,rfl,r4⟩:=nG f6
  obtain⟨v4,c7,e4,f7,z7⟩:=fp<|tQ 9 n 40 [.int .u64] _ _ (by kernel_rfl) g4
  obtain⟨tk,rfl,r5⟩:=np f7
  rw[tP z0] at e0;rw[tP z6] at e3;rw[tP z7] at e4
  refine⟨⟨k,za,zl,zc,ra,rl,rc,⟨qi,qn,qa,qb,qc,qd⟩,tk⟩,?_,a1,a2,o1,o2,⟨r1,r2,r3,r4⟩,r5.1⟩
  rw[Vx hl,e0,e1,e2,e3,e4];rfl
theorem Ox{v:Value}{d:DataW H}{ps:List MemPlace}(hv: ∃cs,v= .agg cs∧cs.size=Tryz.prog.cellsOf 26)(h:DataW.Trod enc Tryz.prog w base spare held 26 v d ps):
  ∃(t lm:Int)(al:bn)(ops:List eX)(cl:Nat),v= .agg #[i_ t,i_ lm,vS al ops cl]∧dR w al (V.aQ mW ops)∧pj w ops∧ops.length≤9223372036854775807:=by
 obtain⟨cs,rfl,hcs⟩:=hv
 have hcs:cs.size=3:=hcs.trans<|by kernel_rfl
 obtain⟨fu,h⟩:=h
 change DataW.trod enc Tryz.prog w base spare held fu 26 cs.toList=_ at h
 obtain⟨xs,n,-,-,hl,hlen,hf⟩:=DataW.trod_struct Tryz.underlying26 h
 have g0:=hf 0 _ rfl;have g1:=hf 1 _ rfl
 match xs,hlen with
 |[y0,y1],_=>
  change DataW.trod enc Tryz.prog w base spare held n 23 ((cs.toList.drop 0).take (Tryz.prog.cellsOf 23))=some y0 at g0
  change DataW.trod enc Tryz.prog w base spare held n 24 ((cs.toList.drop 2).take (Tryz.prog.cellsOf 24))=some y1 at g1
  rw[show Tryz.prog.cellsOf 23=2 by kernel_rfl] at g0
  rw[show Tryz.prog.cellsOf 24=1 by kernel_rfl] at g1
  obtain⟨v0,c0,e0,f0,z0⟩:=fp<|tQ 9 n 23 [.int .i64,.int .i64] _ _ (by kernel_rfl) g0
  obtain⟨t,rfl,-⟩:=oW f0
  obtain⟨v1,c1,rfl,f1,z1⟩:=fp z0
  obtain⟨lm,rfl,-⟩:=oW f1
  rw[tP z1] at e0
  obtain⟨al,cl,ops,e1,a1,o1,o2⟩:=Ba (ea:=mW) (ok:=MF w) (sz:=10) Tryz.underlying24 (by kernel_rfl) mO (by decide) TX g1
  refine⟨t,lm,al,ops,cl,?_,a1,o1,o2⟩
  congr 1
  apply Array.ext'
  have hl3:cs.toList.length=3:=by simpa using hcs
  generalize cs.toList=l at e0 e1 hl3
  match l,hl3 with
  |[a,b,c],_=>simp at e0 e1;obtain⟨rfl,rfl⟩:=e0;subst e1;rfl
theorem ND(t lm:Int)(al:bn)(ops:List eX)(cl:Nat)(w:World)(r0:dR w al (V.aQ mW ops))(r1:pj w ops)(hc:ops.length≤9223372036854775807):Calls Tryz.prog 6 #[.agg #[i_ t,i_ lm,vS al ops cl]] w fun e w'=>e= .returned (b_ true)∧Fr [] w w':=
 NB t lm al ops cl hc w r0 r1
end
end Go.Proofs.YtobgjpigngoggaaGreat
