/- The functions of the scheduler, layer by layer, proved operation by operation for all arguments, under the conditions that each theorem states: part 5. -/
import Derived.Test.YtobgjpigngoggaaGreatProg
import Derived.Lib.SliceRun
import Derived.Test.YtobgjpigngoggaaGreatJ4
set_option linter.unusedVariables false
set_option linter.unusedSimpArgs false
set_option maxHeartbeats 4000000
set_option maxRecDepth 100000
namespace Go.Proofs.YtobgjpigngoggaaGreat
open Go V
def kY(et:T)(kk:List (Int×Vt)):Int:=bD (ns et.toL)<|iZ<|(((aB kk 0).map fun v:Vt=>v.t.toL).getD [])
def FH:Du:=⟨false,0,0,0,0,0,0,0,0,false,0,0,0,0,0,0,0,0,false,0,0,0⟩
theorem Tt(k r:Int)(h1:1≤k)(h2:k≤64)(h3:1≤r∧r≤1048576)(w:World)(hs:HS w (aL []) [] w):Calls Tryz.prog 108 #[i_ k,i_ r] w fun e w'=> ∃zz:Nat×Qu,e= .returned (.tuple #[p_ zz.1,i_ 0])∧(l0 zz.2∧qC zz.2=[]∧zz.2.rm=r∧zz.2.bs=0∧(zz.2.sx.length:Int)=k)∧Turn [] [ib (some zz.1) zz.2] w w':=by
 obtain⟨m,rfl⟩:=Int.eq_ofNat_of_zero_le (show 0≤k by omega)
 refine(WB m r (by omega) (by omega) h3 w hs).mono ?_
 rintro e w' ⟨zz,a1,⟨a2,a3,a4,a5,a6⟩,a7⟩
 exact⟨zz,a1,⟨a2,a3,a4,a5,by rw[a6]⟩,a7⟩
def KB(c:Cl)(q:Qu):Prop:=l0 q∧qC q=[]∧q.rm=c.hq∧q.bs=0∧(q.sx.length:Int)=c.hk
theorem Tu(sb:Nat)(lt lm:Int)(bt mc:Nat)(kc:bm Cl)(my:Nat)(kb:bm En)(a:Ac)(on:bm Int)(ka:bm MB)(tl:Vt)(et:T)(ek:bm It)(mk:Nat)(kk:bm Vt)(ck ac:Int)(hE:d6 et ek)(hv0: ∃v,aB kk 0=some v∧d6 v.t v.kv)(w:World)(r0:(aA sb [i_ lt,i_ lm,p_ bt,.map<|some my,p_ a.bs,p_ tl.be,.map<|some mk,u_ ck,u_ ac] 141).holds w)(r1:(aA bt [.map<|some mc] 185).holds w)(r2:(cU mc kc).holds w)(r3:(df my kb).holds w)(r4:(eM a on ka).holds w)(r5:(eu tl et ek).holds w)(r6:(eD mk kk).holds w):
  CW 119 #[p_ sb] w (u_<|kY et kk):=by
 refine aU Tryz.func119 rfl (HS.nil w) (aD []<|aE<|aD [(4,b_ false)]<|bY<|au ?_)
 obtain⟨m1,hk1,hER1⟩:=hv0
 refine bL [] 13<|cO 4 [.rd [p_ tl.be],.cq<|u_<|ns et.toL,.rd [.map<|some mk]] (rg 0 9) [(9,u_<|ns et.toL),(13,.map<|some mk)] (oc (ro ⟨sb,5,none⟩ (vs:=[p_ tl.be])<|cB r0 rfl)<|oc (qo<|fun w s=>Ti tl et ek ‹_› w (bV s r5))<|o1<|ro ⟨sb,6,none⟩ (vs:=[.map<|some mk])<|cB r0 rfl)<|kQ 9 (some 14) (p_ m1.be) rfl (by kernel_rfl) (by kernel_rfl) (kF (kt:=3) (et:=136) (k:=0) (fun w s=>pV<|bV s r6) hk1 rfl rfl rfl (by kernel_rfl) eE rfl) (cO 0 [.cq<|u_<|iZ m1.t.toL] [10,11,12] [(2,u_<|bD (ns et.toL)<|iZ m1.t.toL)] (o1<|qo<|fun w s=>LS mk kk 0 m1 hk1 ‹_› w (bV s r6))<|dj<|aF<|bK [u_<|bD (ns et.toL)<|iZ m1.t.toL] ?_)
 show((u_<|bD (ns et.toL)<|iZ m1.t.toL):Value)=(u_<|kY et kk)
 unfold kY;simp_all
theorem Qp(c:Cl)(hl:c.hl=true)(h1:1≤c.hk)(h2:c.hk≤64)(h3:1≤c.hq∧c.hq≤1048576):
  CS 73 #[.agg (ag c).toArray] [] (fun((xb,bq,q):Nat×Nat×Qu)=>(p_ xb)) (fun(xb,bq,q)=>KB c q) fun(xb,bq,q)=>[aA xb [p_ bq,i_ c.hi,i_ c.hp,b_ c.hl,u_ c.ra,u_ c.rb,u_ c.rc,u_ c.la,u_ c.lb,u_ c.lc,u_ c.ua,u_ c.ub,u_ c.uc,i_ c.hk,i_ c.hq,u_ 0,b_ false,u_ 0,u_ 0,u_ 0,u_ 0,u_ 0,u_ 0,u_ 0,u_ 0,b_ false,u_ 0,u_ 0,u_ 0,u_ 0,u_ 0,u_ 0,u_ 0,u_ 0,b_ false,u_ 0,u_ 0,u_ 0,b_ false,u_ 0,u_ 0,u_ 0,u_ 0,u_ 0,u_ 0,u_ 0,u_ 0,b_ false,u_ 0,b_ false,u_ 0,u_ 0,u_ 0,u_ 0,u_ 0,u_ 0,u_ 0,u_ 0,b_ false,u_ 0] 225,ib (some bq) q]:=by
 intro w hs
 refine aU Tryz.func73 rfl hs (aC<|dD [.al] [] (fun b1=>[(1,p_ b1)]) (fun b1=>aA b1 (ag c) 62) ?_)
 intro b1
 refine aC<|dS [.ld 0,.al] [] (fun b2=>[(3,p_ b2)]) (fun b2=>[]) (fun b2=>aA b2 [n_,i_ c.hi,i_ c.hp,b_ c.hl,u_ c.ra,u_ c.rb,u_ c.rc,u_ c.la,u_ c.lb,u_ c.lc,u_ c.ua,u_ c.ub,u_ c.uc,i_ c.hk,i_ c.hq,u_ 0,b_ false,u_ 0,u_ 0,u_ 0,u_ 0,u_ 0,u_ 0,u_ 0,u_ 0,b_ false,u_ 0,u_ 0,u_ 0,u_ 0,u_ 0,u_ 0,u_ 0,u_ 0,b_ false,u_ 0,u_ 0,u_ 0,b_ false,u_ 0,u_ 0,u_ 0,u_ 0,u_ 0,u_ 0,u_ 0,u_ 0,b_ false,u_ 0,b_ false,u_ 0,u_ 0,u_ 0,u_ 0,u_ 0,u_ 0,u_ 0,u_ 0,b_ false,u_ 0] 225) ?_
 intro b2
 refine cS<|bF [.ld 0] [(8,b_ c.hl)]<|fx c.hl (fun e1=>?_)<|fun e1=>?_
 ·refine aM<|bA 5 [.ld 0,.ld 0] [(10,p_ b2),(12,i_ c.hk),(14,i_ c.hq)]<|aG<|bM (some 15) [] (Tt c.hk c.hq ‹_› ‹_› ‹_›) ?_
  rintro⟨bq3,q4⟩ hz2
  refine bU [.st 2] [] [(2,aA b2 [p_ bq3,i_ c.hi,i_ c.hp,b_ c.hl,u_ c.ra,u_ c.rb,u_ c.rc,u_ c.la,u_ c.lb,u_ c.lc,u_ c.ua,u_ c.ub,u_ c.uc,i_ c.hk,i_ c.hq,u_ 0,b_ false,u_ 0,u_ 0,u_ 0,u_ 0,u_ 0,u_ 0,u_ 0,u_ 0,b_ false,u_ 0,u_ 0,u_ 0,u_ 0,u_ 0,u_ 0,u_ 0,u_ 0,b_ false,u_ 0,u_ 0,u_ 0,b_ false,u_ 0,u_ 0,u_ 0,u_ 0,u_ 0,u_ 0,u_ 0,u_ 0,b_ false,u_ 0,b_ false,u_ 0,u_ 0,u_ 0,u_ 0,u_ 0,u_ 0,u_ 0,u_ 0,b_ false,u_ 0] 225)]<|aD [(2,p_ b2)]<|aF<|bJ [2,0] [p_ b2] (b2,bq3,q4) ?_ ?_
  ·rfl
  assumption
 exact absurd e1<|by(intro h_;simp_all)
theorem WQ(c:Cl)(hl:c.hl=false):
  CS 73 #[.agg (ag c).toArray] [] (fun(xb:Nat)=>(p_ xb)) (fun _=>True) fun xb=>[aA xb [n_,i_ c.hi,i_ c.hp,b_ c.hl,u_ c.ra,u_ c.rb,u_ c.rc,u_ c.la,u_ c.lb,u_ c.lc,u_ c.ua,u_ c.ub,u_ c.uc,i_ c.hk,i_ c.hq,u_ 0,b_ false,u_ 0,u_ 0,u_ 0,u_ 0,u_ 0,u_ 0,u_ 0,u_ 0,b_ false,u_ 0,u_ 0,u_ 0,u_ 0,u_ 0,u_ 0,u_ 0,u_ 0,b_ false,u_ 0,u_ 0,u_ 0,b_ false,u_ 0,u_ 0,u_ 0,u_ 0,u_ 0,u_ 0,u_ 0,u_ 0,b_ false,u_ 0,b_ false,u_ 0,u_ 0,u_ 0,u_ 0,u_ 0,u_ 0,u_ 0,u_ 0,b_ false,u_ 0] 225]:=by
 intro w hs
 refine aU Tryz.func73 rfl hs (aC<|dD [.al] [] (fun b1=>[(1,p_ b1)]) (fun b1=>aA b1 (ag c) 62) ?_)
 intro b1
 refine aC<|dS [.ld 0,.al] [] (fun b2=>[(3,p_ b2)]) (fun b2=>[]) (fun b2=>aA b2 [n_,i_ c.hi,i_ c.hp,b_ c.hl,u_ c.ra,u_ c.rb,u_ c.rc,u_ c.la,u_ c.lb,u_ c.lc,u_ c.ua,u_ c.ub,u_ c.uc,i_ c.hk,i_ c.hq,u_ 0,b_ false,u_ 0,u_ 0,u_ 0,u_ 0,u_ 0,u_ 0,u_ 0,u_ 0,b_ false,u_ 0,u_ 0,u_ 0,u_ 0,u_ 0,u_ 0,u_ 0,u_ 0,b_ false,u_ 0,u_ 0,u_ 0,b_ false,u_ 0,u_ 0,u_ 0,u_ 0,u_ 0,u_ 0,u_ 0,u_ 0,b_ false,u_ 0,b_ false,u_ 0,u_ 0,u_ 0,u_ 0,u_ 0,u_ 0,u_ 0,u_ 0,b_ false,u_ 0] 225) ?_
 intro b2
 refine cS<|bF [.ld 0] [(8,b_ c.hl)]<|fx c.hl (fun e1=>?_)<|fun e1=>?_
 ·exact absurd e1<|by(intro h_;simp_all)
 refine aP<|aD [(2,p_ b2)]<|aF<|bJ [1] [p_ b2] (b2) ?_ ?_
 ·rfl
 trivial
theorem G7{a b:List V.aH}(h:a.Perm b):(aL a).Perm (aL b):=h.flatMap_right _
def D3(c:Cl)(m:En):Prop:=m.ec=c∧kj m∧m.tot=0∧m.du=FH∧m.sh=mj∧m.li=rU∧(c.hl=true→KB c m.q)∧(c.hl=false→m.q=default)
def XI(m:En):V.aH:=co<|fc m
theorem Qq(c:Cl)(h:c.hl=true→(1≤c.hk∧c.hk≤64)∧1≤c.hq∧c.hq≤1048576)(w:World)(hs:HS w (aL []) [] w):Calls Tryz.prog 73 #[.agg (ag c).toArray] w fun e w'=> ∃zz:En,e= .returned (p_ zz.eb)∧D3 c zz∧Turn [] [XI zz] w w':=by
 cases hl:c.hl with
 |true=>
  obtain⟨⟨h1,h2⟩,h3,h4⟩:=h hl
  refine(Qp c hl h1 h2 ⟨h3,h4⟩ w hs).mono ?_
  rintro e w' ⟨⟨xb,bq,q⟩,a1,a2,a3⟩
  refine⟨⟨xb,some bq,q,c,0,FH,mj,rU⟩,a1,⟨rfl,⟨by simp[hl],by simp,fun _=>a2.1⟩,rfl,rfl,rfl,rfl,fun _=>a2,fun h=>(by rw[hl] at h;cases h)⟩,?_⟩
  refine Turn.coR (Y:=[]) ?_
  rw[List.append_nil]
  have e: ∀x y:V.aH,([x,y]:List V.aH).Perm [y,x]:=fun x y=> .swap _ _ _
  exact⟨a3.fr,fun it hi=>a3.all it<|(e _ _).mem_iff.1 hi,(G7<|e _ _).nodup_iff.2 a3.nodup,fun b hb=>a3.own b<|(G7<|e _ _).mem_iff.1 hb⟩
 |false=>
  refine(WQ c hl w hs).mono ?_
  rintro e w' ⟨xb,a1,-,a3⟩
  refine⟨⟨xb,none,default,c,0,FH,mj,rU⟩,a1,⟨rfl,⟨by simp[hl],fun _=>rfl,by simp⟩,rfl,rfl,rfl,rfl,fun h=>(by rw[hl] at h;cases h),fun _=>rfl⟩,?_⟩
  refine Turn.coR (Y:=[]) ?_
  rw[List.append_nil]
  refine⟨a3.fr,fun it hi=>?_,?_,?_⟩
  ·simp only[fc,List.mem_cons,List.not_mem_nil,or_false] at hi
   rcases hi with rfl|rfl
   ·intro it hi;cases hi
   ·exact a3.all _<|List.mem_singleton.2 rfl
  ·exact a3.nodup
  ·exact a3.own
end Go.Proofs.YtobgjpigngoggaaGreat
namespace Go.Proofs.YtobgjpigngoggaaGreat.V
open Go
theorem S1{L R:cn}{off m N:Nat}(h1:m≤N)(h2:off+N≤L.length)(hR:R.length=N-m):((L.take (off+m)++R++L.drop (off+m+R.length)).drop off).take N=((L.drop off).take N).take m++R:=by
 apply List.ext_getElem?
 intro i
 simp only[List.getElem?_take,List.getElem?_drop,List.getElem?_append,List.length_append,List.length_take,List.length_drop,hR]
 by_cases a:i<m
 ·rw[if_pos<|by omega,if_pos<|by omega,if_pos<|by omega,if_pos<|by omega,if_pos<|by omega,if_pos<|by omega,if_pos<|by omega]
 ·by_cases b:i<N
  ·rw[if_pos b,if_pos<|by omega,if_neg<|by omega,if_neg<|by omega]
   congr 1;omega
  ·rw[if_neg b,if_neg<|by omega]
   exact(List.getElem?_eq_none<|by omega).symm
section
variable{P:Program}{n:Nat}{env:aT}{w0:World}{S:bO}{H R H':List aH}{ops:cI}{o:Oper}{K:cf}
theorem Xh{α:Type}(i m:Nat){t ty:TypeId}{x:Operand}{A:bn}{c:Nat}{z:Value}{enc:α→cn}{xs:List α}(z0:α)(H':List aH)(hok:f9 ops n env o none=true)(ho:o.op= .call {callee:= .builtin .clear,args:=#[x],argTypes:=#[t]})
  (hx:ev env x=some (.slice (i7 A c m 1) (xs.drop m).length (c-m)))(ht:P.underlying t=some (.slice ty))(hz:(P.info? ty).bind (·.zero)=some z)(hzc:z.cells=#[z])(h1:z.oneCell'=true)(he0:enc z0=[z])(he: ∀x,(enc x).length=1)(hm:m<xs.length)
  (hi:H[i]? =some (sl A xs.length c ty 1<|aQ enc xs))(hH:H.set i (sl A (xs.take m++List.replicate (xs.length-m) z0).length c ty 1 (aQ enc<|xs.take m++List.replicate (xs.length-m) z0))=H')(h:V.A n env w0 S H' K):V.A n env w0 S H (dB P ops o K):=by
 intro a w r s
 obtain⟨h1',h2,h3,h4⟩:=j7 hok
 unfold dB
 rw[if_pos<|iV r h1']
 have hs:y6 A xs.length c ty 1 (aQ enc xs) w:=s.mem hi
 obtain⟨q1,q2,q3,⟨rfl,q4⟩|⟨g,off,cY,rfl,hg,hle,htake⟩⟩:=hs
 ·omega
 have hA:i7 (some (⟨g,off,none⟩:Addr)) c m 1=some ⟨g,off+m,none⟩:=by
  unfold i7;rw[if_neg<|by omega]
  show some ((⟨g,off,none⟩:Addr).add (m*1))=_
  rw[Nat.mul_one,oR]
 rw[hA,List.length_drop] at hx
 have hcur:cY=cY.toList.toArray:=by simp
 have hh:w.heap[g]? =some (.cells cY.toList.toArray ty (0,0)):=by rw[hg]
 have hv: ∀w,(zeroValue ty).run P w= .ok z w:=fun w=>by
  simp only[Option.bind_eq_some_iff] at hz
  obtain⟨inf,hinf,hz⟩:=hz
  simp[zeroValue,typeInfo,hinf,hz]
 have hst:=run_storeCells_at P g (off+m) ty (List.replicate (xs.length-m) z) 0 cY.toList.toArray w hh (by simp;omega) (fun v hv=>by rw[List.eq_of_mem_replicate hv];exact h1)
 simp only[Nat.add_zero] at hst
 have hzl:(Builtin.zeroCells z.cells<|xs.length-m).toList=List.replicate (xs.length-m) z:=by
  rw[hzc]
  simp[Builtin.zeroCells]
  apply List.ext_getElem
  ·simp
  ·intro i h1 h2
   simp[Nat.mod_one]
 have hrun:(execOp a.eval o).run P w= .ok (.value<|.tuple #[]) (w.setRow g (cY.toList.take (off+m)++List.replicate (xs.length-m) z++cY.toList.drop (off+m+(List.replicate (xs.length-m) z).length)).toArray):=by
  obtain⟨j,hj⟩: ∃j,xs.length-m=j+1:=⟨xs.length-m-1,by omega⟩
  rw[hj] at hx hzl hst⊢
  simp[execOp,ho,resolve,invoke,builtin,r.ev hx,Builtin.clear_,run_underlying ht,hv,hzl]
  simp at hst
  rw[hst];simp
 unfold Oper.wp
 rw[hrun]
 simp only[Oper.upon,h2]
 refine h _ _ r ?_
 rw[←hH]
 have hf: ∀l:List α,(aQ enc l).length=l.length:=fun l=>by have:=sA (sz:=1) he (xs:=l);omega
 refine s.turn hi (vM _ _ _) ?_ (by simp[sl,fU])<|fun b hb=> .inl hb
 have hln:(xs.take m++List.replicate (xs.length-m) z0).length=xs.length:=by simp;omega
 refine⟨by rw[hf];omega,by rw[hln];exact q2,q3,.inr ⟨g,off,_,rfl,vN w g _ _ ty hh,by simp;omega,?_⟩⟩
 rw[hln]
 have e2:aQ enc (xs.take m++List.replicate (xs.length-m) z0)=(aQ enc xs).take m++List.replicate (xs.length-m) z:=by
  unfold aQ
  rw[List.flatMap_append]
  congr 1
  ·have: ∀(l:List α)(m:Nat),(l.take m).flatMap enc=(l.flatMap enc).take m:=fun l=>by
    induction l with
    |nil=>simp
    |cons y l ih=>
     intro m
     cases m with
     |zero=>simp
     |succ m=>
      obtain⟨v,hv⟩:=List.length_eq_one_iff.1<|he y
      simp[hv,ih]
   exact this xs m
  ·have: ∀j:Nat,(List.replicate j z0).flatMap enc=List.replicate j z:=fun j=>by
    induction j with
    |zero=>rfl
    |succ j ih=>rw[List.replicate_succ,List.flatMap_cons,ih,he0];rfl
   exact this _
 rw[e2,←htake]
 show((List.toArray _).toList.drop off).take _=_
 simp only[List.toList_toArray,Nat.mul_one]
 exact S1 (by omega) (by simpa using(by omega:off+xs.length≤cY.size))<|by simp
end
section
variable{P:Program}{n:Nat}{env:aT}{w0:World}{S:bO}{H R H':List aH}{G:cf}{β:Type}{f:β→List aH}{kv:List (Int×β)}{k:Int}{m:β}{ek:Int→Value}{ev:β→Value}{b:Nat}
theorem vf(k:Int): ∀kv:List (Int×β),List.Sublist (aY kv k) kv
 |[]=>by simp[aY]
 |p::kv=>by
  unfold aY;split
  ·exact List.sublist_cons_self _ _
  ·exact(vf k kv).cons_cons p
theorem IT{kw:List (Int×β)}(h:List.Sublist kv kw):List.Sublist (lW f kv) (lW f kw):=by
 induction h with
 |slnil=>exact .refl _
 |cons a h ih=>simp only[lW,List.flatMap_cons] at ih⊢;exact ih.trans<|List.sublist_append_right _ _
 |cons_cons a h ih=>simp only[lW,List.flatMap_cons] at ih⊢;exact(List.Sublist.refl _).append ih
theorem X5(is:bO)(hp:fa is H=some ([bP ek ev b<|aY kv k,db f kv],R))(hH:co [bP ek ev b<|aY kv k,db f<|aY kv k]::R=H')(h:V.A n env w0 S H' G):V.A n env w0 S H G:=
 vC is (fun _:Unit=>True) (fun _=>[co [bP ek ev b<|aY kv k,db f<|aY kv k]]) (fun _=>H') hp (fun w hs=>by
  have hsub:List.Sublist (aL [co [bP ek ev b<|aY kv k,db f<|aY kv k]]) (aL [bP ek ev b<|aY kv k,db f kv]):=by
   simp only[aL,co,db,bP,List.flatMap_cons,List.flatMap_nil,List.append_nil]
   exact(List.Sublist.refl [b]).append (IT<|vf k kv)
  refine⟨(),trivial,fun it hi=>?_,hs.nodup.sublist hsub,fun c hc=>hsub.subset hc⟩
  rw[List.mem_singleton] at hi;subst hi
  intro it hi
  simp only[List.mem_cons,List.not_mem_nil,or_false] at hi
  rcases hi with rfl|rfl
  ·exact hs.all _<|by simp
  ·exact fun p hq=>(show(db f kv).holds w from hs.all _<|by simp) p<|(vf k kv).subset hq) (fun _=>by simpa using hH) (fun _ _=>h)
theorem X6(is:bO)(hp:fa is H=some ([bP ek ev b<|aK kv k m,db f kv,co<|f m],R))(hH:co [bP ek ev b<|aK kv k m,db f<|aK kv k m]::R=H')(h:V.A n env w0 S H' G):V.A n env w0 S H G:=
 vC is (fun _:Unit=>True) (fun _=>[co [bP ek ev b<|aK kv k m,db f<|aK kv k m]]) (fun _=>H') hp (fun w hs=>by
  have hmp:=(pg k m kv).flatMap_right (fun p:Int×β=>aL<|f p.2)
  simp only[List.flatMap_cons] at hmp
  have hsub:List.Sublist ([b]++(lW f (aY kv k)++aL (f m))) (aL [bP ek ev b<|aK kv k m,db f kv,co<|f m]):=by
   simp only[aL,co,db,bP,List.flatMap_cons,List.flatMap_nil,List.append_nil]
   exact(List.Sublist.refl [b]).append ((IT<|vf k kv).append (.refl _))
  have hpm:(aL [co [bP ek ev b<|aK kv k m,db f<|aK kv k m]]).Perm ([b]++(lW f (aY kv k)++aL (f m))):=by
   simp only[aL,co,db,bP,lW,List.flatMap_cons,List.flatMap_nil,List.append_nil] at hmp⊢
   exact(List.Perm.refl [b]).append (hmp.trans List.perm_append_comm)
  refine⟨(),trivial,fun it hi=>?_,hpm.nodup_iff.2<|hs.nodup.sublist hsub,fun c hc=>hsub.subset<|hpm.mem_iff.1 hc⟩
  rw[List.mem_singleton] at hi;subst hi
  intro it hi
  simp only[List.mem_cons,List.not_mem_nil,or_false] at hi
  rcases hi with rfl|rfl
  ·exact hs.all _<|by simp
  ·intro p hq it hi
   rcases List.mem_cons.1 ((pg k _ kv).mem_iff.1 hq) with rfl|hq
   ·exact(show(co<|f m).holds w from hs.all _<|by simp) it hi
   ·exact(show(db f kv).holds w from hs.all _<|by simp) p ((vf k kv).subset hq) it hi) (fun _=>by simpa using hH) (fun _ _=>h)
theorem Xa(is:bO)(hp:fa is H=some ([bP ek ev b []],R))(hH:co [bP ek ev b [],db f []]::R=H')(h:V.A n env w0 S H' G):V.A n env w0 S H G:=
 xN is (Os:=[co [bP ek ev b [],db f []]]) hp (fun w hw it hi=>by
  rw[List.mem_singleton] at hi;subst hi
  intro it hi
  simp only[List.mem_cons,List.not_mem_nil,or_false] at hi
  rcases hi with rfl|rfl
  ·exact hw _<|by simp
  ·intro p hp;cases hp) (by simp[aL,co,db,lW,bP]) (by simpa using hH) h
theorem B6{α:Type}{enc:α→cn}(he: ∀x,(enc x).length=1): ∀(l:List α)(m:Nat),aQ enc (l.take m)=(aQ enc l).take m
 |[],m=>by simp[aQ]
 |y::l,0=>by simp[aQ]
 |y::l,m+1=>by
  obtain⟨v,hv⟩:=List.length_eq_one_iff.1<|he y
  have ih:=B6 he l m
  unfold aQ at ih⊢
  simp[hv,ih]
theorem Xd{α:Type}(i m:Nat){A:bn}{c:Nat}{t:TypeId}{enc:α→cn}{xs:List α}(ys:List α)(he: ∀x,(enc x).length=1)(e:xs.take m=ys)(hp:fa [i] H=some ([sl A xs.length c t 1<|aQ enc xs],R))(hH:sl A ys.length c t 1 (aQ enc ys)::R=H')(h:V.A n env w0 S H' G):V.A n env w0 S H G:=by
 subst e
 refine V.xN [i] (Os:=[sl A (xs.take m).length c t 1 (aQ enc<|xs.take m)]) hp (fun w hw it hi=>?_) (by simp[aL,sl]) hH h
 rw[List.mem_singleton] at hi;subst hi
 obtain⟨h1,h2,h3,h4⟩:y6 A xs.length c t 1 (aQ enc xs) w:=hw _<|List.mem_singleton.2 rfl
 have hl:(aQ enc<|xs.take m).length=(xs.take m).length*1:=by rw[B6 he,List.length_take,h1,List.length_take];omega
 refine⟨hl,by rw[List.length_take];omega,h3,?_⟩
 rcases h4 with h4|⟨g,off,cY,h5,h6,h7,h8⟩
 ·exact .inl h4
 ·refine .inr ⟨g,off,cY,h5,h6,h7,?_⟩
  rw[B6 he,←h8,List.take_take,List.length_take]
  congr 1;omega
end
section
variable{P:Program}{n:Nat}{env:aT}{w0:World}{S:bO}{H R R2 H':List aH}{ops:cI}{o:Oper}{K:cf}{β:Type}{f:β→List aH}{kv:List (Int×β)}{k:Int}{ek:Int→Value}{ev:β→Value}{b:Nat}
variable{x y:Operand}{t kt et:TypeId}
theorem MY(i:Nat){t2:TypeId}(hok:f9 ops n env o none=true)(ho:o.op= .call {callee:= .builtin .delete,args:=#[x,y],argTypes:=#[t,t2]})(hx:V.ev env x=some (.map<|some b))(hy:V.ev env y=some (ek k))
  (ht:P.underlying t=some (.map kt et))(hk:jd P kt ek)(hi:fa [i] H=some ([co [bP ek ev b kv,db f kv]],R))(hH:co [bP ek ev b<|aY kv k,db f<|aY kv k]::R=H')(h:V.A n env w0 S H' K):V.A n env w0 S H (dB P ops o K):=
 M8 i hi rfl (vD 0 ([bP ek ev b<|aY kv k,db f kv]++R) hok ho hx hy ht hk rfl rfl (X5 [0,0] rfl hH h))
theorem Am(i j:Nat)(m:β){z:Operand}(hok:f9 ops n env o none=true)(ho:o.op= .mapUpdate t x y z)(hx:V.ev env x=some (.map<|some b))(hy:V.ev env y=some (ek k))(hz:V.ev env z=some (ev m))
  (ht:P.underlying t=some (.map kt et))(hk:jd P kt ek)(hi:fa [i] H=some ([co [bP ek ev b kv,db f kv]],R))(hj:fa [j] R=some ([co<|f m],R2))(hH:co [bP ek ev b<|aK kv k m,db f<|aK kv k m]::R2=H')(h:V.A n env w0 S H' K):V.A n env w0 S H (dB P ops o K):=
 M8 i hi rfl (FU 0 m ([bP ek ev b<|aK kv k m,db f kv]++R) hok ho hx hy hz ht hk rfl rfl (X6 [0,0,j] (by show(match(match fa [j] R with|some (a,r)=>some (db f kv::a,r)|none=>none) with|some (a,r)=>some (bP ek ev b (aK kv k m)::a,r)|none=>none)=_;rw[hj]) hH h))
end
end Go.Proofs.YtobgjpigngoggaaGreat.V
namespace Go.Proofs.YtobgjpigngoggaaGreat
open Go V
def qE(kb:List (Int×En))(i:Int):Bool:=decide ((((aB kb i).map fun m:En=>(qC m.q).length).getD 0:Int)=0)
variable{kb:bm En}{m:En}
theorem WR{i:Int}(h:aB kb i=some m):qE kb i=decide (((qC m.q).length:Int)=0):=by unfold qE;rw[h];simp
def um(kc:List (Int×Cl)):List Int:=aX kc<|fun v_=>v_.hl
def eN(kc:List (Int×Cl))(kb:List (Int×En)):List Int:=(um kc).filter fun i=> !qE kb i
structure po(p:Int→Bool)(l:List Int)(j i:Nat)(ys:List Int):Prop where
 len:ys.length=l.length
 kept:ys.take i=(l.take j).filter fun x=> !p x
 rest:ys.drop j=l.drop j
 le:i<j
 jl:j≤l.length
variable{p:Int→Bool}{l:bT}{k:Nat}{x:Int}
theorem Nb(hk:l[k]? =some x)(hp:p x=true)(hn: ∀j y,j<k→l[j]? =some y→p y=false):po p l (k+1) k l:=by
 have hl:=(dT.1 hk).1
 refine⟨rfl,?_,rfl,by omega,by omega⟩
 rw[List.take_add_one,hk,List.filter_append]
 have:(l.take k).filter (fun x=> !p x)=l.take k:=List.filter_eq_self.2 fun y hy=>by
  obtain⟨j,h1,h2⟩:=List.getElem_of_mem hy
  rw[List.length_take] at h1
  have:l[j]? =some y:=by rw[←h2];simp[dA (show j<l.length by omega)]
  rw[hn j y (by omega) this];rfl
 rw[this];simp[hp]
variable{ys:bT}{j i:Nat}
theorem PL(h:po p l j i ys)(hx:ys[j]? =some x)(hp:p x=true):po p l (j+1) i ys:=by
 have hl:=(dT.1 hx).1
 have hx2:l[j]? =some x:=by rw[←hx];have:=congrArg (·[0]?) h.rest;simpa using this.symm
 refine⟨h.len,?_,?_,by have:=h.le;omega,by rw[←h.len];omega⟩
 ·rw[List.take_add_one,hx2,List.filter_append,h.kept];simp[hp]
 ·have:=congrArg (List.drop 1) h.rest;simpa[Nat.add_comm] using this
theorem OJ(h:po p l j i ys)(hx:ys[j]? =some x)(hp:p x=false):po p l (j+1) (i+1) (ys.set i x):=by
 have hl:=(dT.1 hx).1
 have hx2:l[j]? =some x:=by rw[←hx];have:=congrArg (·[0]?) h.rest;simpa using this.symm
 have hle:=h.le
 refine⟨by rw[List.length_set];exact h.len,?_,?_,by omega,by rw[←h.len];omega⟩
 ·rw[List.take_add_one,List.take_set_of_le<|by omega,h.kept,List.getElem?_set_self<|by omega,List.take_add_one,hx2,List.filter_append];simp[hp]
 ·rw[List.drop_set_of_lt<|by omega]
  have:=congrArg (List.drop 1) h.rest;simpa[Nat.add_comm] using this
theorem PM(h:po p l j i ys)(hj:l.length≤j):ys.take i=l.filter fun x=> !p x:=by rw[h.kept,List.take_of_length_le hj]
variable{kc:bm Cl}{z:Int}
theorem L0(hB:eQ kc kb)(h:(aX kc<|fun v_=>v_.hl)[k]? =some z): ∃m,aB kb z=some m∧kj m:=by
 obtain⟨m,hm⟩:=LX hB h
 exact⟨m,hm,(hB z).2 m hm⟩
theorem zF(hB:eQ kc kb)(hk:(aX kc<|fun v_=>v_.hl).length≤k)(hn: ∀j y,j<k→(aX kc<|fun v_=>v_.hl)[j]? =some y→qE kb y=false):eN kc kb=aX kc (fun v_=>v_.hl):=by
 unfold eN um
 refine List.filter_eq_self.2 fun y hy=>?_
 obtain⟨j,h1,h2⟩:=List.getElem_of_mem hy
 rw[hn j y (by omega) (by rw[←h2];exact dA h1)];rfl
theorem PN(h:po p l j i ys)(hx:ys[j]? =some x):l[j]? =some x:=by rw[←hx];have:=congrArg (·[0]?) h.rest;simpa using this.symm
theorem L1(sb:Nat)(lt lm:Int)(bt:Nat)(my:Nat)(kb:bm En)(ab eb mk:Nat)(ck ac:Int)(bx:Nat)(ci:Int)(hm: ∃m,aB kb ci=some m∧kj m)(w:World)(r0:(aA bx [p_ sb] 102).holds w)(r1:(aA sb [i_ lt,i_ lm,p_ bt,.map<|some my,p_ ab,p_ eb,.map<|some mk,u_ ck,u_ ac] 141).holds w)(r2:(df my kb).holds w):
  CW 106 #[i_ ci,p_ bx] w (b_<|qE kb ci):=by
 refine aU Tryz.func106 rfl (HS.nil w) (aD []<|aC<|dm 5 [.rd [p_ sb],.rd [.map<|some my]] [(7,.map<|some my),(8,i_ ci)] (oc (ro ⟨bx,0,none⟩ (vs:=[p_ sb])<|cB r0 rfl)<|o1<|ro ⟨sb,3,none⟩ (vs:=[.map<|some my])<|cB r1 rfl) ?_)
 obtain⟨m1,hk1,hEO1⟩:=hm
 refine aG<|cC (some 9) (p_ m1.eb) (kF (kt:=3) (et:=167) (k:=ci) (fun ww ss=>nO<|bV ss r2) hk1 rfl rfl rfl (by kernel_rfl) eE rfl) ?_
 refine az [.rd [qp m1.qb],.cq<|i_ ((qC m1.q).length:Int)] [(3,b_<|((qC m1.q).length:Int)==0)] (oc (ro ⟨m1.eb,0,none⟩ (vs:=[qp m1.qb])<|fJ (fun ww ss=>(fZ (bV ss r2) hk1:)) rfl)<|o1<|qo<|fun ww ss=>wT my kb ci m1 (qp m1.qb) hk1 (by rfl) ‹_› ww (bV ss r2)) ?_
 refine aF<|bK [b_<|((qC m1.q).length:Int)==0] ?_
 refine congrArg Value.bool ?_;rw[WR ‹_›,Bool.eq_iff_iff];simp
abbrev D4(p0):=((1,.func (.func 106) #[] #[p_ p0]):Nat×Value)
theorem Bf(sb:Nat)(lt lm:Int)(bt mc:Nat)(kc:bm Cl)(my:Nat)(kb:bm En)(ab eb mk:Nat)(ck ac:Int)(hL:cK kc)(hB:eQ kc kb)(w:World)(r0:(aA sb [i_ lt,i_ lm,p_ bt,.map<|some my,p_ ab,p_ eb,.map<|some mk,u_ ck,u_ ac] 141).holds w)(r1:(aA bt [.map<|some mc] 185).holds w)(r2:(cU mc kc).holds w)(r3:(df my kb).holds w)(hs:HI w []):
  CV 71 #[p_ sb] w [] (fun((al',cl'):(bn)×Nat)=>(vS al' (eN kc kb) cl')) (fun _=>True) fun(al',cl')=>[sI al' (eN kc kb) cl']:=by
 have hkl:=hL.len
 have hkf:=pH kc<|fun v_=>v_.hl
 refine aU Tryz.func71 rfl hs (aC<|dD [.al] [] (fun b1=>[(1,p_ b1)]) (fun b1=>aA b1 [p_ sb] 102) ?_)
 intro b1
 refine XO<|dm 4 [.ld 0,.rd [p_ bt]] [(6,p_ bt)] (o1<|ro ⟨sb,2,none⟩ (vs:=[p_ bt])<|cB r0 rfl)<|aG<|dG (some 7) [] (fun w s h=>ON bt mc kc (by omega) w (bV s r1) (bV s r2) h) ?_
 rintro⟨al'2,cl'3⟩-
 refine cP [.p] [(7,vS al'2 (aX kc<|fun v_=>v_.hl) cl'3),(8,.func (.func 106) #[] #[p_ b1])]<|aG<|dx (some 9) [vS al'2 (aX kc<|fun v_=>v_.hl) cl'3,.func (.func 106) #[] #[p_ b1]] Tryz.func104 rfl (aD []<|aC<|bA 2 [] [(8,vS al'2 (aX kc<|fun v_=>v_.hl) cl'3),(9,.func (.func 106) #[] #[p_ b1])]<|aG<|dx (some 10) [vS al'2 (aX kc<|fun v_=>v_.hl) cl'3,.func (.func 106) #[] #[p_ b1]] Tryz.func98 rfl (aD []<|aE<|aD [(7,i_ ((aX kc<|fun v_=>v_.hl).length:Int)),(8,i_ 0)]<|aO<|eA (σ:=Nat) [] (fun k=>[(8,c_ k)]) [] (fun k=>[]) (fun k=>(k≤(aX kc<|fun v_=>v_.hl).length)∧(∀j y,j<k→(aX kc<|fun v_=>v_.hl)[j]? =some y→qE kb y=false)) (fun k=>(aX kc<|fun v_=>v_.hl).length-k) (0:Nat) ⟨(by omega),(by intro j y hj;omega)⟩ ?_ ?_))
 ·exact bB [0,0]
 rintro k ⟨hk,hn⟩
 refine aD [(9,b_<|decide ((k:Int)<((aX kc<|fun v_=>v_.hl).length:Int)))]<|aE<|aI rfl (fun e2=>?_) (fun e2=>?_)
 ·have p2:=dZ e2
  refine au<|aO<|aD [(5,c_ k)]<|aC<|dm 4 [.ix] [(11,.func (.func 106) #[] #[p_ b1]),(14,.pointer<|some<|(aZ al'2).add (k*1))] (o1<|bH 0 k dL rfl (by omega)) ?_
  obtain⟨x5,hx5⟩: ∃x,((aX kc<|fun v_=>v_.hl))[k]? =some x:=⟨_,dA<|by omega⟩
  refine az [.rd [i_ x5],.cq<|b_<|qE kb x5] [(16,b_<|qE kb x5)] (oc (ro ((aZ al'2).add (k*1))<|dY (vs:=[i_ x5]) dL (cV (i:=0) rfl) hx5 (Nat.le_of_ble_eq_true rfl) rfl)<|o1<|qo<|fun w s=>L1 sb lt lm bt my kb ab eb mk ck ac b1 x5 (L0 hB ‹_›) w (s.mem (i:=1) rfl) (bV s r0)<|bV s r3)<|aI rfl (fun e3=>?_) (fun e3=>?_)
  ·have p3:=e3;try simp only[bQ] at p3
   refine aD [(4,c_ k)]<|aF<|dO [c_ k]<|dQ [] [(0,vS al'2 (aX kc<|fun v_=>v_.hl) cl'3),(D4 b1),(5,c_ k)]<|aE<|aD [(12,b_<|(k:Int)==(-1))]<|aI rfl (fun e4=>?_) (fun e4=>?_)
   ·have p4:=e4;try simp only[bQ] at p4
    refine aD [(4,vS al'2 (aX kc<|fun v_=>v_.hl) cl'3)]<|aF<|dO [vS al'2 (aX kc<|fun v_=>v_.hl) cl'3]<|ak [(2,vS al'2 (aX kc<|fun v_=>v_.hl) cl'3)]<|aF<|bj 0 (sI al'2 (eN kc kb) cl'3) rfl (cw ((zF hB (by omega) hn).symm:(aX kc<|fun v_=>v_.hl)=(eN kc kb))) (bJ [0] [vS al'2 (aX kc<|fun v_=>v_.hl) cl'3] (al'2,cl'3) ?_ ?_)
    ·show((vS al'2 (aX kc<|fun v_=>v_.hl) cl'3):Value)=(vS al'2 (eN kc kb) cl'3)
     rw[zF hB (by omega) hn]
    trivial
   have p4:=e4;try simp only[bQ] at p4
   refine au<|bW [.w<|(k:Int)+1] [(6,i_<|(k:Int)+1)] (o1<|wj ((k:Int)+1)<|by omega)<|aO<|fm (fun((j,i,ys):Nat×Nat×(bT))=>[(D4 b1),(6,c_ j),(5,c_ i),(0,vS al'2 ys cl'3)]) (fun((j,i,ys):Nat×Nat×(bT))=>[aA b1 [p_ sb] 102,sI al'2 ys cl'3]) (fun((j,i,ys):Nat×Nat×(bT))=>(po (qE kb) (aX kc<|fun v_=>v_.hl) j i ys)) (fun((j,i,ys):Nat×Nat×(bT))=>(aX kc<|fun v_=>v_.hl).length-j) (k+1,k,aX kc<|fun v_=>v_.hl) (Nb ‹_› ‹_› hn) ?_ ?_
   ·exact bB [1,0]
   rintro⟨j,i,ys⟩ hD
   have hD:po (qE kb) (aX kc<|fun v_=>v_.hl) j i ys:=hD
   have hDl:=hD.len;have hDj:=hD.jl;have hDe:=hD.le
   refine aE<|aD [(19,b_<|decide ((j:Int)<(ys.length:Int)))]<|aI rfl (fun e5=>?_) (fun e5=>?_)
   ·have p5:=dZ e5
    refine au<|aO<|aC<|dm 3 [.ix] [(24,.pointer<|some<|(aZ al'2).add (j*1))] (o1<|bH 1 j dL rfl (by omega)) ?_
    obtain⟨x6,hx6⟩: ∃x,(ys)[j]? =some x:=⟨_,dA<|by omega⟩
    refine az [.rd [i_ x6]] [(7,i_ x6)] (o1<|ro ((aZ al'2).add (j*1))<|dY (vs:=[i_ x6]) dL (cV (i:=1) rfl) hx6 (Nat.le_of_ble_eq_true rfl) rfl)<|bW [.cq<|b_<|qE kb x6] [(29,b_ (!(qE kb x6)))] (o1<|qo<|fun w s=>L1 sb lt lm bt my kb ab eb mk ck ac b1 x6 (L0 hB<|PN hD ‹_›) w (s.mem (i:=0) rfl) (bV s r0)<|bV s r3)<|aI rfl (fun e6=>?_) (fun e6=>?_)
    ·have p6:=e6;try simp only[bQ] at p6
     refine aC<|dm 4 [.ix] [(32,i_ x6),(33,.pointer<|some<|(aZ al'2).add (i*1))] (o1<|bH 1 i dL rfl (by omega))<|aG<|fB 1 i x6 rfl dL (by omega) (aW 0 (vS al'2 (ys.set i x6) cl'3) (cE<|by simp)<|dP<|aM<|az [.w<|(i:Int)+1] [(5,i_<|(i:Int)+1)] (o1<|wj ((i:Int)+1)<|by omega)<|aM<|az [.w<|(j:Int)+1] [(6,i_<|(j:Int)+1)] (o1<|wj ((j:Int)+1)<|by omega)<|bC (j+1,i+1,ys.set i x6) (OJ hD ‹_› ‹_›) (by(show(aX kc<|fun v_=>v_.hl).length-(j+1)<(aX kc<|fun v_=>v_.hl).length-j;have h_:=hD.jl;have h2_:=hD.len;omega)) ?_)
     exact bB [0,0]
    have p6:=e6;try simp only[bQ] at p6
    refine aP<|aM<|az [.w<|(j:Int)+1] [(6,i_<|(j:Int)+1)] (o1<|wj ((j:Int)+1)<|by omega)<|bC (j+1,i,ys) (PL hD ‹_› ‹_›) (by(show(aX kc<|fun v_=>v_.hl).length-(j+1)<(aX kc<|fun v_=>v_.hl).length-j;have h_:=hD.jl;have h2_:=hD.len;omega)) ?_
    exact bB [0,0]
   have p5:=ga e5
   refine bR<|aC<|bA 2 [] [(36,vS al'2 ys cl'3),(37,c_ i)]<|aG<|cC (some 38) (vS (i7 al'2 cl'3 i 1) (ys.drop i)<|cl'3-i) (Bo (e:=3) (xs:=ys) (sz:=1) i rfl rfl rfl (by kernel_rfl) (by kernel_rfl) (by omega) (fun w s=>KL<|s.mem (i:=1) rfl))<|aG<|Xh (enc:=i6) (xs:=ys) 1 i 0 [aA b1 [p_ sb] 102,sI al'2 (ys.take i++List.replicate (ys.length-i) 0) cl'3] (by kernel_rfl) rfl rfl (by kernel_rfl) (by kernel_rfl) rfl rfl rfl (fun _=>rfl) (by omega) rfl rfl (fE [(5,c_ i),(0,vS al'2 (ys.take i++List.replicate (ys.length-i) 0) cl'3),(36,vS al'2 (ys.take i++List.replicate (ys.length-i) 0) cl'3),(37,c_ i),(38,vS (i7 al'2 cl'3 i 1) (ys.drop i)<|cl'3-i)] (by exact⟨rfl,cE (by simp;omega),cE (by simp;omega),rfl,rfl,trivial⟩)<|dP<|aC<|bA 2 [] [(39,vS al'2 (ys.take i++List.replicate (ys.length-i) 0) cl'3),(40,c_ i)]<|aG<|cC (some 41) (vS al'2 ((ys.take i++List.replicate (ys.length-i) 0).take i) cl'3) (P7 (e:=3) (xs:=(ys.take i++List.replicate (ys.length-i) 0)) (sz:=1) i rfl rfl rfl (by kernel_rfl) (by kernel_rfl) (by(simp;(have h1_:=hD.le;have h2_:=hD.jl;have h3_:=hD.len;omega))) (fun w s=>KL<|s.mem (i:=1) rfl))<|ak [(4,vS al'2 ((ys.take i++List.replicate (ys.length-i) 0).take i) cl'3)] ?_)
   have hcut:((ys.take i++List.replicate (ys.length-i) 0)).take i=(eN kc kb):=by have h1_:=hD.le;have h2_:=hD.jl;have h3_:=hD.len;rw[List.take_append_of_le_length (by simp;omega),List.take_take,Nat.min_self];exact PM hD (by show(aX kc<|fun v_=>v_.hl).length≤_;omega)
   refine Xd 1 i (eN kc kb) (fun _=>rfl) hcut rfl rfl (fE [(4,vS al'2 (eN kc kb) cl'3)] ⟨eW hcut,trivial⟩<|aF<|dO [vS al'2 (eN kc kb) cl'3]<|ak [(2,vS al'2 (eN kc kb) cl'3)]<|aF<|bJ [0] [vS al'2 (eN kc kb) cl'3] (al'2,cl'3) ?_ ?_)
   ·rfl
   trivial
  have p3:=e3;try simp only[bQ] at p3
  refine aP<|aM<|az [.w<|(k:Int)+1] [(8,i_<|(k:Int)+1)] (o1<|wj ((k:Int)+1)<|by omega)<|bC (k+1) ⟨(by omega),(by intro j y hj_ hy_;rcases Nat.lt_succ_iff_lt_or_eq.1 hj_ with h_|rfl;exact hn j y h_ hy_;simp_all)⟩ (by(show(aX kc<|fun v_=>v_.hl).length-(k+1)<(aX kc<|fun v_=>v_.hl).length-k;omega)) ?_
  exact bB [0,0]
 have p2:=ga e2
 refine bR<|aD [(4,i_ (-1))]<|aF<|dO [i_ (-1)]<|dQ [] [(0,vS al'2 (aX kc<|fun v_=>v_.hl) cl'3),(D4 b1),(5,i_ (-1))]<|aE<|aD [(12,b_ true)]<|dX<|aD [(4,vS al'2 (aX kc<|fun v_=>v_.hl) cl'3)]<|aF<|dO [vS al'2 (aX kc<|fun v_=>v_.hl) cl'3]<|ak [(2,vS al'2 (aX kc<|fun v_=>v_.hl) cl'3)]<|aF<|bj 0 (sI al'2 (eN kc kb) cl'3) rfl (cw ((zF hB (by omega) hn).symm:(aX kc<|fun v_=>v_.hl)=(eN kc kb))) (bJ [0] [vS al'2 (aX kc<|fun v_=>v_.hl) cl'3] (al'2,cl'3) ?_ ?_)
 ·show((vS al'2 (aX kc<|fun v_=>v_.hl) cl'3):Value)=(vS al'2 (eN kc kb) cl'3)
  rw[zF hB (by omega) hn]
 trivial
def ow(kc:List (Int×Cl))(kb:List (Int×En))(c:Int):Bool:=(eN kc kb).any fun lf=>(bf kc lf).contains c
theorem Tv{c:Int}(hk:l.length≤k)(hn: ∀j y,j<k→l[j]? =some y→c≠y):l.contains c=false:=by
 rw[Bool.eq_false_iff];intro h
 rw[List.contains_iff_mem] at h
 obtain⟨j,h1,h2⟩:=List.getElem_of_mem h
 exact hn j c (by omega) (by rw[←h2];exact dA h1) rfl
theorem Qr{c y:Int}(hk:l[k]? =some y)(h:c=y):l.contains c=true:=by
 rw[List.contains_iff_mem,h];exact cT hk
theorem D5(hk:l.length≤k)(hn: ∀j y,j<k→l[j]? =some y→p y=false):l.any p=false:=by
 rw[Bool.eq_false_iff];intro h
 rw[List.any_eq_true] at h
 obtain⟨x,hx,hp⟩:=h
 obtain⟨j,h1,h2⟩:=List.getElem_of_mem hx
 rw[hn j x (by omega) (by rw[←h2];exact dA h1)] at hp;cases hp
theorem Ie{y:Int}(hk:l[k]? =some y)(h:p y=true):l.any p=true:=List.any_eq_true.2 ⟨y,cT hk,h⟩
abbrev qq(p0):=(b_ (decide ((p0:Int)≥0)):Value)
theorem WS(sb:Nat)(lt lm:Int)(bt mc:Nat)(kc:bm Cl)(my:Nat)(ab eb mk:Nat)(ck ac:Int)(b1 b2:Nat)(ci li:Int)(hL:cK kc)(w:World)(r0:(aA b1 [p_ sb] 102).holds w)(r1:(aA b2 [i_ ci] 3).holds w)(r2:(aA sb [i_ lt,i_ lm,p_ bt,.map<|some my,p_ ab,p_ eb,.map<|some mk,u_ ck,u_ ac] 141).holds w)(r3:(aA bt [.map<|some mc] 185).holds w)(r4:(cU mc kc).holds w)(hs:HI w []):
  CV 99 #[i_ li,p_ b1,p_ b2] w [] (fun(zz:Unit)=>(b_<|(bf kc li).contains ci)) (fun _=>True) fun _=>[]:=by
 have hul:=CM hL li
 refine aU Tryz.func99 rfl hs (aD []<|aE<|j6 [5,7] 9 []<|qQ 3 [.rd [p_ sb],.rd [p_ bt],.rd [i_ ci]] [0,1,2,3,4,6] [(8,p_ bt),(9,i_ li),(11,i_ ci)] (.refl _) (oc (ro ⟨b1,0,none⟩ (vs:=[p_ sb])<|cB r0 rfl)<|oc (ro ⟨sb,2,none⟩ (vs:=[p_ bt])<|cB r2 rfl)<|o1<|ro ⟨b2,0,none⟩ (vs:=[i_ ci])<|cB r1 rfl)<|fk 5 rfl (dG (some 10) [] (fun w s h=>Eo bt mc kc li (by assumption) w (bV s r3) (bV s r4) h) ?_))
 rintro⟨al'1,cl'2⟩-
 refine ff (sd [0])<|fk 7 rfl (dx (some 12) [vS al'1 (bf kc li) cl'2,i_ ci] Tryz.func100 rfl (aD []<|aC<|bA 2 [] [(5,vS al'1 (bf kc li) cl'2),(6,i_ ci)]<|aG<|dx (some 7) [vS al'1 (bf kc li) cl'2,i_ ci] Tryz.func141 rfl (aD []<|aE<|aD [(7,i_ ((bf kc li).length:Int)),(8,i_ 0)]<|aO<|eA (σ:=Nat) [] (fun k=>[(8,c_ k)]) [] (fun k=>[]) (fun k=>(k≤(bf kc li).length)∧(∀j y,j<k→(bf kc li)[j]? =some y→ci≠y)) (fun k=>(bf kc li).length-k) (0:Nat) ⟨(by omega),(by intro j y hj;omega)⟩ ?_ ?_)))
 ·exact bB [0]
 rintro k ⟨hk,hn⟩
 refine aD [(9,b_<|decide ((k:Int)<((bf kc li).length:Int)))]<|aE<|aI rfl (fun e2=>?_) (fun e2=>?_)
 ·have p2:=dZ e2
  refine au<|aO<|aD [(5,c_ k)]<|aC<|dm 4 [.ix] [(11,i_ ci),(14,.pointer<|some<|(aZ al'1).add (k*1))] (o1<|bH 0 k dL rfl (by omega)) ?_
  obtain⟨x4,hx4⟩: ∃x,((bf kc li))[k]? =some x:=⟨_,dA<|by omega⟩
  refine az [.rd [i_ x4]] [(16,b_<|ci==x4)] (o1<|ro ((aZ al'1).add (k*1))<|dY (vs:=[i_ x4]) dL (cV (i:=0) rfl) hx4 (Nat.le_of_ble_eq_true rfl) rfl)<|aI rfl (fun e3=>?_) (fun e3=>?_)
  ·refine aD [(4,c_ k)]<|aF<|dO [c_ k]<|ak [(4,qq k)]<|aF<|dO [qq k]<|ff (sd [0])<|gq 0 [] [8] [(4,qq k)] (sd [0])<|jP<|aF<|bJ [] [qq k] () ?_ ?_
   ·(rw[Qr ‹_› (by(simp_all;done))]<;>rfl)
   trivial
  have p3:=e3
  refine aP<|aM<|az [.w<|(k:Int)+1] [(8,i_<|(k:Int)+1)] (o1<|wj ((k:Int)+1)<|by omega)<|bC (k+1) ⟨(by omega),(by intro j y hj_ hy_;rcases Nat.lt_succ_iff_lt_or_eq.1 hj_ with h_|rfl;exact hn j y h_ hy_;simp_all)⟩ (by(show(bf kc li).length-(k+1)<(bf kc li).length-k;omega)) ?_
  exact bB [0]
 have p2:=ga e2
 refine bR<|aD [(4,i_ (-1))]<|aF<|dO [i_ (-1)]<|ak [(4,b_ false)]<|aF<|dO [b_ false]<|ff (sd [0])<|gq 0 [] [8] [(4,b_ false)] (sd [0])<|jP<|aF<|bJ [] [b_ false] () ?_ ?_
 ·(rw[Tv (by omega) hn]<;>first|rfl|(refine congrArg Value.bool ?_;simp;done)|(refine congrArg Value.bool ?_;simp;omega))
 trivial
theorem Tz(sb:Nat)(lt lm:Int)(bt mc:Nat)(kc:bm Cl)(my:Nat)(kb:bm En)(ab eb mk:Nat)(ck ac:Int)(ci:Int)(hL:cK kc)(hB:eQ kc kb)(w:World)(r0:(aA sb [i_ lt,i_ lm,p_ bt,.map<|some my,p_ ab,p_ eb,.map<|some mk,u_ ck,u_ ac] 141).holds w)(r1:(aA bt [.map<|some mc] 185).holds w)(r2:(cU mc kc).holds w)(r3:(df my kb).holds w)(hs:HI w []):
  CV 69 #[p_ sb,i_ ci] w [] (fun(zz:Unit)=>(b_<|ow kc kb ci)) (fun _=>True) fun _=>[]:=by
 have hkl:=hL.len
 have hkf:=pH kc<|fun v_=>v_.hl
 have hlf:(eN kc kb).length≤64:=Nat.le_trans (List.length_filter_le _ _) (by unfold um;omega)
 refine aU Tryz.func69 rfl hs (aC<|fz [.al,.al] [] (fun b1 b2=>[(2,p_ b1),(3,p_ b2)]) (fun b1 b2=>[aA b1 [p_ sb] 102,aA b2 [i_ ci] 3]) ?_)
 intro b1 b2
 refine aC<|cP [.ld 0] [(5,p_ sb)]<|aG<|dG (some 6) [] (fun w s h=>Bf sb lt lm bt mc kc my kb ab eb mk ck ac ‹_› ‹_› w (bV s r0) (bV s r1) (bV s r2) (bV s r3) h) ?_
 rintro⟨al'3,cl'4⟩-
 refine cP [.p] [(6,vS al'3 (eN kc kb) cl'4),(7,.func (.func 99) #[] #[p_ b1,p_ b2])]<|aG<|dx (some 8) [vS al'3 (eN kc kb) cl'4,.func (.func 99) #[] #[p_ b1,p_ b2]] Tryz.func68 rfl (aD []<|aC<|bA 2 [] [(5,vS al'3 (eN kc kb) cl'4),(6,.func (.func 99) #[] #[p_ b1,p_ b2])]<|aG<|dx (some 7) [vS al'3 (eN kc kb) cl'4,.func (.func 99) #[] #[p_ b1,p_ b2]] Tryz.func98 rfl (aD []<|aE<|aD [(7,i_ ((eN kc kb).length:Int)),(8,i_ 0)]<|aO<|eA (σ:=Nat) [] (fun k=>[(8,c_ k)]) [] (fun k=>[]) (fun k=>(k≤(eN kc kb).length)∧(∀j y,j<k→(eN kc kb)[j]? =some y→(bf kc y).contains ci=false)) (fun k=>(eN kc kb).length-k) (0:Nat) ⟨(by omega),(by intro j y hj;omega)⟩ ?_ ?_))
 ·exact bB [0,0,0]
 rintro k ⟨hk,hn⟩
 refine aD [(9,b_<|decide ((k:Int)<((eN kc kb).length:Int)))]<|aE<|aI rfl (fun e2=>?_) (fun e2=>?_)
 ·have p2:=dZ e2
  refine au<|aO<|aD [(5,c_ k)]<|aC<|dm 4 [.ix] [(11,.func (.func 99) #[] #[p_ b1,p_ b2]),(14,.pointer<|some<|(aZ al'3).add (k*1))] (o1<|bH 0 k dL rfl (by omega)) ?_
  obtain⟨x6,hx6⟩: ∃x,((eN kc kb))[k]? =some x:=⟨_,dA<|by omega⟩
  refine ic [.rd [i_ x6]] [(15,i_ x6)] (o1<|ro ((aZ al'3).add (k*1))<|dY (vs:=[i_ x6]) dL (cV (i:=0) rfl) hx6 (Nat.le_of_ble_eq_true rfl) rfl)<|aG<|dG (some 16) [] (fun w s h=>WS sb lt lm bt mc kc my ab eb mk ck ac b1 b2 ci x6 ‹_› w (s.mem (i:=1) rfl) (s.mem (i:=2) rfl) (bV s r0) (bV s r1) (bV s r2) h) ?_
  rintro⟨⟩-
  refine dP<|fx ((bf kc x6).contains ci) (fun e4=>?_)<|fun e4=>?_
  ·refine aD [(4,c_ k)]<|aF<|dO [c_ k]<|dQ [] [(4,qq k)]<|aF<|dO [qq k]<|dQ [] [(4,qq k)]<|aF<|bJ [] [qq k] () ?_ ?_
   ·unfold ow;(rw[Ie ‹_› ‹_›]<;>rfl)
   trivial
  have p4:=e4
  refine aP<|aM<|az [.w<|(k:Int)+1] [(8,i_<|(k:Int)+1)] (o1<|wj ((k:Int)+1)<|by omega)<|bC (k+1) ⟨(by omega),(by intro j y hj_ hy_;rcases Nat.lt_succ_iff_lt_or_eq.1 hj_ with h_|rfl;exact hn j y h_ hy_;simp_all)⟩ (by(show(eN kc kb).length-(k+1)<(eN kc kb).length-k;omega)) ?_
  exact bB [0,0,0]
 have p2:=ga e2
 refine bR<|aD [(4,i_ (-1))]<|aF<|dO [i_ (-1)]<|dQ [] [(4,b_ false)]<|aF<|dO [b_ false]<|dQ [] [(4,b_ false)]<|aF<|bJ [] [b_ false] () ?_ ?_
 ·unfold ow;(rw[D5 (by omega) hn]<;>first|rfl|(refine congrArg Value.bool ?_;simp;done)|(refine congrArg Value.bool ?_;simp;omega))
 trivial
def eJ(W:World):V.aH where
 foot:=List.range W.heap.size
 holds w:=W.heap.size≤w.heap.size∧ ∀b,b<W.heap.size→w.heap[b]? =W.heap[b]?
 loc w w' h hw:=by
  have h2: ∀b,b<W.heap.size→w'.heap[b]? =W.heap[b]? :=fun b hb=>by rw[h b<|List.mem_range.2 hb];exact hw.2 b hb
  refine⟨?_,h2⟩
  rcases Nat.eq_zero_or_pos W.heap.size with e|e
  ·omega
  ·have:=h2 (W.heap.size-1)<|by omega
   rw[Array.getElem?_eq_getElem (show W.heap.size-1<W.heap.size by omega)] at this
   have:=(Array.getElem?_eq_some_iff.1 this).1;omega
 here w hw b hb:=by have:=List.mem_range.1 hb;have:=hw.1;omega
variable{A:bn}{cs:cn}
theorem Qs{W w:World}(hw:(eJ W).holds w)(h:dR W A cs):dR w A cs:=fun j u hu=>by
 obtain⟨h1,h2⟩:=h j u hu
 refine⟨h1,?_⟩
 have hlt:((aZ A).add j).block<W.heap.size:=by
  rcases Nat.lt_or_ge ((aZ A).add j).block W.heap.size with h'|h'
  ·exact h'
  ·simp[World.cell?,Array.getElem?_eq_none h'] at h2
 rw[←h2];unfold World.cell?;rw[hw.2 _ hlt]
theorem t8{w0:World}{S:bO}{H:List V.aH}{W:World}(hi:H[i]? =some (eJ W))(h:dR W A cs):Rd w0 S H A cs:=fun _ s=>Qs (s.mem hi) h
def AX(kc:List (Int×Cl))(i:Int)(kb:List (Int×En))(kk:List (Int×Vt))(kb':List (Int×En))(kk':List (Int×Vt)):Prop:=
 (fA kc i≠0∧kb'=aY kb i∧kk'=aY kk i)∨(fA kc i=0∧ ∃m,D3 (aN kc i) m∧kb'=aK (aY kb i) i m∧(((aN kc i).hl=true∧kk'=aY kk i)∨((aN kc i).hl=false∧ ∃v,v.kv=[]∧v.t=T.nil∧kk'=aK (aY kk i) i v)))
def qJ(kc:List (Int×Cl)):List Int→List (Int×En)→List (Int×Vt)→List (Int×En)→List (Int×Vt)→Prop
 |[],kb,kk,kb',kk'=>kb'=kb∧kk'=kk
 |i::l,kb,kk,kb',kk'=> ∃kb1 kk1,AX kc i kb kk kb1 kk1∧qJ kc l kb1 kk1 kb' kk'
variable{L:bT}{i:Int}{kb1 kb':bm En}{kk kk1 kk':bm Vt}
theorem Bg(hk:L[k]? =some i)(h1:AX kc i kb kk kb1 kk1)(h:qJ kc (L.drop<|k+1) kb1 kk1 kb' kk'):qJ kc (L.drop k) kb kk kb' kk':=by
 obtain⟨e1,e2⟩:=dT.1 hk
 rw[List.drop_eq_getElem_cons e1,e2];exact⟨kb1,kk1,h1,h⟩
theorem UA(h:AX kc i kb kk kb1 kk1)(hn:(kb.map (·.1)).Nodup):(kb1.map (·.1)).Nodup:=by
 rcases h with⟨-,h2,-⟩|⟨-,m,-,h3,-⟩
 ·subst h2;exact lJ hn i
 ·subst h3;exact mN (lJ hn i) i m
theorem KC: ∀{l:bT}{kb kb':bm En}{kk kk':bm Vt},(kb.map (·.1)).Nodup→qJ kc l kb kk kb' kk'→ ∀i,(i∈l∨((aB kb i).map (·.ec)=aB kc i∧ ∀m,aB kb i=some m→kj m))→(aB kb' i).map (·.ec)=aB kc i∧ ∀m,aB kb' i=some m→kj m
 |[],kb,kb',kk,kk',hn,⟨h1,_⟩,i,hi=>by subst h1;exact hi.resolve_left<|by simp
 |j::l,kb,kb',kk,kk',hn,⟨kb1,kk1,hs,h⟩,i,hi=>by
  refine KC (UA hs hn) h i ?_
  by_cases e:j=i
  ·subst e
   right
   rcases hs with⟨h1,h2,-⟩|⟨h1,m,h2,h3,-⟩
   ·subst h2
    rw[gx hn,if_pos rfl,E1 h1];exact⟨rfl,fun m h=>by cases h⟩
   ·subst h3
    have hs2:aB kc j=some (aN kc j):=by
     cases q:aB kc j with
     |none=>exact absurd q<|E0 h1
     |some c=>rw[iP q]
    rw[jS,hs2]
    exact⟨by simp[h2.1],fun m2 h=>by cases h;exact h2.2.1⟩
  ·rcases hi with hi|hi
   ·exact .inl<|(List.mem_cons.1 hi).resolve_left (fun h=>e h.symm)
   ·right
    have hg:aB kb1 i=aB kb i:=by
     rcases hs with⟨-,h2,-⟩|⟨-,m,-,h3,-⟩
     ·subst h2;rw[gx hn,if_neg e]
     ·subst h3;rw[fN,if_neg e,gx hn,if_neg e]
    rw[hg];exact hi
variable{kw:bm Cl}
theorem yU(h:i∉dC kc kw):aB kc i=aB kw i:=by
 refine Classical.byContradiction fun hne=>h<|((vv kc kw).2 i).2 ⟨?_,by unfold kh;simp[hne]⟩
 cases e:aB kc i with
 |some c=>exact .inl<|tO e rfl
 |none=>
  cases e2:aB kw i with
  |some c=>exact .inr<|tO e2 rfl
  |none=>exact absurd (e.trans e2.symm) hne
theorem KD(hB:eQ kc kb)(hn:(kb.map (·.1)).Nodup)(h:qJ kw (dC kc kw) kb kk kb' kk'):eQ kw kb':=fun i=>by
 refine KC hn h i ?_
 by_cases e:i∈dC kc kw
 ·exact .inl e
 ·right;rw[←yU e];exact hB i
def sj(ym:List (Int×Pl)):List Int→List (Int×Int)→List (Int×MB)→List (Int×Int)→List (Int×MB)→Prop
 |[],on,ka,on',ka'=>on'=on∧ka'=ka
 |i::l,on,ka,on',ka'=> ∃on1 ka1 l1 e1,rO ym on ka i on1 ka1 l1 e1∧sj ym l on1 ka1 on' ka'
variable{on on':bm Int}{ka ka':bm MB}
theorem OK{ym:bm Pl}{on1:bm Int}{ka1:bm MB}{l1:bT}{e1:Int}(hk:L[k]? =some i)(h1:rO ym on ka i on1 ka1 l1 e1)(h:sj ym (L.drop<|k+1) on1 ka1 on' ka'):sj ym (L.drop k) on ka on' ka':=by
 obtain⟨e1,e2⟩:=dT.1 hk
 rw[List.drop_eq_getElem_cons e1,e2];exact⟨_,_,_,_,h1,h⟩
def we(kc:List (Int×Cl))(lt:Int)(idle:Bool)(kb:List (Int×En))(l:List Zc):Prop:=gw kc lt l=0∧(dC kc<|cF kc l).any (ow kc kb)=false∧((dC kc<|cF kc l).any (na kc<|cF kc l)=false∨(idle=true∧eN kc kb=[]))
def XJ(kc:List (Int×Cl))(lt:Int)(l:List Zc):Int:=if gw kc lt l=0 then 24 else gw kc lt l
def XK(kc:List (Int×Cl))(lt:Int)(l:List Zc):Int:=if gw kc lt l=0 then 0 else ji kc lt l
def If(lt:Int)(idle:Bool)(l:List Zc)(pl er:Int)(bt mc:Nat)(kc:List (Int×Cl))(kb:List (Int×En))(a:Ac)(on:List (Int×Int))(ka:List (Int×MB))(kk:List (Int×Vt))(bt' mc':Nat)(kc':List (Int×Cl))(kb':List (Int×En))(a':Ac)(on':List (Int×Int))(ka':List (Int×MB))(kk':List (Int×Vt)):Prop:=
 (er≠0∧ ¬we kc lt idle kb l∧bt'=bt∧mc'=mc∧kc'=kc∧kb'=kb∧a'=a∧on'=on∧ka'=ka∧kk'=kk∧er=XJ kc lt l∧pl=XK kc lt l)∨
 (er=0∧we kc lt idle kb l∧kc'=cF kc l∧qJ kc' (dC kc kc') kb kk kb' kk'∧a'.ym=eZ kc'∧sj a'.ym (eN kc' kb') [] [] on' ka'∧pl=0)
theorem PO(hL:cK kc)(h:fA kc i=0):(aN kc i).hl=true→(1≤(aN kc i).hk∧(aN kc i).hk≤64)∧1≤(aN kc i).hq∧(aN kc i).hq≤1048576:=by
 intro hl
 cases e:aB kc i with
 |none=>exact absurd e<|E0 h
 |some c=>
  rw[iP e] at hl⊢
  have h2:=(hL.key i c e).2
  unfold fC at h2
  rw[if_pos hl] at h2
  grind
abbrev pX(p0)(p1)(p2):=(ag<|aN (cF p0 p1) p2)
abbrev mU(p0)(p1)(p2)(p3):=(vS p0 (dC p1<|cF p1 p2) p3:Value)
abbrev wH(p0)(p1):=(i_ ((dC p0<|cF p0 p1).length:Int):Value)
abbrev lC(p0)(p1):=(aA p0 [.map<|some p1] 185:V.aH)
abbrev nq(p0)(p1)(p2)(p3)(p4)(p5:Ac)(p6:Vt)(p7)(p8)(p9):=(aA p0 [i_ p1,i_ p2,p_ p3,.map<|some p4,p_ p5.bs,p_ p6.be,.map<|some p7,u_ p8,u_ p9] 141:V.aH)
theorem PQ(sb:Nat)(lt lm:Int)(bt mc:Nat)(kc:bm Cl)(my:Nat)(kb:bm En)(a:Ac)(on:bm Int)(ka:bm MB)(tl:Vt)(et:T)(ek:bm It)(mk:Nat)(kk:bm Vt)(ck ac:Int)(W:World)(idle:Bool)(al:bn)(l:List Zc)(cl:Nat)(harr:dR W al (V.aQ gi l))(hL:cK kc)(hK:mq kc)(hz: ∀z∈l,iy z)(hB:eQ kc kb)(hnb:(kb.map (·.1)).Nodup):
  CS 46 #[p_ sb,b_ idle,vS al l cl] [nq sb lt lm bt my a tl mk ck ac,lC bt mc,cU mc kc,df my kb,eM a on ka,eu tl et ek,eD mk kk,eJ W] (fun((pl,er,bt',mc',kc',kb',a',on',ka',kk'):Int×Int×Nat×Nat×(bm Cl)×(bm En)×Ac×(bm Int)×(bm MB)×(bm Vt))=>(.tuple #[i_ pl,i_ er])) (fun(pl,er,bt',mc',kc',kb',a',on',ka',kk')=>If lt idle l pl er bt mc kc kb a on ka kk bt' mc' kc' kb' a' on' ka' kk') fun(pl,er,bt',mc',kc',kb',a',on',ka',kk')=>[nq sb lt lm bt' my a' tl mk ck ac,lC bt' mc',cU mc' kc',df my kb',eM a' on' ka',eu tl et ek,eD mk kk',eJ W]:=by
 intro w hs
 have hkl:=hL.len
 have hL3:=DR (l:=l) hL
 have hkl3:=hL3.len
 have htl:=DT kc<|cF kc l
 refine aU Tryz.func46 rfl hs (aD []<|aE<|aD [(19,b_ false)]<|bY<|au ?_)
 by_cases htr:gw kc lt l=0
 ·refine bL [10] 18<|FR 8 [.ld 0,.ld 0] (rg 0 10) [2,19] [(24,p_ bt),(29,i_ lt),(30,vS al l cl)]<|an 10 rfl (dG (some 31) [] (fun w s h=>Vd bt mc kc lt al l cl ‹_› ‹_› ‹_› ‹_› w (s.mem (i:=1) rfl) (s.mem (i:=2) rfl) ((t8 (i:=7) rfl harr) w s) h) ?_)
  rintro⟨bc1,mx2⟩-
  refine cD<|FR 0 [] (rg 11 7) [24,29,30,31] [(8,p_ bc1),(9,i_ 0),(10,i_ 0)]<|dj<|aE<|aD [(36,b_ false)]<|bY<|aP<|aC<|fg [.p,.p,.p,.ld 2,.p] [9,10,36] [(42,p_ bt),(43,p_ bc1)]<|aG<|dG (some 44) [] (fun w s h=>LG bt mc kc bc1 mx2 (cF kc l) ‹_› ‹_› w (s.mem (i:=3) rfl) (s.mem (i:=4) rfl) (s.mem (i:=0) rfl) (s.mem (i:=1) rfl) h) ?_
  rintro⟨al'3,cl'4⟩-
  refine dV [] [42,43,44] [(11,mU al'3 kc l cl'4)]<|Ad (fun(zz:Unit)=>match zz with|_=>[(0,p_ sb),(8,p_ bc1),(11,mU al'3 kc l cl'4)]) (fun(zz:Unit)=>match zz with|_=>[sI al'3 (dC kc<|cF kc l) cl'4,lC bc1 mx2,cU mx2<|cF kc l,nq sb lt lm bt my a tl mk ck ac,lC bt mc,cU mc kc,df my kb,eM a on ka,eu tl et ek,eD mk kk,eJ W]) (fun(zz:Unit)=>match zz with|_=>(we kc lt idle kb l)) ?_ ?_
  ·refine aC<|bA 3 [] [(45,mU al'3 kc l cl'4),(47,.func (.func 69) #[p_ sb] #[])]<|aG<|dx (some 48) [mU al'3 kc l cl'4,.func (.func 69) #[p_ sb] #[]] Tryz.func68 rfl (aD []<|aC<|fg [.p,.p] [0,1] [(5,mU al'3 kc l cl'4),(6,.func (.func 69) #[p_ sb] #[])]<|aG<|dx (some 7) [mU al'3 kc l cl'4,.func (.func 69) #[p_ sb] #[]] Tryz.func98 rfl (aD []<|aE<|aD [(7,wH kc l),(8,i_ 0)]<|aO<|eA (σ:=Nat) [] (fun k=>[(8,c_ k)]) [] (fun k=>[]) (fun k=>(k≤(dC kc<|cF kc l).length)∧(∀j y,j<k→(dC kc<|cF kc l)[j]? =some y→ow kc kb y=false)) (fun k=>(dC kc<|cF kc l).length-k) (0:Nat) ⟨(by omega),(by intro j y hj;omega)⟩ ?_ ?_))
   ·exact bB [0,0,0,0,0,0,0,0,0,0,0]
   rintro k ⟨hk,hn⟩
   refine aD [(9,b_<|decide ((k:Int)<((dC kc<|cF kc l).length:Int)))]<|aE<|aI rfl (fun e3=>?_) (fun e3=>?_)
   ·have p3:=dZ e3
    refine au<|aO<|aC<|dV [] [9] [(5,c_ k)]<|aC<|dm 4 [.ix] [(11,.func (.func 69) #[p_ sb] #[]),(14,.pointer<|some<|(aZ al'3).add (k*1))] (o1<|bH 0 k dL rfl (by omega)) ?_
    obtain⟨x6,hx6⟩: ∃x,((dC kc<|cF kc l))[k]? =some x:=⟨_,dA<|by omega⟩
    refine ic [.rd [i_ x6]] [(0,mU al'3 kc l cl'4),(1,.func (.func 69) #[p_ sb] #[]),(8,c_ k),(5,c_ k),(11,.func (.func 69) #[p_ sb] #[]),(15,i_ x6)] (o1<|ro ((aZ al'3).add (k*1))<|dY (vs:=[i_ x6]) dL (cV (i:=0) rfl) hx6 (Nat.le_of_ble_eq_true rfl) rfl)<|aG<|dG (some 16) [] (fun w s h=>Tz sb lt lm bt mc kc my kb a.bs tl.be mk ck ac x6 ‹_› ‹_› w (s.mem (i:=3) rfl) (s.mem (i:=4) rfl) (s.mem (i:=5) rfl) (s.mem (i:=6) rfl) h) ?_
    rintro⟨⟩-
    refine dP<|aI rfl (fun e5=>?_) (fun e5=>?_)
    ·have p5:=e5;try simp only[bQ] at p5
     refine aC<|dV [] [0,1,7,8,5,11,15,16] [(4,c_ k)]<|aF<|dO [c_ k]<|ak [(4,b_<|decide ((k:Int)≥0))]<|aF<|dO [b_<|decide ((k:Int)≥0)]<|cP [.p] [(0,p_ sb),(1,b_ idle),(8,p_ bc1),(11,mU al'3 kc l cl'4),(49,b_<|decide ((k:Int)≥0))]<|iM (decide ((k:Int)≥0)) (fun e6=>?_)<|fun e6=>?_
     ·refine aW 49 (b_ true) (fM e6)<|dV [.sk,.sk,.sk,.sk,.sk,.sk,.sk,.sk,.sk,.sk,.sk,.sk,.sk,.sk,.sk,.sk] [1,49] [(66,b_ true)]<|dX<|aC<|dV [] [0,8,11,66] [(6,i_ 0),(7,i_ 24)]<|aF<|bJ [3,3,3,3,3,3,3,3] [i_ 0,i_ 24] (0,24,bt,mc,kc,kb,a,on,ka,kk) ?_ ?_
      ·rfl
      exact .inl ⟨by decide,(fun h_=>by obtain⟨h1_,h2_,h3_⟩:=h_;(have h4_:=Ie (p:=ow kc kb) ‹_› ‹_›;rw[h4_] at h2_;cases h2_;done)),rfl,rfl,rfl,rfl,rfl,rfl,rfl,rfl,(if_pos htr).symm,(if_pos htr).symm⟩
     exact absurd e6<|by(intro h_;(simp at h_;done))
    have p5:=e5;try simp only[bQ] at p5
    refine aP<|aM<|kq [.w<|(k:Int)+1] [5,11,15,16] [(8,i_<|(k:Int)+1)] (o1<|wj ((k:Int)+1)<|by omega)<|bC (k+1) ⟨(by omega),(by intro j y hj_ hy_;rcases Nat.lt_succ_iff_lt_or_eq.1 hj_ with h_|rfl;exact hn j y h_ hy_;simp_all)⟩ (by(show(dC kc<|cF kc l).length-(k+1)<(dC kc<|cF kc l).length-k;omega)) ?_
    exact bB [0,0,0,0,0,0,0,0,0,0,0]
   have p3:=ga e3
   refine bR<|aC<|dV [] [0,1,7,8,9] [(4,i_ (-1))]<|aF<|dO [i_ (-1)]<|ak [(4,b_ false)]<|aF<|dO [b_ false]<|dm 8 [.ld 3,.cq<|b_<|(dC kc<|cF kc l).any (na kc<|cF kc l)] [(8,p_ bc1),(11,mU al'3 kc l cl'4),(49,b_ false),(56,b_<|(dC kc<|cF kc l).any (na kc<|cF kc l))] (o1<|qo<|fun w s=>Vh bt mc kc bc1 mx2 (cF kc l) ‹_› ‹_› w (s.mem (i:=4) rfl) (s.mem (i:=5) rfl) (s.mem (i:=1) rfl) (s.mem (i:=2) rfl))<|iM (((dC kc<|cF kc l).any (na kc<|cF kc l))) (fun e7=>?_)<|fun e7=>?_
   ·refine aW 56 (b_ true) (fM e7)<|fg (ps 3) [1] [(59,b_ (!idle))]<|iM (!idle) (fun e8=>?_)<|fun e8=>?_
    ·refine aW 59 (b_ true) (fM e8)<|dV [.sk,.sk,.sk,.sk] [49,56,59] [(66,b_ true)]<|dX<|aC<|dV [] [0,8,11,66] [(6,i_ 0),(7,i_ 24)]<|aF<|bJ [3,3,3,3,3,3,3,3] [i_ 0,i_ 24] (0,24,bt,mc,kc,kb,a,on,ka,kk) ?_ ?_
     ·rfl
     exact .inl ⟨by decide,(fun h_=>by obtain⟨h1_,h2_,h3_⟩:=h_;(rcases h3_ with h_|⟨h_,h5_⟩;exact Bool.noConfusion<|h_.symm.trans (by assumption:_=true);clear h2_ hn;simp_all;done)),rfl,rfl,rfl,rfl,rfl,rfl,rfl,rfl,(if_pos htr).symm,(if_pos htr).symm⟩
    refine aW 59 (b_ false) (fM e8)<|cP [.p] [(60,p_ sb)]<|aG<|dG (some 61) [] (fun w s h=>Bf sb lt lm bt mc kc my kb a.bs tl.be mk ck ac ‹_› ‹_› w (s.mem (i:=3) rfl) (s.mem (i:=4) rfl) (s.mem (i:=5) rfl) (s.mem (i:=6) rfl) h) ?_
    rintro⟨al'7,cl'8⟩-
    refine dV [] [49,56,59,60,61] [(66,b_<|decide (((eN kc kb).length:Int)>0))]<|aI rfl (fun e10=>?_) (fun e10=>?_)
    ·have p10:=dZ e10
     refine aC<|dV [] [0,8,11,66] [(6,i_ 0),(7,i_ 24)]<|aF<|bJ [4,4,4,4,4,4,4,4] [i_ 0,i_ 24] (0,24,bt,mc,kc,kb,a,on,ka,kk) ?_ ?_
     ·rfl
     exact .inl ⟨by decide,(fun h_=>by obtain⟨h1_,h2_,h3_⟩:=h_;(rcases h3_ with h_|⟨h_,h5_⟩;exact Bool.noConfusion<|h_.symm.trans (by assumption:_=true);clear h2_ hn;simp_all;done)),rfl,rfl,rfl,rfl,rfl,rfl,rfl,rfl,(if_pos htr).symm,(if_pos htr).symm⟩
    have p10:=ga e10
    refine aP<|jR () (by exact⟨by assumption,D5 (by omega) hn,by(right;simp_all;done)⟩) ?_
    exact bB [1,1,1,1,1,1,1,1,1,1,1]
   refine aW 56 (b_ false) (fM e7)<|dV [.sk,.sk,.sk,.sk,.sk,.sk,.sk,.sk] [1,49,56] [(66,b_ false)]<|bY<|aP<|jR () (by exact⟨by assumption,D5 (by omega) hn,by(left;simp_all;done)⟩) ?_
   exact bB [0,0,0,0,0,0,0,0,0,0,0]
  rintro _ hch
  have hch:we kc lt idle kb l:=hch
  refine aC<|bU [.st 3] [] [(3,nq sb lt lm bc1 my a tl mk ck ac)]<|cS<|dV [] [11] [(71,mU al'3 kc l cl'4),(72,wH kc l),(73,i_ 0)]<|aO<|eA (σ:=Nat×(bm En)×(bm Vt)) [] (fun(kt,kbk,kkk)=>[(73,c_ kt)]) [6,8] (fun(kt,kbk,kkk)=>[df my kbk,eD mk kkk]) (fun(kt,kbk,kkk)=>(kt≤(dC kc<|cF kc l).length)∧(∀kb' kk',qJ (cF kc l) ((dC kc<|cF kc l).drop kt) kbk kkk kb' kk'→qJ (cF kc l) (dC kc<|cF kc l) kb kk kb' kk')) (fun(kt,kbk,kkk)=>(dC kc<|cF kc l).length-kt) (0,kb,kk) ⟨(by omega),(fun _ _ h=>h)⟩ ?_ ?_
  ·exact bB [6,8,0,0,0,0,0,0,0,0,0]
  rintro⟨kt,kbk,kkk⟩ ⟨hkt,hC⟩
  refine aD [(74,b_<|decide ((kt:Int)<((dC kc<|cF kc l).length:Int)))]<|aE<|aI rfl (fun e11=>?_) (fun e11=>?_)
  ·have p11:=dZ e11
   refine au<|aO<|aC<|tK [.ix] [74] [(75,.pointer<|some<|(aZ al'3).add (kt*1))] (o1<|bH 2 kt dL rfl (by omega)) ?_
   obtain⟨x10,hx10⟩: ∃x,((dC kc<|cF kc l))[kt]? =some x:=⟨_,dA<|by omega⟩
   refine kq [.rd [i_ x10]] [75] [(13,i_ x10)] (o1<|ro ((aZ al'3).add (kt*1))<|dY (vs:=[i_ x10]) dL (cV (i:=2) rfl) hx10 (Nat.le_of_ble_eq_true rfl) rfl)<|aC<|iE [.cq<|.tuple #[.agg (pX kc l x10).toArray,i_<|fA (cF kc l) x10],.al,.st 11] [] (fun b11=>[(14,p_ b11),(15,i_<|fA (cF kc l) x10)]) (fun b11=>[]) (fun b11=>aA b11 (pX kc l x10) 62) (fun b11=>o1<|qo<|fun w s=>sQ bc1 mx2 (cF kc l) x10 w (s.mem (i:=3) rfl)<|s.mem (i:=4) rfl) ?_
   intro b11
   refine aC<|bA 5 [.ld 5] [(86,.map<|some my),(87,i_ x10)]<|aG<|MY (f:=fc) (kt:=3) (et:=167) (ek:=(fun k:Int=>i_ k)) (ev:=(fun m:En=>p_ m.eb)) (kv:=kbk) (k:=x10) (H':=[df my<|aY kbk x10,eD mk kkk,sI al'3 (dC kc<|cF kc l) cl'4,lC bc1 mx2,cU mx2<|cF kc l,nq sb lt lm bc1 my a tl mk ck ac,lC bt mc,cU mc kc,eM a on ka,eu tl et ek,eJ W,aA b11 (pX kc l x10) 62]) 0 (by kernel_rfl) rfl rfl rfl (by kernel_rfl) eE rfl rfl (dP<|aC<|bA 5 [.ld 5] [(8,p_ bc1),(71,mU al'3 kc l cl'4),(72,wH kc l),(73,c_ kt),(13,i_ x10),(14,p_ b11),(15,i_<|fA (cF kc l) x10),(91,.map<|some mk),(92,i_ x10)]<|aG<|MY (f:=(eF 192)) (kt:=3) (et:=136) (ek:=(fun k:Int=>i_ k)) (ev:=(fun m:Vt=>p_ m.be)) (kv:=kkk) (k:=x10) (H':=[eD mk<|aY kkk x10,df my<|aY kbk x10,sI al'3 (dC kc<|cF kc l) cl'4,lC bc1 mx2,cU mx2<|cF kc l,nq sb lt lm bc1 my a tl mk ck ac,lC bt mc,cU mc kc,eM a on ka,eu tl et ek,eJ W,aA b11 (pX kc l x10) 62]) 1 (by kernel_rfl) rfl rfl rfl (by kernel_rfl) eE rfl rfl (dP<|aE<|aD [(94,b_<|(fA (cF kc l) x10)==0)]<|aI rfl (fun e12=>?_) (fun e12=>?_)))
   ·have p12:=e12;try simp only[bQ] at p12
    refine j6 [6,7] 8 [eD mk<|aY kkk x10,sI al'3 (dC kc<|cF kc l) cl'4,lC bc1 mx2,cU mx2<|cF kc l,nq sb lt lm bc1 my a tl mk ck ac,lC bt mc,cU mc kc,eM a on ka,eu tl et ek,eJ W,aA b11 (pX kc l x10) 62]<|gq 2 [.ld 4,.ld 10] (rg 0 6) [(0,p_ sb),(8,p_ bc1),(71,mU al'3 kc l cl'4),(72,wH kc l),(73,c_ kt),(13,i_ x10),(14,p_ b11),(15,i_<|fA (cF kc l) x10),(98,.map<|some my),(99,i_ x10),(100,.agg (pX kc l x10).toArray)] (sd [1])<|fk 6 rfl (bM (some 101) [] (Qq (aN (cF kc l) x10)<|PO hL3 ‹_›) ?_)
    rintro m12 hz13
    refine ff (sd [2,0])<|fk 7 rfl (Am (f:=fc) (kt:=3) (et:=167) (ek:=(fun k:Int=>i_ k)) (ev:=(fun m:En=>p_ m.eb)) (kv:=(aY kbk x10)) (k:=x10) (H':=[df my<|aK (aY kbk x10) x10 m12,eD mk<|aY kkk x10,sI al'3 (dC kc<|cF kc l) cl'4,lC bc1 mx2,cU mx2<|cF kc l,nq sb lt lm bc1 my a tl mk ck ac,lC bt mc,cU mc kc,eM a on ka,eu tl et ek,eJ W,aA b11 (pX kc l x10) 62]) 2 0 m12 (by kernel_rfl) rfl rfl rfl rfl (by kernel_rfl) eE rfl rfl rfl (ff (sd [0])<|jP<|aC<|bF [.o,.ld 11,.cl] [(108,b_<|((fA (cF kc l) x10)==0)&&(!((aN (cF kc l) x10).hl)))]<|aI rfl (fun e14=>?_) (fun e14=>?_)))
    ·have p14:=e14;try simp only[bQ] at p14
     refine j6 [5,6] 7 [df my<|aK (aY kbk x10) x10 m12,sI al'3 (dC kc<|cF kc l) cl'4,lC bc1 mx2,cU mx2<|cF kc l,nq sb lt lm bc1 my a tl mk ck ac,lC bt mc,cU mc kc,eM a on ka,eu tl et ek,eJ W,aA b11 (pX kc l x10) 62]<|gq 2 [.ld 4] (rg 0 5) [(0,p_ sb),(8,p_ bc1),(71,mU al'3 kc l cl'4),(72,wH kc l),(73,c_ kt),(112,.map<|some mk),(113,i_ x10)] (sd [1])<|fk 5 rfl (bM (some 114) [] wV ?_)
     rintro v13 hz15
     refine ff (sd [2,0])<|fk 6 rfl (Am (f:=(eF 192)) (kt:=3) (et:=136) (ek:=(fun k:Int=>i_ k)) (ev:=(fun m:Vt=>p_ m.be)) (kv:=(aY kkk x10)) (k:=x10) (H':=[eD mk<|aK (aY kkk x10) x10 v13,df my<|aK (aY kbk x10) x10 m12,sI al'3 (dC kc<|cF kc l) cl'4,lC bc1 mx2,cU mx2<|cF kc l,nq sb lt lm bc1 my a tl mk ck ac,lC bt mc,cU mc kc,eM a on ka,eu tl et ek,eJ W,aA b11 (pX kc l x10) 62]) 2 0 v13 (by kernel_rfl) rfl rfl rfl rfl (by kernel_rfl) eE rfl rfl rfl (ff (sd [0])<|jP<|aM<|az [.w<|(kt:Int)+1] [(73,i_<|(kt:Int)+1)] (o1<|wj ((kt:Int)+1)<|by omega)<|bC (kt+1,aK (aY kbk x10) x10 m12,aK (aY kkk x10) x10 v13) ⟨(by omega),(by exact fun _ _ h=>hC _ _<|Bg ‹_› (.inr ⟨by assumption,_,by assumption,rfl,.inr ⟨by(simp_all;done),_,(by assumption:_∧_).1,(by assumption:_∧_).2,rfl⟩⟩) h)⟩ (by(show(dC kc<|cF kc l).length-(kt+1)<(dC kc<|cF kc l).length-kt;omega)) ?_))
     exact bB [1,0,0,0,0,0,0,0,0,0,0]
    have p14:=e14;try simp only[bQ] at p14
    refine aP<|aM<|kq [.w<|(kt:Int)+1] [13,108] [(73,i_<|(kt:Int)+1)] (o1<|wj ((kt:Int)+1)<|by omega)<|bC (kt+1,aK (aY kbk x10) x10 m12,aY kkk x10) ⟨(by omega),(by exact fun _ _ h=>hC _ _<|Bg ‹_› (.inr ⟨by assumption,_,by assumption,rfl,.inl ⟨by(simp_all;done),rfl⟩⟩) h)⟩ (by(show(dC kc<|cF kc l).length-(kt+1)<(dC kc<|cF kc l).length-kt;omega)) ?_
    exact bB [0,0,0,0,0,0,0,0,0,0,0]
   have p12:=e12;try simp only[bQ] at p12
   refine aP<|aC<|dV [.o,.ld 11,.cl] [14,15,94] [(108,b_<|((fA (cF kc l) x10)==0)&&(!((aN (cF kc l) x10).hl)))]<|aI rfl (fun e16=>?_) (fun e16=>?_)
   ·exact absurd e16<|by(intro h_;simp_all)
   have p16:=e16;try simp only[bQ] at p16
   refine aP<|aM<|kq [.w<|(kt:Int)+1] [13,108] [(73,i_<|(kt:Int)+1)] (o1<|wj ((kt:Int)+1)<|by omega)<|bC (kt+1,aY kbk x10,aY kkk x10) ⟨(by omega),(fun _ _ h=>hC _ _<|Bg ‹_› (.inl ⟨by assumption,rfl,rfl⟩) h)⟩ (by(show(dC kc<|cF kc l).length-(kt+1)<(dC kc<|cF kc l).length-kt;omega)) ?_
   exact bB [1,0,0,0,0,0,0,0,0,0,0]
  have p11:=ga e11
  refine bR<|aC<|fg [.p,.p] [8,71,72,73,74] [(116,p_ sb),(117,p_ bc1)]<|aG<|dG (some 118) [] (fun w s h=>LV bc1 mx2 (cF kc l) (by omega) w (s.mem (i:=3) rfl) (s.mem (i:=4) rfl) h) ?_
  rintro a14 hz17
  refine gY [.st 6] [116,117,118] [] [(6,nq sb lt lm bc1 my a14 tl mk ck ac)]<|aE<|aE ?_
  have hB3:=KD hB hnb<|hC _ _ (by rw[List.drop_eq_nil_of_le<|by omega];exact⟨rfl,rfl⟩)
  have hya:a14.ym=eZ (cF kc l):=by assumption
  have hdp:=fun i=>hya▸vI hL3 i
  have hlf:(eN (cF kc l) kbk).length≤64:=Nat.le_trans (List.length_filter_le _ _)<|Nat.le_trans (pH _ _) hL3.len
  refine aM<|cP [.p] [(121,p_ sb)]<|aG<|dG (some 122) [] (fun w s h=>Bf sb lt lm bc1 mx2 (cF kc l) my kbk a14.bs tl.be mk ck ac ‹_› ‹_› w (s.mem (i:=6) rfl) (s.mem (i:=4) rfl) (s.mem (i:=5) rfl) (s.mem (i:=1) rfl) h) ?_
  rintro⟨al'15,cl'16⟩-
  refine dV [] [121] [(122,vS al'15 (eN (cF kc l) kbk) cl'16),(123,i_ ((eN (cF kc l) kbk).length:Int)),(124,i_ 0)]<|aO<|eA (σ:=Nat×(bm Int)×(bm MB)) [] (fun(k2,onk,kak)=>[(124,c_ k2)]) [1] (fun(k2,onk,kak)=>[eM a14 onk kak]) (fun(k2,onk,kak)=>(k2≤(eN (cF kc l) kbk).length)∧(∀on' ka',sj a14.ym ((eN (cF kc l) kbk).drop k2) onk kak on' ka'→sj a14.ym (eN (cF kc l) kbk) [] [] on' ka')) (fun(k2,onk,kak)=>(eN (cF kc l) kbk).length-k2) (0,[],[]) ⟨(by omega),(fun _ _ h=>h)⟩ ?_ ?_
  ·exact bB [1,0,0,0,0,0,0,0,0,0,0,0,0]
  rintro⟨k2,onk,kak⟩ ⟨hk2,hO⟩
  refine aD [(123,i_ ((eN (cF kc l) kbk).length:Int)),(124,c_ k2),(125,b_<|decide ((k2:Int)<((eN (cF kc l) kbk).length:Int)))]<|aE<|aI rfl (fun e19=>?_) (fun e19=>?_)
  ·have p19:=dZ e19
   refine au<|aO<|aC<|tK [.ix] [125] [(126,.pointer<|some<|(aZ al'15).add (k2*1))] (o1<|bH 1 k2 dL rfl (by omega)) ?_
   obtain⟨x18,hx18⟩: ∃x,((eN (cF kc l) kbk))[k2]? =some x:=⟨_,dA<|by omega⟩
   refine kq [.rd [i_ x18]] [126] [(17,i_ x18)] (o1<|ro ((aZ al'15).add (k2*1))<|dY (vs:=[i_ x18]) dL (cV (i:=1) rfl) hx18 (Nat.le_of_ble_eq_true rfl) rfl)<|aM<|fg [.p,.p,.p,.ld 7,.p] [17] [(131,p_ a14.bs),(132,i_ x18)]<|aG<|bM (some 133) [0] (Em a14 onk kak x18<|hdp _) ?_
   rintro⟨on'19,ka'20,al'21,l'22,cl'23,er24⟩ hz20
   refine dP<|aM<|kq [.w<|(k2:Int)+1] [131,132,133] [(124,i_<|(k2:Int)+1)] (o1<|wj ((k2:Int)+1)<|by omega)<|bC (k2+1,on'19,ka'20) ⟨(by omega),(fun _ _ h=>hO _ _<|OK ‹_› ‹_› h)⟩ (by(show(eN (cF kc l) kbk).length-(k2+1)<(eN (cF kc l) kbk).length-k2;omega)) ?_
   exact bB [0,1,1,1,1,1,1,1,1,1,1,1,1]
  have p19:=ga e19
  refine bR<|aC<|dV [] [0,122,123,124,125] [(6,i_ 0),(7,i_ 0)]<|aF<|bJ [7,5,5,2,0,6,1,5] [i_ 0,i_ 0] (0,0,bc1,mx2,cF kc l,kbk,a14,onk,kak,kkk) ?_ ?_
  ·rfl
  exact .inr ⟨rfl,hch,rfl,hC _ _ (by rw[List.drop_eq_nil_of_le<|by omega];exact⟨rfl,rfl⟩),by assumption,hO _ _ (by rw[List.drop_eq_nil_of_le<|by omega];exact⟨rfl,rfl⟩),rfl⟩
 refine fS [.ld 0,.ld 0,.cq<|.tuple #[n_,i_<|ji kc lt l,i_<|gw kc lt l]] (rg 0 18) [2,19] [(8,n_),(9,i_<|ji kc lt l),(10,i_<|gw kc lt l)] (o1<|qo<|fun w s=>SY bt mc kc lt al l cl ‹_› ‹_› ‹_› ‹_› w (s.mem (i:=1) rfl) (s.mem (i:=2) rfl) ((t8 (i:=7) rfl harr) w s))<|aE<|aD [(36,b_<|(gw kc lt l)!=0)]<|aI rfl (fun e21=>?_) (fun e21=>?_)
 ·have p21:=e21;try simp only[bQ] at p21
  refine aC<|dV [] [0,1,8,9,10,36] [(6,i_<|ji kc lt l),(7,i_<|gw kc lt l)]<|aF<|bJ [0,0,0,0,0,0,0,0] [i_<|ji kc lt l,i_<|gw kc lt l] ((ji kc lt l),gw kc lt l,bt,mc,kc,kb,a,on,ka,kk) ?_ ?_
  ·rfl
  exact .inl ⟨by assumption,(fun h_=>by obtain⟨h1_,h2_,h3_⟩:=h_;exact absurd h1_ htr),rfl,rfl,rfl,rfl,rfl,rfl,rfl,rfl,(if_neg htr).symm,(if_neg htr).symm⟩
 exact absurd e21<|by(intro h_;simp at h_;exact htr h_)
structure Ss where
 sb:Nat
 lt:Int
 lm:Int
 my:Nat
 kp:Nat
 tl:Vt
structure Sd where
 bt:Nat
 mc:Nat
 kc:List (Int×Cl)
 kb:List (Int×En)
 a:Ac
 on:List (Int×Int)
 ka:List (Int×MB)
 et:T
 ek:List (Int×It)
 kk:List (Int×Vt)
 ck:Int
 ac:Int
def lj(c:Ss)(d:Sd):List V.aH:=[aA c.sb [i_ c.lt,i_ c.lm,p_ d.bt,.map<|some c.my,p_ d.a.bs,p_ c.tl.be,.map<|some c.kp,u_ d.ck,u_ d.ac] 141,aA d.bt [.map<|some d.mc] 185,cU d.mc d.kc,df c.my d.kb,eM d.a d.on d.ka,eu c.tl d.et d.ek,eD c.kp d.kk]
def eO(c:Ss)(d:Sd):V.aH:=co<|lj c d
structure pZ(c:Ss)(d:Sd):Prop where
 lt1:1≤c.lt∧c.lt≤65536
 lm1:1≤c.lm∧c.lm≤16384
 laid:cK d.kc
 aok:mq d.kc
 by_:eQ d.kc d.kb
 nb:(d.kb.map (·.1)).Nodup
 kd:jw d.kc 600 d.kk
 ym:d.a.ym=eZ d.kc
 el:d6 d.et d.ek
 len:d.ek.length≤600
 desc: ∀now,pW d.kb d.kk now 17 0
 pk: ∀i m,aB d.kb i=some m→ ∀p∈qC m.q,1≤p.qn∧p.qn≤16384
 ch: ∀now,(dq d.et d.kb d.kk now).2.2=true→ ∃m,aB d.kb (dq d.et d.kb d.kk now).1=some m∧qC m.q≠[]
def AY(d:Sd):Prop:=(d.kb.map (·.1)).Nodup∧(d.kk.map (·.1)).Nodup∧(d.on.map (·.1)).Nodup
variable{d:Sd}
theorem D7{c:Ss}{w:World}(h:(eO c d).holds w):AY d:=by
 have h1:=h (df c.my d.kb)<|by simp[lj]
 have h2:=h (eD c.kp d.kk)<|by simp[lj]
 have h3:=h (eM d.a d.on d.ka)<|by simp[lj]
 exact⟨(nO h1).2,(pV h2).2,(show(fj d.a.mo d.on).holds w from h3 _<|by simp[iz]).2⟩
def MI(d d':Sd):Prop:=d'.bt=d.bt∧d'.mc=d.mc∧d'.kc=d.kc∧d'.a=d.a∧AY d'
def pa(d:Sd)(now:Int)(z:Pd)(ok:Bool)(d':Sd):Prop:=MI d d'∧d'.ck=now∧d'.ac=d.ac∧LY d.kc (dq d.et d.kb d.kk now) z ok d.kb d.a.ym d.on d.ka d.et d.ek d.kk d'.kb d'.on d'.ka d'.et d'.ek d'.kk
def pq(c:Ss)(d:Sd)(now ci:Int)(p:Pk)(er:Int)(d':Sd):Prop:=MI d d'∧d'.ck=now∧Lp d.kc c.lm now ci p er d.kb d.a.ym d.on d.ka d.et d.ek d.kk d.ac d'.kb d'.on d'.ka d'.et d'.ek d'.kk d'.ac
def tc(c:Ss)(d:Sd)(idle:Bool)(l:List Zc)(pl er:Int)(d':Sd):Prop:=d'.et=d.et∧d'.ek=d.ek∧d'.ck=d.ck∧d'.ac=d.ac∧If c.lt idle l pl er d.bt d.mc d.kc d.kb d.a d.on d.ka d.kk d'.bt d'.mc d'.kc d'.kb d'.a d'.on d'.ka d'.kk∧AY d'
theorem UB(c:Ss)(d:Sd)(now:Int)(h:pZ c d)(h1:d.ck≤now)(h2:now≤4611686018427387904)(w:World)(hs:HS w (aL [eO c d]) [eO c d] w):Calls Tryz.prog 114 #[p_ c.sb,u_ now] w fun e w'=> ∃zz:Pd×Bool×Sd,e= .returned (.tuple #[.agg (EX zz.1).toArray,b_ zz.2.1])∧pa d now zz.1 zz.2.1 zz.2.2∧Turn [eO c d] [eO c zz.2.2] w w':=by
 refine(Tq c.sb c.lt c.lm d.bt d.mc d.kc c.my d.kb d.a d.on d.ka c.tl d.et d.ek c.kp d.kk d.ck d.ac now h.laid h.by_ h.kd h.ym h.el h.len (h.desc now) (h.ch now) h1 h2 w<|HS.coS hs).mono ?_
 rintro e w' ⟨⟨z,ok,kb',on',ka',et',ek',kk'⟩,a1,a2,a3⟩
 exact⟨(z,ok,{d with kb:=kb',on:=on',ka:=ka',et:=et',ek:=ek',kk:=kk',ck:=now}),a1,⟨⟨rfl,rfl,rfl,rfl,D7 (c:=c)<|(Turn.coS a3).all _ (List.mem_singleton.2 rfl)⟩,rfl,rfl,a2⟩,Turn.coS a3⟩
theorem WU(c:Ss)(d:Sd)(now ci:Int)(p:Pk)(h:pZ c d)(h1:d.ck≤now)(h2:now≤4611686018427387904)(w:World)(hs:HS w (aL [eO c d]) [eO c d] w):Calls Tryz.prog 76 #[p_ c.sb,u_ now,i_ ci,.agg (gZ p).toArray] w fun e w'=> ∃zz:Int×Sd,e= .returned (i_ zz.1)∧pq c d now ci p zz.1 zz.2∧Turn [eO c d] [eO c zz.2] w w':=by
 refine(WO c.sb c.lt c.lm d.bt d.mc d.kc c.my d.kb d.a d.on d.ka c.tl d.et d.ek c.kp d.kk d.ck d.ac now ci p h.laid h.by_ h.kd h.ym h.el h.len h.lm1.2 h1 h2 w<|HS.coS hs).mono ?_
 rintro e w' ⟨⟨er,kb',on',ka',et',ek',kk',ac'⟩,a1,a2,a3⟩
 exact⟨(er,{d with kb:=kb',on:=on',ka:=ka',et:=et',ek:=ek',kk:=kk',ck:=now,ac:=ac'}),a1,⟨⟨rfl,rfl,rfl,rfl,D7 (c:=c)<|(Turn.coS a3).all _ (List.mem_singleton.2 rfl)⟩,rfl,a2⟩,Turn.coS a3⟩
theorem WV(c:Ss)(d:Sd)(h:pZ c d)(w:World)(r:(eO c d).holds w):Calls Tryz.prog 119 #[p_ c.sb] w fun e w'=>e= .returned (u_<|kY d.et d.kk)∧Fr [] w w':=by
 have hv: ∃v,aB d.kk 0=some v∧d6 v.t v.kv:=by obtain⟨v,h1,h2,-⟩:=h.kd 0<|.inl rfl;exact⟨v,h1,h2⟩
 exact Tu c.sb c.lt c.lm d.bt d.mc d.kc c.my d.kb d.a d.on d.ka c.tl d.et d.ek c.kp d.kk d.ck d.ac h.el hv w (r _<|by simp[lj]) (r _<|by simp[lj]) (r _<|by simp[lj]) (r _<|by simp[lj]) (r _<|by simp[lj]) (r _<|by simp[lj])<|r _<|by simp[lj]
theorem PR(c:Ss)(d:Sd)(W:World)(idle:Bool)(al:bn)(l:List Zc)(cl:Nat)(h:pZ c d)(ha:dR W al (V.aQ gi l))(hz: ∀z∈l,iy z)(w:World)(hs:HS w (aL [eO c d,eJ W]) [eO c d,eJ W] w):Calls Tryz.prog 46 #[p_ c.sb,b_ idle,vS al l cl] w fun e w'=> ∃zz:Int×Int×Sd,e= .returned (.tuple #[i_ zz.1,i_ zz.2.1])∧tc c d idle l zz.1 zz.2.1 zz.2.2∧Turn [eO c d,eJ W] [eO c zz.2.2,eJ W] w w':=by
 refine(PQ c.sb c.lt c.lm d.bt d.mc d.kc c.my d.kb d.a d.on d.ka c.tl d.et d.ek c.kp d.kk d.ck d.ac W idle al l cl ha h.laid h.aok hz h.by_ h.nb w ?_).mono ?_
 ·have:=hs.coO (l:=lj c d) (R:=[eJ W]);rwa[show aL [eO c d,eJ W]=aL (lj c d++[eJ W]) from nJ _ _] at this
 rintro e w' ⟨⟨pl,er,bt',mc',kc',kb',a',on',ka',kk'⟩,a1,a2,a3⟩
 have h3:Turn [eO c d,eJ W] [eO c {d with bt:=bt',mc:=mc',kc:=kc',kb:=kb',a:=a',on:=on',ka:=ka',kk:=kk'},eJ W] w w':=Turn.coI (X:=[eJ W]) (Y:=[eJ W]) (Is:=lj c d) (Os:=lj c _) a3
 exact⟨(pl,er,{d with bt:=bt',mc:=mc',kc:=kc',kb:=kb',a:=a',on:=on',ka:=ka',kk:=kk'}),a1,⟨rfl,rfl,rfl,rfl,a2,D7<|h3.all _<|List.mem_cons_self ..⟩,h3⟩
def gQ:Int:=18446744073709551615
def nX(kk:List (Int×Vt))(i:Int):Int:=iZ<|((aB kk i).map fun v:Vt=>v.t.toL).getD []
def oz(kc:List (Int×Cl))(p:Int):Prop:=p=0∨ ∃c,aB kc p=some c∧c.hl=false
structure Ww(kc:List (Int×Cl))(A:Int→Prop)(kk:List (Int×Vt))(E:Int→Prop)(p:Int)(v:Vt):Prop where
 er:d6 v.t v.kv
 key: ∀i,aB v.kv i≠none↔A i∧(aN kc i).hp=p
 rng: ∀i y,aB v.kv i=some y→y.ka≤gQ
 fit: ∀i y,aB v.kv i=some y→(aN kc i).hl=false→ ¬E i→nX kk i≤y.va
def KT(kc:List (Int×Cl))(A:Int→Prop)(kk:List (Int×Vt))(E:Int→Prop):Prop:= ∀p,oz kc p→ ∃v,aB kk p=some v∧Ww kc A kk E p v
variable{B E E':Int→Prop}
theorem q8(h:KT kc B kk E)(he: ∀q,B q→E q→E' q):KT kc B kk E':=fun p hp=>by
 obtain⟨v,h1,h2⟩:=h p hp
 exact⟨v,h1,h2.er,h2.key,h2.rng,fun i y hy hl hn=>h2.fit i y hy hl fun hE=>hn<|he i ((h2.key i).1 (by rw[hy];simp)).1 hE⟩
variable{v:Vt}
theorem vn{p:Int}(h:p≠i):nX (aK kk p v) i=nX kk i:=by unfold nX;rw[fN,if_neg h]
variable{c:Cl}
theorem WY(hL:cK kc)(h:aB kc i=some c):c.hp≠i:=by
 obtain⟨h1,h2⟩:=hL.key i c h
 have:=rq h2;omega
variable{t:T}
theorem KO(hL:cK kc)(h:KT kc B kk E)(hc:aB kc z=some c)(hm:m.ec=c)(hv:aB kk c.hp=some v)
  (ha:ez on ka z=true)(hr:m.sh.sq11≤gQ)(he:d6 t (u7 on ka kk m z v t).kv)(hE: ∀q,E q→q=z∨E' q)(hp:E' c.hp):KT kc (fun q=>B q∨q=z) (aK kk c.hp<|u7 on ka kk m z v t) E':=by
 have hzc:=WY hL hc
 have hgz:aN kc z=c:=iP hc
 have hhi:m.ec.hi=z:=by rw[hm];exact(hL.key z c hc).1
 intro p hpi
 obtain⟨v0,h1,h2⟩:=h p hpi
 by_cases e:c.hp=p
 ·subst e
  rw[hv] at h1;cases h1
  refine⟨_,jS _ _ _,he,fun i=>?_,fun i y hy=>?_,fun i y hy hl hn=>?_⟩
  ·show aB (aK v.kv z _) i≠none↔_
   rw[fN];by_cases q:z=i
   ·rw[if_pos q];subst q;simp[hgz]
   ·rw[if_neg q,h2.key];simp[show¬i=z from fun e=>q e.symm]
  ·change aB (aK v.kv z _) i=some y at hy
   rw[fN] at hy;by_cases q:z=i
   ·rw[if_pos q] at hy;cases hy;exact hr
   ·rw[if_neg q] at hy;exact h2.rng i y hy
  ·change aB (aK v.kv z _) i=some y at hy
   rw[fN] at hy;by_cases q:z=i
   ·subst q
    rw[if_pos rfl] at hy;cases hy
    rw[vn hzc]
    show nX kk z≤mH on ka kk m
    unfold mH
    rw[hgz] at hl
    rw[if_neg (by rw[hm,hl,←hm,hhi,ha];simp),hhi]
    unfold nX cX;split<;>omega
   ·rw[if_neg q] at hy
    have hne:c.hp≠i:=fun e=>hn<|e▸hp
    rw[vn hne]
    exact h2.fit i y hy hl fun h5=>hn<|(hE i h5).resolve_left fun e=>q e.symm
 ·refine⟨v0,by rw[fN,if_neg e];exact h1,h2.er,fun i=>?_,h2.rng,fun i y hy hl hn=>?_⟩
  ·rw[h2.key];constructor
   ·rintro⟨a,b⟩;exact⟨.inl a,b⟩
   ·rintro⟨a|a,b⟩
    ·exact⟨a,b⟩
    ·subst a;rw[hgz] at b;exact absurd b e
  ·have h6:=(h2.key i).1 (by rw[hy];simp)
   have hiz:i≠z:=fun q=>by subst q;rw[hgz] at h6;exact e h6.2
   have hne:c.hp≠i:=fun e=>hn<|e▸hp
   rw[vn hne]
   exact h2.fit i y hy hl fun h5=>hn<|(hE i h5).resolve_left hiz
theorem C5(hL:cK kc)(h:aB kc i=some c):c.hp∈bf kc c.hp∨c.hp=0:=by
 rcases hL.par i c h with h1|⟨p,h1,-⟩
 ·exact .inr h1
 ·left;rw[jT hL h1];exact List.mem_cons_self ..
variable{A':Int→Prop}
theorem C6(hL:cK kc)(hB:eQ kc kb)(hR: ∀i m,aB kb i=some m→m.sh.sq11≤gQ)(hA: ∀q,aB kc q≠none→(ez on ka q=true↔A' q)):
  ∀(n:Nat)(i:Int)(B:Int→Prop)(kk kk':bm Vt),dep kc i≤n→lT on ka kb (bf kc i) kk kk'→KT kc B kk (fun q=>q∈bf kc i∨q=0)→(∀q,B q→A' q)→KT kc (fun q=>B q∨(q∈bf kc i∧A' q)) kk' (fun q=>q=0)
 |n,i,B,kk,kk',hn,hS,hK,hBA=>by
  cases e:aB kc i with
  |none=>
   rw[nm e] at hS hK⊢
   cases hS
   have:(fun q=>B q∨(q∈([]:bT)∧A' q))=B:=by funext q;simp
   rw[this];exact q8 hK fun q _ h=>h.resolve_left<|by simp
  |some c=>
   cases n with
   |zero=>rw[jD hL e] at hn;omega
   |succ n=>
    rw[jD hL e] at hn
    rw[jT hL e] at hS hK⊢
    rcases hS with⟨h1,hS⟩|⟨h1,m,v,t,hm,hv,he,hS⟩
    ·have hni: ¬A' i:=fun h=>by have:=(hA i (by rw[e];simp)).2 h;rw[h1] at this;cases this
     have h2:=C6 hL hB hR hA n c.hp B kk kk' (by omega) hS (q8 hK fun q hq h=>by
      rcases h with h|h
      ·rcases List.mem_cons.1 h with rfl|h
       ·exact absurd (hBA _ hq) hni
       ·exact .inl h
      ·exact .inr h) hBA
     have:(fun q=>B q∨(q∈i::bf kc c.hp∧A' q))=(fun q=>B q∨(q∈bf kc c.hp∧A' q)):=by
      funext q;apply propext;constructor
      ·rintro(h|⟨h,h'⟩)
       ·exact .inl h
       ·rcases List.mem_cons.1 h with rfl|h
        ·exact absurd h' hni
        ·exact .inr ⟨h,h'⟩
      ·rintro(h|⟨h,h'⟩)
       ·exact .inl h
       ·exact .inr ⟨List.mem_cons_of_mem _ h,h'⟩
     rw[this];exact h2
    ·have hi:=(hA i (by rw[e];simp)).1 h1
     have hec:m.ec=c:=by have:=lO hB hm;rw[e] at this;cases this;rfl
     rw[hec] at hv hS
     have h2:=KO (E':=fun q=>q∈bf kc c.hp∨q=0) hL hK e hec hv h1 (hR i m hm) he (fun q h=>by
      rcases h with h|h
      ·rcases List.mem_cons.1 h with h|h
       ·exact .inl h
       ·exact .inr<|.inl h
      ·exact .inr<|.inr h)<|C5 hL e
     have h3:=C6 hL hB hR hA n c.hp _ _ kk' (by omega) hS h2 (fun q h=>by rcases h with h|h;exact hBA q h;rw[h];exact hi)
     have:(fun q=>B q∨(q∈i::bf kc c.hp∧A' q))=(fun q=>(B q∨q=i)∨(q∈bf kc c.hp∧A' q)):=by
      funext q;apply propext;constructor
      ·rintro(h|⟨h,h'⟩)
       ·exact .inl<|.inl h
       ·rcases List.mem_cons.1 h with h|h
        ·exact .inl<|.inr h
        ·exact .inr ⟨h,h'⟩
      ·rintro((h|h)|⟨h,h'⟩)
       ·exact .inl h
       ·subst h;exact .inr ⟨List.mem_cons_self ..,hi⟩
       ·exact .inr ⟨List.mem_cons_of_mem _ h,h'⟩
     rw[this];exact h3
theorem KP(hL:cK kc)(h:KT kc B kk E)(hc:aB kc z=some c)(hv:aB kk c.hp=some v)(he:d6 t (aY v.kv z)):
  KT kc (fun q=>B q∧q≠z) (aK kk c.hp {v with t:=t,kv:=aY v.kv z}) (fun q=>E q∨c.hp=q):=by
 have hgz:aN kc z=c:=iP hc
 intro p hpi
 obtain⟨v0,h1,h2⟩:=h p hpi
 by_cases e:c.hp=p
 ·subst e
  rw[hv] at h1;cases h1
  refine⟨_,jS _ _ _,he,fun i=>?_,fun i y hy=>?_,fun i y hy hl hn=>?_⟩
  ·show aB (aY v.kv z) i≠none↔_
   rw[gx h2.er.nd];by_cases q:z=i
   ·rw[if_pos q];subst q;simp
   ·rw[if_neg q,h2.key];simp[show¬i=z from fun e=>q e.symm]
  ·change aB (aY v.kv z) i=some y at hy
   rw[gx h2.er.nd] at hy;by_cases q:z=i
   ·rw[if_pos q] at hy;cases hy
   ·rw[if_neg q] at hy;exact h2.rng i y hy
  ·change aB (aY v.kv z) i=some y at hy
   rw[gx h2.er.nd] at hy;by_cases q:z=i
   ·rw[if_pos q] at hy;cases hy
   ·rw[if_neg q] at hy
    rw[vn fun e=>hn<|.inr e]
    exact h2.fit i y hy hl fun h5=>hn<|.inl h5
 ·refine⟨v0,by rw[fN,if_neg e];exact h1,h2.er,fun i=>?_,h2.rng,fun i y hy hl hn=>?_⟩
  ·rw[h2.key];constructor
   ·rintro⟨a,b⟩;exact⟨⟨a,fun q=>by subst q;rw[hgz] at b;exact e b⟩,b⟩
   ·rintro⟨⟨a,-⟩,b⟩;exact⟨a,b⟩
  ·rw[vn fun e=>hn<|.inr e]
   exact h2.fit i y hy hl fun h5=>hn<|.inl h5
theorem JF(hL:cK kc): ∀(l:bT)(B E:Int→Prop)(kk kk':bm Vt),KT kc B kk E→od kc l kk kk'→KT kc (fun q=>B q∧q∉l) kk' (fun q=>E q∨ ∃z∈l,(aN kc z).hp=q)
 |[],B,E,kk,kk',h,hd=>by
  cases hd
  have:(fun q=>B q∧q∉([]:bT))=B:=by funext q;simp
  rw[this];exact q8 h fun q _ h=> .inl h
 |i::l,B,E,kk,kk',h,⟨c,v,t,hc,hv,he,hd⟩=>by
  have h2:=JF hL l _ _ _ _ (KP hL h hc hv he) hd
  have:(fun q=>B q∧q∉i::l)=(fun q=>(B q∧q≠i)∧q∉l):=by funext q;simp[and_assoc]
  rw[this]
  refine q8 h2 fun q _ hq=>?_
  rcases hq with(hq|hq)|⟨z,hz,hq⟩
  ·exact .inl hq
  ·exact .inr ⟨i,List.mem_cons_self ..,by rw[iP hc];exact hq⟩
  ·exact .inr ⟨z,List.mem_cons_of_mem _ hz,hq⟩
variable{β:Type}
theorem lz: ∀{kv:List (Int×β)},aB kv i≠none↔i∈kv.map (·.1)
 |[]=>by simp[aB]
 |p::kv=>by
  simp only[aB,List.map_cons,List.mem_cons]
  split
  ·rename_i e;simp[e]
  ·rename_i e;rw[lz (kv:=kv)];constructor
   ·exact fun h=> .inr h
   ·rintro(h|h)
    ·exact absurd h.symm e
    ·exact h
structure AO(kc:List (Int×Cl))(on:List (Int×Int))(ka:List (Int×MB))(A:Int→Prop):Prop where
 ast:pt kc (on.map (·.1)) A
 fo:qK kc A (kx ka)
 nd:(on.map (·.1)).Nodup
variable{A:Int→Prop}
theorem wL(h:AO kc on ka A)(h0:i≠0):ez on ka i=true↔A i:=by
 have e:ez on ka i=true↔aB on i≠none∨kx ka i≠[]:=by
  unfold ez;rw[Bool.or_eq_true,Option.isSome_iff_ne_none,decide_eq_true_eq,gt_iff_lt,List.length_pos_iff]
 rw[e,lz,xX];constructor
 ·rintro(h3|⟨r,h3⟩)
  ·exact h.ast.ons i h3
  ·obtain⟨h4,h5⟩:=((h.fo i).2 r).1 h3
   rcases h.ast.up r h4 with h6|h6
   ·exact absurd (h5.symm.trans h6) h0
   ·rw[h5] at h6;exact h6
 ·intro h3
  rcases h.ast.sup i h3 with h4|⟨r,h4,h5⟩
  ·exact .inl h4
  ·exact .inr ⟨r,((h.fo i).2 r).2 ⟨h4,h5⟩⟩
theorem sV(hL:cK kc)(h:aB kc i≠none):i≠0:=fun e=>h (by rw[e];exact nP hL)
theorem wW(h:eL kc i=true):aB kc i≠none:=by obtain⟨c,h1,-⟩:=kV h;rw[h1];simp
variable{kv:List (Int×β)}{c:Int}
theorem q9{v:β}:i∈(aK kv c v).map (·.1)↔i=c∨i∈kv.map (·.1):=by
 rw[←lz,←lz,fN];split
 ·rename_i e;simp[e]
 ·rename_i e;simp[show¬i=c from fun h=>e h.symm]
theorem sK(hn:(kv.map (·.1)).Nodup):i∈(aY kv c).map (·.1)↔i≠c∧i∈kv.map (·.1):=by
 rw[←lz,←lz,gx hn];split
 ·rename_i e;simp[e]
 ·rename_i e;simp[show¬i=c from fun h=>e h.symm]
variable{er:Int}
theorem Lc(hL:cK kc)(h:AO kc on ka A)(hr:rO (eZ kc) on ka c on' ka' l er)(hs:eL kc c=true)(hl:(aN kc c).hl=true)(hn: ¬A c):
  ∃A',AO kc on' ka' A'∧(∀q,A' q↔A q∨q∈bf kc c)∧ ∀i,i∈on'.map (·.1)↔i=c∨i∈on.map (·.1):=by
 have h0:=sV hL<|wW hs
 have hf:jI (eZ kc) c=true:=by rw[vg,hs,hl];rfl
 have hi:ez on ka c=false:=by rw[Bool.eq_false_iff];exact fun e=>hn<|(wL h h0).1 e
 rcases hr with⟨-,-,-,-,rfl,hk⟩|⟨h1|h1,-⟩
 ·have hW:EY kc ((aK on c<|b0 (eZ kc) c).map (·.1)) A c:={
   sh:=h.ast.sh,up:=fun q hq=>(h.ast.up q hq).imp id .inl,sup:=fun q hq=>(h.ast.sup q hq).imp (fun e=>q9.2<|.inr e) id,me:= .inl (q9.2<|.inl rfl),mysh:=hs,no:=hn
   ons:=fun q hq=>(q9.1 hq).symm.imp (h.ast.ons q) id,lf:=fun q hq=>by
    rcases q9.1 hq with rfl|hq
    ·exact hl
    ·exact h.ast.lf q hq}
  obtain⟨A',a1,a2,-,-,-⟩:=KE hL 40 c A (kx ka) hW h.fo<|vI hL c
  rw[←hk] at a2
  refine⟨A',⟨a1,a2,mN h.nd _ _⟩,fun q=>?_,fun i=>q9⟩
  rw[rp hL a1,rp hL h.ast];constructor
  ·rintro⟨m,h1,h2⟩
   rcases q9.1 h1 with rfl|h1
   ·exact .inr h2
   ·exact .inl ⟨m,h1,h2⟩
  ·rintro(⟨m,h1,h2⟩|h2)
   ·exact⟨m,q9.2<|.inr h1,h2⟩
   ·exact⟨c,q9.2<|.inl rfl,h2⟩
 ·rw[hf] at h1;cases h1
 ·rw[hi] at h1;cases h1
open Classical in
theorem U6(hL:cK kc)(h:AO kc on ka A)(hr:u6 (eZ kc) on ka c on' ka' l er)(hc:c∈on.map (·.1)):
  ∃A',AO kc on' ka' A'∧l=(bf kc c).filter (fun q=>decide (¬A' q))∧(∀q,A q↔A' q∨q∈bf kc c)∧ ∀i,i∈on'.map (·.1)↔i≠c∧i∈on.map (·.1):=by
 have hA:=h.ast.ons c hc
 have hs:=h.ast.sh c hA
 have hl:=h.ast.lf c hc
 have h0:=sV hL<|wW hs
 have hf:jI (eZ kc) c=true:=by rw[vg,hs,hl];rfl
 have hi:ez on ka c=true:=(wL h h0).2 hA
 rcases hr with⟨-,-,-,rfl,rfl,hk⟩|⟨h1|h1,-⟩
 ·have hW:D8 kc ((aY on c).map (·.1)) A c:={
   sh:=h.ast.sh,up:=h.ast.up,sup:=fun q hq hne=>(h.ast.sup q hq).imp (fun e=>(sK h.nd).2 ⟨hne,e⟩) id,me:=hA,no:=fun e=>((sK h.nd).1 e).1 rfl
   lone:=fun r hr e=>by
    rcases sP hL (h.ast.sh r hr) with h1|h1
    ·exact h0<|e.symm.trans h1
    ·rw[e,hl] at h1;exact Bool.noConfusion h1.2
   ons:=fun q hq=>h.ast.ons q ((sK h.nd).1 hq).2,lf:=fun q hq=>h.ast.lf q ((sK h.nd).1 hq).2}
  obtain⟨A',a1,a2,-,a4⟩:=Ij hL 40 c A (kx ka) hW h.fo<|vI hL c
  rw[←hk] at a2
  refine⟨A',⟨a1,a2,lJ h.nd _⟩,a4.trans<|List.filter_congr fun q _=>decide_eq_decide.2 Iff.rfl,fun q=>?_,fun i=>sK h.nd⟩
  rw[rp hL a1,rp hL h.ast];constructor
  ·rintro⟨m,h1,h2⟩
   by_cases e:m=c
   ·subst e;exact .inr h2
   ·exact .inl ⟨m,(sK h.nd).2 ⟨e,h1⟩,h2⟩
  ·rintro(⟨m,h1,h2⟩|h2)
   ·exact⟨m,((sK h.nd).1 h1).2,h2⟩
   ·exact⟨c,hc,h2⟩
 ·rw[hf] at h1;cases h1
 ·rw[hi] at h1;cases h1
theorem vo{f g:Int→Nat}(h: ∀j,j≠i→g j=f j): ∀{l:bT},l.Nodup→i∈l→(l.map g).sum+f i=(l.map f).sum+g i
 |[],_,hi=>by cases hi
 |a::l,hn,hi=>by
  obtain⟨h1,h2⟩:=List.nodup_cons.1 hn
  have hs: ∀l:bT,i∉l→(l.map g).sum=(l.map f).sum:=fun l hl=>by
   congr 1;exact List.map_congr_left fun j hj=>h j fun e=>hl<|e▸hj
  rcases List.mem_cons.1 hi with e|hi
  ·subst e;simp only[List.map_cons,List.sum_cons];rw[hs l h1];omega
  ·have:=vo h h2 hi
   have e:a≠i:=fun e=>h1<|e▸hi
   simp only[List.map_cons,List.sum_cons];rw[h a e];omega
theorem yd{f:Int→Nat}: ∀{l k:bT},l.Nodup→(∀i∈l,f i≠0→i∈k)→(l.map f).sum≤(k.map f).sum
 |[],_,_,_=>by simp
 |a::l,k,hn,h=>by
  obtain⟨h1,h2⟩:=List.nodup_cons.1 hn
  by_cases e:f a=0
  ·have:=yd (k:=k) h2 fun i hi=>h i<|List.mem_cons_of_mem _ hi
   simp only[List.map_cons,List.sum_cons];omega
  ·have hk:=h a (List.mem_cons_self ..) e
   have hp:(k.map f).sum=((a::k.erase a).map f).sum:=((List.perm_cons_erase hk).map f).sum_nat
   rw[hp]
   have:=yd (f:=f) (k:=k.erase a) h2 fun i hi hf=>(List.mem_erase_of_ne<|fun e=>h1 (by rw[←e];exact hi)).2 (h i (List.mem_cons_of_mem _ hi) hf)
   simp only[List.map_cons,List.sum_cons];omega
def vw(m:En):Cl×Option Nat×Qu:=(m.ec,m.qb,m.q)
def KQ(kb kb':List (Int×En)):Prop:= ∀j,(aB kb' j).map vw=(aB kb j).map vw
theorem pR:KQ kb kb:=fun _=>rfl
theorem vY{a b c:bm En}(h:KQ a b)(g:KQ b c):KQ a c:=fun j=>(g j).trans (h j)
theorem wM{m':En}(hm:aB kb i=some m)(e:vw m'=vw m):KQ kb (aK kb i m'):=fun j=>by
 rw[fN];by_cases q:i=j
 ·rw[if_pos q];subst q;rw[hm];simp[e]
 ·rw[if_neg q]
def qk(kb:List (Int×En))(i:Int):List Pk:=((aB kb i).map fun m:En=>qC m.q).getD []
theorem lF(h:aB kb i=some m):qk kb i=qC m.q:=by unfold qk;rw[h];rfl
theorem E7(h:KQ kb kb'){j:Int}(hm:aB kb' j=some m): ∃n,aB kb j=some n∧m.ec=n.ec∧m.qb=n.qb∧m.q=n.q:=by
 have h1:=h j;rw[hm] at h1
 cases e:aB kb j with
 |none=>rw[e] at h1;cases h1
 |some n=>rw[e] at h1;simp[vw] at h1;exact⟨n,rfl,h1⟩
theorem Ld(h:KQ kb kb'){j:Int}(hm:aB kb' j=none):aB kb j=none:=by
 have h1:=h j;rw[hm] at h1
 cases e:aB kb j with
 |none=>rfl
 |some n=>rw[e] at h1;cases h1
theorem Le(h:KQ kb kb')(j:Int):qk kb' j=qk kb j:=by
 cases e:aB kb' j with
 |none=>unfold qk;rw[e,Ld h e]
 |some m=>obtain⟨n,h1,-,-,h2⟩:=E7 h e;rw[lF e,lF h1,h2]
theorem AN(h:KQ kb kb')(hB:eQ kc kb):eQ kc kb':=fun j=>by
 cases e:aB kb' j with
 |none=>have:=(hB j).1;rw[Ld h e] at this;exact⟨this,fun m h=>by cases h⟩
 |some m=>
  obtain⟨n,h1,h2,h3,h4⟩:=E7 h e
  have:=hB j;rw[h1] at this
  exact⟨by rw[←this.1];simp[h2],fun m' h=>by cases h;exact Jt (this.2 n rfl) h2 h3 h4⟩
theorem Di(j:Int):qk (aK kb i m) j=if i=j then qC m.q else qk kb j:=by
 unfold qk;rw[fN];split<;>rfl
theorem C7(n:Int): ∀(L:bT)(kb:bm En),KQ kb<|mf n L kb
 |[],kb=>pR
 |i::L,kb=>by
  unfold mf;cases e:aB kb i with
  |none=>exact C7 n L kb
  |some m=>exact vY (wM (m':=w9 n m) e rfl)<|C7 n L _
theorem Dj(kk:bm Vt)(now:Int): ∀(L:bT)(kb:bm En),KQ kb<|lH kk now L kb
 |[],kb=>pR
 |i::L,kb=>by
  unfold lH;cases e:aB kb i with
  |none=>exact Dj kk now L kb
  |some m=>exact vY (wM (m':=rP kk now m) e rfl)<|Dj kk now L _
variable{sn:Int}{br:Bool}{et et':T}{ek ek':bm It}
theorem U7(hm:aB kb i=some m)(h:se i m sn br kb et ek kb' et' ek'):KQ kb kb':=by
 rcases h with⟨-,d,rfl,-⟩|⟨-,rfl,-⟩
 ·exact wM hm rfl
 ·exact pR
theorem WZ(h:rK kb kb'):KQ kb kb':=fun j=>by
 have:=congrArg (Option.map vw)<|h.1 j
 rw[Option.map_map,Option.map_map] at this;exact this
def nY(l:List Pk):Int:=(l.map (·.qn)).sum
def QI(m:En):Prop:=m.q.rm=m.ec.hq∧(m.q.sx.length:Int)=m.ec.hk∧m.q.bs=nY (qC m.q)
def QV(kb:List (Int×En)):Prop:= ∀i m,aB kb i=some m→m.ec.hl=true→QI m
theorem E8(h:KQ kb kb')(hq:QV kb):QV kb':=fun j m hm hl=>by
 obtain⟨n,h1,h2,-,h4⟩:=E7 h hm
 have:=hq j n h1 (by rw[←h2];exact hl)
 unfold QI at this⊢;rw[h2,h4];exact this
theorem Dk(h:QV kb)(hm:m.ec.hl=true→QI m):QV (aK kb i m):=fun j x hx hl=>by
 rw[fN] at hx;split at hx
 ·cases hx;exact hm hl
 ·exact h j x hx hl
theorem yK: ∀{l:List Pk},(∀p∈l,1≤p.qn∧p.qn≤16384)→0≤nY l∧nY l≤16384*l.length
 |[],_=>by simp[nY]
 |p::l,h=>by
  have h1:=h p<|List.mem_cons_self ..
  have h2:=yK fun q hq=>h q<|List.mem_cons_of_mem _ hq
  unfold nY at h2⊢;simp only[List.map_cons,List.sum_cons,List.length_cons];omega
theorem C9(h:0≤x∧x≤4611686018427387904):IntKind.i64.wrap x=x:=j8 (by constructor<;>omega)
theorem U8{q:Qu}{x:Pk}(h:QI m)(hk: ∀p∈qC m.q,1≤p.qn∧p.qn≤16384)(hp:w8 m.q x q):QI {m with q:=q}:=by
 obtain⟨h1,h2,h3,h4,h5⟩:=hp
 have hr:=yK (l:=qC q) fun p hp=>hk p (by rw[h2];exact List.mem_cons_of_mem _ hp)
 have hn:(qC q).length≤64:=by rw[nN];have:=h1;unfold l0 at this;omega
 refine⟨h3.trans h.1,by rw[←h.2.1];exact congrArg _ h4,?_⟩
 show q.bs=nY (qC q)
 have e:m.q.bs-x.qn=nY (qC q):=by rw[h.2.2,h2];unfold nY;simp only[List.map_cons,List.sum_cons];omega
 rw[h5,e,C9 (by constructor<;>omega)]
theorem JG{q:Qu}{x:Pk}(h:QI m)(hk: ∀p∈qC m.q,1≤p.qn∧p.qn≤16384)(hx:1≤x.qn∧x.qn≤16384∨er≠0)(hp:mX m.q x q er):QI {m with q:=q}:=by
 obtain⟨h1,h3,h4,h5⟩:=hp
 refine⟨h3.trans h.1,by rw[←h.2.1];exact congrArg _ h4,?_⟩
 show q.bs=nY (qC q)
 rcases h5 with⟨-,h0,h5,h6⟩|⟨-,-,h5,h6⟩
 ·have hx:=hx.resolve_right fun h=>h h0
  have hr:=yK (l:=qC q) fun p hp=>by
   rw[h5,List.mem_append] at hp
   rcases hp with hp|hp
   ·exact hk p hp
   ·rw[List.mem_singleton] at hp;subst hp;exact hx
  have hn:(qC q).length≤64:=by rw[nN];have:=h1;unfold l0 at this;omega
  have e:m.q.bs+x.qn=nY (qC q):=by rw[h.2.2,h5];simp[nY]
  rw[h6,e,C9 (by constructor<;>omega)]
 ·rw[h6,h5,h.2.2]
def rS(s:Sh):Prop:=s.sq2≤gQ∧s.sq6≤gQ∧s.sq11≤gQ
def RG(kb:List (Int×En)):Prop:= ∀i m,aB kb i=some m→rS m.sh
theorem MM:rS mj:=by simp[rS,mj,gQ]
theorem sW(h:RG kb)(hs:rS m.sh):RG (aK kb i m):=fun j x hx=>by
 rw[fN] at hx;split at hx
 ·cases hx;exact hs
 ·exact h j x hx
theorem JH(x:Int):IntKind.u64.wrap x≤gQ:=by
 have:=uw_lt x;unfold gQ;omega
where
 uw_lt (x:Int):IntKind.u64.wrap x<18446744073709551616:=by
  have h:IntKind.u64.bits=64:=rfl
  simp only[IntKind.wrap,h];simp;omega
theorem sL{a b:Int}(h:a≤gQ)(g:b≤gQ):cX a b≤gQ:=by unfold cX;split<;>assumption
theorem rM:(0:Int)≤gQ:=by decide
theorem Gq(l:Ln)(a:Nm):jE l a≤gQ:=by
 unfold jE;split
 ·exact rM
 ·split
  ·decide
  ·exact JH _
theorem Gs(r:Rn)(a:Nm):iY r a≤gQ:=by
 unfold iY;split<;>exact sL (sL rM<|Gq _ _)<|Gq _ _
def tG(r:Rn):Prop:=r.rq1≤gQ∧r.rq5≤gQ
theorem Hy{r:Rn}(h:tG r)(x:Int):js r x≤gQ:=by
 unfold js;split
 ·exact sL (sL (sL rM<|Gs _ _) h.2) h.1
 ·exact sL (sL rM<|Gs _ _) h.2
theorem Ph{l:Sh}(h:rS l)(x:Int):rS (mF l x):=by
 unfold mF;split
 ·exact⟨h.1,h.2.1,Hy ⟨h.1,h.2.1⟩ x⟩
 ·exact h
variable{c:Cv}
theorem Gt{y:Nm}(h:x≤gQ):tG (bS c x y):=by
 unfold bS;split
 ·exact⟨rM,h⟩
 ·split
  ·exact⟨h,h⟩
  ·exact⟨rM,h⟩
theorem Gu{y:Nm}(h:x≤gQ):tG (aS c x y):=by
 unfold aS;split
 ·exact⟨(Gt h).1,JH _⟩
 ·exact Gt h
theorem Gv{l m:Ln}(h:l.lq1≤gQ)(g:m.lq1≤gQ):(dW l m).lq1≤gQ:=by unfold dW;split<;>assumption
theorem Pj{a b:Rn}(h:tG a)(g:tG b):tG (cJ a b):=by
 refine⟨?_,Gv (l:=cM a) (m:=cM b) h.2 g.2⟩
 show(if a.rq9 then dW (ee a) (ee b) else pB).lq1≤gQ
 split
 ·exact Gv (l:=ee a) (m:=ee b) h.1 g.1
 ·exact rM
theorem Pm{l:Sh}(h:rS l){y:Int}(hx:x≤gQ):rS (ju l c x y):=by
 have hr:tG (bN l.sq1 (fF l)<|aS c x<|aJ y 65536):=by
  unfold bN;split
  ·exact Pj ⟨h.1,h.2.1⟩<|Gu hx
  ·exact Gu hx
 exact⟨hr.1,hr.2,Hy hr _⟩
theorem Cb(n:Int): ∀(L:bT)(kb:bm En),RG kb→RG (mf n L kb)
 |[],kb,h=>h
 |i::L,kb,h=>by
  unfold mf;cases e:aB kb i with
  |none=>exact Cb n L kb h
  |some m=>exact Cb n L _<|sW (m:=w9 n m) h<|Ph (h i m e) _
theorem U9(h:RG kb)(hm:aB kb i=some m)(hd:se i m sn br kb et ek kb' et' ek'):RG kb':=by
 rcases hd with⟨-,d,rfl,-⟩|⟨-,rfl,-⟩
 ·exact sW h<|h i m hm
 ·exact h
theorem W0(h:RG kb)(hs:rK kb kb'):RG kb':=fun j m hm=>by
 rcases hs.2 j m hm with e|⟨n,h1,h2⟩
 ·rw[e];exact MM
 ·rw[h2];exact h j n h1
def gP(kb:List (Int×En)):Prop:= ∀i m,aB kb i=some m→kC (oG m.ec)≤1∧m.li=rU
def ZK(kc:List (Int×Cl))(kk:List (Int×Vt)):Prop:= ∀p v,oz kc p→aB kk p=some v→ ∀i y,aB v.kv i=some y→y.va=0
theorem sX{m':En}(h:gP kb)(hm:aB kb i=some m)(e:m'.ec=m.ec)(hl:m'.li=rU):gP (aK kb i m'):=fun j x hx=>by
 rw[fN] at hx;split at hx
 ·cases hx;exact⟨by rw[e];exact(h i m hm).1,hl⟩
 ·exact h j x hx
theorem Cc(n:Int): ∀(L:bT)(kb:bm En),gP kb→gP (mf n L kb)
 |[],kb,h=>h
 |i::L,kb,h=>by
  unfold mf;cases e:aB kb i with
  |none=>exact Cc n L kb h
  |some m=>exact Cc n L _<|sX (m':=w9 n m) h e rfl (by show jL m.li _=rU;rw[(h i m e).2];rfl)
theorem Dl(kk:bm Vt)(now:Int): ∀(L:bT)(kb:bm En),gP kb→gP (lH kk now L kb)
 |[],kb,h=>h
 |i::L,kb,h=>by
  unfold lH;cases e:aB kb i with
  |none=>exact Dl kk now L kb h
  |some m=>exact Dl kk now L _<|sX (m':=rP kk now m) h e rfl (if_pos (h i m e).1)
theorem Ua(h:gP kb)(hm:aB kb i=some m)(hd:se i m sn br kb et ek kb' et' ek'):gP kb':=by
 rcases hd with⟨-,d,rfl,-⟩|⟨-,rfl,-⟩
 ·exact sX h hm rfl (h i m hm).2
 ·exact h
theorem W1(h:gP kb)(hs:rK kb kb'):gP kb':=fun j m hm=>by
 have h1:=hs.1 j;rw[hm] at h1
 cases e:aB kb j with
 |none=>rw[e] at h1;cases h1
 |some n=>
  rw[e] at h1;simp only[Option.map_some,Option.some.injEq,En.mk.injEq] at h1
  obtain⟨-,-,-,h2,-,-,-,h3⟩:=h1
  rw[h2,h3];exact h j n e
variable{L:List It}{y:It}
theorem BW{n:Int}(h:eC n L=some y):y∈L∧ ∀z∈L,z.ka≤n→y.va≤z.va:=by
 obtain⟨h1,h2⟩:=G2 h
 exact⟨(List.mem_filter.1 h1).1,fun z hz hn=>h2 z<|List.mem_filter.2 ⟨hz,by simpa using hn⟩⟩
theorem By: ∀(L:List It)(v:It),fq (some v) L≠none
 |[],v,h=>by simp[fq] at h
 |y::L,v,h=>By L (ai v y) h
theorem GP(hr: ∀y∈L,y.ka≤gQ)(hL:L≠[]): ∃y,eC 18446744073709551615 L=some y:=by
 have hb:bl 18446744073709551615 L=L:=by unfold bl;rw[List.filter_eq_self];intro y hy;have:=hr y hy;unfold gQ at this;simpa using this
 cases e:eC 18446744073709551615 L with
 |some y=>exact⟨y,rfl⟩
 |none=>
  exfalso;unfold eC at e;rw[hb] at e
  cases L with
  |nil=>exact hL rfl
  |cons y L=>exact By L y e
theorem KU(hr: ∀y∈L,y.ka≤gQ)(hz: ∀y∈L,y.va=0)(hL:L≠[]):iZ L=0:=by
 obtain⟨y,h⟩:=GP hr hL
 unfold iZ;rw[if_neg hL,h]
 simp[hz y (BW h).1,bD,pd]
theorem qe{kv:bm It}(h:d6 t kv)(hy:y∈t.toL):aB kv y.ki=some y:=(h.mem y).1 hy
theorem Re(h:KT kc A kk E){p:Int}(hp:oz kc p):u9 kk p≤gQ:=by
 obtain⟨v,h1,h2⟩:=h p hp
 unfold u9;rw[h1];simp only[Option.map_some,Option.getD_some]
 cases e:v.t.toL with
 |nil=>exact rM
 |cons y L=>exact h2.rng _ y<|qe h2.er (by rw[e];exact List.mem_cons_self ..)
structure Iv(c:Ss)(d:Sd):Prop where
 lt1:1≤c.lt∧c.lt≤65536
 lm1:1≤c.lm∧c.lm≤16384
 laid:cK d.kc
 aok:mq d.kc
 by_:eQ d.kc d.kb
 nd:AY d
 ym:d.a.ym=eZ d.kc
 ac: ∃A,AO d.kc d.on d.ka A∧KT d.kc A d.kk (fun q=>q=0)
 onk: ∀i,i∈d.on.map (·.1)↔eL d.kc i=true∧(aN d.kc i).hl=true∧qk d.kb i≠[]
 el:d6 d.et d.ek
 ekk: ∀i,aB d.ek i≠none→qk d.kb i≠[]∧jM (aN d.kc i)=true
 pk: ∀i,∀p∈qk d.kb i,1≤p.qn∧p.qn≤16384
 rg:RG d.kb
 qv:QV d.kb
theorem JI{k:bT}(hn:l.Nodup)(h: ∀i∈l,i∈k):l.length≤k.length:=by
 have e: ∀l:bT,(l.map fun _=>1).sum=l.length:=fun l=>by induction l with|nil=>rfl|cons a l ih=>simp only[List.map_cons,List.sum_cons,List.length_cons,ih];omega
 have:=yd (f:=fun _=>1) hn fun i hi _=>h i hi
 rwa[e,e] at this
theorem zU(hL:cK kc){ol:bT}(h:pt kc ol A)(hi:A i)(hl:(aN kc i).hl=true):i∈ol:=by
 rcases h.sup i hi with h1|⟨r,h2,h3⟩
 ·exact h1
 ·rcases sP hL (h.sh r h2) with h4|h4
  ·exact absurd (h3.symm.trans h4)<|sV hL<|wW<|h.sh i hi
  ·rw[h3,hl] at h4;exact absurd h4.2<|by simp
theorem nu(hB:eQ kc kb)(h:qk kb i≠[]): ∃m,aB kb i=some m∧aB kc i=some m.ec∧m.ec.hl=true∧aN kc i=m.ec:=by
 cases e:aB kb i with
 |none=>exact absurd (by unfold qk;rw[e];rfl) h
 |some m=>
  have hc:=lO hB e
  have ho:=(hB i).2 m e
  refine⟨m,rfl,hc,ho.lf.2 ?_,iP hc⟩
  rw[lF e] at h
  cases q:m.qb with
  |some b=>rfl
  |none=>exact absurd (List.eq_nil_of_length_eq_zero (by rw[nN];exact ho.no q)) h
theorem ye(hL:cK kc){c:Cl}(h:aB kc i=some c):oz kc c.hp:=by
 rcases hL.par i c h with h1|⟨p,h1,h2⟩
 ·exact .inl h1
 ·exact .inr ⟨p,h1,h2⟩
theorem W2(hL:cK kc)(hA: ∀i,A i→eL kc i=true)(h:KT kc A kk E):jw kc 600 kk:=fun p hp=>by
 obtain⟨v,h1,h2⟩:=h p hp
 refine⟨v,h1,h2.er,?_⟩
 have h3:=JI (l:=v.kv.map (·.1)) (k:=kc.map (·.1)) h2.er.nd fun i hi=>lz.1<|wW<|hA i ((h2.key i).1 (lz.2 hi)).1
 have h4:=hL.len
 simp at h3;omega
theorem OX{n:Int}(h:de n L=some y):y∈L∧y.va≤n:=by
 unfold de at h
 exact⟨List.mem_of_find?_eq_some h,by simpa using List.find?_some h⟩
variable{now:Int}
theorem Cd(h:KT kc A kk E)(hi:oz kc i)(hy:nR kk now i=some y): ∃v,aB kk i=some v∧aB v.kv y.ki=some y∧A y.ki∧(aN kc y.ki).hp=i∧y.va≤bD now 9223372036854775807:=by
 obtain⟨v,h1,h2⟩:=h i hi
 unfold nR at hy;rw[h1] at hy;simp only[Option.map_some,Option.getD_some] at hy
 obtain⟨h3,h4⟩:=OX hy
 have h5:=qe h2.er h3
 have h6:=(h2.key y.ki).1 (by rw[h5];simp)
 exact⟨v,h1,h5,h6.1,h6.2,h4⟩
theorem JJ(hL:cK kc)(hB:eQ kc kb)(hA: ∀i,A i→eL kc i=true)(h:KT kc A kk E)(now:Int): ∀(f:Nat)(i:Int),oz kc i→17≤dep kc i+f→pW kb kk now f i
 |0,i,hi,hd=>by have:=hL.dep i;omega
 |f+1,i,hi,hd=>by
  obtain⟨v,h1,h2⟩:=h i hi
  refine⟨⟨v,h1,h2.er⟩,fun y hy=>?_⟩
  obtain⟨v',-,-,h3,h4,-⟩:=Cd h hi hy
  obtain⟨c,h5,h6⟩:=kV<|hA _ h3
  obtain⟨m,h7,h8,-⟩:=uY hB h5
  refine⟨m,h7,?_⟩
  cases hl:m.ec.hl with
  |true=>exact .inl rfl
  |false=>exact .inr<|JJ hL hB hA h now f _ (.inr ⟨c,h5,by rw[←h8];exact hl⟩) (by rw[jD hL h5,←h6,h4];omega)
theorem KV(hL:cK kc)(hB:eQ kc kb)(hA: ∀i,A i→eL kc i=true)(h:KT kc A kk E)(now:Int): ∀(f:Nat)(i j:Int),oz kc i→kK kb kk now f i=some j→A j∧(aN kc j).hl=true
 |0,i,j,hi,hd=>by simp[kK] at hd
 |f+1,i,j,hi,hd=>by
  unfold kK at hd
  split at hd
  ·cases hd
  ·rename_i y hy
   obtain⟨v',-,-,h3,h4,-⟩:=Cd h hi hy
   obtain⟨c,h5,h6⟩:=kV<|hA _ h3
   obtain⟨m,h7,h8,-⟩:=uY hB h5
   have hlf:sY kb y.ki=c.hl:=by unfold sY;rw[h7];simp[h8]
   split at hd
   ·rename_i hl;cases hd;exact⟨h3,by rw[h6,←hlf];exact hl⟩
   ·rename_i hl
    exact KV hL hB hA h now f _ j (.inr ⟨c,h5,by rw[←hlf];simpa using hl⟩) hd
variable{c:Ss}
theorem Lr(h:Iv c d)(hc:(dq d.et d.kb d.kk now).2.2=true):qk d.kb (dq d.et d.kb d.kk now).1≠[]:=by
 unfold dq at hc⊢
 split
 ·rename_i y hy
  exact(h.ekk _ (by rw[qe h.el (BW hy).1];simp)).1
 ·rename_i hy
  rw[hy] at hc
  obtain⟨A,hA,hK⟩:=h.ac
  cases e:kK d.kb d.kk now 17 0 with
  |none=>rw[e] at hc;cases hc
  |some j=>
   obtain⟨h1,h2⟩:=KV h.laid h.by_ hA.ast.sh hK now 17 0 j (.inl rfl) e
   exact((h.onk j).1 (zU h.laid hA.ast h1 h2)).2.2
theorem KW(h:Iv c d):pZ c d:=by
 obtain⟨A,hA,hK⟩:=h.ac
 refine{lt1:=h.lt1,lm1:=h.lm1,laid:=h.laid,aok:=h.aok,by_:=h.by_,nb:=h.nd.1,kd:=W2 h.laid hA.ast.sh hK,ym:=h.ym,el:=h.el,len:= ?_,desc:=fun now=>JJ h.laid h.by_ hA.ast.sh hK now 17 0 (.inl rfl)<|by omega,pk:=fun i m hm=>by rw[←lF hm];exact h.pk i,ch:=fun now hc=>?_}
 ·have h3:=JI (l:=d.ek.map (·.1)) (k:=d.kc.map (·.1)) h.el.nd fun i hi=>by
   obtain⟨m,-,h2,-⟩:=nu h.by_ (h.ekk i<|lz.2 hi).1
   exact lz.1 (by rw[h2];simp)
  have h4:=h.laid.len
  simp at h3;omega
 ·have h1:=Lr h hc
  obtain⟨m,h2,-⟩:=nu h.by_ h1
  exact⟨m,h2,by rw[←lF h2];exact h1⟩
theorem Dm(hL:cK kc): ∀(n:Nat)(i z:Int),dep kc i≤n→z∈bf kc i→(aN kc z).hp∈bf kc i∨(aN kc z).hp=0
 |0,i,z,hn,hz=>by unfold bf at hz;rw[show dep kc i=0 by omega] at hz;simp[fX] at hz
 |n+1,i,z,hn,hz=>by
  cases e:aB kc i with
  |none=>rw[nm e] at hz;cases hz
  |some c=>
   rw[jD hL e] at hn
   rw[jT hL e] at hz⊢
   rcases List.mem_cons.1 hz with rfl|hz
   ·rw[iP e];exact(C5 hL e).imp (List.mem_cons_of_mem _) id
   ·exact(Dm hL n _ z (by omega) hz).imp (List.mem_cons_of_mem _) id
theorem JK(hn:(ek.map (·.1)).Nodup){d:Du}(j:Int):aB (xB ek i d) j=if i=j then some ⟨d.dq21,i,d.dq22,i⟩ else aB ek j:=by
 unfold xB;rw[fN];split
 ·rfl
 ·rename_i e;rw[gx hn,if_neg e]
theorem Ub(hn:(ek.map (·.1)).Nodup)(i:Int)(d:Du):((xB ek i d).map (·.1)).Nodup:=mN (lJ hn _) _ _
theorem Dn(hL:cK kc)(hB:eQ kc kb)(hR: ∀i m,aB kb i=some m→m.sh.sq11≤gQ)(hLi: ∀i m,aB kb i=some m→m.li=rU)(hA: ∀q,aB kc q≠none→(ez on ka q=true↔A' q))
  (hsup: ∀q,A' q→(aN kc q).hl=false→ ∃r d,A' r∧aB kc r=some d∧d.hp=q):
  ∀(n:Nat)(i:Int)(B:Int→Prop)(kk kk':bm Vt),dep kc i≤n→lT on ka kb (bf kc i) kk kk'→KT kc B kk (fun q=>q∈bf kc i∨q=0)→(∀q,B q→A' q)→(∀q,A' q→B q∨q∈bf kc i)→ZK kc kk→ZK kc kk'
 |n,i,B,kk,kk',hn,hS,hK,hBA,hAB,hZ=>by
  cases e:aB kc i with
  |none=>rw[nm e] at hS;cases hS;exact hZ
  |some c=>
   cases n with
   |zero=>rw[jD hL e] at hn;omega
   |succ n=>
    have hdi:=jD hL e
    rw[jT hL e] at hS hK hAB
    rcases hS with⟨h1,hS⟩|⟨h1,m,v,t,hm,hv,he,hS⟩
    ·have hni: ¬A' i:=fun h=>by have:=(hA i (by rw[e];simp)).2 h;rw[h1] at this;cases this
     refine Dn hL hB hR hLi hA hsup n c.hp B kk kk' (by omega) hS (q8 hK fun q hq h=>?_) hBA (fun q hq=>?_) hZ
     ·rcases h with h|h
      ·rcases List.mem_cons.1 h with rfl|h
       ·exact absurd (hBA _ hq) hni
       ·exact .inl h
      ·exact .inr h
     ·rcases hAB q hq with h|h
      ·exact .inl h
      ·exact .inr<|(List.mem_cons.1 h).resolve_left fun e=>hni<|e▸hq
    ·have hi:=(hA i (by rw[e];simp)).1 h1
     have hec:m.ec=c:=by have:=lO hB hm;rw[e] at this;cases this;rfl
     have hf:mH on ka kk m=0:=by
      unfold mH;split
      ·rw[hLi i m hm];rfl
      ·rename_i hx
       have hl:c.hl=false:=by rw[←hec];cases q:m.ec.hl with|false=>rfl|true=>exact absurd (.inl q) hx
       have hid:m.ec.hi=i:=by rw[hec];exact(hL.key i c e).1
       obtain⟨r,d,h2,h3,h4⟩:=hsup i hi (by rw[iP e];exact hl)
       have hr:B r:=by
        refine(hAB r h2).resolve_right fun h=>?_
        have h5:=yV hL _ i r (Nat.le_refl _) (by rw[jT hL e];exact h)
        rw[jD hL h3,h4] at h5;omega
       obtain⟨w,h6,h7⟩:=hK i<|.inr ⟨c,e,hl⟩
       have h8:=(h7.key r).2 ⟨hr,by rw[iP h3];exact h4⟩
       have h9:iZ w.t.toL=0:=by
        refine KU (fun y hy=>h7.rng _ y<|qe h7.er hy) (fun y hy=>hZ i w (.inr ⟨c,e,hl⟩) h6 _ y<|qe h7.er hy) fun h=>?_
        have:=h7.er.len;rw[h] at this
        have:=List.eq_nil_of_length_eq_zero this.symm
        rw[this] at h8;exact h8 rfl
       rw[hLi i m hm,hid,h6];simp only[Option.map_some,Option.getD_some];rw[h9];rfl
     rw[hec] at hv hS
     have h2:=KO (E':=fun q=>q∈bf kc c.hp∨q=0) hL hK e hec hv h1 (hR i m hm) he (fun q h=>by
      rcases h with h|h
      ·rcases List.mem_cons.1 h with h|h
       ·exact .inl h
       ·exact .inr<|.inl h
      ·exact .inr<|.inr h)<|C5 hL e
     refine Dn hL hB hR hLi hA hsup n c.hp _ _ kk' (by omega) hS h2 (fun q h=>by rcases h with h|h;exact hBA q h;rw[h];exact hi) (fun q hq=>?_) fun p w hpi hw j y hy=>?_
     ·rcases hAB q hq with h|h
      ·exact .inl<|.inl h
      ·exact(List.mem_cons.1 h).imp (fun e=> .inr e) id
     ·rw[fN] at hw;split at hw
      ·cases hw
       change aB (aK v.kv i _) j=some y at hy
       rw[fN] at hy;split at hy
       ·cases hy;exact hf
       ·exact hZ _ v (ye hL e) hv j y hy
      ·exact hZ p w hpi hw j y hy
theorem KX(hL:cK kc): ∀(l:bT)(B E:Int→Prop)(kk kk':bm Vt),KT kc B kk E→od kc l kk kk'→ZK kc kk→ZK kc kk'
 |[],B,E,kk,kk',h,hd,hZ=>by cases hd;exact hZ
 |i::l,B,E,kk,kk',h,⟨c,v,t,hc,hv,he,hd⟩,hZ=>by
  refine KX hL l _ _ _ _ (KP hL h hc hv he) hd fun p w hpi hw j y hy=>?_
  rw[fN] at hw;split at hw
  ·cases hw
   change aB (aY v.kv i) j=some y at hy
   obtain⟨v2,h1,h2⟩:=h c.hp<|ye hL hc
   rw[hv] at h1;cases h1
   rw[gx h2.er.nd] at hy;split at hy
   ·cases hy
   ·exact hZ _ v (ye hL hc) hv j y hy
  ·exact hZ p w hpi hw j y hy
theorem Uc(hL:cK kc)(hA:AO kc on ka A): ∀q,A q→(aN kc q).hl=false→ ∃r d,A r∧aB kc r=some d∧d.hp=q:=fun q hq hl=>by
 rcases hA.ast.sup q hq with h|⟨r,h1,h2⟩
 ·have:=hA.ast.lf q h;rw[hl] at this;cases this
 ·obtain⟨d,h3,h4⟩:=kV<|hA.ast.sh r h1
  exact⟨r,d,h1,h3,by rw[←h4];exact h2⟩
theorem Ce(hL:cK kc)(hB:eQ kc kb)(hR:RG kb)(hA:AO kc on ka A)(hS:lT on ka kb (bf kc i) kk kk')(hK:KT kc B kk (fun q=>q∈bf kc i∨q=0))
  (hBA: ∀q,B q→A q)(hAB: ∀q,A q→B q∨q∈bf kc i):KT kc A kk' (fun q=>q=0)∧(gP kb→ZK kc kk→ZK kc kk'):=by
 refine⟨?_,fun hLi hZ=>Dn hL hB (fun j m hm=>(hR j m hm).2.2) (fun j m hm=>(hLi j m hm).2) (fun q hq=>wL hA<|sV hL hq) (Uc hL hA) _ i B kk kk' (Nat.le_refl _) hS hK hBA hAB hZ⟩
 have h:=C6 hL hB (fun j m hm=>(hR j m hm).2.2) (A':=A) (fun q hq=>wL hA<|sV hL hq) _ i B kk kk' (Nat.le_refl _) hS hK hBA
 have:(fun q=>B q∨(q∈bf kc i∧A q))=A:=by
  funext q;apply propext;constructor
  ·rintro(h|h);exact hBA q h;exact h.2
  ·intro h;exact(hAB q h).imp id fun h2=>⟨h2,h⟩
 rw[this] at h;exact h
variable{d':Sd}{z:Pd}{ok:Bool}
theorem Cf(h:Iv c d)(ht:pa d now z ok d'):Iv c d'∧(∀i,qk d.kb i=(if ok=true∧z.gq1=i then[nc z] else[])++qk d'.kb i)∧(ok=true→qk d.kb z.gq1≠[])∧(gP d.kb∧ZK d.kc d.kk→gP d'.kb∧ZK d'.kc d'.kk):=by
 obtain⟨⟨hbt,hmc,hkc,ha,hnd⟩,hck,hac,hR⟩:=ht
 obtain⟨bt',mc',kc',kb',a',on',ka',et',ek',kk',ck',ac'⟩:=d'
 dsimp only at hbt hmc hkc ha hck hac hR⊢
 subst hbt hmc hkc ha hck hac
 rcases hR with⟨hc,rfl,rfl,rfl,rfl,rfl,rfl,rfl⟩|⟨hc,rfl,hz1,hz8,m,q,hm,hP,m2,kb2,kb3,kk2,hkb2,hm2,hqb,hq,hec,hD,hS,hSet⟩
 ·exact⟨⟨h.lt1,h.lm1,h.laid,h.aok,h.by_,hnd,h.ym,h.ac,h.onk,h.el,h.ekk,h.pk,h.rg,h.qv⟩,fun i=>by simp,fun e=>(by cases e),id⟩
 ·have hq0:=Lr h hc
  rw[←hz1] at hm hkb2 hm2 hD hS hSet hq0
  generalize z.gq1=i at*
  obtain⟨m',h1,hci,hl,hg⟩:=nu h.by_ hq0
  rw[hm] at h1;cases h1
  have hL:=h.laid
  have hid:m.ec.hi=i:=EV hL h.by_ hm
  have hqd:qk d.kb i=nc z::qC q:=by rw[lF hm,hP.2.1]
  obtain⟨b,hb⟩:=Option.isSome_iff_exists.1<|((h.by_ i).2 m hm).lf.1 hl
  have hB1:=CO h.by_ hm hb hP.1
  have hG1:RG (aK d.kb i {m with q:=q}):=sW h.rg<|h.rg i m hm
  have k2:=C7 z.gq3 (bf d.kc i)<|aK d.kb i {m with q:=q}
  have hG2:=Cb z.gq3 (bf d.kc i) _ hG1
  rw[←hkb2] at k2 hG2
  have k3:=U7 hm2 hD
  have hG3:=U9 hG2 hm2 hD
  have hk:KQ kb3 kb'∧RG kb'∧(gP kb3→gP kb'):=by
   rcases hS with⟨-,rfl,-⟩|⟨-,l,er,-,hSh,-⟩
   ·exact⟨pR,hG3,id⟩
   ·exact⟨WZ hSh,W0 hG3 hSh,fun h=>W1 h hSh⟩
  have hli:gP d.kb→gP kb':=fun hl=>hk.2.2<|Ua (by rw[hkb2];exact Cc _ _ _<|sX hl hm rfl (hl i m hm).2) hm2 hD
  have k:=vY (vY k2 k3) hk.1
  have hB':=AN k hB1
  have hqk: ∀j,qk kb' j=if i=j then qC q else qk d.kb j:=fun j=>by rw[Le k,Di]
  have hqi:qk kb' i=qC q:=by rw[hqk,if_pos rfl]
  have hne: ∀j,qk kb' j≠[]→qk d.kb j≠[]:=fun j hj=>by
   rw[hqk] at hj;split at hj
   ·rename_i e;subst e;exact hq0
   ·exact hj
  obtain⟨A,hA,hK⟩:=h.ac
  have hrl:jM m.ec=jM (aN d.kc i):=by rw[hg]
  have hAK:((∃A',AO d.kc on' ka' A'∧KT d.kc A' kk' (fun q=>q=0))∧ ∀j,j∈on'.map (·.1)↔eL d.kc j=true∧(aN d.kc j).hl=true∧qk kb' j≠[])∧(gP kb'→ZK d.kc d.kk→ZK d.kc kk'):=by
   have same:kk2=d.kk→on'=d.on→ka'=d.ka→(qC q≠[]∨i∉d.on.map (·.1))→((∃A',AO d.kc on' ka' A'∧KT d.kc A' kk' (fun q=>q=0))∧ ∀j,j∈on'.map (·.1)↔eL d.kc j=true∧(aN d.kc j).hl=true∧qk kb' j≠[])∧(gP kb'→ZK d.kc d.kk→ZK d.kc kk'):=by
    rintro rfl rfl rfl hx
    obtain⟨s1,s2⟩:=Ce hL hB' hk.2.1 hA hSet (q8 hK fun q _ h=> .inr h) (fun _ h=>h) fun _ h=> .inl h
    refine⟨⟨⟨A,hA,s1⟩,fun j=>?_⟩,s2⟩
    rw[h.onk,hqk];by_cases e:i=j
    ·subst e;rw[if_pos rfl]
     rcases hx with hx|hx
     ·simp[hx,hq0]
     ·rw[h.onk] at hx;constructor
      ·exact fun h=>absurd h hx
      ·exact fun h=>absurd ⟨h.1,h.2.1,hq0⟩ hx
    ·rw[if_neg e]
   rcases hS with⟨h1,-,h2,h3,h4⟩|⟨h1,l,er,hO,-,-,hDr,-⟩
   ·exact same h4 h2 h3<|.inl h1
   ·rw[h.ym] at hO
    by_cases hi:i∈d.on.map (·.1)
    ·obtain⟨A',hA',hl',hAA,hon⟩:=U6 hL hA hO hi
     have hup: ∀z∈l,z∈bf d.kc i:=fun z hz=>by rw[hl'] at hz;exact(List.mem_filter.1 hz).1
     have hK2:=JF hL l A _ d.kk kk2 hK hDr
     have e:(fun q=>A q∧q∉l)=A':=by
      funext q;apply propext
      rw[hl',hAA q];simp only[List.mem_filter,decide_eq_true_eq]
      constructor
      ·rintro⟨h5|h5,h6⟩
       ·exact h5
       ·exact Classical.byContradiction fun h7=>h6 ⟨h5,h7⟩
      ·exact fun h5=>⟨.inl h5,fun h6=>h6.2 h5⟩
     rw[e] at hK2
     have hz2:=KX hL l _ _ d.kk kk2 hK hDr
     obtain⟨s1,s2⟩:=Ce hL hB' hk.2.1 hA' hSet (q8 hK2 fun q _ h=>by
      rcases h with h|⟨z,hz,rfl⟩
      ·exact .inr h
      ·exact Dm hL _ i z (Nat.le_refl _)<|hup z hz) (fun _ h=>h) fun _ h=> .inl h
     refine⟨⟨⟨A',hA',s1⟩,fun j=>?_⟩,fun l1 l2=>s2 l1<|hz2 l2⟩
     ·rw[hon,h.onk,hqk];by_cases e:i=j
      ·subst e;rw[if_pos rfl];simp[h1]
      ·rw[if_neg e];simp[show¬j=i from fun h=>e h.symm]
    ·rcases hO with⟨-,h2,-⟩|⟨-,-,rfl,h2,h3⟩
     ·exact absurd (zU hL hA.ast ((wL hA<|sV hL (by rw[hci];simp)).1 h2) (by rw[hg];exact hl)) hi
     ·exact same hDr h2 h3<|.inr hi
  refine⟨?_,fun j=>?_,fun _=>hq0,fun hz=>⟨hli hz.1,hAK.2 (hli hz.1) hz.2⟩⟩
  ·have hEk:d6 et' ek'∧ ∀j,aB ek' j≠none→qk kb' j≠[]∧jM (aN d.kc j)=true:=by
    have hgo: ∀j,i≠j→aB d.ek j≠none→qk kb' j≠[]∧jM (aN d.kc j)=true:=fun j hj h1=>by
     rw[hqk,if_neg hj];exact h.ekk j h1
    rcases hD with⟨h1,d0,-,h2,h3⟩|⟨h1,-,rfl,rfl⟩
    ·rw[hec] at h1 h3;rw[hid,hq] at h3
     refine⟨h2,fun j hj=>?_⟩
     rcases h3 with⟨h3,rfl⟩|⟨h3,rfl⟩
     ·rw[JK h.el.nd] at hj
      by_cases e:i=j
      ·subst e;exact⟨by rw[hqi];exact h3,by rw[←hrl];exact h1⟩
      ·rw[if_neg e] at hj;exact hgo j e hj
     ·rw[gx<|Ub h.el.nd _ _] at hj
      by_cases e:i=j
      ·rw[if_pos e] at hj;exact absurd rfl hj
      ·rw[if_neg e,JK h.el.nd,if_neg e] at hj;exact hgo j e hj
    ·rw[hec] at h1
     refine⟨h.el,fun j hj=>?_⟩
     by_cases e:i=j
     ·subst e;have:=(h.ekk i hj).2;rw[←hrl,h1] at this;cases this
     ·exact hgo j e hj
   have hpk: ∀j,∀p∈qk kb' j,1≤p.qn∧p.qn≤16384:=fun j p hp=>by
    rw[hqk] at hp;split at hp
    ·exact h.pk i p (by rw[hqd];exact List.mem_cons_of_mem _ hp)
    ·exact h.pk j p hp
   exact⟨h.lt1,h.lm1,hL,h.aok,hB',hnd,h.ym,hAK.1.1,hAK.1.2,hEk.1,hEk.2,hpk,hk.2.1,E8 k<|Dk h.qv fun _=>U8 (h.qv i m hm hl) (by rw[←lF hm];exact h.pk i) hP⟩
  ·show qk d.kb j=_++qk kb' j
   rw[hqk];by_cases e:i=j
   ·subst e;simp[hqd]
   ·simp[e]
theorem W3{c:Cl}(h:aN kc i=c):qI c=eL kc i:=by rw[←h];rfl
theorem Ci(hL:cK kc)(hl: ∀p,oz kc p→u9 kk p≤gQ): ∀(L:bT)(kb:bm En),eQ kc kb→RG kb→RG (lH kk now L kb)
 |[],kb,hB,h=>h
 |i::L,kb,hB,h=>by
  unfold lH;cases e:aB kb i with
  |none=>exact Ci hL hl L kb hB h
  |some m=>exact Ci hL hl L _ (AN (wM (m':=rP kk now m) e rfl) hB)<|sW (m:=rP kk now m) h<|Pm (h i m e)<|hl _<|ye hL<|lO hB e
variable{ci:Int}{p:Pk}
theorem Dp(h:Iv c d)(ht:pq c d now ci p er d'):Iv c d'∧(∀i,qk d'.kb i=qk d.kb i++(if er=0∧ci=i then[p] else[]))∧(er=0→ci∈d.kc.map (·.1))∧(gP d.kb∧ZK d.kc d.kk→gP d'.kb∧ZK d'.kc d'.kk):=by
 obtain⟨⟨hbt,hmc,hkc,ha,hnd⟩,hck,hR⟩:=ht
 obtain⟨bt',mc',kc',kb',a',on',ka',et',ek',kk',ck',ac'⟩:=d'
 dsimp only at hbt hmc hkc ha hck hR⊢
 subst hbt hmc hkc ha hck
 have hL:=h.laid
 rcases hR with⟨he,-,-,hkb,rfl,rfl,rfl,rfl,rfl,-⟩|⟨rfl,-,m,q,hO,hP,hR⟩
 ·have hk:eQ d.kc kb'∧RG kb'∧(∀i,qk kb' i=qk d.kb i)∧(gP d.kb→gP kb')∧QV kb':=by
   rcases hkb with rfl|⟨m,q,e,hm,hP,h0,rfl⟩
   ·exact⟨h.by_,h.rg,fun _=>rfl,id,h.qv⟩
   ·obtain⟨h1,-,-,⟨-,h2,-⟩|⟨-,-,h3,-⟩⟩:=id hP
    ·exact absurd h2 h0
    ·have ho:=(h.by_ ci).2 m hm
     refine⟨zD h.by_ hm rfl ⟨ho.lf,fun hb=>?_,fun _=>h1⟩,sW h.rg<|h.rg ci m hm,fun i=>?_,fun hl=>sX hl hm rfl (hl ci m hm).2,Dk h.qv fun hl=>JG (h.qv ci m hm hl) (by rw[←lF hm];exact h.pk ci) (.inr h0) hP⟩
     ·have h4:=congrArg List.length h3
      rw[nN,nN,ho.no hb] at h4;exact h4
     ·rw[Di];split
      ·rename_i e;subst e;rw[lF hm];exact h3
      ·rfl
  refine⟨⟨h.lt1,h.lm1,hL,h.aok,hk.1,hnd,h.ym,h.ac,fun i=>?_,h.el,fun i hi=>?_,fun i q hq=>?_,hk.2.1,hk.2.2.2.2⟩,fun i=>?_,fun e=>absurd e he,fun hz=>⟨hk.2.2.2.1 hz.1,hz.2⟩⟩
  ·show i∈d.on.map (·.1)↔_
   rw[h.onk,←hk.2.2.1 i]
  ·show qk kb' i≠[]∧_
   rw[hk.2.2.1];exact h.ekk i hi
  ·exact h.pk i q (by rw[←hk.2.2.1];exact hq)
  ·rw[if_neg<|fun e=>he e.1,List.append_nil];exact hk.2.2.1 i
 ·obtain⟨hm,hl,hp1,hp2,-,-⟩:=hO
  have hci:=lO h.by_ hm
  have hg:=iP hci
  have hid:m.ec.hi=ci:=EV hL h.by_ hm
  have hqi:QV (aK d.kb ci {m with q:=q}):=Dk h.qv fun _=>JG (h.qv ci m hm hl) (by rw[←lF hm];exact h.pk ci) (.inl ⟨hp1,Int.le_trans hp2 h.lm1.2⟩) hP
  obtain⟨hqo,-,-,⟨-,-,hqq,-⟩|⟨-,h0,-⟩⟩:=hP
  rotate_left
  ·exact absurd h0<|by decide
  obtain⟨b,hb⟩:=Option.isSome_iff_exists.1<|((h.by_ ci).2 m hm).lf.1 hl
  have hB1:=CO h.by_ hm hb hqo
  have hG1:RG (aK d.kb ci {m with q:=q}):=sW h.rg<|h.rg ci m hm
  have hl1:gP d.kb→gP (aK d.kb ci {m with q:=q}):=fun hl=>sX hl hm rfl (hl ci m hm).2
  have hm1:aB (aK d.kb ci {m with q:=q}) ci=some {m with q:=q}:=jS _ _ _
  obtain⟨A,hA,hK⟩:=h.ac
  have hqn:qC q≠[]:=by rw[hqq];simp
  have fin: ∀{kb'},KQ (aK d.kb ci {m with q:=q}) kb'→ ∀i,qk kb' i=qk d.kb i++(if ci=i then[p] else[]):=fun{kb'}k i=>by
   rw[Le k,Di];split
   ·rename_i e;subst e;rw[lF hm,hqq]
   ·simp
  have hpk: ∀{kb'},KQ (aK d.kb ci {m with q:=q}) kb'→ ∀i,∀p∈qk kb' i,1≤p.qn∧p.qn≤16384:=fun{kb'}k i x hx=>by
   rw[fin k,List.mem_append] at hx
   rcases hx with hx|hx
   ·exact h.pk i x hx
   ·split at hx
    ·rw[List.mem_singleton] at hx;subst hx;exact⟨hp1,Int.le_trans hp2 h.lm1.2⟩
    ·cases hx
  have hek: ∀{kb'},KQ (aK d.kb ci {m with q:=q}) kb'→ ∀i,aB d.ek i≠none→qk kb' i≠[]∧jM (aN d.kc i)=true:=fun{kb'}k i hi=>by
   rw[fin k];exact⟨by have:=(h.ekk i hi).1;simp[this],(h.ekk i hi).2⟩
  have hck:ci∈d.kc.map (·.1):=lz.1 (by rw[hci];simp)
  rcases hR with⟨h1,kbw,hD,hW⟩|⟨h1,rfl,rfl,rfl,rfl,rfl,rfl⟩
  ·have hq0:qC m.q=[]:=by rw[hqq] at h1;simpa using h1
   have hq00:qk d.kb ci=[]:=by rw[lF hm,hq0]
   have hkw:KQ (aK d.kb ci {m with q:=q}) kbw∧RG kbw∧d6 et' ek'∧(gP d.kb→gP kbw):=by
    rcases hD with⟨-,rfl,-,h3⟩|⟨-,rfl,rfl,rfl⟩
    ·exact⟨wM hm1 rfl,sW hG1<|h.rg ci m hm,h3,fun hl=>sX (hl1 hl) hm1 rfl (hl ci m hm).2⟩
    ·exact⟨pR,hG1,h.el,hl1⟩
   have hek': ∀{kb'},KQ (aK d.kb ci {m with q:=q}) kb'→ ∀i,aB ek' i≠none→qk kb' i≠[]∧jM (aN d.kc i)=true:=fun{kb'}k i hi=>by
    rcases hD with⟨h2,-,rfl,-⟩|⟨-,-,rfl,-⟩
    ·rw[fN] at hi
     change jM m.ec=true at h2
     by_cases e:m.ec.hi=i
     ·rw[hid] at e;subst e;exact⟨by rw[fin k,if_pos rfl];simp,by rw[hg];exact h2⟩
     ·rw[if_neg e,gx h.el.nd,if_neg e] at hi;exact hek k i hi
    ·exact hek k i hi
   change(qI m.ec=true∧ ∃l er,rO d.a.ym d.on d.ka m.ec.hi on' ka' l er∧kb'=lH d.kk ck' l kbw∧lT on' ka' kb' (bf d.kc m.ec.hi) d.kk kk')∨(qI m.ec=false∧kb'=kbw∧on'=d.on∧ka'=d.ka∧kk'=d.kk) at hW
   rw[hid,W3 hg] at hW
   have hBw:=AN hkw.1 hB1
   rcases hW with⟨hs,l,er,hO,hkb,hS⟩|⟨hs,rfl,rfl,rfl,rfl⟩
   ·rw[h.ym] at hO
    have hn: ¬A ci:=fun ha=>((h.onk ci).1 (zU hL hA.ast ha (by rw[hg];exact hl))).2.2 hq00
    obtain⟨A',hA',hAA,hon⟩:=Lc hL hA hO hs (by rw[hg];exact hl) hn
    have k:=vY hkw.1<|Dj d.kk ck' l kbw
    have hG':=Ci hL (fun p hp=>Re hK hp) l kbw hBw hkw.2.1 (now:=ck')
    rw[←hkb] at k hG'
    have hB':=AN k hB1
    obtain⟨s1,s2⟩:=Ce hL hB' hG' hA' hS (q8 hK fun q _ h=> .inr h) (fun q h=>(hAA q).2 (.inl h)) fun q h=>(hAA q).1 h
    have hl':gP d.kb→gP kb':=fun hl=>by rw[hkb];exact Dl _ _ _ _<|hkw.2.2.2 hl
    refine⟨⟨h.lt1,h.lm1,hL,h.aok,hB',hnd,h.ym,⟨A',hA',s1⟩,fun j=>?_,hkw.2.2.1,hek' k,hpk k,hG',E8 k hqi⟩,fun i=>by rw[fin k];simp,fun _=>hck,fun hz=>⟨hl' hz.1,s2 (hl' hz.1) hz.2⟩⟩
    show j∈on'.map (·.1)↔eL d.kc j=true∧(aN d.kc j).hl=true∧qk kb' j≠[]
    rw[hon,fin k,h.onk];by_cases e:ci=j
    ·subst e;simp[hs,hg,hl]
    ·simp[e,show¬j=ci from fun h=>e h.symm]
   ·refine⟨⟨h.lt1,h.lm1,hL,h.aok,hBw,hnd,h.ym,⟨A,hA,hK⟩,fun j=>?_,hkw.2.2.1,hek' hkw.1,hpk hkw.1,hkw.2.1,E8 hkw.1 hqi⟩,fun i=>by rw[fin hkw.1];simp,fun _=>hck,fun hz=>⟨hkw.2.2.2 hz.1,hz.2⟩⟩
    show j∈d.on.map (·.1)↔eL d.kc j=true∧(aN d.kc j).hl=true∧qk kb' j≠[]
    rw[fin hkw.1,h.onk];by_cases e:ci=j
    ·subst e;simp[hs]
    ·simp[e]
  ·have hq0:qk d.kb ci≠[]:=by
    rw[lF hm];intro e;rw[hqq,e] at h1;exact h1 rfl
   refine⟨⟨h.lt1,h.lm1,hL,h.aok,hB1,hnd,h.ym,⟨A,hA,hK⟩,fun j=>?_,h.el,hek pR,hpk pR,hG1,hqi⟩,fun i=>by rw[fin pR];simp,fun _=>hck,fun hz=>⟨hl1 hz.1,hz.2⟩⟩
   show j∈d.on.map (·.1)↔eL d.kc j=true∧(aN d.kc j).hl=true∧qk (aK d.kb ci {m with q:=q}) j≠[]
   rw[fin pR,h.onk];by_cases e:ci=j
   ·subst e;simp[hq0]
   ·simp[e]
theorem CB(h:now≤4611686018427387904):bD now 9223372036854775807=now:=by unfold bD;split<;>omega
theorem Nq(hr: ∀y∈L,y.ka≤gQ)(h:iZ L≤now)(hn:now≤4611686018427387904): ∃y,de now L=some y:=by
 unfold iZ at h
 split at h
 ·unfold pd at h;omega
 ·rename_i hL
  obtain⟨y,e⟩:=GP hr hL
  obtain⟨h1,-⟩:=BW e
  have h2:y.va≤now:=by rw[e] at h;simp only[Option.getD_some] at h;unfold bD pd at h;split at h<;>omega
  have:(de now L).isSome:=by unfold de;rw[List.find?_isSome];exact⟨y,h1,by simpa using h2⟩
  exact Option.isSome_iff_exists.1 this
theorem Hz(hL:cK kc)(hB:eQ kc kb)(hA: ∀i,A i→eL kc i=true)(h:KT kc A kk (fun q=>q=0))(hn:now≤4611686018427387904): ∀(f:Nat)(i:Int),oz kc i→17≤dep kc i+f→nX kk i≤now→ ∃j,kK kb kk now f i=some j
 |0,i,hi,hd,_=>by have:=hL.dep i;omega
 |f+1,i,hi,hd,hf=>by
  obtain⟨v,h1,h2⟩:=h i hi
  unfold nX at hf;rw[h1] at hf;simp only[Option.map_some,Option.getD_some] at hf
  obtain⟨y,hy⟩:=Nq (fun y hy=>h2.rng _ y<|qe h2.er hy) hf hn
  have hp:nR kk now i=some y:=by unfold nR;rw[h1,CB hn];exact hy
  obtain⟨v',h1',h5,h3,h4,h6⟩:=Cd h hi hp
  rw[h1] at h1';cases h1'
  rw[CB hn] at h6
  obtain⟨c,h7,h8⟩:=kV<|hA _ h3
  obtain⟨m,h9,h10,-⟩:=uY hB h7
  have hlf:sY kb y.ki=c.hl:=by unfold sY;rw[h9];simp[h10]
  unfold kK;rw[hp];dsimp only
  cases e:c.hl with
  |true=>rw[if_pos<|hlf.trans e];exact⟨_,rfl⟩
  |false=>
   rw[if_neg (by rw[hlf,e];simp)]
   refine Hz hL hB hA h hn f _ (.inr ⟨c,h7,e⟩) (by rw[jD hL h7,←h8,h4];omega) ?_
   have:=h2.fit _ y h5 (by rw[h8];exact e)<|sV hL (by rw[h7];simp)
   omega
theorem E9(h:Iv c d)(hd:kY d.et d.kk≤now)(hn:now≤4611686018427387904)(ht:pa d now z ok d'):ok=true:=by
 obtain⟨-,-,-,⟨hc,-⟩|⟨-,h2,-⟩⟩:=ht
 rotate_left
 ·exact h2
 exfalso
 have hch:(dq d.et d.kb d.kk now).2.2=true:=by
  unfold dq
  split
  ·rfl
  ·rename_i hb
   obtain⟨A,hA,hK⟩:=h.ac
   have hf:nX d.kk 0≤now:=by
    unfold kY bD at hd
    split at hd
    ·exact hd
    ·exfalso
     rename_i hlt
     unfold ns at hd hlt
     cases e:d.et.toL with
     |nil=>rw[e,if_pos rfl] at hd;unfold pd at hd;omega
     |cons y L=>
      rw[e] at hd;simp only[List.head?_cons,Option.getD_some,reduceCtorEq,if_false] at hd
      have h1:y.ka≤now:=by unfold bD pd at hd;split at hd<;>omega
      rw[CB hn,e] at hb
      unfold eC bl at hb
      rw[List.filter_cons_of_pos<|by simpa using h1] at hb
      exact By _ y hb
   obtain⟨j,hj⟩:=Hz h.laid h.by_ hA.ast.sh hK hn 17 0 (.inl rfl) (by omega) hf
   rw[hj];rfl
 rw[hch] at hc;cases hc
structure ng where
 bs:Nat
 mc:Nat
 mr:Nat
def xH(s:ng)(cv:List (Int×SL))(rv:List (Int×SR)):List V.aH:=[aA s.bs [.map<|some s.mc,.map<|some s.mr] 157,bP (fun k:Int=>i_ k) V.kA s.mc cv,ep 40 hY cv,bP (fun k:Int=>i_ k) (fun y:SR=>(.agg #[u_ y.sp,u_ y.sb,u_ y.sr,u_ y.sw,u_ y.sg])) s.mr rv]
def fH(s:ng)(cv:List (Int×SL))(rv:List (Int×SR)):V.aH:=co<|xH s cv rv
def gR(n:Nat)(cv:List (Int×SL)):Prop:= ∀k,((aB cv k).getD aj).sx.length≤n
theorem Wj(w:World)(hs:HS w (aL []) [] w):Calls Tryz.prog 44 #[] w fun e w'=> ∃zz:ng,e= .returned (p_ zz.bs)∧True∧Turn [] [fH zz [] []] w w':=by
 refine(V3 w hs).mono ?_
 rintro e w' ⟨⟨bs,mc,mr⟩,h1,-,h3⟩
 exact⟨⟨bs,mc,mr⟩,h1,trivial,Turn.coR (Y:=[]) (by rw[List.append_nil];exact h3)⟩
theorem V4(s:ng)(cv:bm SL)(rv:bm SR)(n:Nat)(ci a:Int)(hn:gR n cv)(h:n≤100000)(w:World)(hs:HS w (aL [fH s cv rv]) [fH s cv rv] w):Calls Tryz.prog 77 #[p_ s.bs,i_ ci,u_ a] w fun e w'=> ∃zz:bm SL,e= .returned (i_ 0)∧gR (n+1) zz∧Turn [fH s cv rv] [fH s zz rv] w w':=by
 refine(SO s.bs s.mc s.mr cv rv ci a (Nat.le_trans (hn ci) h) w<|HS.coS hs).mono ?_
 rintro e w' ⟨zc,h1,⟨A,c,h2⟩,h3⟩
 refine⟨zc,h1,fun k=>?_,Turn.coS h3⟩
 rw[h2,fN];by_cases e:ci=k
 ·rw[if_pos e];have:=hn ci;simp;omega
 ·rw[if_neg e];have:=hn k;omega
theorem V5(s:ng)(cv:bm SL)(rv:bm SR)(n:Nat)(ci dn nb:Int)(rl:Bool)(hn:gR n cv)(w:World)(hs:HS w (aL [fH s cv rv]) [fH s cv rv] w):Calls Tryz.prog 116 #[p_ s.bs,i_ ci,u_ dn,i_ nb,b_ rl] w fun e w'=> ∃zz:Int×bm SL×bm SR,e= .returned (i_ zz.1)∧gR n zz.2.1∧Turn [fH s cv rv] [fH s zz.2.1 zz.2.2] w w':=by
 have hf:=HS.coS hs
 by_cases hw:nV cv ci dn nb=0
 ·refine(SQ s.bs s.mc s.mr cv rv ci dn nb rl hw w hf).mono ?_
  rintro e w' ⟨_,h1,-,h3⟩
  refine⟨(0,_,_),h1,fun k=>?_,Turn.coS h3⟩
  rw[fN];by_cases e:ci=k
  ·rw[if_pos e];have:=hn ci;simp[wY];omega
  ·rw[if_neg e];exact hn k
 ·refine(N5 s.bs s.mc s.mr cv rv ci dn nb rl hw w (hf.all _<|by simp[xH]) (hf.all _<|by simp[xH]) (hf.all _<|by simp[xH])<|hf.all _<|by simp[xH]).mono ?_
  rintro e w' ⟨rfl,h2⟩
  exact⟨(_,cv,rv),rfl,hn,Turn.of (hs.kept h2)<|.refl _⟩
structure Ru where
 bt:Nat
 ar:Option Addr
 cr:Nat
 mb:Nat
 am:Option Addr
 cm:Nat
 rl:List Rl
def xI(r:Ru):List V.aH:=[aA r.bt [.slice r.ar r.rl.length r.cr,.map<|some r.mb,.slice r.am (bI r.rl r.rl.length).length r.cm] 150,sl r.ar r.rl.length r.cr 86 9<|V.aQ fV r.rl,bP i9 (fun x:Int=>i_ x) r.mb<|cz r.rl r.rl.length,sl r.am (bI r.rl r.rl.length).length r.cm 3 1 (V.aQ iI<|bI r.rl r.rl.length)]
def gV(r:Ru):V.aH:=co<|xI r
structure lY(l:List Rl):Prop where
 len:l.length≤32
 good: ∀x∈l,x.good=true
 rng: ∀x∈l,kg x
theorem V6(r:Ru)(h:Hd)(ho:lY r.rl)(hh:k7 h)(w:World)(hr:(gV r).holds w):Calls Tryz.prog 75 #[p_ r.bt,.agg #[w_ h.ha,w_ h.hb,w_ h.hc,w_ h.hd]] w fun e w'=>e= .returned (.tuple #[i_<|ef r.rl h,i_<|mg<|ef r.rl h])∧Fr [] w w':=
 Rt r.bt r.ar r.rl r.cr r.mb r.am r.cm h ho.len ho.rng hh ho.good w (hr _<|by simp[xI]) (hr _<|by simp[xI]) (sR<|hr (sl r.ar r.rl.length r.cr 86 9<|V.aQ fV r.rl)<|by simp[xI]) (sR<|hr (sl r.am (bI r.rl r.rl.length).length r.cm 3 1 (V.aQ iI<|bI r.rl r.rl.length))<|by simp[xI])
theorem Ku(al:bn)(l:List Rl)(cl:Nat)(ho:lY l)(w:World)(ha:dR w al (V.aQ fV l))(hs:HS w (aL []) [] w):Calls Tryz.prog 43 #[.slice al l.length cl] w fun e w'=> ∃zz:Ru,e= .returned (.tuple #[p_ zz.bt,i_ 0])∧zz.rl=l∧Turn [] [gV zz] w w':=by
 refine(Uj al l cl ho.len ho.good ho.rng w ha hs).mono ?_
 rintro e w' ⟨⟨bt,ar,cr,mb,am,cm⟩,h1,-,h3⟩
 exact⟨⟨bt,ar,cr,mb,am,cm,l⟩,h1,rfl,Turn.coR (Y:=[]) (by rw[List.append_nil];exact h3)⟩
def kB(l:List Rl):Int:=if l.length≤32 then 1 else 2
theorem V7(l:List Rl):kB l≠0:=by unfold kB;split<;>decide
theorem V8(al:bn)(l:List Rl)(cl:Nat)(hR: ∀x∈l,kg x)(ho: ¬lY l)(w:World)(ha:dR w al (V.aQ fV l)):Calls Tryz.prog 43 #[.slice al l.length cl] w fun e w'=>e= .returned (.tuple #[n_,i_<|kB l])∧Fr [] w w':=by
 by_cases hl:l.length≤32
 ·rw[show kB l=1 from if_pos hl];exact Rk al l cl hl (fun h=>ho ⟨hl,h,hR⟩) hR w ha
 ·rw[show kB l=2 from if_neg hl];exact Pz al l cl (by omega) w ha
structure Rs where
 wq1:Int
 wq2:Int
 wq3:Int
 deriving Inhabited,DecidableEq
def ir(x:Rs):List Value:=[(i_ x.wq1),(i_ x.wq2),(i_ x.wq3)]
theorem Oa(x:Rs):(ir x).length=3:=rfl
theorem Oc(x:Rs):(ir x).all Value.oneCell'=true:=rfl
structure Ev where
 vq1:Int
 vq2:Bool
 vq3:Bool
 vq4:Int
 vq5:Int
 vq6:Int
 vq7:Int
 vq8:Int
 vq9:Int
 vq10:Int
 vq11:Int
 vq12:Int
 deriving Inhabited,DecidableEq
def fh(x:Ev):List Value:=[(i_ x.vq1),(b_ x.vq2),(b_ x.vq3),(u_ x.vq4),(u_ x.vq5),(i_ x.vq6),(u_ x.vq7),(i_ x.vq8),(w_ x.vq9),(w_ x.vq10),(w_ x.vq11),(w_ x.vq12)]
theorem ig(x:Ev):(fh x).length=12:=rfl
theorem HC(x:Ev):(fh x).all Value.oneCell'=true:=rfl
abbrev gW(A:bn)(xs:List Ev)(c:Nat):V.aH:=sl A xs.length c 52 12<|V.aQ fh xs
def rV(x:Ev)(o:Int):Ev:={x with vq1:=o}
def fR(p:Pk):Hd:=⟨p.qa,p.qb,p.qc,p.qd⟩
set_option maxHeartbeats 4000000 in
set_option maxRecDepth 100000 in
theorem Kv(x:Ev)(bo bu:Nat)(oo:Int)(A_:bn)(evs:List Ev)(c_:Nat)(hle:evs.length≤1000000):
  CS 45 #[.agg (fh x).toArray,p_ bo,p_ bu] [aA bo [i_ oo] 3,aA bu [vS A_ evs c_] 30,gW A_ evs c_] (fun((A',c'):(bn)×Nat)=>(.tuple #[])) (fun _=>True) fun(A',c')=>[aA bo [i_ oo] 3,aA bu [vS A' (evs++[rV x oo]) c'] 30,gW A' (evs++[rV x oo]) c']:=by
 intro w hs
 refine aU Tryz.func45 rfl hs (aC<|dS [.al] [] (fun b1=>[(3,p_ b1)]) (fun _=>[]) (fun b1=>aA b1 (fh x) 52) ?_)
 intro b1
 refine aC<|bU [.ld 0,.st 3] [] [(3,aA b1 [i_ oo,b_ x.vq2,b_ x.vq3,u_ x.vq4,u_ x.vq5,i_ x.vq6,u_ x.vq7,i_ x.vq8,w_ x.vq9,w_ x.vq10,w_ x.vq11,w_ x.vq12] 52)]<|aM<|cP [.ld 1,.ld 3] [(6,vS A_ evs c_),(7,.agg #[i_ oo,b_ x.vq2,b_ x.vq3,u_ x.vq4,u_ x.vq5,i_ x.vq6,u_ x.vq7,i_ x.vq8,w_ x.vq9,w_ x.vq10,w_ x.vq11,w_ x.vq12])]<|aG<|eB 8 (e:=52) [i_ oo,b_ x.vq2,b_ x.vq3,u_ x.vq4,u_ x.vq5,i_ x.vq6,u_ x.vq7,i_ x.vq8,w_ x.vq9,w_ x.vq10,w_ x.vq11,w_ x.vq12] (by kernel_rfl) rfl (fun _=>by kernel_rfl) (fun b2=>[aA bo [i_ oo] 3,aA bu [vS A_ evs c_] 30,gW A_ evs c_,aA b1 [i_ oo,b_ x.vq2,b_ x.vq3,u_ x.vq4,u_ x.vq5,i_ x.vq6,u_ x.vq7,i_ x.vq8,w_ x.vq9,w_ x.vq10,w_ x.vq11,w_ x.vq12] 52,aA b2 [i_ oo,b_ x.vq2,b_ x.vq3,u_ x.vq4,u_ x.vq5,i_ x.vq6,u_ x.vq7,i_ x.vq8,w_ x.vq9,w_ x.vq10,w_ x.vq11,w_ x.vq12] 52]) (fun _=>rfl) ?_
 intro b2
 refine aG<|jj (enc:=fh) (xs:=evs) ([(⟨oo,x.vq2,x.vq3,x.vq4,x.vq5,x.vq6,x.vq7,x.vq8,x.vq9,x.vq10,x.vq11,x.vq12⟩:Ev)]) 2 9 (e:=52) (z:=(.agg #[i_ 0,b_ false,b_ false,u_ 0,u_ 0,i_ 0,u_ 0,i_ 0,w_ 0,w_ 0,w_ 0,w_ 0])) (sz:=12) (by_:=64) (by kernel_rfl) rfl rfl rfl (by kernel_rfl) (by kernel_rfl) (by rfl) (by decide) ig HC rfl (eV (i:=4) rfl) (by first|omega|(simp;omega)|(simp;done)) (fun A3 c3=>[aA bo [i_ oo] 3,aA bu [vS A_ evs c_] 30,gW A3 (evs++([(⟨oo,x.vq2,x.vq3,x.vq4,x.vq5,x.vq6,x.vq7,x.vq8,x.vq9,x.vq10,x.vq11,x.vq12⟩:Ev)])) c3,aA b1 [i_ oo,b_ x.vq2,b_ x.vq3,u_ x.vq4,u_ x.vq5,i_ x.vq6,u_ x.vq7,i_ x.vq8,w_ x.vq9,w_ x.vq10,w_ x.vq11,w_ x.vq12] 52,aA b2 [i_ oo,b_ x.vq2,b_ x.vq3,u_ x.vq4,u_ x.vq5,i_ x.vq6,u_ x.vq7,i_ x.vq8,w_ x.vq9,w_ x.vq10,w_ x.vq11,w_ x.vq12] 52]) (fun _ _=>rfl) ?_
 intro A3 c3
 refine bU [.st 1] [] [(1,aA bu [vS A3 (evs++([(⟨oo,x.vq2,x.vq3,x.vq4,x.vq5,x.vq6,x.vq7,x.vq8,x.vq9,x.vq10,x.vq11,x.vq12⟩:Ev)])) c3] 30)]<|bj 1 (aA bu [vS A3 (evs++[rV x oo]) c3] 30) rfl (iD<|cc (congrArg (fun z_:List Ev=>Value.slice A3 z_.length c3) (by first|rfl|omega|(simp;done)|grind:evs++([(⟨oo,x.vq2,x.vq3,x.vq4,x.vq5,x.vq6,x.vq7,x.vq8,x.vq9,x.vq10,x.vq11,x.vq12⟩:Ev)])=(evs++[rV x oo]))) rfl) (bj 2 (gW A3 (evs++[rV x oo]) c3) rfl (cw (by first|rfl|omega|(simp;done)|grind:evs++([(⟨oo,x.vq2,x.vq3,x.vq4,x.vq5,x.vq6,x.vq7,x.vq8,x.vq9,x.vq10,x.vq11,x.vq12⟩:Ev)])=(evs++[rV x oo]))) (jk [0,0,0] [] (fun _ w r s=>trivial) (A3,c3) ?_ ?_<|by kernel_rfl))
 ·rfl
 ·trivial
def Ey(oo:Int)(z:Pd)(now t:Int):Ev:=⟨oo,false,z.gq8,now,now+z.gq3*t,z.gq1,z.gq2,z.gq3,z.gq4,z.gq5,z.gq6,z.gq7⟩
def rI(d:Sd)(un t oo now:Int)(evs:List Ev)(d':Sd)(un':Int)(evs':List Ev):Prop:=
 (now<un∧d'=d∧un'=un∧evs'=evs)∨(un≤now∧ ∃z ok,pa d now z ok d'∧((ok=false∧un'=un∧evs'=evs)∨(ok=true∧un'=now+z.gq3*t∧evs'=evs++[Ey oo z now t])))
theorem J6(h:pZ c d)(ht:pa d now z ok d')(ho:ok=true):1≤z.gq3∧z.gq3≤16384:=by
 obtain⟨-,-,-,⟨-,h2,-⟩|⟨-,-,-,-,m,q,h3,h4,-⟩⟩:=ht
 ·rw[ho] at h2;cases h2
 ·exact h.pk _ m h3 (nc z) (by rw[h4.2.1];exact List.mem_cons_self ..)
def iU(clk un:Int)(d:Sd):Int:=nW clk un<|kY d.et d.kk
abbrev zw(p0)(p1)(p2)(p3)(p4)(p5):=(aA p0 [u_ p1,u_ p2,u_ p3,i_ p4,u_ p5] 146:V.aH)
abbrev zx(p0)(p1:Ss)(p2)(p3:Ru)(p4:ng)(p5)(p6):=(aA p0 [p_ p1.sb,p_ p2,p_ p3.bt,p_ p4.bs,u_ p5,i_ p6] 114:V.aH)
theorem V9(sy:Nat)(c:Ss)(d:Sd)(bl:Nat)(k1 k2 k3 t un:Int)(r:Ru)(s:ng)(clk no:Int)(hP:pZ c d):
  CS 79 #[p_ sy] [zx sy c bl r s clk no,eO c d,zw bl k1 k2 k3 t un] (fun(zz:Unit)=>(u_<|iU clk un d)) (fun _=>True) fun _=>[zx sy c bl r s clk no,eO c d,zw bl k1 k2 k3 t un]:=by
 intro w hs
 refine aU Tryz.func79 rfl hs (aD []<|aE<|aD [(4,b_ false)]<|bY<|au<|bL [14] 16<|cO 2 [.ld 0,.ld 0,.cq<|u_ un,.ld 0,.cq<|u_<|kY d.et d.kk] (rg 0 14) [(8,u_ clk),(13,u_ un),(18,u_<|kY d.et d.kk)] (oc (qo<|fun w s=>Pv bl k1 k2 k3 t un w<|s.mem (i:=2) rfl)<|o1<|qo<|fun w s=>WV c d ‹_› w (s.mem (i:=1) rfl))<|an 14 rfl (bM (some 19) [] (SZ clk un<|kY d.et d.kk) ?_))
 rintro⟨⟩-
 refine cD<|cL 0 [] [15] [(2,u_<|nW clk un<|kY d.et d.kk)]<|dj<|aF<|bJ [0,0,0] [u_<|nW clk un<|kY d.et d.kk] () ?_ ?_
 ·rfl
 trivial
theorem Kw(sy:Nat)(c:Ss)(d:Sd)(bl:Nat)(k1 k2 k3 t un:Int)(r:Ru)(s:ng)(cv:bm SL)(rv:bm SR)(clk no:Int)(bo bu:Nat)(oo:Int)(A_:bn)(evs:List Ev)(c_:Nat)(now:Int)(n:Nat)(hP:pZ c d)(hck:d.ck≤now)(hnw:0≤now∧now≤4611686018427387904)(htt:1≤t∧t≤65536)(hle:evs.length≤999999)(hst:gR n cv):
  CS 78 #[p_ sy,u_ now,.func (.func 45) #[] #[p_ bo,p_ bu]] [zx sy c bl r s clk no,eO c d,zw bl k1 k2 k3 t un,fH s cv rv,aA bo [i_ oo] 3,aA bu [vS A_ evs c_] 30,gW A_ evs c_] (fun((d',un',q1',q2',q3',cv',rv',evs',A',c'):Sd×Int×Int×Int×Int×(bm SL)×(bm SR)×(List Ev)×(bn)×Nat)=>(.tuple #[])) (fun(d',un',q1',q2',q3',cv',rv',evs',A',c')=>rI d un t oo now evs d' un' evs'∧gR n cv') fun(d',un',q1',q2',q3',cv',rv',evs',A',c')=>[zx sy c bl r s clk no,eO c d',zw bl q1' q2' q3' t un',fH s cv' rv',aA bo [i_ oo] 3,aA bu [vS A' evs' c'] 30,gW A' evs' c']:=by
 intro w hs
 refine aU Tryz.func78 rfl hs (aE<|bW [.ld 0,.cq<|b_<|decide (now≥un)] [(16,b_ (!(decide (now≥un))))] (o1<|qo<|fun w s=>Cj bl k1 k2 k3 t un now w<|s.mem (i:=2) rfl)<|aI rfl (fun e1=>?_) (fun e1=>?_))
 ·refine aF<|cN [0,0,0,0,0,0,0] [] (fun _ w r s=>trivial) (d,un,k1,k2,k3,cv,rv,evs,A_,c_) ?_ ?_<|by kernel_rfl
  ·rfl
  exact⟨.inl ⟨by(simp_all;done),rfl,rfl,rfl⟩,hst⟩
 have p1:=e1;try simp only[bQ] at p1
 refine aP<|aC<|bA 5 [.ld 0] [(21,p_ c.sb),(22,u_ now)]<|aG<|bM (some 23) [1] (UB c d now ‹_› ‹_› (by omega)) ?_
 rintro⟨z1,ok2,d'3⟩ hz2
 refine dS [.al,.st 7] [] (fun b4=>[(6,p_ b4),(7,b_ ok2)]) (fun b4=>[]) (fun b4=>aA b4 (EX z1) 235) ?_
 intro b4
 refine aE<|aD [(27,b_ (!ok2))]<|fx (!ok2) (fun e3=>?_)<|fun e3=>?_
 ·have p3:=e3
  refine aF<|cN [1,0,0,0,0,0,0] [] (fun _ w r s=>trivial) (d'3,un,k1,k2,k3,cv,rv,evs,A_,c_) ?_ ?_<|by kernel_rfl
  ·rfl
  exact⟨.inr ⟨by(simp_all;done),_,_,by assumption,.inl ⟨by(simp_all;done),rfl,rfl⟩⟩,hst⟩
 have p3:=e3
 refine au<|bL [7] 13<|cL 6 [.ld 1,.ld 7] (rg 0 7) [(32,p_ bl),(33,u_ now),(35,.agg #[u_ z1.gq2,i_ z1.gq3,w_ z1.gq4,w_ z1.gq5,w_ z1.gq6,w_ z1.gq7])]<|an 7 rfl (bM (some 36) [2] (Rh bl k1 k2 k3 t un now (nc z1) ‹_› (by exact J6 hP ‹_› (by(simp_all;done))) ‹_› ‹_›) ?_)
 rintro⟨z15,z26,z37⟩-
 refine cD<|cL 0 [] (rg 8 5) [(8,u_<|now+(nc z1).qn*t)]<|dj<|aE<|bL [12] 13<|cL 1 [.ld 2,.ld 7,.ld 7,.ld 7] (rg 0 12) [(42,p_ s.bs),(44,i_ z1.gq1),(45,u_<|now+(nc z1).qn*t),(48,i_ z1.gq3),(50,b_ z1.gq8)]<|an 12 rfl (bM (some 51) [3] (V5 s cv rv n z1.gq1 (now+(nc z1).qn*t) z1.gq3 z1.gq8 ‹_›) ?_)
 rintro⟨zi8,cv'9,rv'10⟩ hz5
 refine cb<|aM<|bA 10 [.ld 7,.ld 7,.ld 7] [(52,.func (.func 45) #[] #[p_ bo,p_ bu]),(61,.agg #[i_ 0,b_ false,b_ z1.gq8,u_ now,u_<|now+(nc z1).qn*t,i_ z1.gq1,u_ z1.gq2,i_ z1.gq3,w_ z1.gq4,w_ z1.gq5,w_ z1.gq6,w_ z1.gq7])]<|aG<|bM (some 62) [4,4,4] (Kv (⟨0,false,z1.gq8,now,now+(nc z1).qn*t,z1.gq1,z1.gq2,z1.gq3,z1.gq4,z1.gq5,z1.gq6,z1.gq7⟩:Ev) bo bu oo A_ evs c_<|by omega) ?_
 rintro⟨A'11,c'12⟩-
 refine dP<|jk [6,5,4,3,0,0,0] [] (fun _ w r s=>trivial) (d'3,now+(nc z1).qn*t,z15,z26,z37,cv'9,rv'10,evs++[rV (⟨0,false,z1.gq8,now,now+(nc z1).qn*t,z1.gq1,z1.gq2,z1.gq3,z1.gq4,z1.gq5,z1.gq6,z1.gq7⟩:Ev) oo],A'11,c'12) ?_ ?_<|by kernel_rfl
 ·rfl
 exact⟨.inr ⟨by(simp_all;done),_,_,by assumption,.inr ⟨by(simp_all;done),rfl,rfl⟩⟩,by assumption⟩
structure o9(c:Ss)(I:Sd→Prop)(cnt:Sd→Nat):Prop where
 pre: ∀d,I d→pZ c d
 take: ∀d now z ok d',I d→d.ck≤now→pa d now z ok d'→I d'∧cnt d'≤cnt d∧(ok=true→cnt d'+1≤cnt d)
 put: ∀d now ci p er d',I d→d.ck≤now→pq c d now ci p er d'→I d'∧cnt d'≤cnt d+1
 chg: ∀d idle l pl er d',I d→(∀z∈l,iy z)→tc c d idle l pl er d'→I d'∧cnt d'≤cnt d
 go: ∀d now z ok d',I d→kY d.et d.kk≤now→now≤4611686018427387904→pa d now z ok d'→ok=true
variable{I:Sd→Prop}{cnt:Sd→Nat}{un:Int}{evs evs':List Ev}
theorem ve(hW:o9 c I cnt){t oo un':Int}(hI:I d)(h1:d.ck≤now)(h:rI d un t oo now evs d' un' evs'):I d'∧evs'.length+cnt d'≤evs.length+cnt d∧d'.ck≤now:=by
 rcases h with⟨-,rfl,-,rfl⟩|⟨-,z,ok,ht,h⟩
 ·exact⟨hI,Nat.le_refl _,h1⟩
 ·obtain⟨a1,a2,a3⟩:=hW.take d now z ok d' hI h1 ht
  have hc:d'.ck=now:=ht.2.1
  rcases h with⟨-,-,rfl⟩|⟨e,-,rfl⟩
  ·exact⟨a1,by omega,by omega⟩
  ·have:=a3 e;exact⟨a1,by simp;omega,by omega⟩
theorem vt{clk fin:Int}(h:iU clk un d≤fin)(hf:fin≤4611686018427387904):clk≤iU clk un d∧un≤iU clk un d∧kY d.et d.kk≤iU clk un d:=by
 unfold iU nW pE bD at*;grind
theorem Oe(hW:o9 c I cnt){clk t oo un' fin:Int}(hI:I d)(h1:d.ck≤clk)(hx:iU clk un d≤fin)(hf:fin≤4611686018427387904)(h:rI d un t oo (iU clk un d) evs d' un' evs'):cnt d'<cnt d:=by
 obtain⟨b1,b2,b3⟩:=vt hx hf
 rcases h with⟨h2,-⟩|⟨-,z,ok,ht,h⟩
 ·omega
 ·have:=(hW.take d _ z ok d' hI (by omega) ht).2.2 (hW.go d _ z ok d' hI b3 (by omega) ht);omega
inductive oI(t oo fin:Int):Int→Sd→Int→List Ev→Sd→Int→List Ev→Prop
 |stop {clk:Int} {d:Sd} {un:Int} {evs:List Ev}:fin<iU clk un d→oI t oo fin clk d un evs d un evs
 |step {clk:Int} {d d1 d2:Sd} {un un1 un2:Int} {evs evs1 evs2:List Ev}:iU clk un d≤fin→rI d un t oo (iU clk un d) evs d1 un1 evs1→oI t oo fin (iU clk un d) d1 un1 evs1 d2 un2 evs2→oI t oo fin clk d un evs d2 un2 evs2
def rs(e p k:Int):Rs:=⟨e,p,k⟩
def FQ(oo clk k:Int)(p:Pk):Ev:=⟨oo,true,false,clk,0,k,p.qi,p.qn,p.qa,p.qb,p.qc,p.qd⟩
def uB(c:Ss)(rl:List Rl)(d:Sd)(un t oo clk:Int)(p:Pk)(evs:List Ev)(x:Rs)(d':Sd)(un':Int)(evs':List Ev):Prop:=
 (mg (ef rl<|fR p)≠0∧x=rs (mg<|ef rl<|fR p) 0 0∧d'=d∧un'=un∧evs'=evs)∨
 (mg (ef rl<|fR p)=0∧ ∃er d1,pq c d clk (ef rl<|fR p) p er d1∧((er≠0∧x=rs er 0 (ef rl<|fR p)∧d'=d1∧un'=un∧evs'=evs)∨(er=0∧x=rs 0 0 (ef rl<|fR p)∧rI d1 un t oo clk (evs++[FQ oo clk (ef rl<|fR p) p]) d' un' evs')))
def IP(d:Sd)(un t oo clk tk:Int)(evs:List Ev)(x:Rs)(clk':Int)(d':Sd)(un':Int)(evs':List Ev):Prop:=
 (4611686018427387904-clk<tk∧x=rs 27 0 0∧clk'=clk∧d'=d∧un'=un∧evs'=evs)∨(tk≤4611686018427387904-clk∧x=rs 0 0 0∧clk'=clk+tk∧oI t oo (clk+tk) clk d un evs d' un' evs')
theorem sB{n m:Nat}{cv:bm SL}(h:gR n cv)(hn:n≤m):gR m cv:=fun k=>Nat.le_trans (h k) hn
theorem Kx(h:pq c d now ci p er d'):d'.ck≤now:=by have:=h.2.1;omega
theorem SV(hW:o9 c I cnt){e:Ev}(hI:I d)(h1:d.ck≤now)(hle:evs.length+cnt d≤900000)(h:pq c d now ci p er d'):(evs++[e]).length≤999999:=by simp;omega
abbrev zy(p0:Ru)(p1):=(i_ (mg<|ef p0.rl<|fR p1):Value)
theorem QR(sy:Nat)(c:Ss)(d:Sd)(bl:Nat)(k1 k2 k3 t un:Int)(r:Ru)(s:ng)(cv:bm SL)(rv:bm SR)(clk no:Int)(bo bu:Nat)(oo:Int)(A_:bn)(evs:List Ev)(c_:Nat)(p:Pk)(n:Nat)(I:Sd→Prop)(cnt:Sd→Nat)(hW:o9 c I cnt)(hI:I d)(hck:d.ck≤clk)(hnw:0≤clk∧clk≤4611686018427387904)(htt:1≤t∧t≤65536)(hle:evs.length+cnt d≤900000)(hst:gR n cv)(hn:n≤90000)(hr:lY r.rl)(hp:k7 (fR p)):
  CS 48 #[p_ sy,.agg (gZ p).toArray,.func (.func 45) #[] #[p_ bo,p_ bu]] [aA sy [p_ c.sb,p_ bl,p_ r.bt,p_ s.bs,u_ clk,i_ no] 114,eO c d,aA bl [u_ k1,u_ k2,u_ k3,i_ t,u_ un] 146,fH s cv rv,aA bo [i_ oo] 3,aA bu [vS A_ evs c_] 30,gW A_ evs c_,gV r] (fun((x,d',un',q1',q2',q3',cv',rv',evs',A',c'):Rs×Sd×Int×Int×Int×Int×(bm SL)×(bm SR)×(List Ev)×(bn)×Nat)=>(.agg (ir x).toArray)) (fun(x,d',un',q1',q2',q3',cv',rv',evs',A',c')=>uB c r.rl d un t oo clk p evs x d' un' evs'∧gR (n+1) cv') fun(x,d',un',q1',q2',q3',cv',rv',evs',A',c')=>[aA sy [p_ c.sb,p_ bl,p_ r.bt,p_ s.bs,u_ clk,i_ no] 114,eO c d',aA bl [u_ q1',u_ q2',u_ q3',i_ t,u_ un'] 146,fH s cv' rv',aA bo [i_ oo] 3,aA bu [vS A' evs' c'] 30,gW A' evs' c',gV r]:=by
 intro w hs
 refine aU Tryz.func48 rfl hs (aC<|fz [.al,.al] [] (fun b1 b2=>[(4,p_ b1),(6,p_ b2)]) (fun b1 b2=>[aA b1 (gZ p) 45,aA b2 [i_ 0,i_ 0,i_ 0] 49]) ?_)
 intro b1 b2
 refine aE<|fS [.ld 0,.ld 8,.cq<|.tuple #[i_<|ef r.rl<|fR p,zy r p]] (rg 0 12) [] [(7,i_<|ef r.rl<|fR p),(8,zy r p)] (o1<|qo<|fun w s=>V6 r (fR p) ‹_› ‹_› w (s.mem (i:=7) rfl))<|aE<|aD [(20,b_<|(mg<|ef r.rl<|fR p)!=0)]<|aI rfl (fun e1=>?_) (fun e1=>?_)
 ·have p1:=e1;try simp only[bQ] at p1
  refine aC<|bU [.st 9] [] [(9,aA b2 [zy r p,i_ 0,i_ 0] 49)]<|aF<|cN [0,0,0,0,0,0,0,0] [.agg #[zy r p,i_ 0,i_ 0]] (fun _ w r s=>⟨dU 9 r s,trivial⟩) ((⟨mg<|ef r.rl<|fR p,0,0⟩:Rs),d,un,k1,k2,k3,cv,rv,evs,A_,c_) ?_ ?_<|by kernel_rfl
  ·rfl
  exact⟨.inl ⟨‹_›,rfl,rfl,rfl,rfl⟩,sB hst<|by omega⟩
 have p1:=e1;try simp only[bQ] at p1
 refine au<|aE<|bL [10] 12<|cL 2 [.ld 0,.ld 0,.ld 8] (rg 0 10) [(26,p_ c.sb),(30,u_ clk),(31,i_<|ef r.rl<|fR p),(32,.agg (gZ p).toArray)]<|an 10 rfl (bM (some 33) [1] (WU c d clk (ef r.rl<|fR p) p (hW.pre _ hI) ‹_› (by omega)) ?_)
 rintro⟨er3,d'4⟩ hz2
 refine cD<|cL 0 [] [11] [(8,i_ er3)]<|dj<|aD [(35,b_<|er3 !=0)]<|aI rfl (fun e3=>?_) (fun e3=>?_)
 ·have p3:=e3;try simp only[bQ] at p3
  refine aC<|bU [.st 9] [] [(9,aA b2 [i_ er3,i_ 0,i_<|ef r.rl<|fR p] 49)]<|aF<|cN [1,0,0,0,0,0,0,0] [.agg #[i_ er3,i_ 0,i_<|ef r.rl<|fR p]] (fun _ w r s=>⟨dU 9 r s,trivial⟩) ((⟨er3,0,ef r.rl<|fR p⟩:Rs),d'4,un,k1,k2,k3,cv,rv,evs,A_,c_) ?_ ?_<|by kernel_rfl
  ·rfl
  exact⟨.inr ⟨‹_›,_,_,by assumption,.inl ⟨‹_›,rfl,rfl,rfl,rfl⟩⟩,sB hst<|by omega⟩
 have p3:=e3;try simp only[bQ] at p3
 refine au<|bL [9] 10<|cL 1 [.ld 1,.ld 1] (rg 0 9) [(42,p_ s.bs),(43,i_<|ef r.rl<|fR p),(47,u_ clk)]<|an 9 rfl (bM (some 48) [3] (V4 s cv rv n (ef r.rl<|fR p) clk ‹_› (by omega)) ?_)
 rintro cv'5 hz4
 refine cb<|aE<|bL [8] 9<|cL 1 [.ld 2,.ld 8] (rg 0 8) [(49,.func (.func 45) #[] #[p_ bo,p_ bu]),(56,.agg #[i_ 0,b_ true,b_ false,u_ clk,u_ 0,i_<|ef r.rl<|fR p,u_ p.qi,i_ p.qn,w_ p.qa,w_ p.qb,w_ p.qc,w_ p.qd])]<|an 8 rfl (bM (some 57) [4,4,4] (Kv (⟨0,true,false,clk,0,ef r.rl<|fR p,p.qi,p.qn,p.qa,p.qb,p.qc,p.qd⟩:Ev) bo bu oo A_ evs c_<|by omega) ?_)
 rintro⟨A'6,c'7⟩-
 refine cb<|aC<|bA 6 [.ld 5] [(58,p_ sy),(62,u_ clk),(63,.func (.func 45) #[] #[p_ bo,p_ bu])]<|aG<|bM (some 64) [5,4,4,3,0,0,0] (Kw sy c d'4 bl k1 k2 k3 t un r s cv'5 rv clk no bo bu oo A'6 (evs++[rV (⟨0,true,false,clk,0,ef r.rl<|fR p,p.qi,p.qn,p.qa,p.qb,p.qc,p.qd⟩:Ev) oo]) c'7 clk (n+1) (hW.pre _ (hW.put _ _ _ _ _ _ hI hck ‹_›).1) (Kx ‹_›) ‹_› ‹_› (SV hW hI hck hle ‹_›) ‹_›) ?_
 rintro⟨d'9,un'10,q1'11,q2'12,q3'13,cv'14,rv'15,evs'16,A'17,c'18⟩ hz6
 refine dP<|aC<|bU [.st 9] [] [(9,aA b2 [i_ 0,i_ 0,i_<|ef r.rl<|fR p] 49)]<|aF<|cN [0,0,0,0,0,0,0,0] [.agg #[i_ 0,i_ 0,i_<|ef r.rl<|fR p]] (fun _ w r s=>⟨dU 9 r s,trivial⟩) ((⟨0,0,ef r.rl<|fR p⟩:Rs),d'9,un'10,q1'11,q2'12,q3'13,cv'14,rv'15,evs'16,A'17,c'18) ?_ ?_<|by kernel_rfl
 ·rfl
 exact⟨.inr ⟨‹_›,_,_,by assumption,.inr ⟨‹_›,rfl,(by assumption:_∧gR _ _).1⟩⟩,(by assumption:_∧gR _ _).2⟩
theorem Wl(sy:Nat)(c:Ss)(d:Sd)(bl:Nat)(k1 k2 k3 t un:Int)(r:Ru)(s:ng)(cv:bm SL)(rv:bm SR)(clk no:Int)(bo bu:Nat)(oo:Int)(A_:bn)(evs:List Ev)(c_:Nat)(tk:Int)(n:Nat)(I:Sd→Prop)(cnt:Sd→Nat)(hW:o9 c I cnt)(hI:I d)(hck:d.ck≤clk)(hnw:0≤clk∧clk≤4611686018427387904)(htt:1≤t∧t≤65536)(hle:evs.length+cnt d≤900000)(hst:gR n cv)(hn:n≤90000)(htk:0≤tk):
  CS 49 #[p_ sy,u_ tk,.func (.func 45) #[] #[p_ bo,p_ bu]] [aA sy [p_ c.sb,p_ bl,p_ r.bt,p_ s.bs,u_ clk,i_ no] 114,eO c d,aA bl [u_ k1,u_ k2,u_ k3,i_ t,u_ un] 146,fH s cv rv,aA bo [i_ oo] 3,aA bu [vS A_ evs c_] 30,gW A_ evs c_] (fun((x,clk',d',un',q1',q2',q3',cv',rv',evs',A',c'):Rs×Int×Sd×Int×Int×Int×Int×(bm SL)×(bm SR)×(List Ev)×(bn)×Nat)=>(.agg (ir x).toArray)) (fun(x,clk',d',un',q1',q2',q3',cv',rv',evs',A',c')=>IP d un t oo clk tk evs x clk' d' un' evs'∧gR n cv') fun(x,clk',d',un',q1',q2',q3',cv',rv',evs',A',c')=>[aA sy [p_ c.sb,p_ bl,p_ r.bt,p_ s.bs,u_ clk',i_ no] 114,eO c d',aA bl [u_ q1',u_ q2',u_ q3',i_ t,u_ un'] 146,fH s cv' rv',aA bo [i_ oo] 3,aA bu [vS A' evs' c'] 30,gW A' evs' c']:=by
 intro w hs
 refine aU Tryz.func49 rfl hs (aC<|dD [.al] [] (fun b1=>[(6,p_ b1)]) (fun b1=>aA b1 [i_ 0,i_ 0,i_ 0] 49) ?_)
 intro b1
 refine aE<|bW [.ld 0,.w<|4611686018427387904-clk] [(15,b_<|decide (tk>(4611686018427387904-clk)))] (o1<|wv (4611686018427387904-clk)<|by omega)<|aI rfl (fun e1=>?_) (fun e1=>?_)
 ·have p1:=dZ e1
  refine aC<|bU [.st 7] [] [(7,aA b1 [i_ 27,i_ 0,i_ 0] 49)]<|aF<|cN [0,0,0,0,0,0,0] [.agg #[i_ 27,i_ 0,i_ 0]] (fun _ w r s=>⟨dU 7 r s,trivial⟩) ((⟨27,0,0⟩:Rs),clk,d,un,k1,k2,k3,cv,rv,evs,A_,c_) ?_ ?_<|by kernel_rfl
  ·rfl
  exact⟨.inl ⟨by omega,rfl,rfl,rfl,rfl,rfl⟩,hst⟩
 have p1:=ga e1
 refine aP<|bW [.ld 0,.w<|clk+tk] [(7,u_<|clk+tk)] (o1<|wv (clk+tk)<|by omega)<|aO<|eA (σ:=Int×Sd×Int×Int×Int×Int×(bm SL)×(bm SR)×(List Ev)×(bn)×Nat) [] (fun(clkk,dk,unk,j1,j2,j3,cvk,rvk,evsk,Ak,cck)=>[]) [0,0,0,0,0,0,0] (fun(clkk,dk,unk,j1,j2,j3,cvk,rvk,evsk,Ak,cck)=>[aA sy [p_ c.sb,p_ bl,p_ r.bt,p_ s.bs,u_ clkk,i_ no] 114,eO c dk,aA bl [u_ j1,u_ j2,u_ j3,i_ t,u_ unk] 146,fH s cvk rvk,aA bo [i_ oo] 3,aA bu [vS Ak evsk cck] 30,gW Ak evsk cck]) (fun(clkk,dk,unk,j1,j2,j3,cvk,rvk,evsk,Ak,cck)=>(I dk)∧(dk.ck≤clkk)∧(clk≤clkk∧clkk≤clk+tk)∧(evsk.length+cnt dk≤900000)∧(gR n cvk)∧(∀d2 un2 evs2,oI t oo (clk+tk) clkk dk unk evsk d2 un2 evs2→oI t oo (clk+tk) clk d un evs d2 un2 evs2)) (fun(clkk,dk,unk,j1,j2,j3,cvk,rvk,evsk,Ak,cck)=>cnt dk) (clk,d,un,k1,k2,k3,cv,rv,evs,A_,c_) ⟨hI,hck,(by(constructor<;>omega)),hle,hst,(fun _ _ _ h=>h)⟩ ?_ ?_
 ·exact bB [0,0,0,0,0,0,0,0]
 rintro⟨clkk,dk,unk,j1,j2,j3,cvk,rvk,evsk,Ak,cck⟩ ⟨hIk,hckk,hbk,hlk,hsk,hA⟩
 refine aO<|aC<|cP [.p] [(23,p_ sy)]<|aG<|bM (some 24) [0,0,0] (V9 sy c dk bl j1 j2 j3 t unk r s clkk no<|hW.pre _ hIk) ?_
 rintro⟨⟩-
 refine ak [(8,u_<|iU clkk unk dk)]<|aE<|aD [(27,b_<|decide ((iU clkk unk dk)>(clk+tk)))]<|aI rfl (fun e3=>?_) (fun e3=>?_)
 ·have p3:=dZ e3
  refine aC<|bU [.st 0] [] [(0,aA sy [p_ c.sb,p_ bl,p_ r.bt,p_ s.bs,u_<|clk+tk,i_ no] 114)]<|aC<|bU [.st 7] [] []<|aF<|cN [0,0,0,0,0,0,0] [.agg #[i_ 0,i_ 0,i_ 0]] (fun _ w r s=>⟨dU 7 r s,trivial⟩) ((⟨0,0,0⟩:Rs),clk+tk,dk,unk,j1,j2,j3,cvk,rvk,evsk,Ak,cck) ?_ ?_<|by kernel_rfl
  ·rfl
  exact⟨.inr ⟨by omega,rfl,rfl,hA _ _ _<|.stop<|by omega⟩,hsk⟩
 have p3:=ga e3
 refine au ?_
 have hnl:=vt (clk:=clkk) (un:=unk) (d:=dk) (fin:=clk+tk) (by omega)<|by omega
 refine aM<|bU [.st 0] [] [(0,aA sy [p_ c.sb,p_ bl,p_ r.bt,p_ s.bs,u_<|iU clkk unk dk,i_ no] 114)]<|aM<|bA 3 [] [(37,p_ sy),(38,u_<|iU clkk unk dk),(39,.func (.func 45) #[] #[p_ bo,p_ bu])]<|aG<|bM (some 40) [0,0,0,0,0,0,0] (Kw sy c dk bl j1 j2 j3 t unk r s cvk rvk (iU clkk unk dk) no bo bu oo Ak evsk cck (iU clkk unk dk) n (hW.pre _ hIk) (by omega) (by omega) ‹_› (by omega) ‹_›) ?_
 rintro⟨d'2,un'3,q1'4,q2'5,q3'6,cv'7,rv'8,evs'9,A'10,c'11⟩ hz4
 refine dP<|bC ((iU clkk unk dk),d'2,un'3,q1'4,q2'5,q3'6,cv'7,rv'8,evs'9,A'10,c'11) ⟨((ve hW hIk (now:=iU clkk unk dk) (by omega) (by assumption:_∧gR _ _).1).1),((ve hW hIk (now:=iU clkk unk dk) (by omega) (by assumption:_∧gR _ _).1).2.2),(by(constructor<;>omega)),(by(have h_:=(ve hW hIk (now:=iU clkk unk dk) (by omega) (by assumption:_∧gR _ _).1).2.1;omega)),((by assumption:_∧gR _ _).2),(fun _ _ _ h=>hA _ _ _<|.step (by omega) (by assumption:_∧gR _ _).1 h)⟩ (by(show cnt _<cnt dk;exact Oe hW (un:=unk) hIk hckk (fin:=clk+tk) (by omega) (by omega) (by assumption:_∧gR _ _).1)) ?_
 exact bB [0,0,0,0,0,0,0,0]
def xJ(c:Ss)(t kd:Int)(l:List Zc)(lr:List Rl)(p:Pk)(tk:Int)(no:Int)(d:Sd)(un clk:Int)(rl:List Rl)(x:Rs)(evs':List Ev)(d':Sd)(un' clk':Int)(rl':List Rl):Prop:=
 (kd=1∧(∃er pl,tc c d (decide (clk≥un)) l pl er d'∧x=rs er pl 0)∧un'=un∧clk'=clk∧rl'=rl∧evs'=[])∨
 (kd=2∧d'=d∧un'=un∧clk'=clk∧evs'=[]∧((lY lr∧rl'=lr∧x=rs 0 0 0)∨(¬lY lr∧rl'=rl∧x=rs (kB lr) 0 0)))∨
 (kd=3∧clk'=clk∧rl'=rl∧uB c rl d un t no clk p [] x d' un' evs')∨
 (kd=4∧rl'=rl∧IP d un t no clk tk [] x clk' d' un' evs')∨
 ((kd≠1∧kd≠2∧kd≠3∧kd≠4)∧x=rs 1 0 0∧d'=d∧un'=un∧clk'=clk∧rl'=rl∧evs'=[])
theorem XG(sy:Nat)(c:Ss)(d:Sd)(bl:Nat)(k1 k2 k3 t un:Int)(r:Ru)(s:ng)(cv:bm SL)(rv:bm SR)(clk no:Int)(W:World)(kd:Int)(za:bn)(zl:List Zc)(zc:Nat)(ra:bn)(rl:List Rl)(rc:Nat)(p:Pk)(tk:Int)(n:Nat)(I:Sd→Prop)(cnt:Sd→Nat)(hza:dR W za (V.aQ gi zl))(hra:dR W ra (V.aQ fV rl))(hz: ∀z∈zl,iy z)(hrl: ∀x∈rl,kg x)(hp:k7 (fR p))(htk:0≤tk)(hno:0≤no∧no≤90000)(hr:lY r.rl)(hW:o9 c I cnt)(hI:I d)(hck:d.ck≤clk)(hnw:0≤clk∧clk≤4611686018427387904)(htt:1≤t∧t≤65536)(hst:gR n cv)(hn:n≤90000)(hcd:cnt d≤900000):
  CS 32 #[p_ sy,.agg #[i_ kd,vS za zl zc,vS ra rl rc,u_ p.qi,i_ p.qn,w_ p.qa,w_ p.qb,w_ p.qc,w_ p.qd,u_ tk]] [aA sy [p_ c.sb,p_ bl,p_ r.bt,p_ s.bs,u_ clk,i_ no] 114,eO c d,aA bl [u_ k1,u_ k2,u_ k3,i_ t,u_ un] 146,fH s cv rv,gV r,eJ W] (fun((x,clk',d',un',q1',q2',q3',cv',rv',r',evs',A',c'):Rs×Int×Sd×Int×Int×Int×Int×(bm SL)×(bm SR)×Ru×(List Ev)×(bn)×Nat)=>(.tuple #[.agg (ir x).toArray,vS A' evs' c'])) (fun(x,clk',d',un',q1',q2',q3',cv',rv',r',evs',A',c')=>xJ c t kd zl rl p tk no d un clk r.rl x evs' d' un' clk' r'.rl∧gR (n+1) cv'∧lY r'.rl) fun(x,clk',d',un',q1',q2',q3',cv',rv',r',evs',A',c')=>[aA sy [p_ c.sb,p_ bl,p_ r'.bt,p_ s.bs,u_ clk',i_<|no+1] 114,eO c d',aA bl [u_ q1',u_ q2',u_ q3',i_ t,u_ un'] 146,fH s cv' rv',gV r',eJ W,gW A' evs' c']:=by
 intro w hs
 refine aU Tryz.func32 rfl hs (aC<|fz [.al,.al] [] (fun b1 b2=>[(3,p_ b1),(4,p_ b2)]) (fun b1 b2=>[aA b1 [i_ kd,vS za zl zc,vS ra rl rc,u_ p.qi,i_ p.qn,w_ p.qa,w_ p.qb,w_ p.qc,w_ p.qd,u_ tk] 47,aA b2 [i_ 0,i_ 0,i_ 0] 49]) ?_)
 intro b1 b2
 refine aE<|aD [(15,b_ false)]<|bY<|aP<|aC<|dD [.al] [] (fun b3=>[(6,p_ b3)]) (fun b3=>aA b3 [e_] 30) ?_
 intro b3
 refine aC<|dS [.ld 0,.al,.st 9] [] (fun b4=>[(7,p_ b4)]) (fun b4=>[]) (fun b4=>aA b4 [i_ no] 3) ?_
 intro b4
 refine aD [(8,.func (.func 45) #[] #[p_ b4,p_ b3])]<|aC<|gA [.ld 0,.w<|no+1,.st 0] [] [] [(0,aA sy [p_ c.sb,p_ bl,p_ r.bt,p_ s.bs,u_ clk,i_<|no+1] 114)] (o1<|wj (no+1)<|by omega)<|aC<|dS [.al,.st 10] [] (fun b5=>[(9,p_ b5)]) (fun b5=>[]) (fun b5=>aA b5 [i_ 1,i_ 0,i_ 0] 49) ?_
 intro b5
 refine cS<|bF [.ld 6] [(31,i_ kd)]<|aO<|aD [(32,b_<|kd==1)]<|fx (kd==1) (fun e1=>?_)<|fun e1=>?_
 ·have p1:=e1;try simp only[bQ] at p1
  refine aE<|bL [15] 21<|cO 6 [.ld 0,.ld 0,.ld 0,.cq<|b_<|decide (clk≥un),.ld 6] (rg 0 15) [(38,p_ c.sb),(47,b_<|decide (clk≥un)),(49,vS za zl zc)] (o1<|qo<|fun w s=>Cj bl k1 k2 k3 t un clk w<|s.mem (i:=2) rfl)<|an 15 rfl (bM (some 50) [1,4] (PR c d W (decide (clk≥un)) za zl zc (hW.pre _ hI) ‹_› ‹_›) ?_)
  rintro⟨pl6,er7,d'8⟩ hz2
  refine cD<|cL 0 [] (rg 16 5) [(10,i_ pl6),(11,i_ er7)]<|dj<|aM<|bU [.st 10] [] [(10,aA b5 [i_ er7,i_ pl6,i_ 0] 49)]<|(aE<|j6 [2] 4 [eO c d'8,eJ W,aA sy [p_ c.sb,p_ bl,p_ r.bt,p_ s.bs,u_ clk,i_<|no+1] 114,aA bl [u_ k1,u_ k2,u_ k3,i_ t,u_ un] 146,fH s cv rv,gV r,aA b1 [i_ kd,vS za zl zc,vS ra rl rc,u_ p.qi,i_ p.qn,w_ p.qa,w_ p.qb,w_ p.qc,w_ p.qd,u_ tk] 47,aA b3 [e_] 30,aA b4 [i_ no] 3,aA b5 [i_ er7,i_ pl6,i_ 0] 49]<|gq 2 [.ld 9,.ld 7] [0,1] [(4,p_ b2),(86,.agg #[i_ er7,i_ pl6,i_ 0]),(87,e_)] (sd [7])<|fk 2 rfl (pF 7 (vs:=[i_ er7,i_ pl6,i_ 0]) [eO c d'8,eJ W,aA sy [p_ c.sb,p_ bl,p_ r.bt,p_ s.bs,u_ clk,i_<|no+1] 114,aA bl [u_ k1,u_ k2,u_ k3,i_ t,u_ un] 146,fH s cv rv,gV r,aA b1 [i_ kd,vS za zl zc,vS ra rl rc,u_ p.qi,i_ p.qn,w_ p.qa,w_ p.qb,w_ p.qc,w_ p.qd,u_ tk] 47,aA b2 [i_ er7,i_ pl6,i_ 0] 49,aA b3 [e_] 30,aA b4 [i_ no] 3,aA b5 [i_ er7,i_ pl6,i_ 0] 49] (by kernel_rfl) rfl rfl rfl rfl (by kernel_rfl) rfl rfl (by kernel_rfl) rfl (ff (sd [7])<|gq 0 [] [3] [(4,p_ b2),(5,e_)] (sd [7])<|jP<|aF<|gC 52 12 [eO c d'8,eJ W,aA sy [p_ c.sb,p_ bl,p_ r.bt,p_ s.bs,u_ clk,i_<|no+1] 114,aA bl [u_ k1,u_ k2,u_ k3,i_ t,u_ un] 146,fH s cv rv,gV r,aA b1 [i_ kd,vS za zl zc,vS ra rl rc,u_ p.qi,i_ p.qn,w_ p.qa,w_ p.qb,w_ p.qc,w_ p.qd,u_ tk] 47,aA b2 [i_ er7,i_ pl6,i_ 0] 49,aA b3 [e_] 30,aA b4 [i_ no] 3,aA b5 [i_ er7,i_ pl6,i_ 0] 49,gW none ([]:List Ev) 0] rfl (cN [2,0,1,1,1,0,5] [.agg #[i_ er7,i_ pl6,i_ 0],e_] (fun _ w r s=>⟨dU 7 r s,dM r rfl,trivial⟩) ((⟨er7,pl6,0⟩:Rs),clk,d'8,un,k1,k2,k3,cv,rv,r,([]:List Ev),none,0) ?_ ?_<|by kernel_rfl))))
  ·rfl
  exact⟨.inl ⟨by omega,⟨_,_,by assumption,rfl⟩,rfl,rfl,rfl,rfl⟩,sB hst<|by omega,hr⟩
 have p1:=e1;try simp only[bQ] at p1
 refine aD [(56,b_<|kd==2)]<|fx (kd==2) (fun e3=>?_)<|fun e3=>?_
 ·have p3:=e3;try simp only[bQ] at p3
  refine aE ?_
  by_cases hru:lY rl
  ·refine aM<|bA 2 [.ld 6] [(60,vS ra rl rc)]<|aG<|dG (some 61) [] (fun w s h=>Ku ra rl rc ‹_› w ((t8 (i:=5) rfl hra) w s) h) ?_
   rintro r10 hz4
   refine ak [(12,p_ r10.bt),(13,i_ 0)]<|aE<|aD [(65,b_ true)]<|dX<|aM<|bU [.st 1] [] [(1,aA sy [p_ c.sb,p_ bl,p_ r10.bt,p_ s.bs,u_ clk,i_<|no+1] 114)]<|aM<|bU [.st 11] [] [(11,aA b5 [i_ 0,i_ 0,i_ 0] 49)]<|(aE<|j6 [2] 4 [gV r10,aA sy [p_ c.sb,p_ bl,p_ r10.bt,p_ s.bs,u_ clk,i_<|no+1] 114,eO c d,aA bl [u_ k1,u_ k2,u_ k3,i_ t,u_ un] 146,fH s cv rv,gV r,eJ W,aA b1 [i_ kd,vS za zl zc,vS ra rl rc,u_ p.qi,i_ p.qn,w_ p.qa,w_ p.qb,w_ p.qc,w_ p.qd,u_ tk] 47,aA b2 [i_ 0,i_ 0,i_ 0] 49,aA b3 [e_] 30,aA b4 [i_ no] 3,aA b5 [i_ 0,i_ 0,i_ 0] 49]<|gq 2 [.ld 11,.ld 9] [0,1] [(4,p_ b2),(86,.agg #[i_ 0,i_ 0,i_ 0]),(87,e_)] (.refl _)<|fk 2 rfl (pF 8 (vs:=[i_ 0,i_ 0,i_ 0]) [gV r10,aA sy [p_ c.sb,p_ bl,p_ r10.bt,p_ s.bs,u_ clk,i_<|no+1] 114,eO c d,aA bl [u_ k1,u_ k2,u_ k3,i_ t,u_ un] 146,fH s cv rv,gV r,eJ W,aA b1 [i_ kd,vS za zl zc,vS ra rl rc,u_ p.qi,i_ p.qn,w_ p.qa,w_ p.qb,w_ p.qc,w_ p.qd,u_ tk] 47,aA b2 [i_ 0,i_ 0,i_ 0] 49,aA b3 [e_] 30,aA b4 [i_ no] 3,aA b5 [i_ 0,i_ 0,i_ 0] 49] (by kernel_rfl) rfl rfl rfl rfl (by kernel_rfl) rfl rfl (by kernel_rfl) rfl (ff (.refl _)<|gq 0 [] [3] [(4,p_ b2),(5,e_)] (.refl _)<|jP<|aF<|gC 52 12 [gV r10,aA sy [p_ c.sb,p_ bl,p_ r10.bt,p_ s.bs,u_ clk,i_<|no+1] 114,eO c d,aA bl [u_ k1,u_ k2,u_ k3,i_ t,u_ un] 146,fH s cv rv,gV r,eJ W,aA b1 [i_ kd,vS za zl zc,vS ra rl rc,u_ p.qi,i_ p.qn,w_ p.qa,w_ p.qb,w_ p.qc,w_ p.qd,u_ tk] 47,aA b2 [i_ 0,i_ 0,i_ 0] 49,aA b3 [e_] 30,aA b4 [i_ no] 3,aA b5 [i_ 0,i_ 0,i_ 0] 49,gW none ([]:List Ev) 0] rfl (cN [1,1,1,1,0,1,6] [.agg #[i_ 0,i_ 0,i_ 0],e_] (fun _ w r s=>⟨dU 8 r s,dM r rfl,trivial⟩) ((⟨0,0,0⟩:Rs),clk,d,un,k1,k2,k3,cv,rv,r10,([]:List Ev),none,0) ?_ ?_<|by kernel_rfl))))
   ·rfl
   exact⟨.inr<|.inl ⟨by omega,rfl,rfl,rfl,rfl,.inl ⟨by assumption,by assumption,rfl⟩⟩,sB hst<|by omega,by(simp_all;done)⟩
  refine aM<|az [.ld 6,.cq<|.tuple #[n_,i_<|kB rl]] [(12,n_),(13,i_<|kB rl)] (o1<|qo<|fun w s=>V8 ra rl rc ‹_› ‹_› w ((t8 (i:=5) rfl hra) w s))<|aE<|aD [(65,b_<|(kB rl)==0)]<|aI rfl (fun e5=>?_) (fun e5=>?_)
  ·exact absurd e5<|by(intro h_;simp at h_;exact V7 _ h_)
  have p5:=e5;try simp only[bQ] at p5
  refine aP<|aM<|bU [.st 10] [] [(10,aA b5 [i_<|kB rl,i_ 0,i_ 0] 49)]<|(aE<|j6 [2] 4 [aA sy [p_ c.sb,p_ bl,p_ r.bt,p_ s.bs,u_ clk,i_<|no+1] 114,eO c d,aA bl [u_ k1,u_ k2,u_ k3,i_ t,u_ un] 146,fH s cv rv,gV r,eJ W,aA b1 [i_ kd,vS za zl zc,vS ra rl rc,u_ p.qi,i_ p.qn,w_ p.qa,w_ p.qb,w_ p.qc,w_ p.qd,u_ tk] 47,aA b3 [e_] 30,aA b4 [i_ no] 3,aA b5 [i_<|kB rl,i_ 0,i_ 0] 49]<|gq 2 [.ld 9,.ld 7] [0,1] [(4,p_ b2),(86,.agg #[i_<|kB rl,i_ 0,i_ 0]),(87,e_)] (sd [7])<|fk 2 rfl (pF 7 (vs:=[i_<|kB rl,i_ 0,i_ 0]) [aA sy [p_ c.sb,p_ bl,p_ r.bt,p_ s.bs,u_ clk,i_<|no+1] 114,eO c d,aA bl [u_ k1,u_ k2,u_ k3,i_ t,u_ un] 146,fH s cv rv,gV r,eJ W,aA b1 [i_ kd,vS za zl zc,vS ra rl rc,u_ p.qi,i_ p.qn,w_ p.qa,w_ p.qb,w_ p.qc,w_ p.qd,u_ tk] 47,aA b2 [i_<|kB rl,i_ 0,i_ 0] 49,aA b3 [e_] 30,aA b4 [i_ no] 3,aA b5 [i_<|kB rl,i_ 0,i_ 0] 49] (by kernel_rfl) rfl rfl rfl rfl (by kernel_rfl) rfl rfl (by kernel_rfl) rfl (ff (sd [7])<|gq 0 [] [3] [(4,p_ b2),(5,e_)] (sd [7])<|jP<|aF<|gC 52 12 [aA sy [p_ c.sb,p_ bl,p_ r.bt,p_ s.bs,u_ clk,i_<|no+1] 114,eO c d,aA bl [u_ k1,u_ k2,u_ k3,i_ t,u_ un] 146,fH s cv rv,gV r,eJ W,aA b1 [i_ kd,vS za zl zc,vS ra rl rc,u_ p.qi,i_ p.qn,w_ p.qa,w_ p.qb,w_ p.qc,w_ p.qd,u_ tk] 47,aA b2 [i_<|kB rl,i_ 0,i_ 0] 49,aA b3 [e_] 30,aA b4 [i_ no] 3,aA b5 [i_<|kB rl,i_ 0,i_ 0] 49,gW none ([]:List Ev) 0] rfl (cN [0,0,0,0,0,0,5] [.agg #[i_<|kB rl,i_ 0,i_ 0],e_] (fun _ w r s=>⟨dU 7 r s,dM r rfl,trivial⟩) ((⟨kB rl,0,0⟩:Rs),clk,d,un,k1,k2,k3,cv,rv,r,([]:List Ev),none,0) ?_ ?_<|by kernel_rfl))))
  ·rfl
  exact⟨.inr<|.inl ⟨by omega,rfl,rfl,rfl,rfl,.inr ⟨by assumption,rfl,rfl⟩⟩,sB hst<|by omega,hr⟩
 have p3:=e3;try simp only[bQ] at p3
 refine aD [(72,b_<|kd==3)]<|fx (kd==3) (fun e6=>?_)<|fun e6=>?_
 ·have p6:=e6;try simp only[bQ] at p6
  refine aM<|bA 4 [.ld 6] [(74,p_ sy),(76,.agg (gZ p).toArray),(77,.func (.func 45) #[] #[p_ b4,p_ b3])]<|gC 52 12 [aA sy [p_ c.sb,p_ bl,p_ r.bt,p_ s.bs,u_ clk,i_<|no+1] 114,eO c d,aA bl [u_ k1,u_ k2,u_ k3,i_ t,u_ un] 146,fH s cv rv,gV r,eJ W,aA b1 [i_ kd,vS za zl zc,vS ra rl rc,u_ p.qi,i_ p.qn,w_ p.qa,w_ p.qb,w_ p.qc,w_ p.qd,u_ tk] 47,aA b2 [i_ 0,i_ 0,i_ 0] 49,aA b3 [e_] 30,aA b4 [i_ no] 3,aA b5 [i_ 1,i_ 0,i_ 0] 49,gW none ([]:List Ev) 0] rfl (aG<|bM (some 78) [0,0,0,0,5,4,5,0] (QR sy c d bl k1 k2 k3 t un r s cv rv clk (no+1) b4 b3 no none ([]:List Ev) 0 p n I cnt ‹_› ‹_› ‹_› ‹_› ‹_› (by(simp;omega)) ‹_› ‹_› ‹_› ‹_›) ?_)
  rintro⟨x14,d'15,un'16,q1'17,q2'18,q3'19,cv'20,rv'21,evs'22,A'23,c'24⟩ hz7
  refine bU [.st 11] [] [(11,aA b5 (ir x14) 49)]<|(aE<|j6 [2] 4 [aA sy [p_ c.sb,p_ bl,p_ r.bt,p_ s.bs,u_ clk,i_<|no+1] 114,eO c d'15,aA bl [u_ q1'17,u_ q2'18,u_ q3'19,i_ t,u_ un'16] 146,fH s cv'20 rv'21,aA b4 [i_ no] 3,aA b3 [vS A'23 evs'22 c'24] 30,gW A'23 evs'22 c'24,gV r,eJ W,aA b1 [i_ kd,vS za zl zc,vS ra rl rc,u_ p.qi,i_ p.qn,w_ p.qa,w_ p.qb,w_ p.qc,w_ p.qd,u_ tk] 47,aA b5 (ir x14) 49]<|gq 2 [.ld 10,.ld 5] [0,1] [(4,p_ b2),(86,.agg (ir x14).toArray),(87,vS A'23 evs'22 c'24)] (sd [10])<|fk 2 rfl (pF 10 (vs:=(ir x14)) [aA sy [p_ c.sb,p_ bl,p_ r.bt,p_ s.bs,u_ clk,i_<|no+1] 114,eO c d'15,aA bl [u_ q1'17,u_ q2'18,u_ q3'19,i_ t,u_ un'16] 146,fH s cv'20 rv'21,aA b4 [i_ no] 3,aA b3 [vS A'23 evs'22 c'24] 30,gW A'23 evs'22 c'24,gV r,eJ W,aA b1 [i_ kd,vS za zl zc,vS ra rl rc,u_ p.qi,i_ p.qn,w_ p.qa,w_ p.qb,w_ p.qc,w_ p.qd,u_ tk] 47,aA b2 (ir x14) 49,aA b5 (ir x14) 49] (by kernel_rfl) rfl rfl rfl rfl (by kernel_rfl) rfl rfl (by kernel_rfl) rfl (ff (sd [10])<|gq 0 [] [3] [(4,p_ b2),(5,vS A'23 evs'22 c'24)] (sd [10])<|jP<|aF<|cN [0,0,0,0,3,3,2] [.agg (ir x14).toArray,vS A'23 evs'22 c'24] (fun _ w r s=>⟨dU 10 r s,dM r rfl,trivial⟩) (x14,clk,d'15,un'16,q1'17,q2'18,q3'19,cv'20,rv'21,r,evs'22,A'23,c'24) ?_ ?_<|by kernel_rfl)))
  ·rfl
  exact⟨.inr<|.inr<|.inl ⟨by omega,rfl,rfl,(by assumption:_∧gR _ _).1⟩,(by assumption:_∧gR _ _).2,hr⟩
 have p6:=e6;try simp only[bQ] at p6
 refine aD [(79,b_<|kd==4)]<|fx (kd==4) (fun e8=>?_)<|fun e8=>?_
 ·have p8:=e8;try simp only[bQ] at p8
  refine aM<|bA 4 [.ld 6] [(81,p_ sy),(83,u_ tk),(84,.func (.func 45) #[] #[p_ b4,p_ b3])]<|gC 52 12 [aA sy [p_ c.sb,p_ bl,p_ r.bt,p_ s.bs,u_ clk,i_<|no+1] 114,eO c d,aA bl [u_ k1,u_ k2,u_ k3,i_ t,u_ un] 146,fH s cv rv,gV r,eJ W,aA b1 [i_ kd,vS za zl zc,vS ra rl rc,u_ p.qi,i_ p.qn,w_ p.qa,w_ p.qb,w_ p.qc,w_ p.qd,u_ tk] 47,aA b2 [i_ 0,i_ 0,i_ 0] 49,aA b3 [e_] 30,aA b4 [i_ no] 3,aA b5 [i_ 1,i_ 0,i_ 0] 49,gW none ([]:List Ev) 0] rfl (aG<|bM (some 85) [0,0,0,0,5,4,5] (Wl sy c d bl k1 k2 k3 t un r s cv rv clk (no+1) b4 b3 no none ([]:List Ev) 0 tk n I cnt ‹_› ‹_› ‹_› ‹_› ‹_› (by(simp;omega)) ‹_› ‹_› ‹_›) ?_)
  rintro⟨x27,clk'28,d'29,un'30,q1'31,q2'32,q3'33,cv'34,rv'35,evs'36,A'37,c'38⟩ hz9
  refine bU [.st 11] [] [(11,aA b5 (ir x27) 49)]<|(aE<|j6 [2] 4 [aA sy [p_ c.sb,p_ bl,p_ r.bt,p_ s.bs,u_ clk'28,i_<|no+1] 114,eO c d'29,aA bl [u_ q1'31,u_ q2'32,u_ q3'33,i_ t,u_ un'30] 146,fH s cv'34 rv'35,aA b4 [i_ no] 3,aA b3 [vS A'37 evs'36 c'38] 30,gW A'37 evs'36 c'38,gV r,eJ W,aA b1 [i_ kd,vS za zl zc,vS ra rl rc,u_ p.qi,i_ p.qn,w_ p.qa,w_ p.qb,w_ p.qc,w_ p.qd,u_ tk] 47,aA b5 (ir x27) 49]<|gq 2 [.ld 10,.ld 5] [0,1] [(4,p_ b2),(86,.agg (ir x27).toArray),(87,vS A'37 evs'36 c'38)] (sd [10])<|fk 2 rfl (pF 10 (vs:=(ir x27)) [aA sy [p_ c.sb,p_ bl,p_ r.bt,p_ s.bs,u_ clk'28,i_<|no+1] 114,eO c d'29,aA bl [u_ q1'31,u_ q2'32,u_ q3'33,i_ t,u_ un'30] 146,fH s cv'34 rv'35,aA b4 [i_ no] 3,aA b3 [vS A'37 evs'36 c'38] 30,gW A'37 evs'36 c'38,gV r,eJ W,aA b1 [i_ kd,vS za zl zc,vS ra rl rc,u_ p.qi,i_ p.qn,w_ p.qa,w_ p.qb,w_ p.qc,w_ p.qd,u_ tk] 47,aA b2 (ir x27) 49,aA b5 (ir x27) 49] (by kernel_rfl) rfl rfl rfl rfl (by kernel_rfl) rfl rfl (by kernel_rfl) rfl (ff (sd [10])<|gq 0 [] [3] [(4,p_ b2),(5,vS A'37 evs'36 c'38)] (sd [10])<|jP<|aF<|cN [0,0,0,0,3,3,2] [.agg (ir x27).toArray,vS A'37 evs'36 c'38] (fun _ w r s=>⟨dU 10 r s,dM r rfl,trivial⟩) (x27,clk'28,d'29,un'30,q1'31,q2'32,q3'33,cv'34,rv'35,r,evs'36,A'37,c'38) ?_ ?_<|by kernel_rfl)))
  ·rfl
  exact⟨.inr<|.inr<|.inr<|.inl ⟨by omega,rfl,(by assumption:_∧gR _ _).1⟩,sB (by assumption:_∧gR _ _).2 (by omega),hr⟩
 have p8:=e8;try simp only[bQ] at p8
 refine aP<|aE<|j6 [2] 4 [aA sy [p_ c.sb,p_ bl,p_ r.bt,p_ s.bs,u_ clk,i_<|no+1] 114,eO c d,aA bl [u_ k1,u_ k2,u_ k3,i_ t,u_ un] 146,fH s cv rv,gV r,eJ W,aA b1 [i_ kd,vS za zl zc,vS ra rl rc,u_ p.qi,i_ p.qn,w_ p.qa,w_ p.qb,w_ p.qc,w_ p.qd,u_ tk] 47,aA b3 [e_] 30,aA b4 [i_ no] 3,aA b5 [i_ 1,i_ 0,i_ 0] 49]<|gq 2 [.ld 9,.ld 7] [0,1] [(4,p_ b2),(86,.agg #[i_ 1,i_ 0,i_ 0]),(87,e_)] (sd [7])<|fk 2 rfl (pF 7 (vs:=[i_ 1,i_ 0,i_ 0]) [aA sy [p_ c.sb,p_ bl,p_ r.bt,p_ s.bs,u_ clk,i_<|no+1] 114,eO c d,aA bl [u_ k1,u_ k2,u_ k3,i_ t,u_ un] 146,fH s cv rv,gV r,eJ W,aA b1 [i_ kd,vS za zl zc,vS ra rl rc,u_ p.qi,i_ p.qn,w_ p.qa,w_ p.qb,w_ p.qc,w_ p.qd,u_ tk] 47,aA b2 [i_ 1,i_ 0,i_ 0] 49,aA b3 [e_] 30,aA b4 [i_ no] 3,aA b5 [i_ 1,i_ 0,i_ 0] 49] (by kernel_rfl) rfl rfl rfl rfl (by kernel_rfl) rfl rfl (by kernel_rfl) rfl (ff (sd [7])<|gq 0 [] [3] [(4,p_ b2),(5,e_)] (sd [7])<|jP<|aF<|gC 52 12 [aA sy [p_ c.sb,p_ bl,p_ r.bt,p_ s.bs,u_ clk,i_<|no+1] 114,eO c d,aA bl [u_ k1,u_ k2,u_ k3,i_ t,u_ un] 146,fH s cv rv,gV r,eJ W,aA b1 [i_ kd,vS za zl zc,vS ra rl rc,u_ p.qi,i_ p.qn,w_ p.qa,w_ p.qb,w_ p.qc,w_ p.qd,u_ tk] 47,aA b2 [i_ 1,i_ 0,i_ 0] 49,aA b3 [e_] 30,aA b4 [i_ no] 3,aA b5 [i_ 1,i_ 0,i_ 0] 49,gW none ([]:List Ev) 0] rfl (cN [0,0,0,0,0,0,5] [.agg #[i_ 1,i_ 0,i_ 0],e_] (fun _ w r s=>⟨dU 7 r s,dM r rfl,trivial⟩) ((⟨1,0,0⟩:Rs),clk,d,un,k1,k2,k3,cv,rv,r,([]:List Ev),none,0) ?_ ?_<|by kernel_rfl)))
 ·rfl
 exact⟨.inr<|.inr<|.inr<|.inr ⟨by omega,rfl,rfl,rfl,rfl,rfl,rfl⟩,sB hst<|by omega,hr⟩
end Go.Proofs.YtobgjpigngoggaaGreat
namespace Go.Proofs.YtobgjpigngoggaaGreat.V
open Go
section
variable{P:Program}{n:Nat}{env:aT}{w0:World}{S:bO}{H Hs:List aH}{ops:cI}{o:Oper}{K:cf}{f:Nat}{listed:Array Bool}
def ParH(P:Program)(n:Nat)(env:aT)(w0:World)(S:List Nat)(H Hs:List aH)(ops:Array Oper)(K:Act→World→Prop)(f:Nat)(listed:Array Bool):List Nat→Prop
 |[]=>True
 |i::l=>(∃o,ops[i]? =some o∧A n env w0 S H (dB P ops o<|fun a w=>HS w0 S Hs w∧U P ops K (HS w0 S Hs) f (listed.setIfInBounds i true) a w))∧ParH P n env w0 S H Hs ops K f listed l
theorem ParH.at: ∀{l:bO}{i:Nat},ParH P n env w0 S H Hs ops K f listed l→i∈l→ ∃o,ops[i]? =some o∧A n env w0 S H (dB P ops o<|fun a w=>HS w0 S Hs w∧U P ops K (HS w0 S Hs) f (listed.setIfInBounds i true) a w)
 |j::l,i,h,hi=>by
  rcases List.mem_cons.1 hi with rfl|hi
  ·exact h.1
  ·exact ParH.at h.2 hi
theorem jQ(is:bO)(hr:(Region.ready .any ops listed,is.isEmpty)=(is,false))(h:ParH P n env w0 S H Hs ops K f listed is):A n env w0 S H (U P ops K (HS w0 S Hs) (f+1) listed):=by
 intro a w r s
 simp only[Prod.mk.injEq] at hr
 refine⟨fun h0=>(by rw[hr.1] at h0;rw[h0] at hr;cases hr.2),fun j hj w' hf=>?_⟩
 rw[hr.1] at hj
 obtain⟨o,ho,h1⟩:=h.at hj
 have h1:=h1 a w' r<|s.kept hf
 unfold dB at h1
 unfold wpOp
 simp only[ho]
 split
 ·rename_i hw;rw[if_pos hw] at h1;exact .inl h1
 ·rename_i hw;rw[if_neg hw] at h1;exact h1
theorem jO{σ:Type}(env':σ→aT)(H':σ→List aH)(φ:σ→Prop)(f':Nat)(l':Array Bool)(h1: ∀x,φ x→A n (env' x) w0 S (H' x) (U P ops K (HS w0 S Hs) f' l'))
 (h2:(∀x,φ x→A n (env' x) w0 S (H' x) (U P ops K (HS w0 S Hs) f' l'))→A n env w0 S H (U P ops K (HS w0 S Hs) f listed)):A n env w0 S H (U P ops K (HS w0 S Hs) f listed):=h2 h1
theorem fY{σ:Type}{env':σ→aT}{H':σ→List aH}{φ:σ→Prop}{f':Nat}{l':Array Bool}(hn: ∀x,φ x→A n (env' x) w0 S (H' x) (U P ops K (HS w0 S Hs) f' l'))(x:σ)(hx:φ x)(is:bO)(hl:listed=l')(hs:V.sub env (env' x))(hp:(match fa is H with|some x=>some x.1|none=>none)=some (H' x)):
  A n env w0 S H (U P ops K (HS w0 S Hs) f' listed):=by
 subst hl
 exact fE _ hs<|M4 is _ hp<|hn x hx
theorem MV{t:TypeId}{x y z:Operand}(ho:o.op= .insert t x y z)(h:A n env w0 S H (dB P ops {o with op:= .mapUpdate t x y z} K)):A n env w0 S H (dB P ops o K):=by
 intro a w r s
 have h1:=h a w r s
 have he:execOp a.eval o=execOp a.eval {o with op:= .mapUpdate t x y z}:=by simp[execOp,ho]
 unfold dB Oper.wp at*
 rw[he]
 exact h1
end
section
variable{P:Program}{n:Nat}{env:aT}{w0:World}{S:bO}{H H':List aH}{ops:cI}{o:Oper}{K:cf}{β:Type}{f:β→List aH}{ek:Int→Value}{ev:β→Value}
theorem HE: ∀(H:List aH)(x:aH),fa [H.length] (H++[x])=some ([x],H)
 |[],x=>rfl
 |y::H,x=>by
  have:=HE H x
  simp only[fa] at this⊢
  simpa using this
theorem kr(f:β→List aH)(ek:Int→Value)(ev:β→Value)(d:Nat){t:TypeId}(hok:f9 ops n env o (some d)=true)(ho:o.op= .makeMap t none)(H':Nat→List aH)(hH: ∀b,co [bP ek ev b [],db f []]::H=H' b)
  (h: ∀b,V.A n ((d,.map<|some b)::env) w0 S (H' b) K):V.A n env w0 S H (dB P ops o K):=
 mw ek ev d hok ho (fun b=>H++[bP ek ev b []]) (fun _=>rfl) fun b=>Xa [H.length] (HE H _) (hH b)<|h b
end
end Go.Proofs.YtobgjpigngoggaaGreat.V
namespace Go.Proofs.YtobgjpigngoggaaGreat
open Go V
abbrev D6(p0)(p1)(p2)(p3)(p4:Vt)(p5):=(.agg #[i_ p0,i_ p1,p_ p2,.map<|some p3,n_,p_ p4.be,.map<|some p5,u_ 0,u_ 0]:Value)
abbrev qs(p0)(p1):=(eD p0 (aK ([]:bm Vt) 0 p1):V.aH)
abbrev lD(p0)(p1):=((23,.agg #[i_ p0,i_ p1]):Nat×Value)
abbrev fK(p0)(p1)(p2):=(aA p0 [i_ p1,i_ p2] 23:V.aH)
abbrev ja(p0):=(eD p0 ([]:bm Vt):V.aH)
abbrev gG(p0)(p1):=(aA p0 [.map<|some p1] 185:V.aH)
abbrev iO(p0):=(df p0 ([]:bm En):V.aH)
abbrev ik(p0):=(eu p0 T.nil ([]:bm It):V.aH)
abbrev gI(p0):=(cU p0 ([]:bm Cl):V.aH)
theorem WT(lt lm:Int)(h1:1≤lt∧lt≤65536)(h2:1≤lm∧lm≤16384):
  CS 41 #[.agg #[i_ lt,i_ lm]] [] (fun((sb,bt,mc,my,a,tl,mk,v):Nat×Nat×Nat×Nat×Ac×Vt×Nat×Vt)=>(.tuple #[p_ sb,i_ 0])) (fun(sb,bt,mc,my,a,tl,mk,v)=>a.ym=eZ []∧v.kv=[]∧v.t=T.nil) fun(sb,bt,mc,my,a,tl,mk,v)=>[aA sb [i_ lt,i_ lm,p_ bt,.map<|some my,p_ a.bs,p_ tl.be,.map<|some mk,u_ 0,u_ 0] 141,gG bt mc,gI mc,iO my,eM a ([])<|[],ik tl,qs mk v]:=by
 intro w hs
 refine aU Tryz.func41 rfl hs (aC<|dD [.al] [] (fun b1=>[(1,p_ b1)]) (fun b1=>aA b1 [i_ lt,i_ lm] 23) ?_)
 intro b1
 refine cS<|bF [.ld 0,.o,.ld 0,.cl,.o,.ld 0,.cl,.o,.ld 0,.cl] [(22,b_<|(((decide (lt<1))||(decide (lt>65536)))||(decide (lm<1)))||(decide (lm>16384)))]<|aI rfl (fun e1=>?_) (fun e1=>?_)
 ·exact absurd e1<|by(intro h_;simp at h_;omega)
 refine au<|MW [fK b1 lt lm] (by kernel_rfl)<|mM 0 (some 23) (.agg #[i_ lt,i_ lm]) rfl (by kernel_rfl) (by kernel_rfl) (.refl _) (yE (vs:=[i_ lt,i_ lm]) rfl rfl (by kernel_rfl) (ky (i:=0) rfl rfl)) (jO (fun((bt2,mb3,m4,tl5,m6,v7,b8):Nat×Nat×Nat×Vt×Nat×Vt×Nat)=>[(4,p_ b8)]) (fun((bt2,mb3,m4,tl5,m6,v7,b8):Nat×Nat×Nat×Vt×Nat×Vt×Nat)=>[qs m6 v7,ik tl5,iO m4,gG bt2 mb3,gI mb3,fK b1 lt lm,aA b8 [i_ lt,i_ lm,p_ bt2,.map<|some m4,n_,p_ tl5.be,.map<|some m6,u_ 0,u_ 0] 141]) (fun((bt2,mb3,m4,tl5,m6,v7,b8):Nat×Nat×Nat×Vt×Nat×Vt×Nat)=>(v7.kv=[]∧v7.t=T.nil)∧True) 0 #[true,true,true,true,true,true,true,true,true,true,true] ?_ (fun hN0=>?_))
 ·rintro⟨bt2,mb3,m4,tl5,m6,v7,b8⟩ ⟨hpf5,-⟩
  refine MZ (by kernel_rfl)<|aC<|bA 5 [.ld 6] [(4,p_ b8),(32,p_ b8),(36,p_ bt2)]<|aG<|dG (some 37) [] (fun w s h=>LV bt2 mb3 ([]:bm Cl) (by(simp;done)) w (s.mem (i:=3) rfl) (s.mem (i:=4) rfl) h) ?_
  rintro a36 hz14
  refine bU [.st 7] [] [(7,aA b8 [i_ lt,i_ lm,p_ bt2,.map<|some m4,p_ a36.bs,p_ tl5.be,.map<|some m6,u_ 0,u_ 0] 141)]<|aD [(2,p_ b8),(3,i_ 0)]<|aF<|bJ [7,4,4,3,0,1,0] [p_ b8,i_ 0] (b8,bt2,mb3,m4,a36,tl5,m6,v7) ?_ ?_
  ·rfl
  (simp_all;done)
 refine jO (fun((bt2,mb3,m4,tl5,m6,v7):Nat×Nat×Nat×Vt×Nat×Vt)=>[(30,D6 lt lm bt2 m4 tl5 m6)]) (fun((bt2,mb3,m4,tl5,m6,v7):Nat×Nat×Nat×Vt×Nat×Vt)=>[qs m6 v7,ik tl5,iO m4,gG bt2 mb3,gI mb3,fK b1 lt lm]) (fun((bt2,mb3,m4,tl5,m6,v7):Nat×Nat×Nat×Vt×Nat×Vt)=>(v7.kv=[]∧v7.t=T.nil)∧True) 2 #[true,true,true,true,true,true,true,true,true,false,false] ?_ (fun hN1=>?_)
 ·rintro⟨bt2,mb3,m4,tl5,m6,v7⟩ ⟨hpf5,-⟩
  refine jQ [9] (by kernel_rfl) ⟨⟨_,rfl,?_⟩,trivial⟩
  ·refine Xg 31 [i_ lt,i_ lm,p_ bt2,.map<|some m4,n_,p_ tl5.be,.map<|some m6,u_ 0,u_ 0] (by kernel_rfl) rfl rfl rfl (fun b37=>[qs m6 v7,ik tl5,iO m4,gG bt2 mb3,gI mb3,fK b1 lt lm,aA b37 [i_ lt,i_ lm,p_ bt2,.map<|some m4,n_,p_ tl5.be,.map<|some m6,u_ 0,u_ 0] 141]) (fun _=>rfl) ?_
   intro b37
   refine eU (sd [6,4,3,2,1,0])<|mM 10 (some 4) (p_ b37) rfl (by kernel_rfl) (by kernel_rfl) (sd [6,4,3,2,1,0]) (OR rfl rfl) ?_
   exact fY hN0 (bt2,mb3,m4,tl5,m6,v7,b37) ⟨hpf5,trivial⟩ [0,0,0,0,0,0,0] (by kernel_rfl) ⟨rfl,trivial⟩ rfl
 refine jO (fun((bt2,mb3,tl5,m6,v7):Nat×Nat×Vt×Nat×Vt)=>[(lD lt lm),(24,p_ bt2),(26,p_ tl5.be),(29,.map<|some m6)]) (fun((bt2,mb3,tl5,m6,v7):Nat×Nat×Vt×Nat×Vt)=>[qs m6 v7,ik tl5,gG bt2 mb3,gI mb3,fK b1 lt lm]) (fun((bt2,mb3,tl5,m6,v7):Nat×Nat×Vt×Nat×Vt)=>(v7.kv=[]∧v7.t=T.nil)∧True) 4 #[true,true,false,true,true,true,true,true,false,false,false] ?_ (fun hN2=>?_)
 ·rintro⟨bt2,mb3,tl5,m6,v7⟩ ⟨hpf5,-⟩
  refine jQ [2] (by kernel_rfl) ⟨⟨_,rfl,?_⟩,trivial⟩
  ·refine kr fc (fun k:Int=>i_ k) (fun m:En=>p_ m.eb) 25 (by kernel_rfl) rfl (fun m38=>[iO m38,qs m6 v7,ik tl5,gG bt2 mb3,gI mb3,fK b1 lt lm]) (fun _=>rfl) ?_
   intro m38
   refine eU (sd [4,3,2,1,0])<|mM 8 (some 30) (D6 lt lm bt2 m38 tl5 m6) rfl (by kernel_rfl) (by kernel_rfl) (sd [4,3,2,1,0]) (jJ (by kernel_rfl) fun _=>by kernel_rfl) ?_
   exact fY hN1 (bt2,mb3,m38,tl5,m6,v7) ⟨hpf5,trivial⟩ [1,1,0,0,0,0] (by kernel_rfl) ⟨rfl,trivial⟩ rfl
 refine jO (fun((bt2,mb3,m4,tl5,m6,v7):Nat×Nat×Nat×Vt×Nat×Vt)=>[(lD lt lm),(24,p_ bt2),(25,.map<|some m4),(26,p_ tl5.be),(27,.map<|some m6),(28,p_ v7.be)]) (fun((bt2,mb3,m4,tl5,m6,v7):Nat×Nat×Nat×Vt×Nat×Vt)=>[qH v7,ja m6,ik tl5,iO m4,gG bt2 mb3,gI mb3,fK b1 lt lm]) (fun((bt2,mb3,m4,tl5,m6,v7):Nat×Nat×Nat×Vt×Nat×Vt)=>(v7.kv=[]∧v7.t=T.nil)∧True) 5 #[true,true,true,true,true,true,false,false,false,false,false] ?_ (fun hN3=>?_)
 ·rintro⟨bt2,mb3,m4,tl5,m6,v7⟩ ⟨hpf5,-⟩
  refine jQ [6] (by kernel_rfl) ⟨⟨_,rfl,?_⟩,trivial⟩
  ·refine MV rfl (Am (f:=(eF 192)) (kt:=3) (et:=136) (ek:=(fun k:Int=>i_ k)) (ev:=(fun m:Vt=>p_ m.be)) (kv:=([]:bm Vt)) (k:=0) (H':=[qs m6 v7,ik tl5,iO m4,gG bt2 mb3,gI mb3,fK b1 lt lm]) 1 0 v7 (by kernel_rfl) rfl rfl rfl rfl (by kernel_rfl) eE rfl rfl rfl (eU (sd [4,3,2,1,0])<|mM 7 (some 29) (.map<|some m6) rfl (by kernel_rfl) (by kernel_rfl) (sd [4,3,2,1,0]) (Iy rfl rfl) (mM 8 (some 30) (D6 lt lm bt2 m4 tl5 m6) rfl (by kernel_rfl) (by kernel_rfl) (sd [4,3,2,1,0]) (jJ (by kernel_rfl) fun _=>by kernel_rfl) ?_)))
   exact fY hN1 (bt2,mb3,m4,tl5,m6,v7) ⟨hpf5,trivial⟩ [0,0,0,0,0,0] (by kernel_rfl) ⟨rfl,trivial⟩ rfl
 refine jO (fun((bt2,mb3,m4,tl5,m6):Nat×Nat×Nat×Vt×Nat)=>[(lD lt lm),(24,p_ bt2),(25,.map<|some m4),(26,p_ tl5.be),(27,.map<|some m6)]) (fun((bt2,mb3,m4,tl5,m6):Nat×Nat×Nat×Vt×Nat)=>[ja m6,ik tl5,iO m4,gG bt2 mb3,gI mb3,fK b1 lt lm]) (fun((bt2,mb3,m4,tl5,m6):Nat×Nat×Nat×Vt×Nat)=>True) 6 #[true,true,true,true,true,false,false,false,false,false,false] ?_ (fun hN4=>?_)
 ·rintro⟨bt2,mb3,m4,tl5,m6⟩-
  refine jQ [5] (by kernel_rfl) ⟨⟨_,rfl,?_⟩,trivial⟩
  ·refine bM (some 28) [] wV ?_
   rintro v39 hz15
   refine eU (sd [5,4,3,2,1,0]) ?_
   exact fY hN3 (bt2,mb3,m4,tl5,m6,v39) ⟨hz15,trivial⟩ [0,0,0,0,0,0,0] (by kernel_rfl) ⟨rfl,rfl,rfl,rfl,rfl,rfl,trivial⟩ rfl
 refine jO (fun((bt2,mb3,m4,tl5,v7):Nat×Nat×Nat×Vt×Vt)=>[(lD lt lm),(24,p_ bt2),(25,.map<|some m4),(26,p_ tl5.be),(28,p_ v7.be)]) (fun((bt2,mb3,m4,tl5,v7):Nat×Nat×Nat×Vt×Vt)=>[qH v7,ik tl5,iO m4,gG bt2 mb3,gI mb3,fK b1 lt lm]) (fun((bt2,mb3,m4,tl5,v7):Nat×Nat×Nat×Vt×Vt)=>(v7.kv=[]∧v7.t=T.nil)∧True) 6 #[true,true,true,true,false,true,false,false,false,false,false] ?_ (fun hN5=>?_)
 ·rintro⟨bt2,mb3,m4,tl5,v7⟩ ⟨hpf5,-⟩
  refine jQ [4] (by kernel_rfl) ⟨⟨_,rfl,?_⟩,trivial⟩
  ·refine kr (eF 192) (fun k:Int=>i_ k) (fun m:Vt=>p_ m.be) 27 (by kernel_rfl) rfl (fun m40=>[ja m40,qH v7,ik tl5,iO m4,gG bt2 mb3,gI mb3,fK b1 lt lm]) (fun _=>rfl) ?_
   intro m40
   refine eU (sd [5,4,3,2,1,0]) ?_
   exact fY hN3 (bt2,mb3,m4,tl5,m40,v7) ⟨hpf5,trivial⟩ [1,0,0,0,0,0,0] (by kernel_rfl) ⟨rfl,rfl,rfl,rfl,rfl,rfl,trivial⟩ rfl
 refine jO (fun((bt2,mb3,tl5,m6,v7):Nat×Nat×Vt×Nat×Vt)=>[(lD lt lm),(24,p_ bt2),(26,p_ tl5.be),(27,.map<|some m6),(28,p_ v7.be)]) (fun((bt2,mb3,tl5,m6,v7):Nat×Nat×Vt×Nat×Vt)=>[qH v7,ja m6,ik tl5,gG bt2 mb3,gI mb3,fK b1 lt lm]) (fun((bt2,mb3,tl5,m6,v7):Nat×Nat×Vt×Nat×Vt)=>(v7.kv=[]∧v7.t=T.nil)∧True) 6 #[true,true,false,true,true,true,false,false,false,false,false] ?_ (fun hN6=>?_)
 ·rintro⟨bt2,mb3,tl5,m6,v7⟩ ⟨hpf5,-⟩
  refine jQ [2,6] (by kernel_rfl) ⟨⟨_,rfl,?_⟩,⟨_,rfl,?_⟩,trivial⟩
  ·refine kr fc (fun k:Int=>i_ k) (fun m:En=>p_ m.eb) 25 (by kernel_rfl) rfl (fun m41=>[iO m41,qH v7,ja m6,ik tl5,gG bt2 mb3,gI mb3,fK b1 lt lm]) (fun _=>rfl) ?_
   intro m41
   refine eU (sd [5,4,3,2,1,0]) ?_
   exact fY hN3 (bt2,mb3,m41,tl5,m6,v7) ⟨hpf5,trivial⟩ [1,1,1,0,0,0,0] (by kernel_rfl) ⟨rfl,rfl,rfl,rfl,rfl,rfl,trivial⟩ rfl
  refine MV rfl (Am (f:=(eF 192)) (kt:=3) (et:=136) (ek:=(fun k:Int=>i_ k)) (ev:=(fun m:Vt=>p_ m.be)) (kv:=([]:bm Vt)) (k:=0) (H':=[qs m6 v7,ik tl5,gG bt2 mb3,gI mb3,fK b1 lt lm]) 1 0 v7 (by kernel_rfl) rfl rfl rfl rfl (by kernel_rfl) eE rfl rfl rfl (eU (sd [3,2,1,0])<|mM 7 (some 29) (.map<|some m6) rfl (by kernel_rfl) (by kernel_rfl) (sd [3,2,1,0]) (Iy rfl rfl) ?_))
  exact fY hN2 (bt2,mb3,tl5,m6,v7) ⟨hpf5,trivial⟩ [0,0,0,0,0] (by kernel_rfl) ⟨rfl,rfl,rfl,rfl,trivial⟩ rfl
 refine jO (fun((bt2,mb3,m4,tl5):Nat×Nat×Nat×Vt)=>[(lD lt lm),(24,p_ bt2),(25,.map<|some m4),(26,p_ tl5.be)]) (fun((bt2,mb3,m4,tl5):Nat×Nat×Nat×Vt)=>[ik tl5,iO m4,gG bt2 mb3,gI mb3,fK b1 lt lm]) (fun((bt2,mb3,m4,tl5):Nat×Nat×Nat×Vt)=>True) 7 #[true,true,true,true,false,false,false,false,false,false,false] ?_ (fun hN7=>?_)
 ·rintro⟨bt2,mb3,m4,tl5⟩-
  refine jQ [4,5] (by kernel_rfl) ⟨⟨_,rfl,?_⟩,⟨_,rfl,?_⟩,trivial⟩
  ·refine kr (eF 192) (fun k:Int=>i_ k) (fun m:Vt=>p_ m.be) 27 (by kernel_rfl) rfl (fun m42=>[ja m42,ik tl5,iO m4,gG bt2 mb3,gI mb3,fK b1 lt lm]) (fun _=>rfl) ?_
   intro m42
   refine eU (sd [4,3,2,1,0]) ?_
   exact fY hN4 (bt2,mb3,m4,tl5,m42) trivial [0,0,0,0,0,0] (by kernel_rfl) ⟨rfl,rfl,rfl,rfl,rfl,trivial⟩ rfl
  refine bM (some 28) [] wV ?_
  rintro v43 hz16
  refine eU (sd [4,3,2,1,0]) ?_
  exact fY hN5 (bt2,mb3,m4,tl5,v43) ⟨hz16,trivial⟩ [0,0,0,0,0,0] (by kernel_rfl) ⟨rfl,rfl,rfl,rfl,rfl,trivial⟩ rfl
 refine jO (fun((bt2,mb3,m4,m6):Nat×Nat×Nat×Nat)=>[(lD lt lm),(24,p_ bt2),(25,.map<|some m4),(27,.map<|some m6)]) (fun((bt2,mb3,m4,m6):Nat×Nat×Nat×Nat)=>[ja m6,iO m4,gG bt2 mb3,gI mb3,fK b1 lt lm]) (fun((bt2,mb3,m4,m6):Nat×Nat×Nat×Nat)=>True) 7 #[true,true,true,false,true,false,false,false,false,false,false] ?_ (fun hN8=>?_)
 ·rintro⟨bt2,mb3,m4,m6⟩-
  refine jQ [3] (by kernel_rfl) ⟨⟨_,rfl,?_⟩,trivial⟩
  ·refine bM (some 26) [] AK ?_
   rintro tl44-
   refine eU (sd [4,3,2,1,0]) ?_
   exact fY hN4 (bt2,mb3,m4,tl44,m6) trivial [1,0,0,0,0,0] (by kernel_rfl) ⟨rfl,rfl,rfl,rfl,rfl,trivial⟩ rfl
 refine jO (fun((bt2,mb3,tl5,m6):Nat×Nat×Vt×Nat)=>[(lD lt lm),(24,p_ bt2),(26,p_ tl5.be),(27,.map<|some m6)]) (fun((bt2,mb3,tl5,m6):Nat×Nat×Vt×Nat)=>[ja m6,ik tl5,gG bt2 mb3,gI mb3,fK b1 lt lm]) (fun((bt2,mb3,tl5,m6):Nat×Nat×Vt×Nat)=>True) 7 #[true,true,false,true,true,false,false,false,false,false,false] ?_ (fun hN9=>?_)
 ·rintro⟨bt2,mb3,tl5,m6⟩-
  refine jQ [2,5] (by kernel_rfl) ⟨⟨_,rfl,?_⟩,⟨_,rfl,?_⟩,trivial⟩
  ·refine kr fc (fun k:Int=>i_ k) (fun m:En=>p_ m.eb) 25 (by kernel_rfl) rfl (fun m45=>[iO m45,ja m6,ik tl5,gG bt2 mb3,gI mb3,fK b1 lt lm]) (fun _=>rfl) ?_
   intro m45
   refine eU (sd [4,3,2,1,0]) ?_
   exact fY hN4 (bt2,mb3,m45,tl5,m6) trivial [1,1,0,0,0,0] (by kernel_rfl) ⟨rfl,rfl,rfl,rfl,rfl,trivial⟩ rfl
  refine bM (some 28) [] wV ?_
  rintro v46 hz18
  refine eU (sd [4,3,2,1,0]) ?_
  exact fY hN6 (bt2,mb3,tl5,m6,v46) ⟨hz18,trivial⟩ [0,0,0,0,0,0] (by kernel_rfl) ⟨rfl,rfl,rfl,rfl,rfl,trivial⟩ rfl
 refine jO (fun((bt2,mb3,tl5,v7):Nat×Nat×Vt×Vt)=>[(lD lt lm),(24,p_ bt2),(26,p_ tl5.be),(28,p_ v7.be)]) (fun((bt2,mb3,tl5,v7):Nat×Nat×Vt×Vt)=>[qH v7,ik tl5,gG bt2 mb3,gI mb3,fK b1 lt lm]) (fun((bt2,mb3,tl5,v7):Nat×Nat×Vt×Vt)=>(v7.kv=[]∧v7.t=T.nil)∧True) 7 #[true,true,false,true,false,true,false,false,false,false,false] ?_ (fun hN10=>?_)
 ·rintro⟨bt2,mb3,tl5,v7⟩ ⟨hpf5,-⟩
  refine jQ [2,4] (by kernel_rfl) ⟨⟨_,rfl,?_⟩,⟨_,rfl,?_⟩,trivial⟩
  ·refine kr fc (fun k:Int=>i_ k) (fun m:En=>p_ m.eb) 25 (by kernel_rfl) rfl (fun m47=>[iO m47,qH v7,ik tl5,gG bt2 mb3,gI mb3,fK b1 lt lm]) (fun _=>rfl) ?_
   intro m47
   refine eU (sd [4,3,2,1,0]) ?_
   exact fY hN5 (bt2,mb3,m47,tl5,v7) ⟨hpf5,trivial⟩ [1,1,0,0,0,0] (by kernel_rfl) ⟨rfl,rfl,rfl,rfl,rfl,trivial⟩ rfl
  refine kr (eF 192) (fun k:Int=>i_ k) (fun m:Vt=>p_ m.be) 27 (by kernel_rfl) rfl (fun m48=>[ja m48,qH v7,ik tl5,gG bt2 mb3,gI mb3,fK b1 lt lm]) (fun _=>rfl) ?_
  intro m48
  refine eU (sd [4,3,2,1,0]) ?_
  exact fY hN6 (bt2,mb3,tl5,m48,v7) ⟨hpf5,trivial⟩ [1,0,0,0,0,0] (by kernel_rfl) ⟨rfl,rfl,rfl,rfl,rfl,trivial⟩ rfl
 refine jO (fun((bt2,mb3,m4):Nat×Nat×Nat)=>[(lD lt lm),(24,p_ bt2),(25,.map<|some m4)]) (fun((bt2,mb3,m4):Nat×Nat×Nat)=>[iO m4,gG bt2 mb3,gI mb3,fK b1 lt lm]) (fun((bt2,mb3,m4):Nat×Nat×Nat)=>True) 8 #[true,true,true,false,false,false,false,false,false,false,false] ?_ (fun hN11=>?_)
 ·rintro⟨bt2,mb3,m4⟩-
  refine jQ [3,4] (by kernel_rfl) ⟨⟨_,rfl,?_⟩,⟨_,rfl,?_⟩,trivial⟩
  ·refine bM (some 26) [] AK ?_
   rintro tl49-
   refine eU (sd [3,2,1,0]) ?_
   exact fY hN7 (bt2,mb3,m4,tl49) trivial [0,0,0,0,0] (by kernel_rfl) ⟨rfl,rfl,rfl,rfl,trivial⟩ rfl
  refine kr (eF 192) (fun k:Int=>i_ k) (fun m:Vt=>p_ m.be) 27 (by kernel_rfl) rfl (fun m50=>[ja m50,iO m4,gG bt2 mb3,gI mb3,fK b1 lt lm]) (fun _=>rfl) ?_
  intro m50
  refine eU (sd [3,2,1,0]) ?_
  exact fY hN8 (bt2,mb3,m4,m50) trivial [0,0,0,0,0] (by kernel_rfl) ⟨rfl,rfl,rfl,rfl,trivial⟩ rfl
 refine jO (fun((bt2,mb3,tl5):Nat×Nat×Vt)=>[(lD lt lm),(24,p_ bt2),(26,p_ tl5.be)]) (fun((bt2,mb3,tl5):Nat×Nat×Vt)=>[ik tl5,gG bt2 mb3,gI mb3,fK b1 lt lm]) (fun((bt2,mb3,tl5):Nat×Nat×Vt)=>True) 8 #[true,true,false,true,false,false,false,false,false,false,false] ?_ (fun hN12=>?_)
 ·rintro⟨bt2,mb3,tl5⟩-
  refine jQ [2,4,5] (by kernel_rfl) ⟨⟨_,rfl,?_⟩,⟨_,rfl,?_⟩,⟨_,rfl,?_⟩,trivial⟩
  ·refine kr fc (fun k:Int=>i_ k) (fun m:En=>p_ m.eb) 25 (by kernel_rfl) rfl (fun m51=>[iO m51,ik tl5,gG bt2 mb3,gI mb3,fK b1 lt lm]) (fun _=>rfl) ?_
   intro m51
   refine eU (sd [3,2,1,0]) ?_
   exact fY hN7 (bt2,mb3,m51,tl5) trivial [1,0,0,0,0] (by kernel_rfl) ⟨rfl,rfl,rfl,rfl,trivial⟩ rfl
  ·refine kr (eF 192) (fun k:Int=>i_ k) (fun m:Vt=>p_ m.be) 27 (by kernel_rfl) rfl (fun m52=>[ja m52,ik tl5,gG bt2 mb3,gI mb3,fK b1 lt lm]) (fun _=>rfl) ?_
   intro m52
   refine eU (sd [3,2,1,0]) ?_
   exact fY hN9 (bt2,mb3,tl5,m52) trivial [0,0,0,0,0] (by kernel_rfl) ⟨rfl,rfl,rfl,rfl,trivial⟩ rfl
  refine bM (some 28) [] wV ?_
  rintro v53 hz20
  refine eU (sd [3,2,1,0]) ?_
  exact fY hN10 (bt2,mb3,tl5,v53) ⟨hz20,trivial⟩ [0,0,0,0,0] (by kernel_rfl) ⟨rfl,rfl,rfl,rfl,trivial⟩ rfl
 refine jO (fun((bt2,mb3,m6):Nat×Nat×Nat)=>[(lD lt lm),(24,p_ bt2),(27,.map<|some m6)]) (fun((bt2,mb3,m6):Nat×Nat×Nat)=>[ja m6,gG bt2 mb3,gI mb3,fK b1 lt lm]) (fun((bt2,mb3,m6):Nat×Nat×Nat)=>True) 8 #[true,true,false,false,true,false,false,false,false,false,false] ?_ (fun hN13=>?_)
 ·rintro⟨bt2,mb3,m6⟩-
  refine jQ [2,3] (by kernel_rfl) ⟨⟨_,rfl,?_⟩,⟨_,rfl,?_⟩,trivial⟩
  ·refine kr fc (fun k:Int=>i_ k) (fun m:En=>p_ m.eb) 25 (by kernel_rfl) rfl (fun m54=>[iO m54,ja m6,gG bt2 mb3,gI mb3,fK b1 lt lm]) (fun _=>rfl) ?_
   intro m54
   refine eU (sd [3,2,1,0]) ?_
   exact fY hN8 (bt2,mb3,m54,m6) trivial [1,0,0,0,0] (by kernel_rfl) ⟨rfl,rfl,rfl,rfl,trivial⟩ rfl
  refine bM (some 26) [] AK ?_
  rintro tl55-
  refine eU (sd [3,2,1,0]) ?_
  exact fY hN9 (bt2,mb3,tl55,m6) trivial [1,0,0,0,0] (by kernel_rfl) ⟨rfl,rfl,rfl,rfl,trivial⟩ rfl
 refine jO (fun((m4,m6):Nat×Nat)=>[(lD lt lm),(25,.map<|some m4),(27,.map<|some m6)]) (fun((m4,m6):Nat×Nat)=>[ja m6,iO m4,fK b1 lt lm]) (fun((m4,m6):Nat×Nat)=>True) 8 #[true,false,true,false,true,false,false,false,false,false,false] ?_ (fun hN14=>?_)
 ·rintro⟨m4,m6⟩-
  refine jQ [1] (by kernel_rfl) ⟨⟨_,rfl,?_⟩,trivial⟩
  ·refine bM (some 24) [] xe ?_
   rintro⟨bt56,mb57⟩-
   refine eU (sd [3,2,1,0]) ?_
   exact fY hN8 (bt56,mb57,m4,m6) trivial [2,2,0,0,0] (by kernel_rfl) ⟨rfl,rfl,rfl,rfl,trivial⟩ rfl
 refine jO (fun((bt2,mb3):Nat×Nat)=>[(lD lt lm),(24,p_ bt2)]) (fun((bt2,mb3):Nat×Nat)=>[gG bt2 mb3,gI mb3,fK b1 lt lm]) (fun((bt2,mb3):Nat×Nat)=>True) 9 #[true,true,false,false,false,false,false,false,false,false,false] ?_ (fun hN15=>?_)
 ·rintro⟨bt2,mb3⟩-
  refine jQ [2,3,4] (by kernel_rfl) ⟨⟨_,rfl,?_⟩,⟨_,rfl,?_⟩,⟨_,rfl,?_⟩,trivial⟩
  ·refine kr fc (fun k:Int=>i_ k) (fun m:En=>p_ m.eb) 25 (by kernel_rfl) rfl (fun m58=>[iO m58,gG bt2 mb3,gI mb3,fK b1 lt lm]) (fun _=>rfl) ?_
   intro m58
   refine eU (sd [2,1,0]) ?_
   exact fY hN11 (bt2,mb3,m58) trivial [0,0,0,0] (by kernel_rfl) ⟨rfl,rfl,rfl,trivial⟩ rfl
  ·refine bM (some 26) [] AK ?_
   rintro tl59-
   refine eU (sd [2,1,0]) ?_
   exact fY hN12 (bt2,mb3,tl59) trivial [0,0,0,0] (by kernel_rfl) ⟨rfl,rfl,rfl,trivial⟩ rfl
  refine kr (eF 192) (fun k:Int=>i_ k) (fun m:Vt=>p_ m.be) 27 (by kernel_rfl) rfl (fun m60=>[ja m60,gG bt2 mb3,gI mb3,fK b1 lt lm]) (fun _=>rfl) ?_
  intro m60
  refine eU (sd [2,1,0]) ?_
  exact fY hN13 (bt2,mb3,m60) trivial [0,0,0,0] (by kernel_rfl) ⟨rfl,rfl,rfl,trivial⟩ rfl
 refine jO (fun(m4:Nat)=>[(lD lt lm),(25,.map<|some m4)]) (fun(m4:Nat)=>[iO m4,fK b1 lt lm]) (fun(m4:Nat)=>True) 9 #[true,false,true,false,false,false,false,false,false,false,false] ?_ (fun hN16=>?_)
 ·rintro m4-
  refine jQ [1,4] (by kernel_rfl) ⟨⟨_,rfl,?_⟩,⟨_,rfl,?_⟩,trivial⟩
  ·refine bM (some 24) [] xe ?_
   rintro⟨bt61,mb62⟩-
   refine eU (sd [2,1,0]) ?_
   exact fY hN11 (bt61,mb62,m4) trivial [2,0,0,0] (by kernel_rfl) ⟨rfl,rfl,rfl,trivial⟩ rfl
  refine kr (eF 192) (fun k:Int=>i_ k) (fun m:Vt=>p_ m.be) 27 (by kernel_rfl) rfl (fun m63=>[ja m63,iO m4,fK b1 lt lm]) (fun _=>rfl) ?_
  intro m63
  refine eU (sd [1,0]) ?_
  exact fY hN14 (m4,m63) trivial [0,0,0] (by kernel_rfl) ⟨rfl,rfl,rfl,trivial⟩ rfl
 refine jO (fun(m6:Nat)=>[(lD lt lm),(27,.map<|some m6)]) (fun(m6:Nat)=>[ja m6,fK b1 lt lm]) (fun(m6:Nat)=>True) 9 #[true,false,false,false,true,false,false,false,false,false,false] ?_ (fun hN17=>?_)
 ·rintro m6-
  refine jQ [1,2] (by kernel_rfl) ⟨⟨_,rfl,?_⟩,⟨_,rfl,?_⟩,trivial⟩
  ·refine bM (some 24) [] xe ?_
   rintro⟨bt64,mb65⟩-
   refine eU (sd [2,1,0]) ?_
   exact fY hN13 (bt64,mb65,m6) trivial [2,0,0,0] (by kernel_rfl) ⟨rfl,rfl,rfl,trivial⟩ rfl
  refine kr fc (fun k:Int=>i_ k) (fun m:En=>p_ m.eb) 25 (by kernel_rfl) rfl (fun m66=>[iO m66,ja m6,fK b1 lt lm]) (fun _=>rfl) ?_
  intro m66
  refine eU (sd [1,0]) ?_
  exact fY hN14 (m66,m6) trivial [1,0,0] (by kernel_rfl) ⟨rfl,rfl,rfl,trivial⟩ rfl
 refine jQ [1,2,4] (by kernel_rfl) ⟨⟨_,rfl,?_⟩,⟨_,rfl,?_⟩,⟨_,rfl,?_⟩,trivial⟩
 ·refine bM (some 24) [] xe ?_
  rintro⟨bt67,mb68⟩-
  refine eU (sd [1,0]) ?_
  exact fY hN15 (bt67,mb68) trivial [0,0,0] (by kernel_rfl) ⟨rfl,rfl,trivial⟩ rfl
 ·refine kr fc (fun k:Int=>i_ k) (fun m:En=>p_ m.eb) 25 (by kernel_rfl) rfl (fun m69=>[iO m69,fK b1 lt lm]) (fun _=>rfl) ?_
  intro m69
  refine eU (sd [0]) ?_
  exact fY hN16 m69 trivial [0,0] (by kernel_rfl) ⟨rfl,rfl,trivial⟩ rfl
 refine kr (eF 192) (fun k:Int=>i_ k) (fun m:Vt=>p_ m.be) 27 (by kernel_rfl) rfl (fun m70=>[ja m70,fK b1 lt lm]) (fun _=>rfl) ?_
 intro m70
 refine eU (sd [0]) ?_
 exact fY hN17 m70 trivial [0,0] (by kernel_rfl) ⟨rfl,rfl,trivial⟩ rfl
def lZ(d:Sd):Prop:=d.kc=[]∧d.kb=[]∧d.a.ym=eZ []∧d.on=[]∧d.ka=[]∧d.et=T.nil∧d.ek=[]∧(∃v,d.kk=[(0,v)]∧v.kv=[]∧v.t=T.nil)∧d.ck=0∧d.ac=0
theorem Wn(lt lm:Int)(h1:1≤lt∧lt≤65536)(h2:1≤lm∧lm≤16384)(w:World)(hs:HS w (aL []) [] w):Calls Tryz.prog 41 #[.agg #[i_ lt,i_ lm]] w fun e w'=> ∃zz:Ss×Sd,e= .returned (.tuple #[p_ zz.1.sb,i_ 0])∧(zz.1.lt=lt∧zz.1.lm=lm∧lZ zz.2)∧Turn [] [eO zz.1 zz.2] w w':=by
 refine(WT lt lm h1 h2 w hs).mono ?_
 rintro e w' ⟨⟨sb,bt,mc,my,a,tl,mk,v⟩,a1,a2,a3⟩
 exact⟨(⟨sb,lt,lm,my,mk,tl⟩,⟨bt,mc,[],[],a,[],[],T.nil,[],[(0,v)],0,0⟩),a1,⟨rfl,rfl,rfl,rfl,a2.1,rfl,rfl,rfl,rfl,⟨v,rfl,a2.2⟩,rfl,rfl⟩,Turn.coR (Y:=[]) (by rw[List.append_nil];exact a3)⟩
theorem Va(w:World)(hs:HS w (aL []) [] w):Calls Tryz.prog 43 #[.slice none 0 0] w fun e w'=> ∃zz:Ru,e= .returned (.tuple #[p_ zz.bt,i_ 0])∧zz.rl=[]∧Turn [] [gV zz] w w':=
 Ku none [] 0 ⟨by simp,by simp,by simp⟩ w (fun j u h=>by cases h) hs
theorem Wp(t lm:Int)(htt:1≤t∧t≤65536)(hlm:1≤lm∧lm≤16384):
  CS 31 #[.agg #[i_ t,i_ lm]] [] (fun((sy,c,d,bl,r,s):Nat×Ss×Sd×Nat×Ru×ng)=>(.tuple #[p_ sy,i_ 0])) (fun(sy,c,d,bl,r,s)=>c.lt=t∧c.lm=lm∧lZ d∧r.rl=[]) fun(sy,c,d,bl,r,s)=>[aA sy [p_ c.sb,p_ bl,p_ r.bt,p_ s.bs,u_ 0,i_ 0] 114,eO c d,aA bl [u_ 0,u_ 0,u_ 0,i_ t,u_ 0] 146,fH s ([])<|[],gV r]:=by
 intro w hs
 refine aU Tryz.func31 rfl hs (aC<|dD [.al] [] (fun b1=>[(1,p_ b1)]) (fun b1=>aA b1 [i_ t,i_ lm] 23) ?_)
 intro b1
 refine aC<|cP [.ld 0] [(11,.agg #[i_ t,i_ lm])]<|aG<|bM (some 12) [] (Wn t lm ‹_› ‹_›) ?_
 rintro⟨c2,d3⟩ hz1
 refine ak [(4,p_ c2.sb),(5,i_ 0)]<|aE<|aD [(16,b_ false)]<|bY<|aP<|aC<|bA 2 [.ld 1] [(20,i_ t)]<|aG<|bM (some 21) [] (Uh t ‹_›) ?_
 rintro bl4-
 refine ak [(6,p_ bl4)]<|aC<|aG<|bM (some 25) [] Va ?_
 rintro r5 hz3
 refine ak [(8,p_ r5.bt)]<|aC<|bA 3 [] [(28,p_ c2.sb),(29,p_ bl4),(30,p_ r5.bt)]<|aG<|bM (some 31) [] Wj ?_
 rintro s6-
 refine dD [.al] [] (fun b7=>[(2,p_ b7),(3,i_ 0)]) (fun b7=>aA b7 [p_ c2.sb,p_ bl4,p_ r5.bt,p_ s6.bs,u_ 0,i_ 0] 114) ?_
 intro b7
 refine aF<|bJ [5,3,2,0,0] [p_ b7,i_ 0] (b7,c2,d3,bl4,r5,s6) ?_ ?_
 ·rfl
 exact⟨(by assumption:_∧_∧lZ _).1,(by assumption:_∧_∧lZ _).2.1,(by assumption:_∧_∧lZ _).2.2,by assumption⟩
abbrev pC(A:bn)(xs:List Rs)(c:Nat):V.aH:=sl A xs.length c 49 3<|V.aQ ir xs
structure eX where
 kd:Int
 za:Option Addr
 zl:List Zc
 zc:Nat
 ra:Option Addr
 rl:List Rl
 rc:Nat
 op:Pk
 tk:Int
 deriving Inhabited
def mW(x:eX):List Value:=[i_ x.kd,.slice x.za x.zl.length x.zc,.slice x.ra x.rl.length x.rc,u_ x.op.qi,i_ x.op.qn,w_ x.op.qa,w_ x.op.qb,w_ x.op.qc,w_ x.op.qd,u_ x.tk]
theorem mO(x:eX):(mW x).length=10:=rfl
def pj(W:World)(ops:List eX):Prop:= ∀x∈ops,dR W x.za (V.aQ gi x.zl)∧dR W x.ra (V.aQ fV x.rl)∧(∀z∈x.zl,iy z)∧(∀y∈x.rl,kg y)∧k7 (fR x.op)∧0≤x.tk
def oD(c:Ss)(t:Int):List eX→Int→Sd→Int→Int→List Rl→List Rs→List Ev→Prop
 |[],_,_,_,_,_,rsl,evl=>rsl=[]∧evl=[]
 |o::l,no,d,un,clk,rl,rsl,evl=> ∃x evs d' un' clk' rl' rsl' evl',xJ c t o.kd o.zl o.rl o.op o.tk no d un clk rl x evs d' un' clk' rl'∧oD c t l (no+1) d' un' clk' rl' rsl' evl'∧rsl=x::rsl'∧evl=evs++evl'
variable{c:Ss}{t un' clk':Int}{ops:List eX}{k:Nat}{d d':Sd}{rl rl':List Rl}{evs:List Ev}{rsl:List Rs}
theorem QS{o:eX}{no un clk:Int}{x:Rs}{evl:List Ev}(hk:ops[k]? =some o)(h:xJ c t o.kd o.zl o.rl o.op o.tk no d un clk rl x evs d' un' clk' rl')
  (hr:oD c t (ops.drop<|k+1) (no+1) d' un' clk' rl' rsl evl):oD c t (ops.drop k) no d un clk rl (x::rsl) (evs++evl):=by
 obtain⟨e1,e2⟩:=dT.1 hk
 rw[List.drop_eq_getElem_cons e1,e2];exact⟨x,evs,d',un',clk',rl',rsl,evl,h,hr,rfl,rfl⟩
variable{I:Sd→Prop}{cnt:Sd→Nat}
theorem SX(hW:o9 c I cnt){oo fin:Int}(hf:fin≤4611686018427387904): ∀{clk un un':Int}{d d':Sd}{evs evs':List Ev},oI t oo fin clk d un evs d' un' evs'→I d→d.ck≤clk→clk≤fin→I d'∧evs'.length+cnt d'≤evs.length+cnt d∧d'.ck≤fin:=by
 intro clk un un' d d' evs evs' h
 induction h with
 |stop h=>intro hI h1 h2;exact⟨hI,Nat.le_refl _,by omega⟩
 |step hx hp _ ih=>
  intro hI h1 h2
  have b:=vt hx hf
  obtain⟨a1,a2,a3⟩:=ve hW hI (by omega) hp
  obtain⟨c1,c2,c3⟩:=ih a1 a3 hx
  exact⟨c1,by omega,c3⟩
variable{l:List Zc}
theorem Ky(hW:o9 c I cnt){kd tk no un clk:Int}{lr:List Rl}{p:Pk}{x:Rs}(hz: ∀z∈l,iy z)(htk:0≤tk)(hI:I d)(hck:d.ck≤clk)(hc:0≤clk∧clk≤4611686018427387904)(h:xJ c t kd l lr p tk no d un clk rl x evs d' un' clk' rl'):
  I d'∧d'.ck≤clk'∧(0≤clk'∧clk'≤4611686018427387904)∧evs.length+cnt d'≤cnt d+2:=by
 rcases h with⟨-,⟨er,pl,h,-⟩,-,rfl,-,rfl⟩|⟨-,rfl,-,rfl,rfl,-⟩|⟨-,rfl,-,h⟩|⟨-,-,h⟩|⟨-,-,rfl,-,rfl,-,rfl⟩
 ·obtain⟨a1,a2⟩:=hW.chg _ _ _ _ _ _ hI hz h
  exact⟨a1,by have h_:=h.2.2.1;omega,hc,by(simp;omega)⟩
 ·exact⟨hI,hck,hc,by(simp;done)⟩
 ·rcases h with⟨-,-,rfl,-,rfl⟩|⟨-,er,d1,hp,h⟩
  ·exact⟨hI,hck,hc,by(simp;done)⟩
  ·obtain⟨a1,a2⟩:=hW.put _ _ _ _ _ _ hI hck hp
   have hk:=Kx hp
   rcases h with⟨-,-,rfl,-,rfl⟩|⟨-,-,h⟩
   ·exact⟨a1,hk,hc,by(simp;omega)⟩
   ·obtain⟨b1,b2,b3⟩:=ve hW a1 hk h
    exact⟨b1,b3,hc,by simp at b2;omega⟩
 ·rcases h with⟨-,-,rfl,rfl,-,rfl⟩|⟨h1,-,rfl,h⟩
  ·exact⟨hI,hck,hc,by(simp;done)⟩
  ·obtain⟨b1,b2,b3⟩:=SX hW (by omega) h hI hck<|by omega
   exact⟨b1,b3,by omega,by simp at b2;omega⟩
 ·exact⟨hI,hck,hc,by(simp;done)⟩
theorem Wm(W:World)(t lm:Int)(al:bn)(ops:List eX)(cl:Nat)(hoa:dR W al (V.aQ mW ops))(hops:pj W ops)(hol:ops.length≤1000)(htt:1≤t∧t≤65536)(hlm:1≤lm∧lm≤16384)(hLaw: ∀c d,c.lt=t→c.lm=lm→lZ d→ ∃(I:Sd→Prop)(cnt:Sd→Nat),o9 c I cnt∧I d∧cnt d=0):
  CS 9 #[.agg #[i_ t,i_ lm,vS al ops cl]] [eJ W] (fun((A',rs',a',B',ev',b'):(bn)×(List Rs)×Nat×(bn)×(List Ev)×Nat)=>(.tuple #[.agg #[vS A' rs' a',vS B' ev' b'],i_ 0])) (fun(A',rs',a',B',ev',b')=> ∃c d,c.lt=t∧c.lm=lm∧lZ d∧oD c t ops 0 d 0 0 [] rs' ev') fun(A',rs',a',B',ev',b')=>[eJ W,pC A' rs' a',gW B' ev' b']:=by
 intro w hs
 refine aU Tryz.func9 rfl hs (aC<|fz [.al,.al] [] (fun b1 b2=>[(1,p_ b1),(2,p_ b2)]) (fun b1 b2=>[aA b1 [i_ t,i_ lm,vS al ops cl] 26,aA b2 [e_,e_] 32]) ?_)
 intro b1 b2
 refine aC<|bA 2 [.ld 1] [(13,.agg #[i_ t,i_ lm])]<|aG<|bM (some 14) [] (Wp t lm ‹_› ‹_›) ?_
 rintro⟨sy3,c4,d5,bl6,r7,s8⟩ hz1
 refine ak [(4,p_ sy3),(5,i_ 0)]<|aE<|aO<|aD [(17,b_ false)]<|bY<|aC<|bF [.ld 6] [(22,b_<|decide ((ops.length:Int)>1000))]<|aI rfl (fun e2=>?_) (fun e2=>?_)
 ·exact absurd e2<|by(intro h_;simp at h_;omega)
 have p2:=ga e2
 refine aP<|aE ?_
 obtain⟨hct,hcm,hnS,hrl0⟩:=(by assumption:_∧_∧lZ _∧_)
 obtain⟨I,cnt,hW,hI0,hc0⟩:=hLaw c4 d5 hct hcm hnS
 have hck0:d5.ck=0:=hnS.2.2.2.2.2.2.2.2.1
 refine aM<|dD [.al] [] (fun b9=>[(6,p_ b9)]) (fun b9=>aA b9 [e_,e_] 32) ?_
 intro b9
 refine cS<|bF [.ld 6] [(29,vS al ops cl),(30,c_ ops.length),(31,i_ 0)]<|aO<|gC 49 3 [aA sy3 [p_ c4.sb,p_ bl6,p_ r7.bt,p_ s8.bs,u_ 0,i_ 0] 114,eO c4 d5,aA bl6 [u_ 0,u_ 0,u_ 0,i_ t,u_ 0] 146,fH s8 ([])<|[],gV r7,eJ W,aA b1 [i_ t,i_ lm,vS al ops cl] 26,aA b2 [e_,e_] 32,aA b9 [e_,e_] 32,pC none ([]:List Rs) 0] rfl (gC 52 12 [aA sy3 [p_ c4.sb,p_ bl6,p_ r7.bt,p_ s8.bs,u_ 0,i_ 0] 114,eO c4 d5,aA bl6 [u_ 0,u_ 0,u_ 0,i_ t,u_ 0] 146,fH s8 ([])<|[],gV r7,eJ W,aA b1 [i_ t,i_ lm,vS al ops cl] 26,aA b2 [e_,e_] 32,aA b9 [e_,e_] 32,pC none ([]:List Rs) 0,gW none ([]:List Ev) 0] rfl (eA (σ:=Nat×Int×Sd×Int×Int×Int×Int×(bm SL)×(bm SR)×Ru×(List Rs)×(bn)×Nat×(List Ev)×(bn)×Nat) [] (fun(k,clkk,dk,unk,j1,j2,j3,cvk,rvk,rk,rsk,Ar,ar,evk,Br,br)=>[(31,c_ k)]) [0,0,0,0,0,0,2,2,2] (fun(k,clkk,dk,unk,j1,j2,j3,cvk,rvk,rk,rsk,Ar,ar,evk,Br,br)=>[aA sy3 [p_ c4.sb,p_ bl6,p_ rk.bt,p_ s8.bs,u_ clkk,c_ k] 114,eO c4 dk,aA bl6 [u_ j1,u_ j2,u_ j3,i_ t,u_ unk] 146,fH s8 cvk rvk,gV rk,eJ W,aA b9 [vS Ar rsk ar,vS Br evk br] 32,pC Ar rsk ar,gW Br evk br]) (fun(k,clkk,dk,unk,j1,j2,j3,cvk,rvk,rk,rsk,Ar,ar,evk,Br,br)=>(k≤ops.length)∧(I dk)∧(dk.ck≤clkk)∧(0≤clkk∧clkk≤4611686018427387904)∧(evk.length+cnt dk≤2*k)∧(rsk.length=k)∧(gR k cvk)∧(lY rk.rl)∧(∀r2 e2,oD c4 t (ops.drop k) (k:Int) dk unk clkk rk.rl r2 e2→oD c4 t ops 0 d5 0 0 [] (rsk++r2) (evk++e2))) (fun(k,clkk,dk,unk,j1,j2,j3,cvk,rvk,rk,rsk,Ar,ar,evk,Br,br)=>ops.length-k) (0,0,d5,0,0,0,0,[],[],r7,([]:List Rs),none,0,([]:List Ev),none,0) ⟨(by omega),hI0,(by omega),(by omega),(by(simp;omega)),(by rfl),(by(intro k_;simp[aB,aj])),(by(rw[hrl0];exact⟨by simp,by simp,by simp⟩)),(by(intro r2 e2 h;rw[hrl0] at h;exact h))⟩ ?_ ?_))
 ·exact bB [0,0,0,0,0,0,2,2,2,0,0]
 rintro⟨k,clkk,dk,unk,j1,j2,j3,cvk,rvk,rk,rsk,Ar,ar,evk,Br,br⟩ ⟨hk,hIk,hckk,hbk,hlk,hrk,hsk,hRk,hA⟩
 refine aD [(32,b_<|decide ((k:Int)<(ops.length:Int)))]<|aE<|aI rfl (fun e3=>?_) (fun e3=>?_)
 ·have p3:=dZ e3
  refine au<|aO<|aC<|ic [.ix] [(33,.pointer<|some<|(aZ al).add (k*10))] (o1<|io (k:Int)<|dh mO (by decide) (t8 (i:=5) rfl hoa)<|by omega) ?_
  obtain⟨x12,hx12⟩: ∃x,(ops)[k]? =some x:=⟨_,dA<|by omega⟩
  refine iE [.rd [i_ x12.kd,vS x12.za x12.zl x12.zc,vS x12.ra x12.rl x12.rc,u_ x12.op.qi,i_ x12.op.qn,w_ x12.op.qa,w_ x12.op.qb,w_ x12.op.qc,w_ x12.op.qd,u_ x12.tk],.al,.st 11] [] (fun b13=>[(8,p_ b13)]) (fun b13=>[]) (fun b13=>aA b13 [i_ x12.kd,vS x12.za x12.zl x12.zc,vS x12.ra x12.rl x12.rc,u_ x12.op.qi,i_ x12.op.qn,w_ x12.op.qa,w_ x12.op.qb,w_ x12.op.qc,w_ x12.op.qd,u_ x12.tk] 47) (fun b13=>o1<|ro ((aZ al).add (k*10))<|dY (vs:=[i_ x12.kd,vS x12.za x12.zl x12.zc,vS x12.ra x12.rl x12.rc,u_ x12.op.qi,i_ x12.op.qn,w_ x12.op.qa,w_ x12.op.qb,w_ x12.op.qc,w_ x12.op.qd,u_ x12.tk]) mO (t8 (i:=5) rfl hoa) hx12 (Nat.le_of_ble_eq_true rfl) rfl) ?_
  intro b13
  refine aC<|bA 2 [.ld 11] [(36,p_ sy3),(37,.agg #[i_ x12.kd,vS x12.za x12.zl x12.zc,vS x12.ra x12.rl x12.rc,u_ x12.op.qi,i_ x12.op.qn,w_ x12.op.qa,w_ x12.op.qb,w_ x12.op.qc,w_ x12.op.qd,u_ x12.tk])]<|aG<|bM (some 38) [0,0,0,0,0,0] (XG sy3 c4 dk bl6 j1 j2 j3 t unk rk s8 cvk rvk clkk (k:Int) W x12.kd x12.za x12.zl x12.zc x12.ra x12.rl x12.rc x12.op x12.tk k I cnt ((hops _<|cT ‹_›).1) ((hops _<|cT ‹_›).2.1) ((hops _<|cT ‹_›).2.2.1) ((hops _<|cT ‹_›).2.2.2.1) ((hops _<|cT ‹_›).2.2.2.2.1) ((hops _<|cT ‹_›).2.2.2.2.2) (by omega) ‹_› ‹_› ‹_› ‹_› ‹_› ‹_› ‹_› (by omega) (by omega)) ?_
  rintro⟨x14,clk'15,d'16,un'17,q1'18,q2'19,q3'20,cv'21,rv'22,r'23,evs'24,A'25,c'26⟩ hz4
  refine dS [.al,.st 13] [] (fun b28=>[(9,p_ b28),(10,vS A'25 evs'24 c'26)]) (fun b28=>[]) (fun b28=>aA b28 (ir x14) 49) ?_
  intro b28
  refine aE ?_
  have hdo:=Ky hW (hops _<|cT ‹_›).2.2.1 (hops _<|cT ‹_›).2.2.2.2.2 hIk hckk hbk (by assumption:_∧gR _ _∧lY _).1
  refine aM<|bA 3 [.ld 7,.ld 13] [(42,vS Ar rsk ar),(43,.agg (ir x14).toArray)]<|aG<|eB 44 (e:=49) (ir x14) (by kernel_rfl) rfl (fun _=>by kernel_rfl) _ (fun _=>rfl) ?_
  intro b29
  refine aG<|gn ir rsk ([x14]) 8 45 (.agg #[i_ 0,i_ 0,i_ 0]) 24 Oa Oc (eV (i:=14) rfl) (by(simp;omega)) ?_
  intro A30 c30
  refine bU [.st 7] [] [(7,aA b9 [vS A30 (rsk++([x14])) c30,vS Br evk br] 32)]<|aM<|bA 3 [.ld 7] [(2,p_ b2),(4,p_ sy3),(6,p_ b9),(29,vS al ops cl),(30,c_ ops.length),(31,c_ k),(48,vS Br evk br),(49,vS A'25 evs'24 c'26)]<|aG<|gn fh evk evs'24 9 50 (.agg #[i_ 0,b_ false,b_ false,u_ 0,u_ 0,i_ 0,u_ 0,i_ 0,w_ 0,w_ 0,w_ 0,w_ 0]) 64 ig HC (cV (i:=6) rfl) (by omega) ?_
  intro A31 c31
  refine bU [.st 7] [] [(7,aA b9 [vS A30 (rsk++([x14])) c30,vS A31 (evk++evs'24) c31] 32)]<|aM<|az [.w<|(k:Int)+1] [(31,i_<|(k:Int)+1)] (o1<|wj ((k:Int)+1)<|by omega)<|bC (k+1,clk'15,d'16,un'17,q1'18,q2'19,q3'20,cv'21,rv'22,r'23,rsk++([x14]),A30,c30,evk++evs'24,A31,c31) ⟨(by omega),hdo.1,hdo.2.1,hdo.2.2.1,(by(have h_:=hdo.2.2.2;simp;omega)),(by(simp;omega)),((by assumption:_∧gR _ _∧lY _).2.1),((by assumption:_∧gR _ _∧lY _).2.2),(by(intro r2 e2 h;rw[List.append_assoc,List.append_assoc];exact hA _ _<|QS ‹_› (by assumption:_∧gR _ _∧lY _).1 (by simpa using h)))⟩ (by(show ops.length-(k+1)<ops.length-k;omega)) ?_
  exact bB [0,0,0,0,0,0,1,1,1,1,1]
 have p3:=ga e3
 refine bR<|aC<|bU [.ld 6,.st 10] [(3,i_ 0)] [(10,aA b2 [vS Ar rsk ar,vS Br evk br] 32)]<|aF<|cN [5,6,6] [.agg #[vS Ar rsk ar,vS Br evk br],i_ 0] (fun _ w r s=>⟨dU 10 r s,dM r rfl,trivial⟩) (Ar,rsk,ar,Br,evk,br) ?_ ?_<|by kernel_rfl
 ·rfl
 exact⟨_,_,hct,hcm,hnS,by have h_:=hA [] [] (by rw[List.drop_eq_nil_of_le<|by omega];exact⟨rfl,rfl⟩);simpa using h_⟩
variable{i:Int}
theorem JL{β:Type}{c:β}: ∀{kv:List (Int×β)},(kv.map (·.1)).Nodup→(i,c)∈kv→aB kv i=some c
 |[],_,h=>by cases h
 |p::kv,hn,h=>by
  obtain⟨h1,h2⟩:=List.nodup_cons.1 hn
  unfold aB
  rcases List.mem_cons.1 h with rfl|h
  ·rw[if_pos rfl]
  ·rw[if_neg fun e=>h1 (by show p.1∈_;rw[e];exact List.mem_map_of_mem (f:=(·.1)) h)];exact JL h2 h
variable{kc:bm Cl}
theorem Pn(hn:(kc.map (·.1)).Nodup){f:Cl→Bool}(h:i∈aX kc f): ∃c,aB kc i=some c∧f c=true:=by
 unfold aX gJ at h;rw[(List.mergeSort_perm _ _).mem_iff,List.mem_map] at h
 obtain⟨⟨j,c⟩,h1,h2⟩:=h
 obtain⟨h3,h4⟩:=List.mem_filter.1 h1
 dsimp only at h2;subst h2
 exact⟨c,JL hn h3,h4⟩
variable{kb:bm En}
theorem Lh:qE kb i=false↔qk kb i≠[]:=by
 unfold qE qk;cases aB kb i with
 |none=>simp
 |some m=>simp
theorem Dq(hn:(kc.map (·.1)).Nodup):i∈eN kc kb↔(∃c,aB kc i=some c∧c.hl=true)∧qk kb i≠[]:=by
 unfold eN um;rw[List.mem_filter];constructor
 ·rintro⟨h1,h2⟩;exact⟨Pn hn h1,Lh.1<|by simpa using h2⟩
 ·rintro⟨⟨c,h1,h2⟩,h3⟩;exact⟨tO h1 h2,by simpa using Lh.2 h3⟩
theorem W4(hn:(kc.map (·.1)).Nodup):(eN kc kb).Nodup:=by
 unfold eN um aX gJ
 refine List.Nodup.sublist List.filter_sublist<|(List.mergeSort_perm _ _).nodup_iff.2 ?_
 exact List.Nodup.sublist (List.filter_sublist.map _) hn
def xF(kc:List (Int×Cl))(i:Int)(kb:List (Int×En))(kk:List (Int×Vt)):Prop:=
 (fA kc i≠0∧aB kb i=none)∨(fA kc i=0∧ ∃m,D3 (aN kc i) m∧aB kb i=some m∧((aN kc i).hl=false→ ∃v,v.kv=[]∧v.t=T.nil∧aB kk i=some v))
variable{kk:bm Vt}
theorem Rf{j:Int}{kb':bm En}{kk':bm Vt}(hn:(kb.map (·.1)).Nodup)(hm:(kk.map (·.1)).Nodup)(h:AX kc j kb kk kb' kk'):
  (kb'.map (·.1)).Nodup∧(kk'.map (·.1)).Nodup∧(∀i,i≠j→aB kb' i=aB kb i∧aB kk' i=aB kk i)∧xF kc j kb' kk':=by
 rcases h with⟨h1,rfl,rfl⟩|⟨h1,m,h2,rfl,⟨h3,rfl⟩|⟨h3,v,h4,h5,rfl⟩⟩
 ·exact⟨lJ hn _,lJ hm _,fun i hi=>by rw[gx hn,gx hm,if_neg<|fun e=>hi e.symm,if_neg<|fun e=>hi e.symm];exact⟨rfl,rfl⟩,.inl ⟨h1,by rw[gx hn,if_pos rfl]⟩⟩
 ·exact⟨mN (lJ hn _) _ _,lJ hm _,fun i hi=>by rw[fN,gx hn,gx hm,if_neg<|fun e=>hi e.symm,if_neg<|fun e=>hi e.symm,if_neg<|fun e=>hi e.symm];exact⟨rfl,rfl⟩,.inr ⟨h1,m,h2,jS _ _ _,fun e=>by rw[h3] at e;cases e⟩⟩
 ·exact⟨mN (lJ hn _) _ _,mN (lJ hm _) _ _,fun i hi=>by rw[fN,gx hn,fN,gx hm,if_neg<|fun e=>hi e.symm,if_neg<|fun e=>hi e.symm,if_neg<|fun e=>hi e.symm,if_neg<|fun e=>hi e.symm];exact⟨rfl,rfl⟩,.inr ⟨h1,m,h2,jS _ _ _,fun _=>⟨v,h4,h5,jS _ _ _⟩⟩⟩
theorem yf: ∀{l:bT}{kb kb':bm En}{kk kk':bm Vt},(kb.map (·.1)).Nodup→(kk.map (·.1)).Nodup→qJ kc l kb kk kb' kk'→ ∀i,(i∉l→aB kb' i=aB kb i∧aB kk' i=aB kk i)∧(i∈l∨xF kc i kb kk→xF kc i kb' kk')
 |[],kb,kb',kk,kk',hn,hm,⟨h1,h2⟩,i=>by subst h1 h2;exact⟨fun _=>⟨rfl,rfl⟩,fun h=>h.resolve_left<|by simp⟩
 |j::l,kb,kb',kk,kk',hn,hm,⟨kb1,kk1,hs,h⟩,i=>by
  obtain⟨a1,a2,a3,a4⟩:=Rf hn hm hs
  obtain⟨b1,b2⟩:=yf a1 a2 h i
  refine⟨fun hi=>?_,fun hi=>b2 ?_⟩
  ·obtain⟨c1,c2⟩:=b1 fun h=>hi<|List.mem_cons_of_mem _ h
   obtain⟨d1,d2⟩:=a3 i fun e=>hi<|e▸List.mem_cons_self ..
   exact⟨c1.trans d1,c2.trans d2⟩
  ·by_cases e:i=j
   ·subst e;exact .inr a4
   ·rcases hi with hi|hi
    ·exact .inl<|(List.mem_cons.1 hi).resolve_left e
    ·right
     obtain⟨d1,d2⟩:=a3 i e
     unfold xF at hi⊢;rw[d1,d2];exact hi
theorem W5(h:xF kc i kb kk):qk kb i=[]:=by
 rcases h with⟨-,h⟩|⟨-,m,h1,h2,-⟩
 ·unfold qk;rw[h];rfl
 ·rw[lF h2]
  obtain⟨e1,-,-,-,-,-,e2,e3⟩:=h1
  cases hl:(aN kc i).hl with
  |true=>exact(e2 hl).2.1
  |false=>exact List.eq_nil_of_length_eq_zero (by rw[nN];exact(by rw[e3 hl];rfl))
theorem JM{kw:bm Cl}(hL:cK kc)(hW:cK kw): ∀(n:Nat)(i:Int),dep kc i≤n→(i=0∨aB kc i≠none)→(∀q∈bf kc i,aB kc q=aB kw q)→bf kw i=bf kc i
 |n,i,hn,hi,h=>by
  cases e:aB kc i with
  |none=>
   have h0:=hi.resolve_right fun h=>h e
   subst h0;rw[nm<|nP hL,nm<|nP hW]
  |some c=>
   have hu:=jT hL e
   cases n with
   |zero=>rw[jD hL e] at hn;omega
   |succ n=>
    rw[jD hL e] at hn
    have e2:aB kw i=some c:=by rw[←h i (by rw[hu];exact List.mem_cons_self ..)];exact e
    rw[hu,jT hW e2,JM hL hW n c.hp (by omega) ?_ fun q hq=>h q (by rw[hu];exact List.mem_cons_of_mem _ hq)]
    rcases hL.par i c e with h1|⟨p,h1,-⟩
    ·exact .inl h1
    ·exact .inr (by rw[h1];simp)
theorem Ds(hL:cK kc): ∀{l:bT}{on on':bm Int}{ka ka':bm MB}{A:Int→Prop},AO kc on ka A→sj (eZ kc) l on ka on' ka'→l.Nodup→(∀i∈l,(aN kc i).hl=true∧i∉on.map (·.1))→
  ∃A',AO kc on' ka' A'∧ ∀i,i∈on'.map (·.1)↔i∈on.map (·.1)∨(i∈l∧eL kc i=true)
 |[],on,on',ka,ka',A,hA,⟨h1,h2⟩,_,_=>by subst h1 h2;exact⟨A,hA,fun i=>by simp⟩
 |j::l,on,on',ka,ka',A,hA,⟨on1,ka1,l1,e1,hO,h⟩,hn,hl=>by
  obtain⟨n1,n2⟩:=List.nodup_cons.1 hn
  obtain⟨l1,l2⟩:=hl j<|List.mem_cons_self ..
  have hno: ¬A j:=fun h=>l2<|zU hL hA.ast h l1
  by_cases hs:eL kc j=true
  ·obtain⟨A1,a1,-,a3⟩:=Lc hL hA hO hs l1 hno
   obtain⟨A',b1,b2⟩:=Ds hL a1 h n2 fun i hi=>⟨(hl i<|List.mem_cons_of_mem _ hi).1,fun h=>by
    rcases(a3 i).1 h with e|e
    ·exact n1<|e▸hi
    ·exact(hl i<|List.mem_cons_of_mem _ hi).2 e⟩
   refine⟨A',b1,fun i=>?_⟩
   rw[b2,a3,List.mem_cons];constructor
   ·rintro((rfl|h)|h)
    ·exact .inr ⟨.inl rfl,hs⟩
    ·exact .inl h
    ·exact .inr ⟨.inr h.1,h.2⟩
   ·rintro(h|⟨rfl|h,h2⟩)
    ·exact .inl<|.inr h
    ·exact .inl<|.inl rfl
    ·exact .inr ⟨h,h2⟩
  ·rcases hO with⟨h1,-⟩|⟨-,-,-,h1,h2⟩
   ·rw[vg,Bool.and_eq_true] at h1;exact absurd h1.1 hs
   ·subst h1 h2
    obtain⟨A',b1,b2⟩:=Ds hL hA h n2 fun i hi=>hl i<|List.mem_cons_of_mem _ hi
    refine⟨A',b1,fun i=>?_⟩
    rw[b2,List.mem_cons];constructor
    ·rintro(h|h)
     ·exact .inl h
     ·exact .inr ⟨.inr h.1,h.2⟩
    ·rintro(h|⟨rfl|h,h2⟩)
     ·exact .inl h
     ·exact absurd h2 hs
     ·exact .inr ⟨h,h2⟩
theorem KY:AO kc [] [] (fun _=>False):=by
 refine⟨⟨fun i h=>h.elim,fun i h=>h.elim,fun i h=>h.elim,fun i h=>(by cases h),fun i h=>(by cases h)⟩,fun p=>?_,by simp⟩
 simp[kx,aB,m0]
theorem Ud{c:Cl}(h:aB kc i=some c):fA kc i=0:=by unfold fA;rw[h];rfl
variable{er:Int}
theorem Dt{idle:Bool}{pl:Int}(h:Iv c d)(hz: ∀z∈l,iy z)(ht:tc c d idle l pl er d'):Iv c d'∧ ∀i,qk d'.kb i=qk d.kb i:=by
 obtain⟨het,hek,hck,hac,hR,hnd⟩:=ht
 obtain⟨bt',mc',kc',kb',a',on',ka',et',ek',kk',ck',ac'⟩:=d'
 dsimp only at het hek hck hac hR⊢
 subst het hek hck hac
 rcases hR with⟨-,-,rfl,rfl,rfl,rfl,rfl,rfl,rfl,rfl,-⟩|⟨-,⟨-,hbz,-⟩,hkc,hC,hy,hO,-⟩
 ·exact⟨⟨h.lt1,h.lm1,h.laid,h.aok,h.by_,hnd,h.ym,h.ac,h.onk,h.el,h.ekk,h.pk,h.rg,h.qv⟩,fun _=>rfl⟩
 ·rw[←hkc] at hbz
  have hL:=h.laid
  have hW:cK kc':=hkc▸DR hL
  have hAw:mq kc':=hkc▸LA h.aok hL hz
  have hB':=KD h.by_ h.nd.1 hC
  have hg:=fun i=>yf h.nd.1 h.nd.2.1 hC i
  rw[hy] at hO
  have hbusy: ∀i∈dC d.kc kc',∀lf,qk d.kb lf≠[]→i∉bf d.kc lf:=fun i hi lf hlf hup=>by
   obtain⟨m,-,h2,h3,-⟩:=nu h.by_ hlf
   have:ow d.kc d.kb i=true:=by
    unfold ow;rw[List.any_eq_true]
    exact⟨lf,(Dq hL.nd).2 ⟨⟨_,h2,h3⟩,hlf⟩,by rw[List.contains_iff_mem];exact hup⟩
   have h4:(dC d.kc kc').any (ow d.kc d.kb)=true:=List.any_eq_true.2 ⟨i,hi,this⟩
   rw[hbz] at h4;cases h4
  have hself: ∀lf,qk d.kb lf≠[]→lf∈bf d.kc lf:=fun lf hlf=>by
   obtain⟨m,-,h2,-⟩:=nu h.by_ hlf
   rw[jT hL h2];exact List.mem_cons_self ..
  have hqk: ∀i,qk kb' i=qk d.kb i:=fun i=>by
   by_cases e:i∈dC d.kc kc'
   ·rw[W5<|(hg i).2 (.inl e)]
    exact(Classical.byContradiction fun hne=>hbusy i e i (fun h=>hne h.symm)<|hself i fun h=>hne h.symm)
   ·unfold qk;rw[((hg i).1 e).1]
  have hsame: ∀lf,qk d.kb lf≠[]→ ∀q∈bf d.kc lf,q∉dC d.kc kc':=fun lf hlf q hq ht=>hbusy q ht lf hlf hq
  have hup: ∀lf,qk d.kb lf≠[]→bf kc' lf=bf d.kc lf:=fun lf hlf=>by
   obtain⟨m,-,h2,-⟩:=nu h.by_ hlf
   exact JM hL hW _ lf (Nat.le_refl _) (.inr (by rw[h2];simp)) fun q hq=>yU<|hsame lf hlf q hq
  have hcl: ∀q,q∉dC d.kc kc'→aN kc' q=aN d.kc q:=fun q hq=>by unfold aN;rw[yU hq]
  have hlsame: ∀lf,qk d.kb lf≠[]→aN kc' lf=aN d.kc lf:=fun lf hlf=>hcl lf<|hsame lf hlf lf<|hself lf hlf
  obtain⟨A,hA,hK⟩:=h.ac
  obtain⟨A',hA',hon⟩:=Ds hW (KY (kc:=kc')) hO (W4 hW.nd) fun i hi=>by
   obtain⟨⟨c,h1,h2⟩,-⟩:=(Dq hW.nd).1 hi
   exact⟨by rw[iP h1];exact h2,by simp⟩
  have honk: ∀i,i∈on'.map (·.1)↔eL kc' i=true∧(aN kc' i).hl=true∧qk kb' i≠[]:=fun i=>by
   rw[hon,Dq hW.nd];simp only[List.map_nil,List.not_mem_nil,false_or]
   constructor
   ·rintro⟨⟨⟨c,h1,h2⟩,h3⟩,h4⟩;exact⟨h4,by rw[iP h1];exact h2,h3⟩
   ·rintro⟨h1,h2,h3⟩;obtain⟨c,h4,h5⟩:=kV h1;exact⟨⟨⟨c,h4,by rw[←h5];exact h2⟩,h3⟩,h1⟩
  have hkeys: ∀i,i∈on'.map (·.1)↔i∈d.on.map (·.1):=fun i=>by
   rw[honk,h.onk,hqk]
   by_cases e:qk d.kb i=[]
   ·simp[e]
   ·have:=hlsame i e
    unfold eL;rw[this]
  have hAA: ∀q,A' q↔A q:=fun q=>by
   rw[rp hW hA'.ast,rp hL hA.ast]
   constructor
   ·rintro⟨m,h1,h2⟩
    have h3:=(hkeys m).1 h1
    exact⟨m,h3,by rw[←hup m ((h.onk m).1 h3).2.2];exact h2⟩
   ·rintro⟨m,h1,h2⟩
    exact⟨m,(hkeys m).2 h1,by rw[hup m ((h.onk m).1 h1).2.2];exact h2⟩
  have hAeq:A'=A:=funext fun q=>propext<|hAA q
  subst hAeq
  have hAt: ∀q,A' q→q∉dC d.kc kc'∧((aN d.kc q).hp∉dC d.kc kc'):=fun q hq=>by
   obtain⟨m,h1,h2⟩:=(rp hL hA.ast q).1 hq
   have hm:=((h.onk m).1 h1).2.2
   refine⟨hsame m hm q h2,fun ht=>?_⟩
   rcases Dm hL _ m q (Nat.le_refl _) h2 with h3|h3
   ·exact hsame m hm _ h3 ht
   ·rw[h3] at ht
    have:=((vv d.kc kc').2 0).1 ht
    unfold kh at this;rw[nP hL,nP hW] at this;simp at this
  have hfit: ∀i,i∉dC d.kc kc'→nX kk' i=nX d.kk i:=fun i hi=>by unfold nX;rw[((hg i).1 hi).2]
  have hK':KT kc' A' kk' (fun q=>q=0):=fun p hp=>by
   by_cases e:p∈dC d.kc kc'
   ·rcases hp with rfl|⟨cp,hp,hl⟩
    ·have:=((vv d.kc kc').2 0).1 e
     unfold kh at this;rw[nP hL,nP hW] at this;simp at this
    ·rcases(hg p).2 (.inl e) with⟨h1,-⟩|⟨-,m,-,-,h4⟩
     ·exact absurd (Ud hp) h1
     ·obtain⟨v,h5,h6,h7⟩:=h4 (by rw[iP hp];exact hl)
      refine⟨v,h7,by rw[h5,h6];exact Bh,fun i=>?_,fun i y hy=>(by rw[h5] at hy;cases hy),fun i y hy=>(by rw[h5] at hy;cases hy)⟩
      rw[h5];refine⟨fun h8=>absurd rfl h8,fun⟨h8,h9⟩=>?_⟩
      obtain⟨a1,a2⟩:=hAt i h8
      rw[hcl i a1] at h9;rw[h9] at a2;exact absurd e a2
   ·have hpi:oz d.kc p:=by
     rcases hp with hp|⟨cp,hp,hl⟩
     ·exact .inl hp
     ·exact .inr ⟨cp,by rw[yU e];exact hp,hl⟩
    obtain⟨v,h1,h2⟩:=hK p hpi
    refine⟨v,by rw[((hg p).1 e).2];exact h1,h2.er,fun i=>?_,h2.rng,fun i y hy hl hn=>?_⟩
    ·rw[h2.key];constructor
     ·rintro⟨a,b⟩;exact⟨a,by rw[hcl i (hAt i a).1];exact b⟩
     ·rintro⟨a,b⟩;exact⟨a,by rw[←hcl i (hAt i a).1];exact b⟩
    ·have ha:=((h2.key i).1 (by rw[hy];simp)).1
     rw[hfit i (hAt i ha).1]
     exact h2.fit i y hy (by rw[←hcl i (hAt i ha).1];exact hl) hn
  have hrg:RG kb':=fun i m hm=>by
   by_cases e:i∈dC d.kc kc'
   ·rcases(hg i).2 (.inl e) with⟨-,h1⟩|⟨-,m',h1,h2,-⟩
    ·rw[h1] at hm;cases hm
    ·rw[h2] at hm;cases hm
     obtain⟨-,-,-,-,h3,-⟩:=h1
     rw[h3];exact MM
   ·rw[((hg i).1 e).1] at hm;exact h.rg i m hm
  have hqv:QV kb':=fun i m hm hl=>by
   by_cases e:i∈dC d.kc kc'
   ·rcases(hg i).2 (.inl e) with⟨-,h1⟩|⟨-,m',h1,h2,-⟩
    ·rw[h1] at hm;cases hm
    ·rw[h2] at hm;cases hm
     obtain⟨h3,-,-,-,-,-,h4,-⟩:=h1
     obtain⟨-,h5,h6,h7,h8⟩:=h4 (by rw[←h3];exact hl)
     exact⟨by rw[h6,h3],by rw[h8,h3],by rw[h7,h5];rfl⟩
   ·rw[((hg i).1 e).1] at hm;exact h.qv i m hm hl
  refine⟨⟨h.lt1,h.lm1,hW,hAw,hB',hnd,hy,⟨A',hA',hK'⟩,honk,h.el,fun i hi=>?_,fun i p hp=>?_,hrg,hqv⟩,hqk⟩
  ·obtain⟨h1,h2⟩:=h.ekk i hi
   show qk kb' i≠[]∧jM (aN kc' i)=true
   rw[hqk,hlsame i h1];exact⟨h1,h2⟩
  ·exact h.pk i p (by rw[←hqk];exact hp)
theorem zV(h1:1≤c.lt∧c.lt≤65536)(h2:1≤c.lm∧c.lm≤16384)(h:lZ d):Iv c d:=by
 obtain⟨bt,mc,kc,kb,a,on,ka,et,ek,kk,ck,ac⟩:=d
 obtain⟨e1,e2,e3,e4,e5,e6,e7,⟨v,e8,e9,e10⟩,-,-⟩:=h
 dsimp only at e1 e2 e3 e4 e5 e6 e7 e8
 subst e1 e2 e4 e5 e6 e7 e8
 refine⟨h1,h2,Hi,⟨[],UN⟩,fun i=>⟨rfl,fun m hm=>(by cases hm)⟩,⟨by simp,by simp,by simp⟩,e3,⟨_,KY,fun p hp=>?_⟩,fun i=>by simp[qk,aB],Bh,fun i hi=>absurd rfl hi,fun i p hp=>(by cases hp),fun i m hm=>(by cases hm),fun i m hm=>(by cases hm)⟩
 rcases hp with rfl|⟨cp,hp,-⟩
 ·refine⟨v,by simp[aB],by rw[e9,e10];exact Bh,fun i=>by rw[e9];simp[aB],fun i y hy=>(by rw[e9] at hy;cases hy),fun i y hy=>(by rw[e9] at hy;cases hy)⟩
 ·cases hp
def i8(d:Sd):Nat:=((d.kc.map (·.1)).map fun i=>(qk d.kb i).length).sum
theorem JO:o9 c (Iv c) i8 where
 pre d h:=KW h
 take d now z ok d' h _ ht:=by
  obtain⟨h1,h2,h3,-⟩:=Cf h ht
  have hkc:d'.kc=d.kc:=ht.1.2.2.1
  refine⟨h1,?_⟩
  unfold i8;rw[hkc]
  cases ok with
  |false=>
   have:(fun i=>(qk d'.kb i).length)=fun i=>(qk d.kb i).length:=funext fun i=>by rw[h2 i];simp
   rw[this];exact⟨Nat.le_refl _,fun e=>by cases e⟩
  |true=>
   obtain⟨m,-,h4,-⟩:=nu h.by_<|h3 rfl
   have:=vo (f:=fun i=>(qk d.kb i).length) (g:=fun i=>(qk d'.kb i).length) (i:=z.gq1) (fun j hj=>by
    rw[h2 j];simp[show¬z.gq1=j from fun e=>hj e.symm]) h.laid.nd<|lz.1 (by rw[h4];simp)
   have h5:=congrArg List.length<|h2 z.gq1;simp at h5
   omega
 put d now ci p er d' h _ ht:=by
  obtain⟨h1,h2,h3,-⟩:=Dp h ht
  have hkc:d'.kc=d.kc:=ht.1.2.2.1
  refine⟨h1,?_⟩
  unfold i8;rw[hkc]
  by_cases e:er=0
  ·have:=vo (f:=fun i=>(qk d.kb i).length) (g:=fun i=>(qk d'.kb i).length) (i:=ci) (fun j hj=>by
    rw[h2 j];simp[show¬ci=j from fun e=>hj e.symm]) h.laid.nd<|h3 e
   have h5:=congrArg List.length<|h2 ci;simp[e] at h5
   omega
  ·have:(fun i=>(qk d'.kb i).length)=fun i=>(qk d.kb i).length:=funext fun i=>by rw[h2 i];simp[e]
   rw[this];omega
 chg d idle l pl er d' h hz ht:=by
  obtain⟨h1,h2⟩:=Dt h hz ht
  refine⟨h1,?_⟩
  unfold i8
  have:(fun i=>(qk d'.kb i).length)=fun i=>(qk d.kb i).length:=funext fun i=>by rw[h2 i]
  rw[this]
  refine yd h1.laid.nd fun i _ hi=>?_
  obtain⟨m,-,h4,-⟩:=nu h.by_ (i:=i) fun e=>hi (by rw[e];rfl)
  exact lz.1 (by rw[h4];simp)
 go d now z ok d' h hd hn ht:=E9 h hd hn ht
theorem JP(h:lZ d):i8 d=0:=by unfold i8;rw[h.1];rfl
theorem KZ(hL:cK kc): ∀(n:Nat)(i:Int),dep kc i≤n→aB kc i≠none→ ∃r∈bf kc i,(aN kc r).hp=0
 |n,i,hn,hi=>by
  cases e:aB kc i with
  |none=>exact absurd e hi
  |some c=>
   have hd:=jD hL e
   cases n with
   |zero=>omega
   |succ n=>
    rw[jT hL e]
    rcases hL.par i c e with h1|⟨p,h1,-⟩
    ·exact⟨i,List.mem_cons_self ..,by rw[iP e];exact h1⟩
    ·obtain⟨r,h2,h3⟩:=KZ hL n c.hp (by omega) (by rw[h1];simp)
     exact⟨r,List.mem_cons_of_mem _ h2,h3⟩
theorem Ea(h:Iv c d)(hz:gP d.kb∧ZK d.kc d.kk)(hs:eL d.kc i=true)(hl:(aN d.kc i).hl=true)(hq:qk d.kb i≠[]):kY d.et d.kk≤0:=by
 obtain⟨A,hA,hK⟩:=h.ac
 have hi:=hA.ast.ons i<|(h.onk i).2 ⟨hs,hl,hq⟩
 obtain⟨r,h1,h2⟩:=KZ h.laid _ i (Nat.le_refl _)<|wW hs
 have hr:=vV h.laid hA.ast _ i (Nat.le_refl _) hi r h1
 obtain⟨v,h3,h4⟩:=hK 0<|.inl rfl
 have h5:=(h4.key r).2 ⟨hr,h2⟩
 have h6:iZ v.t.toL=0:=by
  refine KU (fun y hy=>h4.rng _ y<|qe h4.er hy) (fun y hy=>hz.2 0 v (.inl rfl) h3 _ y<|qe h4.er hy) fun h=>?_
  have:=h4.er.len;rw[h] at this
  have:=List.eq_nil_of_length_eq_zero this.symm
  rw[this] at h5;exact h5 rfl
 unfold kY;rw[h3];simp only[Option.map_some,Option.getD_some];rw[h6]
 unfold bD;split<;>omega
variable{now:Int}
theorem W6{ci:Int}{p:Pk}{cl:Cl}(h:Iv c d)(hc:aB d.kc ci=some cl)(hl:cl.hl=true)(h1:1≤p.qn∧p.qn≤c.lm)(h2:IntKind.u64.wrap (d.ac+IntKind.u64.wrap p.qn)≤1099511627776)(h3:nY (qk d.kb ci)+p.qn≤cl.hq)(h4:((qk d.kb ci).length:Int)<cl.hk)
  (ht:pq c d now ci p er d'):er=0∧d'.ac=IntKind.u64.wrap (d.ac+IntKind.u64.wrap p.qn)∧d'.kc=d.kc:=by
 obtain⟨⟨-,-,hkc,-⟩,-,⟨-,hn,-⟩|⟨h5,h6,-⟩⟩:=ht
 rotate_left
 ·exact⟨h5,h6,hkc⟩
 exfalso
 obtain⟨m,hm,he,ho⟩:=uY h.by_ hc
 have hq:=h.qv ci m hm (by rw[he];exact hl)
 rw[lF hm] at h3 h4
 obtain⟨b,hb⟩:=Option.isSome_iff_exists.1<|ho.lf.1 (by rw[he];exact hl)
 have hk:=ho.qu (by rw[hb];rfl)
 have hr:=yK (l:=qC m.q) (by rw[←lF hm];exact h.pk ci)
 have hn2:(qC m.q).length≤64:=by rw[nN];unfold l0 at hk;omega
 have hlm:=h.lm1
 refine hn m ⟨hm,by rw[he];exact hl,h1.1,h1.2,h2,?_,?_⟩
 ·rw[hq.1,hq.2.2,he]
  have hh:cl.hq≤1048576:=by
   have:=(h.laid.key ci cl hc).2;unfold fC at this;rw[if_pos hl] at this;grind
  rw[C9 (by constructor<;>omega)];omega
 ·have:=hq.2.1;rw[he] at this;rw[nN] at h4;omega
def zA:Zc:=⟨1,1,0,true,0,0,0,65536,0,65536,0,0,0,3,300⟩
def rA:Rl:=⟨0,0,0,0,0,0,0,0,1⟩
def pA:Pk:=⟨7,100,0,0,0,0⟩
def cA:Cl:=⟨1,0,true,0,0,0,65536,0,65536,0,0,0,3,300⟩
theorem XR:cF [] [zA]=[(1,cA)]:=by kernel_rfl
theorem XS:gw [] 1 [zA]=0:=by kernel_rfl
theorem XT:lY [rA]:=⟨by decide,by decide,by simp[kg,rA]⟩
theorem MN:ef [rA] (fR pA)=1:=by kernel_rfl
structure uu(c:Ss)(d:Sd)(l:List Pk)(ac:Int):Prop where
 iv:Iv c d
 kc:d.kc=[(1,cA)]
 z:gP d.kb∧ZK d.kc d.kk
 q:qk d.kb 1=l
 ac:d.ac=ac
theorem Ep(h:kc=[(1,cA)]){x:Cl}(hx:aB kc i=some x):i=1∧x=cA:=by
 subst h;simp only[aB] at hx;split at hx
 ·rename_i e;cases hx;exact⟨e.symm,rfl⟩
 ·cases hx
theorem Ue{pl:Int}(h1:c.lt=1)(h2:c.lm=100)(hn:lZ d)(ht:tc c d true [zA] pl er d'):uu c d' [] 0:=by
 have hz: ∀z∈[zA],iy z:=by simp[iy,zA]
 have hI:=zV (c:=c) (by rw[h1];decide) (by rw[h2];decide) hn
 obtain⟨k1,k2⟩:=Dt hI hz ht
 obtain⟨e1,e2,-,-,-,-,-,⟨v,e8,e9,-⟩,-,e11⟩:=hn
 obtain⟨-,-,-,hac,hR,-⟩:=ht
 rw[e1,e2,e8,h1] at hR
 have hld:eN [] d.kb=[]:=by unfold eN um aX gJ;simp
 have hok:we [] 1 true [] [zA]:=by
  refine⟨XS,?_,.inr ⟨rfl,by rw[←e2];exact hld⟩⟩
  rw[List.any_eq_false];intro x _;unfold ow;rw[←e2,hld];simp
 rcases hR with⟨-,h,-⟩|⟨-,-,hkc,hC,-⟩
 ·exact absurd hok h
 rw[XR] at hkc;rw[hkc] at hC
 have hg:=fun i=>yf (kb:=([]:bm En)) (kk:=[((0:Int),v)]) (by simp) (by simp) hC i
 refine⟨k1,hkc,⟨fun i m hm=>?_,fun p w hp hw i y hy=>?_⟩,by rw[k2];unfold qk;rw[e2];rfl,by rw[hac,e11]⟩
 ·obtain⟨q1,q2⟩:=Ep hkc<|lO k1.by_ hm
  refine⟨by rw[q2];decide,?_⟩
  by_cases e:i∈dC [] [(1,cA)]
  ·rcases(hg i).2 (.inl e) with⟨-,h1⟩|⟨-,m',h1,h2,-⟩
   ·rw[h1] at hm;cases hm
   ·rw[h2] at hm;cases hm
    exact h1.2.2.2.2.2.1
  ·rw[((hg i).1 e).1] at hm;cases hm
 ·exfalso
  rcases hp with rfl|⟨x,hx,hl⟩
  ·have e:(0:Int)∉dC [] [(1,cA)]:=fun e=>by
    have:=((vv [] [(1,cA)]).2 0).1 e
    unfold kh at this;simp[aB] at this
   rw[((hg 0).1 e).2] at hw
   simp only[aB,if_pos] at hw;cases hw
   rw[e9] at hy;cases hy
  ·have:=(Ep hkc hx).2;rw[this] at hl;cases hl
theorem K0{ac:Int}(h2:c.lm=100)(hn:0≤ac∧ac≤100)(h:uu c d [] ac)(ht:pq c d now 1 pA er d'):er=0∧uu c d' [pA] (ac+100):=by
 have hm:aB d.kc 1=some cA:=by rw[h.kc];rfl
 have hw:IntKind.u64.wrap (d.ac+IntKind.u64.wrap pA.qn)=ac+100:=by
  rw[h.ac,show IntKind.u64.wrap pA.qn=100 from rfl];exact wrap_u64 (by constructor<;>omega)
 obtain⟨rfl,h4,h5⟩:=W6 h.iv hm rfl (by rw[h2];decide) (by rw[hw];omega) (by rw[h.q];decide) (by rw[h.q];decide) ht
 obtain⟨k1,k2,-,k4⟩:=Dp h.iv ht
 exact⟨rfl,k1,h5.trans h.kc,k4 h.z,by rw[k2,h.q];simp,by rw[h4,hw]⟩
theorem JQ{ac:Int}{z:Pd}{ok:Bool}(h0:0≤now∧now≤4611686018427387904)(h:uu c d [pA] ac)(ht:pa d now z ok d'):ok=true∧z.gq3=100∧uu c d' [] ac:=by
 have hq:qk d.kb 1≠[]:=by rw[h.q];simp
 have hd:=Ea h.iv h.z (i:=1) (by rw[h.kc];decide) (by rw[h.kc];decide) hq
 have hok:=E9 h.iv (by omega) h0.2 ht
 subst hok
 obtain⟨k1,k2,k3,k4⟩:=Cf h.iv ht
 obtain⟨m,-,h2,-⟩:=nu h.iv.by_<|k3 rfl
 obtain⟨e,-⟩:=Ep h.kc h2
 have h5:=k2 1
 rw[h.q,e] at h5;simp at h5
 obtain⟨h6,h7⟩:=h5
 refine⟨rfl,?_,k1,ht.1.2.2.1.trans h.kc,k4 h.z,h7,ht.2.2.1.trans h.ac⟩
 have:=congrArg Pk.qn h6;exact this.symm
theorem Uf(h:uu c d [pA] 200)(ha:oI 1 4 150 0 d 100 [] d' un' evs): ∃e,evs=[e]∧e.vq4=100∧e.vq5=200:=by
 have hq:qk d.kb 1≠[]:=by rw[h.q];simp
 have hd:=Ea h.iv h.z (i:=1) (by rw[h.kc];decide) (by rw[h.kc];decide) hq
 have hx:iU 0 100 d=100:=by unfold iU nW pE bD;grind
 cases ha with
 |stop h1=>rw[hx] at h1;omega
 |step h1 hp ha=>
  rw[hx] at hp ha
  rcases hp with⟨h2,-⟩|⟨-,z,ok,ht,hp⟩
  ·omega
  obtain⟨rfl,h3,h4⟩:=JQ (by decide) h ht
  rcases hp with⟨h5,-⟩|⟨-,rfl,rfl⟩
  ·cases h5
  rw[h3] at ha
  cases ha with
  |stop h6=>exact⟨_,rfl,rfl,by show 100+z.gq3*1=200;rw[h3];rfl⟩
  |step h6 hp ha=>exfalso;have:=(vt h6<|by decide).2.1;omega
theorem Po{ev:List Ev}{o1 o2 o3 o4 o5:eX}(h1:o1.kd=1∧o1.zl=[zA])(h2:o2.kd=2∧o2.rl=[rA])(h3:o3.kd=3∧o3.op=pA)(h4:o4.kd=3∧o4.op=pA)(h5:o5.kd=4∧o5.tk=150)(hlt:c.lt=1)(hlm:c.lm=100)(hn:lZ d)
  (h:oD c 1 [o1,o2,o3,o4,o5] 0 d 0 0 [] rsl ev): ∃e0 e1 e2 e3,ev=[e0,e1,e2,e3]∧e0.vq2=true∧e1.vq5=100∧e3.vq4=100∧e3.vq5=200:=by
 obtain⟨x1,v1,d1,un1,k1,l1,-,w1,hd,⟨x2,v2,d2,un2,k2,l2,-,w2,he,⟨x3,v3,d3,un3,k3,l3,-,w3,hf,⟨x4,v4,d4,un4,k4,l4,-,w4,hg,⟨x5,v5,d5,un5,k5,l5,-,w5,hh,⟨-,rfl⟩,-,rfl⟩,-,rfl⟩,-,rfl⟩,-,rfl⟩,-,rfl⟩:=h
 rw[h1.1,h1.2] at hd;rw[h2.1,h2.2] at he;rw[h3.1,h3.2] at hf;rw[h4.1,h4.2] at hg;rw[h5.1,h5.2] at hh
 obtain⟨-,⟨er,pl,hC,-⟩,rfl,rfl,rfl,rfl⟩|⟨q,-⟩|⟨q,-⟩|⟨q,-⟩|⟨q,-⟩:=hd
 rotate_left
 ·cases q
 ·cases q
 ·cases q
 ·exact absurd rfl q.1
 have a1:=Ue hlt hlm hn hC
 obtain⟨q,-⟩|⟨-,rfl,rfl,rfl,rfl,⟨-,rfl,-⟩|⟨q,-⟩⟩|⟨q,-⟩|⟨q,-⟩|⟨q,-⟩:=he
 ·cases q
 rotate_left
 ·exact absurd XT q
 ·cases q
 ·cases q
 ·exact absurd rfl q.2.1
 have hfc:mg 1=0:=rfl
 obtain⟨q,-⟩|⟨q,-⟩|⟨-,rfl,rfl,hp⟩|⟨q,-⟩|⟨q,-⟩:=hf
 ·cases q
 ·cases q
 rotate_left
 ·cases q
 ·exact absurd rfl q.2.2.1
 unfold uB at hp;rw[MN] at hp
 obtain⟨q,-⟩|⟨-,er3,d2',hP,hp⟩:=hp
 ·exact absurd hfc q
 obtain⟨rfl,a2⟩:=K0 hlm (by decide) a1 hP
 obtain⟨q,-⟩|⟨-,-,hp⟩:=hp
 ·exact absurd rfl q
 obtain⟨q,-⟩|⟨-,z,ok,ht,hp⟩:=hp
 ·omega
 obtain⟨rfl,hz,a3⟩:=JQ (by decide) a2 ht
 obtain⟨q,-⟩|⟨-,rfl,rfl⟩:=hp
 ·cases q
 obtain⟨q,-⟩|⟨q,-⟩|⟨-,rfl,rfl,hp⟩|⟨q,-⟩|⟨q,-⟩:=hg
 ·cases q
 ·cases q
 rotate_left
 ·cases q
 ·exact absurd rfl q.2.2.1
 unfold uB at hp;rw[MN] at hp
 obtain⟨q,-⟩|⟨-,er4,d4',hP,hp⟩:=hp
 ·exact absurd hfc q
 obtain⟨rfl,a4⟩:=K0 hlm (by decide) a3 hP
 obtain⟨q,-⟩|⟨-,-,hp⟩:=hp
 ·exact absurd rfl q
 rw[hz] at hp
 obtain⟨-,rfl,rfl,rfl⟩|⟨q,-⟩:=hp
 rotate_left
 ·omega
 obtain⟨q,-⟩|⟨q,-⟩|⟨q,-⟩|⟨-,rfl,hp⟩|⟨q,-⟩:=hh
 ·cases q
 ·cases q
 ·cases q
 rotate_left
 ·exact absurd rfl q.2.2.2
 obtain⟨q,-⟩|⟨-,-,rfl,ha⟩:=hp
 ·omega
 obtain⟨e,rfl,e1,e2⟩:=Uf a4 ha
 refine⟨_,_,_,e,rfl,rfl,?_,e1,e2⟩
 show 0+z.gq3*1=100
 rw[hz];rfl
theorem JY(t lm:Int)(al:bn)(ops:List eX)(cl:Nat)(hol:ops.length≤1000)(htt:1≤t∧t≤65536)(hlm:1≤lm∧lm≤16384)(w:World)(hoa:dR w al (V.aQ mW ops))(hops:pj w ops)(hs:HS w (aL []) [] w):
  Calls Tryz.prog 9 #[.agg #[i_ t,i_ lm,vS al ops cl]] w fun e w'=> ∃zz:bn×List Rs×Nat×bn×List Ev×Nat,e= .returned (.tuple #[.agg #[vS zz.1 zz.2.1 zz.2.2.1,vS zz.2.2.2.1 zz.2.2.2.2.1 zz.2.2.2.2.2],i_ 0])∧(∃c d,c.lt=t∧c.lm=lm∧lZ d∧oD c t ops 0 d 0 0 [] zz.2.1 zz.2.2.2.2.1)∧Turn [] [pC zz.1 zz.2.1 zz.2.2.1,gW zz.2.2.2.1 zz.2.2.2.2.1 zz.2.2.2.2.2] w w':=by
 have ho:(eJ w).holds w:=⟨Nat.le_refl _,fun _ _=>rfl⟩
 have hf:aL [eJ w]=List.range w.heap.size:=by simp[aL,eJ]
 refine(Wm w t lm al ops cl hoa hops hol htt hlm (fun c d h1 h2 h3=>⟨Iv c,i8,JO,zV (by rw[h1];exact htt) (by rw[h2];exact hlm) h3,JP h3⟩) w<|HS.start w _ (fun it hi=>by rw[List.mem_singleton] at hi;subst hi;exact ho) (by rw[hf];exact List.nodup_range)).mono ?_
 rintro e w' ⟨⟨A,rs,a,B,ev,b⟩,h1,h2,h3⟩
 have hw:=h3.all (eJ w)<|List.mem_cons_self ..
 have hn:=h3.nodup
 change(aL<|[eJ w]++[pC A rs a,gW B ev b]).Nodup at hn
 rw[lI] at hn
 obtain⟨-,n2,n3⟩:=List.nodup_append.1 hn
 refine⟨(A,rs,a,B,ev,b),h1,h2,⟨h3.fr.os,h3.fr.tape,h3.fr.output,h3.fr.size,fun k hk _=>hw.2 k hk⟩,fun it hi=>h3.all it<|List.mem_cons_of_mem _ hi,n2,fun b hb=> .inr ?_⟩
 rcases Nat.lt_or_ge b w.heap.size with h|h
 ·exact absurd rfl (n3 b (by rw[hf];exact List.mem_range.2 h) b hb)
 ·exact h
theorem yj{w0 w:World}{H:List V.aH}(h:pj w0 ops)(s:HS w0 [] H w):pj w ops:=fun x hx=>by
 obtain⟨h1,h2,h3⟩:=h x hx
 exact⟨bg h1 (by simp) w s,bg h2 (by simp) w s,h3⟩
def mi(t lm:Int):Bool:=decide (t≥1)&&decide (t≤65536)&&decide (lm≥1)&&decide (lm≤16384)
def ux(o:eX):Bool:= !(decide ((o.zl.length:Int)>40)||decide ((o.rl.length:Int)>40))
def jY(ops:List eX)(m:Int):Bool:=decide ((ops.length:Int)≤m)&&ops.all ux
variable{m:Int}
theorem QD(h:(ops.length:Int)>m):jY ops m=false:=by unfold jY;simp;omega
theorem VI{o:eX}(hk:ops[k]? =some o)(h:ux o=false):jY ops m=false:=by
 unfold jY;rw[Bool.and_eq_false_iff];right;rw[List.all_eq_false];exact⟨o,cT hk,by simp[h]⟩
theorem Rw(h: ¬(ops.length:Int)>m)(hk:ops.length≤k)(hn: ∀j y,j<k→ops[j]? =some y→ux y=true):jY ops m=true:=by
 unfold jY;rw[Bool.and_eq_true];refine⟨by simp;omega,?_⟩
 rw[List.all_eq_true];intro x hx
 obtain⟨j,h1,h2⟩:=List.getElem_of_mem hx
 exact hn j x (by omega) (by rw[←h2];exact dA h1)
theorem Wb(t lm:Int)(w:World):
  CW 29 #[.agg #[i_ t,i_ lm]] w (b_<|mi t lm):=by
 refine aU Tryz.func29 rfl (HS.nil w) (aC<|dD [.al] [] (fun b1=>[(1,p_ b1)]) (fun b1=>aA b1 [i_ t,i_ lm] 23) ?_)
 intro b1
 refine aC<|bF [.ld 0,.o,.ld 0,.cl,.o,.ld 0,.cl,.o,.ld 0,.cl] [(2,b_<|(((decide (t≥1))&&(decide (t≤65536)))&&(decide (lm≥1)))&&(decide (lm≤16384)))]<|aF<|bK [b_<|(((decide (t≥1))&&(decide (t≤65536)))&&(decide (lm≥1)))&&(decide (lm≤16384))] ?_
 rfl
theorem Wc(t lm:Int)(al:bn)(ops:List eX)(cl:Nat)(m:Int)(hm:m≤1000)(w:World)(r0:dR w al (V.aQ mW ops)):
  CW 30 #[.agg #[i_ t,i_ lm,vS al ops cl],i_ m] w (b_<|jY ops m):=by
 refine aU Tryz.func30 rfl (HS.nil w) (aC<|dD [.al] [] (fun b1=>[(2,p_ b1)]) (fun b1=>aA b1 [i_ t,i_ lm,vS al ops cl] 26) ?_)
 intro b1
 refine cS<|bF [.ld 0] [(11,b_<|decide ((ops.length:Int)>m))]<|aI rfl (fun e1=>?_) (fun e1=>?_)
 ·have p1:=dZ e1
  refine aD [(4,b_ false)]<|aF<|bK [b_ false] ?_
  show((b_ false):Value)=(b_<|jY ops m)
  rw[QD<|by omega]
 have p1:=ga e1
 refine aP<|cS<|bF [.ld 0] [(13,vS al ops cl),(14,c_ ops.length),(15,i_ 0)]<|aO<|eA (σ:=Nat) [] (fun k=>[(15,c_ k)]) [] (fun k=>[]) (fun k=>(k≤ops.length)∧(∀j y,j<k→ops[j]? =some y→ux y=true)) (fun k=>ops.length-k) (0:Nat) ⟨(by omega),(by intro j y hj;omega)⟩ ?_ ?_
 ·exact bB [0]
 rintro k ⟨hk,hn⟩
 refine aD [(16,b_<|decide ((k:Int)<(ops.length:Int)))]<|aE<|aI rfl (fun e2=>?_) (fun e2=>?_)
 ·have p2:=dZ e2
  refine au<|aO<|aC<|ic [.ix] [(17,.pointer<|some<|(aZ al).add (k*10))] (o1<|io (k:Int)<|dh mO (by decide) (bg r0<|by simp[aL])<|by omega) ?_
  obtain⟨x2,hx2⟩: ∃x,(ops)[k]? =some x:=⟨_,dA<|by omega⟩
  refine iE [.rd [i_ x2.kd,vS x2.za x2.zl x2.zc,vS x2.ra x2.rl x2.rc,u_ x2.op.qi,i_ x2.op.qn,w_ x2.op.qa,w_ x2.op.qb,w_ x2.op.qc,w_ x2.op.qd,u_ x2.tk],.al,.st 1] [] (fun b3=>[(6,p_ b3)]) (fun b3=>[]) (fun b3=>aA b3 [i_ x2.kd,vS x2.za x2.zl x2.zc,vS x2.ra x2.rl x2.rc,u_ x2.op.qi,i_ x2.op.qn,w_ x2.op.qa,w_ x2.op.qb,w_ x2.op.qc,w_ x2.op.qd,u_ x2.tk] 47) (fun b3=>o1<|ro ((aZ al).add (k*10))<|dY (vs:=[i_ x2.kd,vS x2.za x2.zl x2.zc,vS x2.ra x2.rl x2.rc,u_ x2.op.qi,i_ x2.op.qn,w_ x2.op.qa,w_ x2.op.qb,w_ x2.op.qc,w_ x2.op.qd,u_ x2.tk]) mO (bg r0<|by simp[aL]) hx2 (Nat.le_of_ble_eq_true rfl) rfl) ?_
  intro b3
  refine aC<|bF [.ld 1,.o,.ld 1,.cl] [(28,b_<|(decide ((x2.zl.length:Int)>40))||(decide ((x2.rl.length:Int)>40)))]<|aI rfl (fun e3=>?_) (fun e3=>?_)
  ·have p3:=e3;try simp only[bQ] at p3
   refine aD [(4,b_ false)]<|aF<|bK [b_ false] ?_
   show((b_ false):Value)=(b_<|jY ops m)
   rw[VI ‹_› (by unfold ux;simp;omega)]
  have p3:=e3
  refine aP<|aM<|az [.w<|(k:Int)+1] [(15,i_<|(k:Int)+1)] (o1<|wj ((k:Int)+1)<|by omega)<|bC (k+1) ⟨(by omega),(by intro j y hj_ hy_;rcases Nat.lt_succ_iff_lt_or_eq.1 hj_ with h_|rfl;exact hn j y h_ hy_;simp_all[ux])⟩ (by omega) ?_
  exact bB [0]
 have p2:=ga e2
 refine bR<|aD [(4,b_ true)]<|aF<|bK [b_ true] ?_
 show((b_ true):Value)=(b_<|jY ops m)
 rw[Rw (by omega) (by omega) hn]
theorem Rx(t lm:Int)(al:bn)(ops:List eX)(cl:Nat)(m:Int)(hm:m≤1000)(w:World)(r0:dR w al (V.aQ mW ops)):
  CW 7 #[.agg #[i_ t,i_ lm,vS al ops cl],i_ m] w (b_<|mi t lm&&jY ops m):=by
 refine aU Tryz.func7 rfl (HS.nil w) (aC<|dD [.al] [] (fun b1=>[(2,p_ b1)]) (fun b1=>aA b1 [i_ t,i_ lm,vS al ops cl] 26) ?_)
 intro b1
 refine bW [.ld 0,.cq<|b_<|mi t lm,.o,.ld 0,.cq<|b_<|jY ops m,.cl] [(4,b_<|(mi t lm)&&(jY ops m))] (oc (qw<|Wb t lm)<|o1<|go (true&&((mi t lm)==true)) fun h_=>(qo<|fun w s=>Wc t lm al ops cl m ‹_› w ((bg r0<|by simp[aL]) w s)))<|aF<|bK [b_<|(mi t lm)&&(jY ops m)] ?_
 rfl
theorem VJ{lm:Int}(h:mi t lm=true):(1≤t∧t≤65536)∧1≤lm∧lm≤16384:=by unfold mi at h;simp at h;omega
theorem Ry(h:jY ops m=true):(ops.length:Int)≤m:=by unfold jY at h;simp at h;exact h.1
theorem JZ: ∀{ops:List eX}{no un clk:Int}{d:Sd}{rl:List Rl}{rsl:List Rs}{evl:List Ev},oD c t ops no d un clk rl rsl evl→Iv c d→d.ck≤clk→0≤clk∧clk≤4611686018427387904→(∀o∈ops,(∀z∈o.zl,iy z)∧0≤o.tk)→evl.length≤i8 d+2*ops.length
 |[],no,un,clk,d,rl,rsl,evl,⟨h1,h2⟩,_,_,_,_=>by subst h2;simp
 |o::ops,no,un,clk,d,rl,rsl,evl,⟨x,evs,d',un',clk',rl',rsl',evl',hd,hr,h1,h2⟩,hI,hk,hc,hz=>by
  subst h1 h2
  obtain⟨z1,z2⟩:=hz o<|List.mem_cons_self ..
  obtain⟨a1,a2,a3,a4⟩:=Ky JO z1 z2 hI hk hc hd
  have:=JZ hr a1 a2 a3 fun o ho=>hz o<|List.mem_cons_of_mem _ ho
  simp;omega
theorem Wx{w:World}{za ra:bn}{zc rc:Nat}(h1:dR w za (V.aQ gi [zA]))(h2:dR w ra (V.aQ fV [rA])):pj w [⟨1,za,[zA],zc,none,[],0,⟨0,0,0,0,0,0⟩,0⟩,⟨2,none,[],0,ra,[rA],rc,⟨0,0,0,0,0,0⟩,0⟩,⟨3,none,[],0,none,[],0,pA,0⟩,⟨3,none,[],0,none,[],0,pA,0⟩,⟨4,none,[],0,none,[],0,⟨0,0,0,0,0,0⟩,150⟩]:=by
 intro x hx
 have hn:dR w none ([]:cn):=fun j u h=>by simp at h
 simp only[List.mem_cons,List.not_mem_nil,or_false] at hx
 rcases hx with rfl|rfl|rfl|rfl|rfl
 ·exact⟨h1,hn,by simp[iy,zA],by simp,by simp[k7,fR],by simp⟩
 ·exact⟨hn,h2,by simp,by simp[kg,rA],by simp[k7,fR],by simp⟩
 ·exact⟨hn,hn,by simp,by simp,by simp[k7,fR,pA],by simp⟩
 ·exact⟨hn,hn,by simp,by simp,by simp[k7,fR,pA],by simp⟩
 ·exact⟨hn,hn,by simp,by simp,by simp[k7,fR],by simp⟩
abbrev Kp(p0):=(.slice (some ⟨p0,0,none⟩) 5 5:Value)
abbrev wO(p0):=(.slice (some ⟨p0,0,none⟩) 1 1:Value)
abbrev Kq(p0):=(aA p0 [w_ 0,w_ 0,w_ 0,w_ 0,w_ 0,w_ 0,w_ 0,w_ 0,i_ 1] 86:V.aH)
abbrev zj(p0):=(aA p0 [i_ 3,e_,e_,u_ 7,i_ 100,w_ 0,w_ 0,w_ 0,w_ 0,u_ 0] 47:V.aH)
abbrev EF(p0):=(aA p0 [i_ 1,i_ 1,i_ 0,b_ true,u_ 0,u_ 0,u_ 0,u_ 65536,u_ 0,u_ 65536,u_ 0,u_ 0,u_ 0,i_ 3,i_ 300] 84:V.aH)
abbrev zm(p0):=(aA p0 [i_ 1,i_ 0,b_ true,u_ 0,u_ 0,u_ 0,u_ 65536,u_ 0,u_ 65536,u_ 0,u_ 0,u_ 0,i_ 3,i_ 300] 62:V.aH)
abbrev VK(p0)(p1)(p2):=(aA p0 [i_ 1,.slice (some ⟨p1,0,none⟩) 1 1,e_,u_ 0,i_ 0,w_ 0,w_ 0,w_ 0,w_ 0,u_ 0,i_ 2,e_,.slice (some ⟨p2,0,none⟩) 1 1,u_ 0,i_ 0,w_ 0,w_ 0,w_ 0,w_ 0,u_ 0,i_ 3,e_,e_,u_ 7,i_ 100,w_ 0,w_ 0,w_ 0,w_ 0,u_ 0,i_ 3,e_,e_,u_ 7,i_ 100,w_ 0,w_ 0,w_ 0,w_ 0,u_ 0,i_ 4,e_,e_,u_ 0,i_ 0,w_ 0,w_ 0,w_ 0,w_ 0,u_ 150] 47:V.aH)
theorem J0(w:World):
  CW 8 #[] w (b_ true):=by
 refine aU Tryz.func8 rfl (HS.nil w) (eo [] [] trivial rfl (aD []<|aC<|dS [.al,.st 0] [] (fun b1=>[(1,p_ b1)]) (fun _=>[]) (fun b1=>zm b1) ?_))
 intro b1
 refine aC<|dS [.al,.st 1] [] (fun b2=>[(2,p_ b2)]) (fun _=>[]) (fun b2=>zj b2) ?_
 intro b2
 refine aC<|bA 3 [.ld 0] [(10,.agg #[i_ 1,i_ 100]),(12,.agg #[i_ 1,i_ 1,i_ 0,b_ true,u_ 0,u_ 0,u_ 0,u_ 65536,u_ 0,u_ 65536,u_ 0,u_ 0,u_ 0,i_ 3,i_ 300])]<|aG<|eB 13 (e:=84) [i_ 1,i_ 1,i_ 0,b_ true,u_ 0,u_ 0,u_ 0,u_ 65536,u_ 0,u_ 65536,u_ 0,u_ 0,u_ 0,i_ 3,i_ 300] (by kernel_rfl) rfl (fun _=>by kernel_rfl) (fun b3=>[zm b1,zj b2,EF b3]) (fun _=>rfl) ?_
 intro b3
 refine bA 2 [] [(14,.agg #[i_ 1,wO b3,e_,u_ 0,i_ 0,w_ 0,w_ 0,w_ 0,w_ 0,u_ 0]),(15,.agg #[w_ 0,w_ 0,w_ 0,w_ 0,w_ 0,w_ 0,w_ 0,w_ 0,i_ 1])]<|aG<|eB 16 (e:=86) [w_ 0,w_ 0,w_ 0,w_ 0,w_ 0,w_ 0,w_ 0,w_ 0,i_ 1] (by kernel_rfl) rfl (fun _=>by kernel_rfl) (fun b4=>[zm b1,zj b2,EF b3,Kq b4]) (fun _=>rfl) ?_
 intro b4
 refine j0 [.p,.ld 1,.ld 1,.p] [(10,.agg #[i_ 1,i_ 100]),(14,.agg #[i_ 1,wO b3,e_,u_ 0,i_ 0,w_ 0,w_ 0,w_ 0,w_ 0,u_ 0]),(17,.agg #[i_ 2,e_,wO b4,u_ 0,i_ 0,w_ 0,w_ 0,w_ 0,w_ 0,u_ 0]),(18,.agg #[i_ 3,e_,e_,u_ 7,i_ 100,w_ 0,w_ 0,w_ 0,w_ 0,u_ 0]),(19,.agg #[i_ 3,e_,e_,u_ 7,i_ 100,w_ 0,w_ 0,w_ 0,w_ 0,u_ 0]),(20,.agg #[i_ 4,e_,e_,u_ 0,i_ 0,w_ 0,w_ 0,w_ 0,w_ 0,u_ 150])]<|aG<|eB 21 (e:=47) [i_ 1,wO b3,e_,u_ 0,i_ 0,w_ 0,w_ 0,w_ 0,w_ 0,u_ 0,i_ 2,e_,wO b4,u_ 0,i_ 0,w_ 0,w_ 0,w_ 0,w_ 0,u_ 0,i_ 3,e_,e_,u_ 7,i_ 100,w_ 0,w_ 0,w_ 0,w_ 0,u_ 0,i_ 3,e_,e_,u_ 7,i_ 100,w_ 0,w_ 0,w_ 0,w_ 0,u_ 0,i_ 4,e_,e_,u_ 0,i_ 0,w_ 0,w_ 0,w_ 0,w_ 0,u_ 150] (by kernel_rfl) rfl (fun _=>by kernel_rfl) (fun b5=>[zm b1,zj b2,EF b3,Kq b4,VK b5 b3 b4]) (fun _=>rfl) ?_
 intro b5
 refine dS [.al,.st 5] [] (fun b6=>[(3,p_ b6)]) (fun _=>[]) (fun b6=>aA b6 [i_ 1,i_ 100,Kp b5] 26) ?_
 intro b6
 refine aC<|cP [.ld 5] [(24,.agg #[i_ 1,i_ 100,Kp b5])]<|aG<|dG (some 25) [] (fun w s h=>JY 1 100 (some ⟨b5,0,none⟩) ([(⟨1,some ⟨b3,0,none⟩,[(⟨1,1,0,true,0,0,0,65536,0,65536,0,0,0,3,300⟩:Zc)],1,none,([]:List Rl),0,(⟨0,0,0,0,0,0⟩:Pk),0⟩:eX),(⟨2,none,([]:List Zc),0,some ⟨b4,0,none⟩,[(⟨0,0,0,0,0,0,0,0,1⟩:Rl)],1,(⟨0,0,0,0,0,0⟩:Pk),0⟩:eX),(⟨3,none,([]:List Zc),0,none,([]:List Rl),0,(⟨7,100,0,0,0,0⟩:Pk),0⟩:eX),(⟨3,none,([]:List Zc),0,none,([]:List Rl),0,(⟨7,100,0,0,0,0⟩:Pk),0⟩:eX),(⟨4,none,([]:List Zc),0,none,([]:List Rl),0,(⟨0,0,0,0,0,0⟩:Pk),150⟩:eX)]) 5 (by(simp;done)) (by omega) (by omega) w ((eV (i:=4) rfl) w s) (Wx ((eV (i:=2) rfl) w s)<|(eV (i:=3) rfl) w s) h) ?_
 rintro⟨A'7,rs'8,a'9,B'10,ev'11,b'12⟩ hz1
 dsimp only at hz1
 refine dS [.al,.st 8] [] (fun b15=>[(4,p_ b15),(5,i_ 0)]) (fun _=>[]) (fun b15=>aA b15 [vS A'7 rs'8 a'9,vS B'10 ev'11 b'12] 32) ?_
 intro b15
 refine aE<|aE ?_
 obtain⟨cc,dd,hc1,hc2,hnS,hRL⟩:=hz1
 obtain⟨e0,e1,e2,e3,hev,q0,q1,q2,q3⟩:=Po ⟨rfl,rfl⟩ ⟨rfl,rfl⟩ ⟨rfl,rfl⟩ ⟨rfl,rfl⟩ ⟨rfl,rfl⟩ hc1 hc2 hnS hRL
 have hel:ev'11.length=4:=by rw[hev];rfl
 have hx0_:ev'11[0]? =some e0:=by rw[hev];rfl
 have hx1_:ev'11[1]? =some e1:=by rw[hev];rfl
 have hx2_:ev'11[2]? =some e2:=by rw[hev];rfl
 have hx3_:ev'11[3]? =some e3:=by rw[hev];rfl
 refine aM<|bF [.ld 8] [(35,b_<|(ev'11.length:Int)!=4)]<|aI (E:=(ev'11.length:Int)!=4) rfl (fun e2=>?_) (fun e2=>?_)
 ·exact absurd e2<|by(intro h_;simp[hel] at h_)
 refine aP<|bW [.ld 8,.ix,.rd [b_ e0.vq2],.o,.ld 8,.ix,.rd [u_ e1.vq5],.cl,.o,.ld 8,.ix,.rd [u_ e3.vq4],.cl,.o,.ld 8,.ix,.rd [u_ e3.vq5],.cl] [(0,b_<|((e0.vq2&&(e1.vq5==100))&&(e3.vq4==100))&&(e3.vq5==200))] (oc (io (0:Int)<|dh ig (by decide) (cV (i:=1) rfl)<|by(simp;omega))<|oc (ro (((aZ B'10).add (0*12)).add 1)<|kR (f:=1) (vs:=[b_ e0.vq2]) ig (cV (i:=1) rfl) hx0_ (by simp) rfl)<|oc (go (true&&(e0.vq2==true)) fun h_=>(io (1:Int)<|dh ig (by decide) (cV (i:=1) rfl)<|by(simp;omega)))<|oc (go (true&&(e0.vq2==true)) fun h_=>(ro (((aZ B'10).add (1*12)).add 4)<|kR (f:=4) (vs:=[u_ e1.vq5]) ig (cV (i:=1) rfl) hx1_ (by simp) rfl))<|oc (go (true&&((e0.vq2&&(e1.vq5==100))==true)) fun h_=>(io (3:Int)<|dh ig (by decide) (cV (i:=1) rfl)<|by(simp;omega)))<|oc (go (true&&((e0.vq2&&(e1.vq5==100))==true)) fun h_=>(ro (((aZ B'10).add (3*12)).add 3)<|kR (f:=3) (vs:=[u_ e3.vq4]) ig (cV (i:=1) rfl) hx3_ (by simp) rfl))<|oc (go (true&&(((e0.vq2&&(e1.vq5==100))&&(e3.vq4==100))==true)) fun h_=>(io (3:Int)<|dh ig (by decide) (cV (i:=1) rfl)<|by(simp;omega)))<|o1<|go (true&&(((e0.vq2&&(e1.vq5==100))&&(e3.vq4==100))==true)) fun h_=>(ro (((aZ B'10).add (3*12)).add 4)<|kR (f:=4) (vs:=[u_ e3.vq5]) ig (cV (i:=1) rfl) hx3_ (by simp) rfl))<|aF<|gX [b_<|((e0.vq2&&(e1.vq5==100))&&(e3.vq4==100))&&(e3.vq5==200)] (fun _ w r s=>⟨dM r rfl,trivial⟩) ?_
 show((b_<|((e0.vq2&&(e1.vq5==100))&&(e3.vq4==100))&&(e3.vq5==200)):Value)=(b_ true)
 simp[q0,q1,q2,q3]
structure N4 where
 nn1:Int
 nn2:Int
 nn3:Int
 nn4:Int
 deriving Inhabited,DecidableEq
def eT(x:N4):List Value:=[u_ x.nn1,u_ x.nn2,u_ x.nn3,u_ x.nn4]
theorem Xo(x:N4):(eT x).length=4:=rfl
theorem Xp(x:N4):(eT x).all Value.oneCell'=true:=rfl
def cj(v:Int):N4:=⟨v.tmod 4294967296,IntKind.u64.wrap<|v.tdiv 4294967296,0,0⟩
def iQ(v w:Int):N4:=⟨w.tmod 4294967296,IntKind.u64.wrap<|w.tdiv 4294967296,v.tmod 4294967296,IntKind.u64.wrap<|v.tdiv 4294967296⟩
def fb(a:N4):Int:=IntKind.u64.wrap<|IntKind.u64.wrap (a.nn4*4294967296)+a.nn3
def eG(a:N4):Int:=IntKind.u64.wrap<|IntKind.u64.wrap (a.nn2*4294967296)+a.nn1
def lM(a b:N4):Bool:=if a.nn4≠b.nn4 then decide (a.nn4<b.nn4) else if a.nn3≠b.nn3 then decide (a.nn3<b.nn3) else if a.nn2≠b.nn2 then decide (a.nn2<b.nn2) else if a.nn1≠b.nn1 then decide (a.nn1<b.nn1) else false
def uh(a b:N4):Int:=IntKind.u64.wrap<|(IntKind.u64.wrap<|a.nn1+b.nn1)+0
def MD(a b:N4):Int:=IntKind.u64.wrap<|(uh a b).tdiv 4294967296
def ui(a b:N4):Int:=IntKind.u64.wrap<|(IntKind.u64.wrap<|a.nn2+b.nn2)+(MD a b)
def ME(a b:N4):Int:=IntKind.u64.wrap<|(ui a b).tdiv 4294967296
def wu(a b:N4):Int:=IntKind.u64.wrap<|(IntKind.u64.wrap<|a.nn3+b.nn3)+(ME a b)
def FD(a b:N4):Int:=IntKind.u64.wrap<|(wu a b).tdiv 4294967296
def AU(a b:N4):Int:=IntKind.u64.wrap<|(IntKind.u64.wrap<|a.nn4+b.nn4)+(FD a b)
def uW(a b:N4):Int:=IntKind.u64.wrap<|(AU a b).tdiv 4294967296
def bZ(a b:N4):N4:=⟨(uh a b).tmod 4294967296,(ui a b).tmod 4294967296,(wu a b).tmod 4294967296,(AU a b).tmod 4294967296⟩
def wx(x y:Int):Int:=IntKind.u64.wrap<|((cj x).nn1)*((cj y).nn1)
def wy(x y:Int):Int:=IntKind.u64.wrap<|((cj x).nn1)*((cj y).nn2)
def xA(x y:Int):Int:=IntKind.u64.wrap<|((cj x).nn2)*((cj y).nn1)
def uj(x y:Int):Int:=IntKind.u64.wrap<|((cj x).nn2)*((cj y).nn2)
def qA(x y:Int):N4:=⟨(wx x y).tmod 4294967296,IntKind.u64.wrap<|(wx x y).tdiv 4294967296,0,0⟩
def qB(x y:Int):N4:=⟨0,(wy x y).tmod 4294967296,IntKind.u64.wrap<|(wy x y).tdiv 4294967296,0⟩
def FG(x y:Int):N4:=⟨0,(xA x y).tmod 4294967296,IntKind.u64.wrap<|(xA x y).tdiv 4294967296,0⟩
def qD(x y:Int):N4:=⟨0,0,(uj x y).tmod 4294967296,IntKind.u64.wrap<|(uj x y).tdiv 4294967296⟩
def mA(x y:Int):N4:=bZ (⟨0,0,0,0⟩:N4)<|qA x y
def mB(x y:Int):N4:=bZ (mA x y)<|qB x y
def AV(x y:Int):N4:=bZ (mB x y)<|FG x y
def bE(x y:Int):N4:=bZ (AV x y)<|qD x y
abbrev yu(p0:Int):=(u_ (IntKind.u64.wrap<|p0.tdiv 4294967296):Value)
theorem AE(v:Int)(w:World):
  CW 55 #[u_ v] w (.agg #[u_<|(cj v).nn1,u_<|(cj v).nn2,u_<|(cj v).nn3,u_<|(cj v).nn4]):=by
 refine aU Tryz.func55 rfl (HS.nil w) (aC<|dD [.al] [] (fun b1=>[(2,p_ b1)]) (fun b1=>aA b1 [u_ 0,u_ 0,u_ 0,u_ 0] 69) ?_)
 intro b1
 refine aC<|bU [.st 0] [] [(0,aA b1 [u_<|v.tmod 4294967296,yu v,u_ 0,u_ 0] 69)]<|aF<|eY 0 [u_<|v.tmod 4294967296,yu v,u_ 0,u_ 0] ?_
 rfl
theorem TD(v w_:Int)(w:World):
  CW 58 #[u_ v,u_ w_] w (.agg #[u_<|(iQ v w_).nn1,u_<|(iQ v w_).nn2,u_<|(iQ v w_).nn3,u_<|(iQ v w_).nn4]):=by
 refine aU Tryz.func58 rfl (HS.nil w) (aC<|dD [.al] [] (fun b1=>[(4,p_ b1)]) (fun b1=>aA b1 [u_ 0,u_ 0,u_ 0,u_ 0] 69) ?_)
 intro b1
 refine aC<|bU [.st 0] [] [(0,aA b1 [u_<|w_.tmod 4294967296,u_<|wU<|w_.tdiv 4294967296,u_<|v.tmod 4294967296,yu v] 69)]<|aF<|eY 0 [u_<|w_.tmod 4294967296,u_<|wU<|w_.tdiv 4294967296,u_<|v.tmod 4294967296,yu v] ?_
 rfl
abbrev Jg(p0:N4):=(u_ (IntKind.u64.wrap<|(IntKind.u64.wrap<|p0.nn4*4294967296)+p0.nn3):Value)
theorem Vw(a:N4)(w:World):
  CW 56 #[.agg (eT a).toArray] w (u_<|fb a):=by
 refine aU Tryz.func56 rfl (HS.nil w) (aC<|dD [.al] [] (fun b1=>[(1,p_ b1)]) (fun b1=>aA b1 (eT a) 69) ?_)
 intro b1
 refine aC<|bF [.ld 0,.ld 0] [(2,Jg a)]<|aF<|bK [Jg a] ?_
 rfl
abbrev Jh(p0:N4):=(u_ (IntKind.u64.wrap<|(IntKind.u64.wrap<|p0.nn2*4294967296)+p0.nn1):Value)
theorem LQ(a:N4)(w:World):
  CW 57 #[.agg (eT a).toArray] w (u_<|eG a):=by
 refine aU Tryz.func57 rfl (HS.nil w) (aC<|dD [.al] [] (fun b1=>[(1,p_ b1)]) (fun b1=>aA b1 (eT a) 69) ?_)
 intro b1
 refine aC<|bF [.ld 0,.ld 0] [(2,Jh a)]<|aF<|bK [Jh a] ?_
 rfl
theorem Q6(a b:N4)(w:World):
  CW 21 #[.agg (eT a).toArray,.agg (eT b).toArray] w (b_<|lM a b):=by
 refine aU Tryz.func21 rfl (HS.nil w) (aC<|MP [.al,.al,.p] [2,3] (fun b1 b2=>[(2,p_ b1),(3,p_ b2)]) (fun b1 b2=>[aA b1 (eT a) 69,aA b2 (eT b) 69]) (fun b1 b2=>[]) (fun _ _=>T0) (fun _ _=>by kernel_rfl) (fun b1 b2=>trivial) ?_)
 intro b1 b2
 refine aE<|aD [(2,p_ b1),(3,p_ b2),(6,i_ 0)]<|aO<|jm 400<|dK (m:=399)<|aD [(7,b_ true)]<|aE<|kE rfl (au<|aO<|aD [(5,i_ 0)]<|aE<|kD [.ld 0,.ld 1] [0,1,2,3,4,5,6,7,8] [(2,p_ b1),(3,p_ b2),(6,i_ 0),(5,i_ 0),(17,b_<|a.nn4 !=b.nn4)]<|aI (E:=a.nn4 !=b.nn4) rfl (fun e1=>?_) (fun e1=>?_))
 ·refine aE<|kD [.ld 0,.ld 1] [0,1,2,3,4,5,6,7,8,9] [(4,b_<|decide (a.nn4<b.nn4))]<|aF<|gX [b_<|decide (a.nn4<b.nn4)] (fun _ w r s=>⟨dM r rfl,trivial⟩) ?_
  show((b_<|decide (a.nn4<b.nn4)):Value)=(b_<|lM a b)
  unfold lM;simp_all
 refine aP<|bX [(6,i_ 1)]<|dK (m:=398)<|aD [(7,b_ true)]<|aE<|kE rfl (au<|aO<|aD [(5,i_ 1)]<|aE<|kD [.ld 0,.ld 1] [0,1,2,3,4,5,6,7,8] [(5,i_ 1),(17,b_<|a.nn3 !=b.nn3)]<|aI (E:=a.nn3 !=b.nn3) rfl (fun e2=>?_) (fun e2=>?_))
 ·refine aE<|kD [.ld 0,.ld 1] [0,1,2,3,4,5,6,7,8,9] [(4,b_<|decide (a.nn3<b.nn3))]<|aF<|gX [b_<|decide (a.nn3<b.nn3)] (fun _ w r s=>⟨dM r rfl,trivial⟩) ?_
  show((b_<|decide (a.nn3<b.nn3)):Value)=(b_<|lM a b)
  unfold lM;simp_all
 refine aP<|bX [(6,i_ 2)]<|dK (m:=397)<|aC<|dQ [] [(2,p_ b1),(3,p_ b2),(6,i_ 2),(7,b_ true)]<|aE<|kE rfl (au<|aO<|aD [(5,i_ 2)]<|aE<|kD [.ld 0,.ld 1] [0,1,2,3,4,5,6,7,8] [(17,b_<|a.nn2 !=b.nn2)]<|aI (E:=a.nn2 !=b.nn2) rfl (fun e3=>?_) (fun e3=>?_))
 ·refine aE<|kD [.ld 0,.ld 1] [0,1,2,3,4,5,6,7,8,9] [(4,b_<|decide (a.nn2<b.nn2))]<|aF<|gX [b_<|decide (a.nn2<b.nn2)] (fun _ w r s=>⟨dM r rfl,trivial⟩) ?_
  show((b_<|decide (a.nn2<b.nn2)):Value)=(b_<|lM a b)
  unfold lM;simp_all
 refine aP<|bX [(6,i_ 3)]<|dK (m:=396)<|aD [(7,b_ true)]<|aE<|kE rfl (au<|aO<|aD [(5,i_ 3)]<|aE<|kD [.ld 0,.ld 1] [0,1,2,3,4,5,6,7,8] [(6,i_ 3),(5,i_ 3),(17,b_<|a.nn1 !=b.nn1)]<|aI (E:=a.nn1 !=b.nn1) rfl (fun e4=>?_) (fun e4=>?_))
 ·refine aE<|kD [.ld 0,.ld 1] [0,1,2,3,4,5,6,7,8,9] [(4,b_<|decide (a.nn1<b.nn1))]<|aF<|gX [b_<|decide (a.nn1<b.nn1)] (fun _ w r s=>⟨dM r rfl,trivial⟩) ?_
  show((b_<|decide (a.nn1<b.nn1)):Value)=(b_<|lM a b)
  unfold lM;simp_all
 refine aP<|bX [(6,i_ 4)]<|dK (m:=395)<|aD [(7,b_ false)]<|aE<|pG rfl (bR<|aD [(4,b_ false)]<|aF<|gX [b_ false] (fun _ w r s=>⟨dM r rfl,trivial⟩) ?_)
 show((b_ false):Value)=(b_<|lM a b)
 unfold lM;simp_all
theorem TE(a b:N4)(w:World):
  CW 87 #[.agg (eT a).toArray,.agg (eT b).toArray] w (.tuple #[.agg (eT<|bZ a b).toArray,u_<|uW a b]):=by
 refine aU Tryz.func87 rfl (HS.nil w) (aC<|nj [.al,.al,.al,.p] [2,3,4] (fun b1 b2 b3=>[(2,p_ b1),(3,p_ b2),(4,p_ b3)]) (fun b1 b2 b3=>[aA b1 (eT a) 69,aA b2 (eT b) 69,aA b3 [u_ 0,u_ 0,u_ 0,u_ 0] 69]) (fun b1 b2 b3=>[]) (fun _ _ _=>T0) (fun _ _ _=>by kernel_rfl) (fun b1 b2 b3=>trivial) ?_)
 intro b1 b2 b3
 refine aC<|dS [.al,.st 3] [] (fun b4=>[(2,p_ b1),(3,p_ b2),(4,p_ b3),(6,p_ b4)]) (fun _=>[]) (fun b4=>aA b4 [u_ 0,u_ 0,u_ 0,u_ 0] 69) ?_
 intro b4
 refine aD [(7,u_ 0)]<|aE<|aD [(11,i_ 0)]<|aO<|jm 400<|dK (m:=399)<|aD [(12,b_ true)]<|aE<|kE rfl (au<|aO<|aD [(8,i_ 0)]<|aE<|kD [.ld 0,.ld 1] [0,1,2,3,4,5,6,7,8,9] [(2,p_ b1),(3,p_ b2),(4,p_ b3),(6,p_ b4),(11,i_ 0),(8,i_ 0),(9,u_<|uh a b)]<|aC<|gY [.st 3] [] [] [(3,aA b4 [u_<|(uh a b).tmod 4294967296,u_ 0,u_ 0,u_ 0] 69)]<|bX [(7,u_<|MD a b)]<|bX [(11,i_ 1)]<|dK (m:=398)<|aD [(12,b_ true)]<|aE<|kE rfl (au<|aO<|aD [(8,i_ 1)]<|aE<|kD [.ld 0,.ld 1] [0,1,2,3,4,5,6,7,8,9] [(11,i_ 1),(8,i_ 1),(9,u_<|ui a b)]<|aC<|bU [.st 3] [(9,u_<|ui a b)] [(3,aA b4 [u_<|(uh a b).tmod 4294967296,u_<|(ui a b).tmod 4294967296,u_ 0,u_ 0] 69)]<|bX [(7,u_<|ME a b)]<|bX [(11,i_ 2)]<|dK (m:=397)<|aD [(12,b_ true)]<|aE<|kE rfl (au<|aO<|aD [(8,i_ 2)]<|aE<|kD [.ld 0,.ld 1] [0,1,2,3,4,5,6,7,8,9] [(11,i_ 2),(8,i_ 2),(9,u_<|wu a b)]<|aC<|bU [.st 3] [(9,u_<|wu a b)] [(3,aA b4 [u_<|(uh a b).tmod 4294967296,u_<|(ui a b).tmod 4294967296,u_<|(wu a b).tmod 4294967296,u_ 0] 69)]<|bX [(7,u_<|FD a b)]<|aM<|dQ [] [(2,p_ b1),(3,p_ b2),(4,p_ b3),(6,p_ b4),(11,i_ 3),(7,u_<|FD a b)]<|dK (m:=396)<|aD [(12,b_ true)]<|aE<|kE rfl (au<|aO<|aD [(8,i_ 3)]<|aE<|kD [.ld 0,.ld 1] [0,1,2,3,4,5,6,7,8,9] [(8,i_ 3),(9,u_<|AU a b)]<|aC<|bU [.st 3] [(9,u_<|AU a b)] [(3,aA b4 (eT<|bZ a b) 69)]<|bX [(7,u_<|uW a b)]<|bX [(11,i_ 4)]<|dK (m:=395)<|aD [(11,i_ 4),(7,u_<|uW a b),(12,b_ false)]<|aE<|pG rfl (bR<|aC<|bU [.ld 3,.st 2] [(5,u_<|uW a b)] [(2,aA b3 (eT<|bZ a b) 69)]<|aF<|oJ 2 (eT<|bZ a b) (u_<|uW a b) ?_)))))
 rfl
theorem pJ(a b:N4)(w:World):
  CW 54 #[.agg (eT a).toArray,.agg (eT b).toArray] w (.agg (eT<|bZ a b).toArray):=by
 refine aU Tryz.func54 rfl (HS.nil w) (aC<|nj [.al,.al,.al] [2,3,4] (fun b1 b2 b3=>[(2,p_ b1),(3,p_ b2),(4,p_ b3)]) (fun b1 b2 b3=>[aA b1 (eT a) 69,aA b2 (eT b) 69,aA b3 [u_ 0,u_ 0,u_ 0,u_ 0] 69]) (fun b1 b2 b3=>[]) (fun _ _ _=>T0) (fun _ _ _=>by kernel_rfl) (fun b1 b2 b3=>trivial) ?_)
 intro b1 b2 b3
 refine aC<|iE [.ld 0,.ld 1,.cq<|.tuple #[.agg (eT<|bZ a b).toArray,u_<|uW a b],.al,.st 3] [] (fun b4=>[(5,p_ b4)]) (fun b4=>[]) (fun b4=>aA b4 (eT<|bZ a b) 69) (fun b4=>o1<|qw<|TE a b) ?_
 intro b4
 refine aC<|bU [.ld 3,.st 2] [] [(2,aA b3 (eT<|bZ a b) 69)]<|aF<|eY 2 (eT<|bZ a b) ?_
 rfl
theorem uD(x y:Int)(w:World):
  CW 37 #[u_ x,u_ y] w (.agg (eT<|bE x y).toArray):=by
 refine aU Tryz.func37 rfl (HS.nil w) (aC<|dS [.al] [] (fun b1=>[(4,p_ b1)]) (fun _=>[]) (fun b1=>aA b1 [u_ 0,u_ 0,u_ 0,u_ 0] 69) ?_)
 intro b1
 refine aC<|jN [.p,.cq<|.agg (eT<|cj x).toArray,.al,.st 1] [1,4,5] (fun b2=>[(1,u_ y),(4,p_ b1),(5,p_ b2)]) (fun b2=>[aA b1 [u_ 0,u_ 0,u_ 0,u_ 0] 69,aA b2 (eT<|cj x) 69]) (fun b2=>[b2]) (fun _=>(fun κ=>κ.call 55 [u_ x] (.agg (eT<|cj x).toArray)∧True)) (fun _=>by kernel_rfl) (fun b2=>⟨(fun w s=>AE x w),trivial⟩) ?_
 intro b2
 refine aC<|jN [.p,.cq<|.agg (eT<|cj y).toArray,.al,.st 2] [4,5,6] (fun b3=>[(4,p_ b1),(5,p_ b2),(6,p_ b3)]) (fun b3=>[aA b1 [u_ 0,u_ 0,u_ 0,u_ 0] 69,aA b2 (eT<|cj x) 69,aA b3 (eT<|cj y) 69]) (fun b3=>[b3]) (fun _=>(fun κ=>κ.call 55 [u_ y] (.agg (eT<|cj y).toArray)∧True)) (fun _=>by kernel_rfl) (fun b3=>⟨(fun w s=>AE y w),trivial⟩) ?_
 intro b3
 refine aC<|dS [.al,.st 3] [] (fun b4=>[(5,p_ b2),(6,p_ b3),(7,p_ b4)]) (fun _=>[]) (fun b4=>aA b4 [u_ 0,u_ 0,u_ 0,u_ 0] 69) ?_
 intro b4
 refine aE<|aD [(17,i_ 0)]<|aO<|jm 400<|dK (m:=399)<|aD [(18,b_ true)]<|aE<|kE rfl (au<|aO<|aD [(8,i_ 0)]<|aD [(4,p_ b1),(5,p_ b2),(6,p_ b3),(7,p_ b4),(17,i_ 0),(8,i_ 0),(20,i_ 0)]<|aO<|jm 400<|dK (m:=399)<|aD [(21,b_ true)]<|aE<|kE rfl (au<|aO<|aD [(9,i_ 0)]<|aE<|kD [.ld 1,.ld 2] [0,1,2,3,4,5,6,7] [(9,i_ 0),(10,u_<|wx x y)]<|aC<|dS [.al,.st 4] [] (fun b5=>[(10,u_<|wx x y),(11,p_ b5)]) (fun _=>[]) (fun b5=>aA b5 [u_ 0,u_ 0,u_ 0,u_ 0] 69) ?_))
 intro b5
 refine aC<|bU [.st 4] [] [(4,aA b5 [u_<|(wx x y).tmod 4294967296,u_ 0,u_ 0,u_ 0] 69)]<|aC<|bU [.st 4] [] [(4,aA b5 (eT<|qA x y) 69)]<|aM<|gA [.ld 3,.ld 4,.cq<|.agg (eT<|mA x y).toArray,.st 3] [] [] [(3,aA b4 (eT<|mA x y) 69)] (o1<|qw<|pJ (⟨0,0,0,0⟩:N4)<|qA x y)<|bX [(20,i_ 1)]<|dK (m:=398)<|aD [(21,b_ true)]<|aE<|kE rfl (au<|aO<|aD [(9,i_ 1)]<|aE<|kD [.ld 1,.ld 2] [0,1,2,3,4,5,6,7] [(20,i_ 1),(9,i_ 1),(10,u_<|wy x y)]<|aC<|dS [.al,.st 5] [] (fun b6=>[(10,u_<|wy x y),(11,p_ b6)]) (fun _=>[]) (fun b6=>aA b6 [u_ 0,u_ 0,u_ 0,u_ 0] 69) ?_)
 intro b6
 refine aC<|bU [.st 5] [] [(5,aA b6 [u_ 0,u_<|(wy x y).tmod 4294967296,u_ 0,u_ 0] 69)]<|aC<|gY [.st 5] [] [(11,p_ b6)] [(5,aA b6 (eT<|qB x y) 69)]<|aM<|gA [.ld 3,.ld 5,.cq<|.agg (eT<|mB x y).toArray,.st 3] [] [] [(3,aA b4 (eT<|mB x y) 69)] (o1<|qw<|pJ (mA x y)<|qB x y)<|(bX [(20,i_ 2)]<|dK (m:=397)<|aD [(21,b_ false)]<|aE<|pG rfl (bR<|bX [(17,i_ 1)]<|dK (m:=398)<|aD [(18,b_ true)]<|aE<|kE rfl (au<|aO<|aC<|dQ [] [(4,p_ b1),(5,p_ b2),(6,p_ b3),(7,p_ b4),(17,i_ 1),(8,i_ 1)]<|aD [(20,i_ 0)]<|aO<|jm 400<|dK (m:=399)<|aD [(21,b_ true)]<|aE<|kE rfl (au<|aO<|aD [(9,i_ 0)]<|aE<|kD [.ld 1,.ld 2] [0,1,2,3,4,5,6,7] [(20,i_ 0),(9,i_ 0),(10,u_<|xA x y)]<|aC<|dS [.al,.st 6] [] (fun b7=>[(10,u_<|xA x y),(11,p_ b7)]) (fun _=>[]) (fun b7=>aA b7 [u_ 0,u_ 0,u_ 0,u_ 0] 69) ?_))))
 intro b7
 refine aC<|bU [.st 6] [] [(6,aA b7 [u_ 0,u_<|(xA x y).tmod 4294967296,u_ 0,u_ 0] 69)]<|aC<|gY [.st 6] [] [(11,p_ b7)] [(6,aA b7 (eT<|FG x y) 69)]<|aM<|gA [.ld 3,.ld 6,.cq<|.agg (eT<|AV x y).toArray,.st 3] [] [] [(3,aA b4 (eT<|AV x y) 69)] (o1<|qw<|pJ (mB x y)<|FG x y)<|(bX [(20,i_ 1)]<|dK (m:=398)<|aD [(21,b_ true)]<|aE<|kE rfl (au<|aO<|aD [(9,i_ 1)]<|aE<|kD [.ld 1,.ld 2] [0,1,2,3,4,5,6,7] [(20,i_ 1),(9,i_ 1),(10,u_<|uj x y)]<|aC<|dS [.al,.st 7] [] (fun b8=>[(10,u_<|uj x y),(11,p_ b8)]) (fun _=>[]) (fun b8=>aA b8 [u_ 0,u_ 0,u_ 0,u_ 0] 69) ?_))
 intro b8
 refine aC<|Aj [.st 7] [(4,p_ b1),(5,p_ b2),(6,p_ b3),(7,p_ b4),(17,i_ 1),(8,i_ 1),(20,i_ 1),(9,i_ 1),(10,u_<|uj x y),(11,p_ b8)] [(7,aA b8 [u_ 0,u_ 0,u_<|(uj x y).tmod 4294967296,u_ 0] 69)]<|aC<|bU [.st 7] [] [(7,aA b8 (eT<|qD x y) 69)]<|aM<|gA [.ld 3,.ld 7,.cq<|.agg (eT<|bE x y).toArray,.st 3] [] [] [(3,aA b4 (eT<|bE x y) 69)] (o1<|qw<|pJ (AV x y)<|qD x y)<|bX [(20,i_ 2)]<|dK (m:=397)<|aD [(21,b_ false)]<|aE<|pG rfl (bR<|bX [(17,i_ 2)]<|dK (m:=397)<|aC<|dQ [] [(4,p_ b1),(5,p_ b2),(6,p_ b3),(7,p_ b4),(17,i_ 2),(18,b_ false)]<|aE<|pG rfl (bR<|aC<|bU [.ld 3,.st 0] [] [(0,aA b1 (eT<|bE x y) 69)]<|aF<|eY 0 (eT<|bE x y) ?_))
 rfl
def eI(a b c t:Int):N4:=if cR a b c=0 then⟨0,0,0,0⟩ else if t≤b then bE a t else bZ (bE a b)<|bE c<|IntKind.u64.wrap<|t-b
theorem lN(a b c:Int)(w:World):
  CW 15 #[.agg #[u_ a,u_ b,u_ c]] w (i_<|cR a b c):=by
 refine aU Tryz.func15 rfl (HS.nil w) (aC<|dD [.al] [] (fun b1=>[(1,p_ b1)]) (fun b1=>aA b1 [u_ a,u_ b,u_ c] 60) ?_)
 intro b1
 refine aD [(3,u_ 4294967295)]<|cS<|bF [.ld 0,.o,.ld 0,.cl,.o,.ld 0,.cl] [(18,b_<|((decide (a>4294967295))||(decide (c>4294967295)))||(decide (b>1048576)))]<|aI rfl (fun e1=>?_) (fun e1=>?_)
 ·refine aD [(2,i_ 0)]<|aF<|bK [i_ 0] ?_
  refine congrArg (Value.int .i64) ?_;unfold cR;grind[cX]
 refine aP<|cS<|bF [.ld 0,.o,.ld 0,.cl,.o,.ld 0,.cl] [(31,b_<|((a==0)&&(c==0))&&(b==0))]<|aI rfl (fun e2=>?_) (fun e2=>?_)
 ·refine aD [(2,i_ 1)]<|aF<|bK [i_ 1] ?_
  refine congrArg (Value.int .i64) ?_;unfold cR;grind[cX]
 refine aP<|cS<|bF [.ld 0,.o,.ld 0,.ld 0,.cl] [(41,b_<|(b==0)&&(a==c))]<|aI rfl (fun e3=>?_) (fun e3=>?_)
 ·refine aD [(2,i_ 2)]<|aF<|bK [i_ 2] ?_
  refine congrArg (Value.int .i64) ?_;unfold cR;grind[cX]
 refine aP<|cS<|bF [.ld 0] [(44,b_<|b==0)]<|fx (b==0) (fun e4=>?_)<|fun e4=>?_
 ·refine aD [(2,i_ 0)]<|aF<|bK [i_ 0] ?_
  refine congrArg (Value.int .i64) ?_;unfold cR;grind[cX]
 refine aP<|cS<|bF [.ld 0,.ld 0] [(49,b_<|decide (a>c))]<|aI rfl (fun e5=>?_) (fun e5=>?_)
 ·have p5:=dZ e5
  refine aD [(2,i_ 3)]<|aF<|bK [i_ 3] ?_
  refine congrArg (Value.int .i64) ?_;unfold cR;grind[cX]
 have p5:=ga e5
 refine aP<|cS<|bF [.ld 0,.o,.ld 0,.cl] [(57,b_<|(a==0)&&(decide (c>0)))]<|aI rfl (fun e6=>?_) (fun e6=>?_)
 ·refine aD [(2,i_ 4)]<|aF<|bK [i_ 4] ?_
  refine congrArg (Value.int .i64) ?_;unfold cR;grind[cX]
 refine aP<|aD [(2,i_ 0)]<|aF<|bK [i_ 0] ?_
 refine congrArg (Value.int .i64) ?_;unfold cR;grind[cX]
theorem TF(a b c t:Int)(w:World):
  CW 166 #[.agg #[u_ a,u_ b,u_ c],u_ t] w (.agg #[u_<|(eI a b c t).nn1,u_<|(eI a b c t).nn2,u_<|(eI a b c t).nn3,u_<|(eI a b c t).nn4]):=by
 refine aU Tryz.func166 rfl (HS.nil w) (aC<|fz [.al,.al] [] (fun b1 b2=>[(2,p_ b1),(4,p_ b2)]) (fun b1 b2=>[aA b1 [u_ a,u_ b,u_ c] 60,aA b2 [u_ 0,u_ 0,u_ 0,u_ 0] 69]) ?_)
 intro b1 b2
 refine aE<|bW [.ld 0,.cq<|i_<|cR a b c] [(7,b_<|(cR a b c)==0)] (o1<|qw<|lN a b c)<|aI rfl (fun e1=>?_) (fun e1=>?_)
 ·refine aC<|bU [.st 1] [] []<|aF<|eY 1 [u_ 0,u_ 0,u_ 0,u_ 0] ?_
  show((.agg #[u_ 0,u_ 0,u_ 0,u_ 0]):Value)=(.agg #[u_<|(eI a b c t).nn1,u_<|(eI a b c t).nn2,u_<|(eI a b c t).nn3,u_<|(eI a b c t).nn4])
  unfold eI;grind
 refine aP<|cS<|bF [.ld 0] [(12,b_<|decide (t≤b))]<|aI rfl (fun e2=>?_) (fun e2=>?_)
 ·have p2:=dZ e2
  refine aC<|gA [.ld 0,.cq<|.agg #[u_<|(bE a t).nn1,u_<|(bE a t).nn2,u_<|(bE a t).nn3,u_<|(bE a t).nn4],.st 1] [] [] [(1,aA b2 [u_<|(bE a t).nn1,u_<|(bE a t).nn2,u_<|(bE a t).nn3,u_<|(bE a t).nn4] 69)] (o1<|qw<|uD a t)<|aF<|eY 1 [u_<|(bE a t).nn1,u_<|(bE a t).nn2,u_<|(bE a t).nn3,u_<|(bE a t).nn4] ?_
  show((.agg #[u_<|(bE a t).nn1,u_<|(bE a t).nn2,u_<|(bE a t).nn3,u_<|(bE a t).nn4]):Value)=(.agg #[u_<|(eI a b c t).nn1,u_<|(eI a b c t).nn2,u_<|(eI a b c t).nn3,u_<|(eI a b c t).nn4])
  unfold eI;grind
 have p2:=ga e2
 refine aP<|aE<|bL [13] 14<|cO 1 [.ld 0,.ld 0,.cq<|.agg #[u_<|(bE a b).nn1,u_<|(bE a b).nn2,u_<|(bE a b).nn3,u_<|(bE a b).nn4],.ld 0,.ld 0,.cq<|.agg #[u_<|(bE c<|wU<|t-b).nn1,u_<|(bE c<|wU<|t-b).nn2,u_<|(bE c<|wU<|t-b).nn3,u_<|(bE c<|wU<|t-b).nn4],.cq<|.agg #[u_<|(bZ (bE a b)<|bE c<|wU<|t-b).nn1,u_<|(bZ (bE a b)<|bE c<|wU<|t-b).nn2,u_<|(bZ (bE a b)<|bE c<|wU<|t-b).nn3,u_<|(bZ (bE a b)<|bE c<|wU<|t-b).nn4]] (rg 0 13) [(29,.agg #[u_<|(bZ (bE a b)<|bE c<|wU<|t-b).nn1,u_<|(bZ (bE a b)<|bE c<|wU<|t-b).nn2,u_<|(bZ (bE a b)<|bE c<|wU<|t-b).nn3,u_<|(bZ (bE a b)<|bE c<|wU<|t-b).nn4])] (oc (qw<|uD a b)<|oc (qw<|uD c<|wU<|t-b)<|o1<|qw<|pJ (bE a b)<|bE c<|wU<|t-b)<|an 13 rfl (dN 1 [u_<|(bZ (bE a b)<|bE c<|wU<|t-b).nn1,u_<|(bZ (bE a b)<|bE c<|wU<|t-b).nn2,u_<|(bZ (bE a b)<|bE c<|wU<|t-b).nn3,u_<|(bZ (bE a b)<|bE c<|wU<|t-b).nn4] rfl (cD<|dj<|aF<|gX [.agg #[u_<|(bZ (bE a b)<|bE c<|wU<|t-b).nn1,u_<|(bZ (bE a b)<|bE c<|wU<|t-b).nn2,u_<|(bZ (bE a b)<|bE c<|wU<|t-b).nn3,u_<|(bZ (bE a b)<|bE c<|wU<|t-b).nn4]] (fun _ w r s=>⟨yF (vs:=[u_<|(bZ (bE a b)<|bE c<|wU<|t-b).nn1,u_<|(bZ (bE a b)<|bE c<|wU<|t-b).nn2,u_<|(bZ (bE a b)<|bE c<|wU<|t-b).nn3,u_<|(bZ (bE a b)<|bE c<|wU<|t-b).nn4]) r s rfl (by kernel_rfl) (ky (i:=1) rfl rfl),trivial⟩) ?_))
 show((.agg #[u_<|(bZ (bE a b)<|bE c<|IntKind.u64.wrap<|t-b).nn1,u_<|(bZ (bE a b)<|bE c<|IntKind.u64.wrap<|t-b).nn2,u_<|(bZ (bE a b)<|bE c<|IntKind.u64.wrap<|t-b).nn3,u_<|(bZ (bE a b)<|bE c<|IntKind.u64.wrap<|t-b).nn4]):Value)=(.agg #[u_<|(eI a b c t).nn1,u_<|(eI a b c t).nn2,u_<|(eI a b c t).nn3,u_<|(eI a b c t).nn4])
 unfold eI;grind
abbrev sO(p0)(p1)(p2)(p3):=(.agg #[u_ p0,u_ p1,u_ p2,u_ p3]:Value)
abbrev qj(p0)(p1)(p2)(p3)(p4):=(aA p0 [u_ p1,u_ p2,u_ p3,u_ p4] 69:V.aH)
abbrev o0(p0):=(aA p0 [u_ 0,u_ 0,u_ 0,u_ 0] 69:V.aH)
theorem TG(al:bn)(l:List Cv)(cl:Nat)(t:Int)(hl:l.length≤100000)(w:World)(r0:dR w al (V.aQ cZ l))(hs:HI w []):
  CV 126 #[vS al l cl,u_ t] w [] (fun((o1,o2,o3,o4):Int×Int×Int×Int)=>(sO o1 o2 o3 o4)) (fun _=>True) fun _=>[]:=by
 refine aU Tryz.func126 rfl hs (aC<|dS [.al] [] (fun b1=>[(4,p_ b1)]) (fun _=>[]) (fun b1=>o0 b1) ?_)
 intro b1
 refine aC<|dS [.al,.st 1] [] (fun b2=>[(5,p_ b2)]) (fun _=>[]) (fun b2=>o0 b2) ?_
 intro b2
 refine aE<|aD [(9,vS al l cl),(10,c_ l.length),(11,i_ 0)]<|aO<|fm (fun((k,o1,o2,o3,o4):Nat×Int×Int×Int×Int)=>[(1,u_ t),(4,p_ b1),(5,p_ b2),(9,vS al l cl),(10,c_ l.length),(11,c_ k)]) (fun((k,o1,o2,o3,o4):Nat×Int×Int×Int×Int)=>[qj b2 o1 o2 o3 o4,o0 b1]) (fun((k,o1,o2,o3,o4):Nat×Int×Int×Int×Int)=>(k≤l.length)) (fun((k,o1,o2,o3,o4):Nat×Int×Int×Int×Int)=>l.length-k) (0,0,0,0,0) (by omega) ?_ ?_
 ·exact cQ [1,0] ⟨rfl,rfl,rfl,rfl,rfl,rfl,trivial⟩<|by kernel_rfl
 rintro⟨k,o1,o2,o3,o4⟩ hk
 have hk:k≤l.length:=hk
 refine eo [(1,u_ t),(4,p_ b1),(5,p_ b2),(9,vS al l cl),(10,c_ l.length),(11,c_ k)] [qj b2 o1 o2 o3 o4,o0 b1] ⟨rfl,rfl,rfl,rfl,rfl,rfl,trivial⟩ rfl (aD [(11,c_ k),(12,b_<|decide ((k:Int)<(l.length:Int)))]<|aE<|aI (E:=decide ((k:Int)<(l.length:Int))) rfl (fun e1=>?_) (fun e1=>?_))
 ·have p1:=dZ e1
  refine au<|aO<|aC<|MR [.ix] [(1,u_ t),(4,p_ b1),(5,p_ b2),(9,vS al l cl),(10,c_ l.length),(11,c_ k),(13,.pointer<|some<|(aZ al).add (k*3))] [] (fun κ=>κ.ix al l.length (k:Int)∧True) (by kernel_rfl) ⟨dh kG (by decide) (bg r0<|by simp[aL])<|by omega,trivial⟩ ?_
  obtain⟨x3,hx3⟩: ∃x,(l)[k]? =some x:=⟨_,dA<|by omega⟩
  refine jN [.rd<|cZ x3,.al,.st 2] [1,4,5,9,10,11,7] (fun b4=>[(1,u_ t),(4,p_ b1),(5,p_ b2),(9,vS al l cl),(10,c_ l.length),(11,c_ k),(7,p_ b4)]) (fun b4=>[qj b2 o1 o2 o3 o4,o0 b1,aA b4 (cZ x3) 60]) (fun b4=>[b4]) (fun _=>(fun κ=>κ.rd ((aZ al).add (k*3)) (cZ x3)∧True)) (fun _=>by kernel_rfl) (fun b4=>⟨dY (vs:=(cZ x3)) kG (bg r0<|by simp[aL]) hx3 (Nat.le_of_ble_eq_true rfl) rfl,trivial⟩) ?_
  intro b4
  refine bL [5] 6<|FW 1 [.ld 0,.ld 2,.p,.cq<|.agg #[u_<|(eI x3.ka x3.kb x3.kc t).nn1,u_<|(eI x3.ka x3.kb x3.kc t).nn2,u_<|(eI x3.ka x3.kb x3.kc t).nn3,u_<|(eI x3.ka x3.kb x3.kc t).nn4],.cq<|.agg #[u_<|(bZ (⟨o1,o2,o3,o4⟩:N4)<|eI x3.ka x3.kb x3.kc t).nn1,u_<|(bZ (⟨o1,o2,o3,o4⟩:N4)<|eI x3.ka x3.kb x3.kc t).nn2,u_<|(bZ (⟨o1,o2,o3,o4⟩:N4)<|eI x3.ka x3.kb x3.kc t).nn3,u_<|(bZ (⟨o1,o2,o3,o4⟩:N4)<|eI x3.ka x3.kb x3.kc t).nn4]] [0,1,2,3,4] [(1,u_ t),(4,p_ b1),(5,p_ b2),(9,vS al l cl),(10,c_ l.length),(11,c_ k),(19,.agg #[u_<|(bZ (⟨o1,o2,o3,o4⟩:N4)<|eI x3.ka x3.kb x3.kc t).nn1,u_<|(bZ (⟨o1,o2,o3,o4⟩:N4)<|eI x3.ka x3.kb x3.kc t).nn2,u_<|(bZ (⟨o1,o2,o3,o4⟩:N4)<|eI x3.ka x3.kb x3.kc t).nn3,u_<|(bZ (⟨o1,o2,o3,o4⟩:N4)<|eI x3.ka x3.kb x3.kc t).nn4])] [b2,b4] (fun κ=>κ.call 166 [.agg (cZ x3).toArray,u_ t] (.agg #[u_<|(eI x3.ka x3.kb x3.kc t).nn1,u_<|(eI x3.ka x3.kb x3.kc t).nn2,u_<|(eI x3.ka x3.kb x3.kc t).nn3,u_<|(eI x3.ka x3.kb x3.kc t).nn4])∧κ.call 54 [sO o1 o2 o3 o4,.agg #[u_<|(eI x3.ka x3.kb x3.kc t).nn1,u_<|(eI x3.ka x3.kb x3.kc t).nn2,u_<|(eI x3.ka x3.kb x3.kc t).nn3,u_<|(eI x3.ka x3.kb x3.kc t).nn4]] (.agg #[u_<|(bZ (⟨o1,o2,o3,o4⟩:N4)<|eI x3.ka x3.kb x3.kc t).nn1,u_<|(bZ (⟨o1,o2,o3,o4⟩:N4)<|eI x3.ka x3.kb x3.kc t).nn2,u_<|(bZ (⟨o1,o2,o3,o4⟩:N4)<|eI x3.ka x3.kb x3.kc t).nn3,u_<|(bZ (⟨o1,o2,o3,o4⟩:N4)<|eI x3.ka x3.kb x3.kc t).nn4])∧True) (by kernel_rfl) ⟨(fun w s=>TF x3.ka x3.kb x3.kc t w),(fun w s=>pJ (⟨o1,o2,o3,o4⟩:N4) (eI x3.ka x3.kb x3.kc t) w),trivial⟩<|an 5 rfl (dN 0 [u_<|(bZ (⟨o1,o2,o3,o4⟩:N4)<|eI x3.ka x3.kb x3.kc t).nn1,u_<|(bZ (⟨o1,o2,o3,o4⟩:N4)<|eI x3.ka x3.kb x3.kc t).nn2,u_<|(bZ (⟨o1,o2,o3,o4⟩:N4)<|eI x3.ka x3.kb x3.kc t).nn3,u_<|(bZ (⟨o1,o2,o3,o4⟩:N4)<|eI x3.ka x3.kb x3.kc t).nn4] rfl (cb<|aM<|tI [.w<|(k:Int)+1] [(1,u_ t),(4,p_ b1),(5,p_ b2),(9,vS al l cl),(10,c_ l.length),(11,i_<|(k:Int)+1)] (fun κ=>(IntKind.i64.wrap ((k:Int)+1)=((k:Int)+1))∧True) ⟨j8 (e:=(k:Int)+1) (by constructor<;>omega),trivial⟩<|bC (k+1,(bZ (⟨o1,o2,o3,o4⟩:N4)<|eI x3.ka x3.kb x3.kc t).nn1,(bZ (⟨o1,o2,o3,o4⟩:N4)<|eI x3.ka x3.kb x3.kc t).nn2,(bZ (⟨o1,o2,o3,o4⟩:N4)<|eI x3.ka x3.kb x3.kc t).nn3,(bZ (⟨o1,o2,o3,o4⟩:N4)<|eI x3.ka x3.kb x3.kc t).nn4) (by omega) (by(simp;omega)) ?_))
  exact cQ [0,0] ⟨rfl,rfl,rfl,rfl,rfl,rfl,trivial⟩<|by kernel_rfl
 have p1:=ga e1
 refine bR<|aC<|bU [.ld 0,.st 1] [] [(1,qj b1 o1 o2 o3 o4)]<|aF<|cN [] [sO o1 o2 o3 o4] (fun _ w r s=>⟨dU 1 r s,trivial⟩) (o1,o2,o3,o4) ?_ ?_<|by kernel_rfl
 ·rfl
 trivial
abbrev yv(p0)(p1)(p2)(p3)(p4:List Cv)(p5)(p6):=([(1,b_ p0),(4,p_ p1),(5,p_ p2),(10,vS p3 p4 p5),(11,c_ p4.length),(12,i_<|(p6:Int)+1)]:aT)
theorem TI(al:bn)(l:List Cv)(cl:Nat)(st:Bool)(hl:l.length≤100000)(w:World)(r0:dR w al (V.aQ cZ l))(hs:HI w []):
  CV 127 #[vS al l cl,b_ st] w [] (fun((o1,o2,o3,o4):Int×Int×Int×Int)=>(sO o1 o2 o3 o4)) (fun _=>True) fun _=>[]:=by
 refine aU Tryz.func127 rfl hs (aC<|dS [.al] [] (fun b1=>[(4,p_ b1)]) (fun _=>[]) (fun b1=>o0 b1) ?_)
 intro b1
 refine aC<|dS [.al,.st 1] [] (fun b2=>[(5,p_ b2)]) (fun _=>[]) (fun b2=>o0 b2) ?_
 intro b2
 refine aE<|aD [(10,vS al l cl),(11,c_ l.length),(12,i_ 0)]<|aO<|fm (fun((k,o1,o2,o3,o4):Nat×Int×Int×Int×Int)=>[(1,b_ st),(4,p_ b1),(5,p_ b2),(10,vS al l cl),(11,c_ l.length),(12,c_ k)]) (fun((k,o1,o2,o3,o4):Nat×Int×Int×Int×Int)=>[qj b2 o1 o2 o3 o4,o0 b1]) (fun((k,o1,o2,o3,o4):Nat×Int×Int×Int×Int)=>(k≤l.length)) (fun((k,o1,o2,o3,o4):Nat×Int×Int×Int×Int)=>l.length-k) (0,0,0,0,0) (by omega) ?_ ?_
 ·exact cQ [1,0] ⟨rfl,rfl,rfl,rfl,rfl,rfl,trivial⟩<|by kernel_rfl
 rintro⟨k,o1,o2,o3,o4⟩ hk
 have hk:k≤l.length:=hk
 refine eo [(1,b_ st),(4,p_ b1),(5,p_ b2),(10,vS al l cl),(11,c_ l.length),(12,c_ k)] [qj b2 o1 o2 o3 o4,o0 b1] ⟨rfl,rfl,rfl,rfl,rfl,rfl,trivial⟩ rfl (aD [(12,c_ k),(13,b_<|decide ((k:Int)<(l.length:Int)))]<|aE<|aI (E:=decide ((k:Int)<(l.length:Int))) rfl (fun e1=>?_) (fun e1=>?_))
 ·have p1:=dZ e1
  refine au<|aO<|aC<|MR [.ix] [(1,b_ st),(4,p_ b1),(5,p_ b2),(10,vS al l cl),(11,c_ l.length),(12,c_ k),(14,.pointer<|some<|(aZ al).add (k*3))] [] (fun κ=>κ.ix al l.length (k:Int)∧True) (by kernel_rfl) ⟨dh kG (by decide) (bg r0<|by simp[aL])<|by omega,trivial⟩ ?_
  obtain⟨x3,hx3⟩: ∃x,(l)[k]? =some x:=⟨_,dA<|by omega⟩
  refine jN [.rd<|cZ x3,.al,.st 2] [1,4,5,10,11,12,7] (fun b4=>[(1,b_ st),(4,p_ b1),(5,p_ b2),(10,vS al l cl),(11,c_ l.length),(12,c_ k),(7,p_ b4)]) (fun b4=>[qj b2 o1 o2 o3 o4,o0 b1,aA b4 (cZ x3) 60]) (fun b4=>[b4]) (fun _=>(fun κ=>κ.rd ((aZ al).add (k*3)) (cZ x3)∧True)) (fun _=>by kernel_rfl) (fun b4=>⟨dY (vs:=(cZ x3)) kG (bg r0<|by simp[aL]) hx3 (Nat.le_of_ble_eq_true rfl) rfl,trivial⟩) ?_
  intro b4
  refine aC<|bF [.ld 2] [(7,p_ b4),(8,u_ x3.kc)]<|cS<|bF [.o,.ld 2,.cl] [(4,p_ b1),(5,p_ b2),(10,vS al l cl),(11,c_ l.length),(12,c_ k),(7,p_ b4),(8,u_ x3.kc),(24,b_<|st&&(decide (x3.ka>x3.kc)))]<|aI (E:=st&&(decide (x3.ka>x3.kc))) rfl (fun e2=>?_) (fun e2=>?_)
  ·refine aM<|bF [.ld 2] [(8,u_ x3.ka)]<|aC<|tI [.ld 2,.cq<|i_<|cR x3.ka x3.kb x3.kc] [(1,b_ st),(4,p_ b1),(5,p_ b2),(10,vS al l cl),(11,c_ l.length),(12,c_ k),(8,u_ x3.ka),(29,b_<|(cR x3.ka x3.kb x3.kc)!=0)] (fun κ=>κ.call 15 [.agg (cZ x3).toArray] (i_<|cR x3.ka x3.kb x3.kc)∧True) ⟨(fun w s=>lN x3.ka x3.kb x3.kc w),trivial⟩<|aI (E:=(cR x3.ka x3.kb x3.kc)!=0) rfl (fun e3=>?_) (fun e3=>?_)
   ·refine bL [4] 5<|FW 1 [.ld 0,.p,.cq<|.agg #[u_<|(cj x3.ka).nn1,u_<|(cj x3.ka).nn2,u_<|(cj x3.ka).nn3,u_<|(cj x3.ka).nn4],.cq<|.agg #[u_<|(bZ (⟨o1,o2,o3,o4⟩:N4)<|cj x3.ka).nn1,u_<|(bZ (⟨o1,o2,o3,o4⟩:N4)<|cj x3.ka).nn2,u_<|(bZ (⟨o1,o2,o3,o4⟩:N4)<|cj x3.ka).nn3,u_<|(bZ (⟨o1,o2,o3,o4⟩:N4)<|cj x3.ka).nn4]] [0,1,2,3] [(1,b_ st),(4,p_ b1),(5,p_ b2),(10,vS al l cl),(11,c_ l.length),(12,c_ k),(33,.agg #[u_<|(bZ (⟨o1,o2,o3,o4⟩:N4)<|cj x3.ka).nn1,u_<|(bZ (⟨o1,o2,o3,o4⟩:N4)<|cj x3.ka).nn2,u_<|(bZ (⟨o1,o2,o3,o4⟩:N4)<|cj x3.ka).nn3,u_<|(bZ (⟨o1,o2,o3,o4⟩:N4)<|cj x3.ka).nn4])] [b2] (fun κ=>κ.call 55 [u_ x3.ka] (.agg #[u_<|(cj x3.ka).nn1,u_<|(cj x3.ka).nn2,u_<|(cj x3.ka).nn3,u_<|(cj x3.ka).nn4])∧κ.call 54 [sO o1 o2 o3 o4,.agg #[u_<|(cj x3.ka).nn1,u_<|(cj x3.ka).nn2,u_<|(cj x3.ka).nn3,u_<|(cj x3.ka).nn4]] (.agg #[u_<|(bZ (⟨o1,o2,o3,o4⟩:N4)<|cj x3.ka).nn1,u_<|(bZ (⟨o1,o2,o3,o4⟩:N4)<|cj x3.ka).nn2,u_<|(bZ (⟨o1,o2,o3,o4⟩:N4)<|cj x3.ka).nn3,u_<|(bZ (⟨o1,o2,o3,o4⟩:N4)<|cj x3.ka).nn4])∧True) (by kernel_rfl) ⟨(fun w s=>AE x3.ka w),(fun w s=>pJ (⟨o1,o2,o3,o4⟩:N4) (cj x3.ka) w),trivial⟩<|an 4 rfl (dN 0 [u_<|(bZ (⟨o1,o2,o3,o4⟩:N4)<|cj x3.ka).nn1,u_<|(bZ (⟨o1,o2,o3,o4⟩:N4)<|cj x3.ka).nn2,u_<|(bZ (⟨o1,o2,o3,o4⟩:N4)<|cj x3.ka).nn3,u_<|(bZ (⟨o1,o2,o3,o4⟩:N4)<|cj x3.ka).nn4] rfl (cb<|aM<|tI [.w<|(k:Int)+1] (yv st b1 b2 al l cl k) (fun κ=>(IntKind.i64.wrap ((k:Int)+1)=((k:Int)+1))∧True) ⟨j8 (e:=(k:Int)+1) (by constructor<;>omega),trivial⟩<|bC (k+1,(bZ (⟨o1,o2,o3,o4⟩:N4)<|cj x3.ka).nn1,(bZ (⟨o1,o2,o3,o4⟩:N4)<|cj x3.ka).nn2,(bZ (⟨o1,o2,o3,o4⟩:N4)<|cj x3.ka).nn3,(bZ (⟨o1,o2,o3,o4⟩:N4)<|cj x3.ka).nn4) (by omega) (by(simp;omega)) ?_))
    exact cQ [0,0] ⟨rfl,rfl,rfl,rfl,rfl,rfl,trivial⟩<|by kernel_rfl
   refine aP<|aM<|tI [.w<|(k:Int)+1] (yv st b1 b2 al l cl k) (fun κ=>(IntKind.i64.wrap ((k:Int)+1)=((k:Int)+1))∧True) ⟨j8 (e:=(k:Int)+1) (by constructor<;>omega),trivial⟩<|bC (k+1,o1,o2,o3,o4) (by omega) (by(simp;omega)) ?_
   exact cQ [0,0] ⟨rfl,rfl,rfl,rfl,rfl,rfl,trivial⟩<|by kernel_rfl
  refine aP<|aC<|tI [.ld 2,.cq<|i_<|cR x3.ka x3.kb x3.kc] [(1,b_ st),(4,p_ b1),(5,p_ b2),(10,vS al l cl),(11,c_ l.length),(12,c_ k),(8,u_ x3.kc),(29,b_<|(cR x3.ka x3.kb x3.kc)!=0)] (fun κ=>κ.call 15 [.agg (cZ x3).toArray] (i_<|cR x3.ka x3.kb x3.kc)∧True) ⟨(fun w s=>lN x3.ka x3.kb x3.kc w),trivial⟩<|aI (E:=(cR x3.ka x3.kb x3.kc)!=0) rfl (fun e4=>?_) (fun e4=>?_)
  ·refine bL [4] 5<|FW 1 [.ld 0,.p,.cq<|.agg #[u_<|(cj x3.kc).nn1,u_<|(cj x3.kc).nn2,u_<|(cj x3.kc).nn3,u_<|(cj x3.kc).nn4],.cq<|.agg #[u_<|(bZ (⟨o1,o2,o3,o4⟩:N4)<|cj x3.kc).nn1,u_<|(bZ (⟨o1,o2,o3,o4⟩:N4)<|cj x3.kc).nn2,u_<|(bZ (⟨o1,o2,o3,o4⟩:N4)<|cj x3.kc).nn3,u_<|(bZ (⟨o1,o2,o3,o4⟩:N4)<|cj x3.kc).nn4]] [0,1,2,3] [(1,b_ st),(4,p_ b1),(5,p_ b2),(10,vS al l cl),(11,c_ l.length),(12,c_ k),(33,.agg #[u_<|(bZ (⟨o1,o2,o3,o4⟩:N4)<|cj x3.kc).nn1,u_<|(bZ (⟨o1,o2,o3,o4⟩:N4)<|cj x3.kc).nn2,u_<|(bZ (⟨o1,o2,o3,o4⟩:N4)<|cj x3.kc).nn3,u_<|(bZ (⟨o1,o2,o3,o4⟩:N4)<|cj x3.kc).nn4])] [b2] (fun κ=>κ.call 55 [u_ x3.kc] (.agg #[u_<|(cj x3.kc).nn1,u_<|(cj x3.kc).nn2,u_<|(cj x3.kc).nn3,u_<|(cj x3.kc).nn4])∧κ.call 54 [sO o1 o2 o3 o4,.agg #[u_<|(cj x3.kc).nn1,u_<|(cj x3.kc).nn2,u_<|(cj x3.kc).nn3,u_<|(cj x3.kc).nn4]] (.agg #[u_<|(bZ (⟨o1,o2,o3,o4⟩:N4)<|cj x3.kc).nn1,u_<|(bZ (⟨o1,o2,o3,o4⟩:N4)<|cj x3.kc).nn2,u_<|(bZ (⟨o1,o2,o3,o4⟩:N4)<|cj x3.kc).nn3,u_<|(bZ (⟨o1,o2,o3,o4⟩:N4)<|cj x3.kc).nn4])∧True) (by kernel_rfl) ⟨(fun w s=>AE x3.kc w),(fun w s=>pJ (⟨o1,o2,o3,o4⟩:N4) (cj x3.kc) w),trivial⟩<|an 4 rfl (dN 0 [u_<|(bZ (⟨o1,o2,o3,o4⟩:N4)<|cj x3.kc).nn1,u_<|(bZ (⟨o1,o2,o3,o4⟩:N4)<|cj x3.kc).nn2,u_<|(bZ (⟨o1,o2,o3,o4⟩:N4)<|cj x3.kc).nn3,u_<|(bZ (⟨o1,o2,o3,o4⟩:N4)<|cj x3.kc).nn4] rfl (cb<|aM<|tI [.w<|(k:Int)+1] (yv st b1 b2 al l cl k) (fun κ=>(IntKind.i64.wrap ((k:Int)+1)=((k:Int)+1))∧True) ⟨j8 (e:=(k:Int)+1) (by constructor<;>omega),trivial⟩<|bC (k+1,(bZ (⟨o1,o2,o3,o4⟩:N4)<|cj x3.kc).nn1,(bZ (⟨o1,o2,o3,o4⟩:N4)<|cj x3.kc).nn2,(bZ (⟨o1,o2,o3,o4⟩:N4)<|cj x3.kc).nn3,(bZ (⟨o1,o2,o3,o4⟩:N4)<|cj x3.kc).nn4) (by omega) (by(simp;omega)) ?_))
   exact cQ [0,0] ⟨rfl,rfl,rfl,rfl,rfl,rfl,trivial⟩<|by kernel_rfl
  refine aP<|aM<|tI [.w<|(k:Int)+1] (yv st b1 b2 al l cl k) (fun κ=>(IntKind.i64.wrap ((k:Int)+1)=((k:Int)+1))∧True) ⟨j8 (e:=(k:Int)+1) (by constructor<;>omega),trivial⟩<|bC (k+1,o1,o2,o3,o4) (by omega) (by(simp;omega)) ?_
  exact cQ [0,0] ⟨rfl,rfl,rfl,rfl,rfl,rfl,trivial⟩<|by kernel_rfl
 have p1:=ga e1
 refine bR<|aC<|bU [.ld 0,.st 1] [] [(1,qj b1 o1 o2 o3 o4)]<|aF<|cN [] [sO o1 o2 o3 o4] (fun _ w r s=>⟨dU 1 r s,trivial⟩) (o1,o2,o3,o4) ?_ ?_<|by kernel_rfl
 ·rfl
 trivial
def mZ(a:N4)(t:Int):N4:=bZ (bE (eG a)<|IntKind.u64.wrap t)<|iQ (eG<|bE (fb a)<|IntKind.u64.wrap t) 0
def rJ(a:N4)(t k:Int):Bool:= !lM (bE 65536 k) (mZ a t)
theorem TJ(al:bn)(l:List Cv)(cl:Nat)(hl:l.length≤100000)(w:World)(r0:dR w al (V.aQ cZ l))(hs:HI w []):
  CV 124 #[vS al l cl] w [] (fun((A',xs',c'):(bn)×(bT)×Nat)=>(vS A' xs' c')) (fun(A',xs',c')=>xs'.length≤l.length) fun(A',xs',c')=>[sl A' (xs'.length) c' 40 1<|V.aQ fP xs']:=by
 refine aU Tryz.func124 rfl hs (aD []<|aD [(3,e_)]<|aE<|aD [(10,vS al l cl),(11,c_ l.length),(12,i_ 0)]<|aO<|gC 40 1 [sl none (([]:bT).length) 0 40 1<|V.aQ fP ([]:bT)] rfl (fm (fun((k,ao,xs,co):Nat×(bn)×(bT)×Nat)=>[(10,vS al l cl),(11,c_ l.length),(12,c_ k),(3,vS ao xs co)]) (fun((k,ao,xs,co):Nat×(bn)×(bT)×Nat)=>[sl ao (xs.length) co 40 1<|V.aQ fP xs]) (fun((k,ao,xs,co):Nat×(bn)×(bT)×Nat)=>(k≤l.length)∧(xs.length≤k)) (fun((k,ao,xs,co):Nat×(bn)×(bT)×Nat)=>l.length-k) (0,none,([]:bT),0) ⟨(by omega),(by(simp;done))⟩ ?_ ?_))
 ·exact cQ [0] ⟨rfl,rfl,rfl,rfl,trivial⟩<|by kernel_rfl
 rintro⟨k,ao,xs,co⟩ ⟨hk,hx⟩
 refine eo [(10,vS al l cl),(11,c_ l.length),(12,c_ k),(3,vS ao xs co)] [sl ao (xs.length) co 40 1<|V.aQ fP xs] ⟨rfl,rfl,rfl,rfl,trivial⟩ rfl (aD [(12,c_ k),(3,vS ao xs co),(13,b_<|decide ((k:Int)<(l.length:Int)))]<|aE<|aI (E:=decide ((k:Int)<(l.length:Int))) rfl (fun e1=>?_) (fun e1=>?_))
 ·have p1:=dZ e1
  refine au<|aO<|aC<|ic [.ix] [(14,.pointer<|some<|(aZ al).add (k*3))] (o1<|io (k:Int)<|dh kG (by decide) (bg r0<|by simp[aL])<|by omega) ?_
  obtain⟨x2,hx2⟩: ∃x,(l)[k]? =some x:=⟨_,dA<|by omega⟩
  refine jN [.rd<|cZ x2,.al,.st 1] [10,11,12,3,5] (fun b3=>[(10,vS al l cl),(11,c_ l.length),(12,c_ k),(3,vS ao xs co),(5,p_ b3)]) (fun b3=>[sl ao (xs.length) co 40 1<|V.aQ fP xs,aA b3 (cZ x2) 60]) (fun b3=>[b3]) (fun _=>(fun κ=>κ.rd ((aZ al).add (k*3)) (cZ x2)∧True)) (fun _=>by kernel_rfl) (fun b3=>⟨dY (vs:=(cZ x2)) kG (bg r0<|by simp[aL]) hx2 (Nat.le_of_ble_eq_true rfl) rfl,trivial⟩) ?_
  intro b3
  refine cS<|fy [.ld 1,.cq<|i_<|cR x2.ka x2.kb x2.kc] [(10,vS al l cl),(11,c_ l.length),(12,c_ k),(3,vS ao xs co),(5,p_ b3),(18,b_<|decide ((cR x2.ka x2.kb x2.kc)<3))] (o1<|qw<|lN x2.ka x2.kb x2.kc)<|aI (E:=decide ((cR x2.ka x2.kb x2.kc)<3)) rfl (fun e2=>?_) (fun e2=>?_)
  ·have p2:=dZ e2
   refine bR<|aM<|az [.w<|(k:Int)+1] [(12,i_<|(k:Int)+1)] (o1<|wj ((k:Int)+1)<|by omega)<|bC (k+1,ao,xs,co) ⟨(by omega),(by(simp_all<;>omega))⟩ (by(simp;omega)) ?_
   exact cQ [0] ⟨rfl,rfl,rfl,rfl,trivial⟩<|by kernel_rfl
  have p2:=ga e2
  refine aP<|aD [(6,e_)]<|aD [(7,b_ false)]<|aE<|aD [(19,vS ao xs co),(20,c_ xs.length),(21,i_ 0)]<|aO<|gC 40 1 [sl ao (xs.length) co 40 1<|V.aQ fP xs,aA b3 (cZ x2) 60,sl none (([]:bT).length) 0 40 1<|V.aQ fP ([]:bT)] rfl (fm (fun((j,am,m,cm,bp):Nat×(bn)×(bT)×Nat×Bool)=>[(10,vS al l cl),(11,c_ l.length),(12,c_ k),(5,p_ b3),(19,vS ao xs co),(20,c_ xs.length),(21,c_ j),(6,vS am m cm),(7,b_ bp)]) (fun((j,am,m,cm,bp):Nat×(bn)×(bT)×Nat×Bool)=>[sl am (m.length) cm 40 1<|V.aQ fP m,sl ao (xs.length) co 40 1<|V.aQ fP xs,aA b3 (cZ x2) 60]) (fun((j,am,m,cm,bp):Nat×(bn)×(bT)×Nat×Bool)=>(j≤xs.length)∧(m.length+(bif bp then 0 else 1)≤j+1)) (fun((j,am,m,cm,bp):Nat×(bn)×(bT)×Nat×Bool)=>xs.length-j) (0,none,([]:bT),0,false) ⟨(by omega),(by(simp;done))⟩ ?_ ?_)
  ·exact cQ [2,0,0] ⟨rfl,rfl,rfl,rfl,rfl,rfl,rfl,rfl,rfl,trivial⟩<|by kernel_rfl
  rintro⟨j,am,m,cm,bp⟩ ⟨hj,hm⟩
  refine eo [(10,vS al l cl),(11,c_ l.length),(12,c_ k),(5,p_ b3),(19,vS ao xs co),(20,c_ xs.length),(21,c_ j),(6,vS am m cm),(7,b_ bp)] [sl am (m.length) cm 40 1<|V.aQ fP m,sl ao (xs.length) co 40 1<|V.aQ fP xs,aA b3 (cZ x2) 60] ⟨rfl,rfl,rfl,rfl,rfl,rfl,rfl,rfl,rfl,trivial⟩ rfl (aD [(21,c_ j),(6,vS am m cm),(7,b_ bp),(22,b_<|decide ((j:Int)<(xs.length:Int)))]<|aE<|aI (E:=decide ((j:Int)<(xs.length:Int))) rfl (fun e3=>?_) (fun e3=>?_))
  ·have p3:=dZ e3
   refine au<|aO<|aC<|ic [.ix] [(23,.pointer<|some<|(aZ ao).add (j*1))] (o1<|io (j:Int)<|dh aR (by decide) (cV (i:=1) rfl)<|by omega) ?_
   obtain⟨x5,hx5⟩: ∃x,(xs)[j]? =some x:=⟨_,dA<|by omega⟩
   refine fy [.rd [u_ x5]] [(10,vS al l cl),(11,c_ l.length),(12,c_ k),(5,p_ b3),(19,vS ao xs co),(20,c_ xs.length),(21,c_ j),(6,vS am m cm),(7,b_ bp),(9,u_ x5)] (o1<|ro ((aZ ao).add (j*1))<|dY (vs:=[u_ x5]) aR (cV (i:=1) rfl) hx5 (Nat.le_of_ble_eq_true rfl) rfl)<|cS<|bF [.o,.ld 2,.cl] [(32,b_<|(!bp)&&(decide (x5≥x2.kb)))]<|aI (E:=(!bp)&&(decide (x5≥x2.kb))) rfl (fun e4=>?_) (fun e4=>?_)
   ·refine aC<|bA 3 [.ld 2] [(33,vS am m cm),(35,u_ x2.kb)]<|aG<|eB 36 (e:=40) [u_ x2.kb] (by kernel_rfl) rfl (fun _=>by kernel_rfl) (fun b6=>[sl am (m.length) cm 40 1<|V.aQ fP m,sl ao (xs.length) co 40 1<|V.aQ fP xs,aA b3 (cZ x2) 60,aA b6 [u_ x2.kb] 40]) (fun _=>rfl) ?_
    intro b6
    refine aG<|jj (enc:=fP) (xs:=m) ([x2.kb]) 0 37 (e:=40) (z:=(u_ 0)) (sz:=1) (by_:=8) (by kernel_rfl) rfl rfl rfl (by kernel_rfl) (by kernel_rfl) (by rfl) (by decide) aR vd rfl (eV (i:=3) rfl) (by(simp_all<;>omega)) (fun A7 c7=>[sl A7 ((m++([x2.kb])).length) c7 40 1<|V.aQ fP<|m++([x2.kb]),sl ao (xs.length) co 40 1<|V.aQ fP xs,aA b3 (cZ x2) 60,aA b6 [u_ x2.kb] 40]) (fun _ _=>rfl) ?_
    intro A7 c7
    refine ak [(6,vS A7 (m++([x2.kb])) c7)]<|bX [(7,b_ true)]<|aC<|bF [.ld 2] [(41,b_<|x5 !=x2.kb)]<|aI (E:=x5 !=x2.kb) rfl (fun e5=>?_) (fun e5=>?_)
    ·refine aM<|j0 [.p,.p] [(10,vS al l cl),(11,c_ l.length),(12,c_ k),(5,p_ b3),(19,vS ao xs co),(20,c_ xs.length),(21,c_ j),(6,vS A7 (m++([x2.kb])) c7),(7,b_ true),(42,vS A7 (m++([x2.kb])) c7),(43,u_ x5)]<|aG<|eB 44 (e:=40) [u_ x5] (by kernel_rfl) rfl (fun _=>by kernel_rfl) (fun b8=>[sl A7 ((m++([x2.kb])).length) c7 40 1<|V.aQ fP<|m++([x2.kb]),sl ao (xs.length) co 40 1<|V.aQ fP xs,aA b3 (cZ x2) 60,aA b6 [u_ x2.kb] 40,aA b8 [u_ x5] 40]) (fun _=>rfl) ?_
     intro b8
     refine aG<|jj (enc:=fP) (xs:=m++([x2.kb])) ([x5]) 0 45 (e:=40) (z:=(u_ 0)) (sz:=1) (by_:=8) (by kernel_rfl) rfl rfl rfl (by kernel_rfl) (by kernel_rfl) (by rfl) (by decide) aR vd rfl (eV (i:=4) rfl) (by(simp_all<;>omega)) (fun A9 c9=>[sl A9 (((m++([x2.kb]))++([x5])).length) c9 40 1<|V.aQ fP<|(m++([x2.kb]))++([x5]),sl ao (xs.length) co 40 1<|V.aQ fP xs,aA b3 (cZ x2) 60,aA b6 [u_ x2.kb] 40,aA b8 [u_ x5] 40]) (fun _ _=>rfl) ?_
     intro A9 c9
     refine ak [(6,vS A9 ((m++([x2.kb]))++([x5])) c9)]<|aM<|az [.w<|(j:Int)+1] [(21,i_<|(j:Int)+1)] (o1<|wj ((j:Int)+1)<|by omega)<|bC (j+1,A9,(m++([x2.kb]))++([x5]),c9,true) ⟨(by omega),(by(simp_all<;>omega))⟩ (by(simp;omega)) ?_
     exact cQ [0,0,0] ⟨rfl,rfl,rfl,rfl,rfl,rfl,rfl,rfl,rfl,trivial⟩<|by kernel_rfl
    refine aP<|aM<|fy [.w<|(j:Int)+1] [(10,vS al l cl),(11,c_ l.length),(12,c_ k),(5,p_ b3),(19,vS ao xs co),(20,c_ xs.length),(21,i_<|(j:Int)+1),(6,vS A7 (m++([x2.kb])) c7),(7,b_ true)] (o1<|wj ((j:Int)+1)<|by omega)<|bC (j+1,A7,m++([x2.kb]),c7,true) ⟨(by omega),(by(simp_all<;>omega))⟩ (by(simp;omega)) ?_
    exact cQ [0,0,0] ⟨rfl,rfl,rfl,rfl,rfl,rfl,rfl,rfl,rfl,trivial⟩<|by kernel_rfl
   refine aP<|aC<|bF [.ld 2] [(41,b_<|x5 !=x2.kb)]<|aI (E:=x5 !=x2.kb) rfl (fun e6=>?_) (fun e6=>?_)
   ·refine aM<|bA 2 [] [(42,vS am m cm),(43,u_ x5)]<|aG<|eB 44 (e:=40) [u_ x5] (by kernel_rfl) rfl (fun _=>by kernel_rfl) (fun b10=>[sl am (m.length) cm 40 1<|V.aQ fP m,sl ao (xs.length) co 40 1<|V.aQ fP xs,aA b3 (cZ x2) 60,aA b10 [u_ x5] 40]) (fun _=>rfl) ?_
    intro b10
    refine aG<|jj (enc:=fP) (xs:=m) ([x5]) 0 45 (e:=40) (z:=(u_ 0)) (sz:=1) (by_:=8) (by kernel_rfl) rfl rfl rfl (by kernel_rfl) (by kernel_rfl) (by rfl) (by decide) aR vd rfl (eV (i:=3) rfl) (by(simp_all<;>omega)) (fun A11 c11=>[sl A11 ((m++([x5])).length) c11 40 1<|V.aQ fP<|m++([x5]),sl ao (xs.length) co 40 1<|V.aQ fP xs,aA b3 (cZ x2) 60,aA b10 [u_ x5] 40]) (fun _ _=>rfl) ?_
    intro A11 c11
    refine ak [(6,vS A11 (m++([x5])) c11)]<|aM<|az [.w<|(j:Int)+1] [(21,i_<|(j:Int)+1)] (o1<|wj ((j:Int)+1)<|by omega)<|bC (j+1,A11,m++([x5]),c11,bp) ⟨(by omega),(by(simp_all<;>omega))⟩ (by(simp;omega)) ?_
    exact cQ [0,0,0] ⟨rfl,rfl,rfl,rfl,rfl,rfl,rfl,rfl,rfl,trivial⟩<|by kernel_rfl
   refine aP<|aM<|az [.w<|(j:Int)+1] [(21,i_<|(j:Int)+1)] (o1<|wj ((j:Int)+1)<|by omega)<|bC (j+1,am,m,cm,bp) ⟨(by omega),(by(simp_all<;>omega))⟩ (by(simp;omega)) ?_
   exact cQ [0,0,0] ⟨rfl,rfl,rfl,rfl,rfl,rfl,rfl,rfl,rfl,trivial⟩<|by kernel_rfl
  have p3:=ga e3
  refine bR<|aE<|aD [(48,b_ (!bp))]<|aI (E:= !bp) rfl (fun e7=>?_) (fun e7=>?_)
  ·refine aM<|j0 [.p,.p,.ld 2] [(10,vS al l cl),(11,c_ l.length),(12,c_ k),(6,vS am m cm),(49,vS am m cm),(51,u_ x2.kb)]<|aG<|eB 52 (e:=40) [u_ x2.kb] (by kernel_rfl) rfl (fun _=>by kernel_rfl) (fun b12=>[sl am (m.length) cm 40 1<|V.aQ fP m,sl ao (xs.length) co 40 1<|V.aQ fP xs,aA b3 (cZ x2) 60,aA b12 [u_ x2.kb] 40]) (fun _=>rfl) ?_
   intro b12
   refine aG<|jj (enc:=fP) (xs:=m) ([x2.kb]) 0 53 (e:=40) (z:=(u_ 0)) (sz:=1) (by_:=8) (by kernel_rfl) rfl rfl rfl (by kernel_rfl) (by kernel_rfl) (by rfl) (by decide) aR vd rfl (eV (i:=3) rfl) (by(simp_all<;>omega)) (fun A13 c13=>[sl A13 ((m++([x2.kb])).length) c13 40 1<|V.aQ fP<|m++([x2.kb]),sl ao (xs.length) co 40 1<|V.aQ fP xs,aA b3 (cZ x2) 60,aA b12 [u_ x2.kb] 40]) (fun _ _=>rfl) ?_
   intro A13 c13
   refine ak [(6,vS A13 (m++([x2.kb])) c13)]<|bX [(3,vS A13 (m++([x2.kb])) c13)]<|aM<|az [.w<|(k:Int)+1] [(12,i_<|(k:Int)+1)] (o1<|wj ((k:Int)+1)<|by omega)<|bC (k+1,A13,m++([x2.kb]),c13) ⟨(by omega),(by(simp_all<;>omega))⟩ (by(simp;omega)) ?_
   exact cQ [0] ⟨rfl,rfl,rfl,rfl,trivial⟩<|by kernel_rfl
  refine aP<|aM<|dQ [] [(10,vS al l cl),(11,c_ l.length),(12,c_ k),(3,vS am m cm)]<|aM<|az [.w<|(k:Int)+1] [(12,i_<|(k:Int)+1)] (o1<|wj ((k:Int)+1)<|by omega)<|bC (k+1,am,m,cm) ⟨(by omega),(by(simp_all<;>omega))⟩ (by(simp;omega)) ?_
  exact cQ [0] ⟨rfl,rfl,rfl,rfl,trivial⟩<|by kernel_rfl
 have p1:=ga e1
 refine bR<|aD [(2,vS ao xs co)]<|aF<|cN [0] [vS ao xs co] (fun _ w r s=>⟨dM r rfl,trivial⟩) (ao,xs,co) ?_ ?_<|by kernel_rfl
 ·rfl
 omega
theorem TK(a:N4)(t:Int)(w:World):
  CW 165 #[.agg #[u_ a.nn1,u_ a.nn2,u_ a.nn3,u_ a.nn4],i_ t] w (.agg #[u_<|(mZ a t).nn1,u_<|(mZ a t).nn2,u_<|(mZ a t).nn3,u_<|(mZ a t).nn4]):=by
 refine aU Tryz.func165 rfl (HS.nil w) (aC<|fz [.al,.al] [] (fun b1 b2=>[(2,p_ b1),(4,p_ b2)]) (fun b1 b2=>[aA b1 [u_ a.nn1,u_ a.nn2,u_ a.nn3,u_ a.nn4] 69,aA b2 [u_ 0,u_ 0,u_ 0,u_ 0] 69]) ?_)
 intro b1 b2
 refine aC<|iE [.ld 0,.cq<|u_<|eG a,.cq<|.agg #[u_<|(bE (eG a)<|wU<|t).nn1,u_<|(bE (eG a)<|wU<|t).nn2,u_<|(bE (eG a)<|wU<|t).nn3,u_<|(bE (eG a)<|wU<|t).nn4],.al,.st 2] [] (fun b3=>[(5,p_ b3)]) (fun b3=>[]) (fun b3=>aA b3 [u_<|(bE (eG a)<|wU<|t).nn1,u_<|(bE (eG a)<|wU<|t).nn2,u_<|(bE (eG a)<|wU<|t).nn3,u_<|(bE (eG a)<|wU<|t).nn4] 69) (fun b3=>oc (qw<|LQ a)<|o1<|qw<|uD (eG a)<|wU<|t) ?_
 intro b3
 refine aC<|iE [.ld 0,.cq<|u_<|fb a,.cq<|.agg #[u_<|(bE (fb a)<|wU<|t).nn1,u_<|(bE (fb a)<|wU<|t).nn2,u_<|(bE (fb a)<|wU<|t).nn3,u_<|(bE (fb a)<|wU<|t).nn4],.al,.st 3] [] (fun b4=>[(6,p_ b4)]) (fun b4=>[]) (fun b4=>aA b4 [u_<|(bE (fb a)<|wU<|t).nn1,u_<|(bE (fb a)<|wU<|t).nn2,u_<|(bE (fb a)<|wU<|t).nn3,u_<|(bE (fb a)<|wU<|t).nn4] 69) (fun b4=>oc (qw<|Vw a)<|o1<|qw<|uD (fb a)<|wU<|t) ?_
 intro b4
 refine aE<|bL [5] 6 ?_
 refine cO 1 [.ld 2,.ld 3,.cq<|u_<|eG<|bE (fb a)<|wU<|t,.cq<|.agg #[u_<|(iQ (eG<|bE (fb a)<|wU<|t) 0).nn1,u_<|(iQ (eG<|bE (fb a)<|wU<|t) 0).nn2,u_<|(iQ (eG<|bE (fb a)<|wU<|t) 0).nn3,u_<|(iQ (eG<|bE (fb a)<|wU<|t) 0).nn4],.cq<|.agg #[u_<|(bZ (bE (eG a)<|wU<|t)<|iQ (eG<|bE (fb a)<|wU<|t) 0).nn1,u_<|(bZ (bE (eG a)<|wU<|t)<|iQ (eG<|bE (fb a)<|wU<|t) 0).nn2,u_<|(bZ (bE (eG a)<|wU<|t)<|iQ (eG<|bE (fb a)<|wU<|t) 0).nn3,u_<|(bZ (bE (eG a)<|wU<|t)<|iQ (eG<|bE (fb a)<|wU<|t) 0).nn4]] [0,1,2,3,4] [(21,.agg #[u_<|(bZ (bE (eG a)<|wU<|t)<|iQ (eG<|bE (fb a)<|wU<|t) 0).nn1,u_<|(bZ (bE (eG a)<|wU<|t)<|iQ (eG<|bE (fb a)<|wU<|t) 0).nn2,u_<|(bZ (bE (eG a)<|wU<|t)<|iQ (eG<|bE (fb a)<|wU<|t) 0).nn3,u_<|(bZ (bE (eG a)<|wU<|t)<|iQ (eG<|bE (fb a)<|wU<|t) 0).nn4])] (oc (qw<|LQ<|bE (fb a)<|wU<|t)<|oc (qw<|TD (eG<|bE (fb a)<|wU<|t) 0)<|o1<|qw<|pJ (bE (eG a)<|wU<|t)<|iQ (eG<|bE (fb a)<|wU<|t) 0) ?_
 refine an 5 rfl (dN 1 [u_<|(bZ (bE (eG a)<|wU<|t)<|iQ (eG<|bE (fb a)<|wU<|t) 0).nn1,u_<|(bZ (bE (eG a)<|wU<|t)<|iQ (eG<|bE (fb a)<|wU<|t) 0).nn2,u_<|(bZ (bE (eG a)<|wU<|t)<|iQ (eG<|bE (fb a)<|wU<|t) 0).nn3,u_<|(bZ (bE (eG a)<|wU<|t)<|iQ (eG<|bE (fb a)<|wU<|t) 0).nn4] rfl ?_)
 refine cb<|aF<|eY 1 [u_<|(bZ (bE (eG a)<|wU<|t)<|iQ (eG<|bE (fb a)<|wU<|t) 0).nn1,u_<|(bZ (bE (eG a)<|wU<|t)<|iQ (eG<|bE (fb a)<|wU<|t) 0).nn2,u_<|(bZ (bE (eG a)<|wU<|t)<|iQ (eG<|bE (fb a)<|wU<|t) 0).nn3,u_<|(bZ (bE (eG a)<|wU<|t)<|iQ (eG<|bE (fb a)<|wU<|t) 0).nn4] ?_
 rfl
theorem Ji(a:N4)(t k:Int)(w:World):
  CW 125 #[.agg #[u_ a.nn1,u_ a.nn2,u_ a.nn3,u_ a.nn4],i_ t,u_ k] w (b_<|rJ a t k):=by
 refine aU Tryz.func125 rfl (HS.nil w) (aC<|dD [.al] [] (fun b1=>[(3,p_ b1)]) (fun b1=>aA b1 [u_ a.nn1,u_ a.nn2,u_ a.nn3,u_ a.nn4] 69) ?_)
 intro b1
 refine aE<|fS [.cq<|.agg #[u_<|(bE 65536 k).nn1,u_<|(bE 65536 k).nn2,u_<|(bE 65536 k).nn3,u_<|(bE 65536 k).nn4],.ld 0,.cq<|.agg #[u_<|(mZ a t).nn1,u_<|(mZ a t).nn2,u_<|(mZ a t).nn3,u_<|(mZ a t).nn4],.cq<|b_<|lM (bE 65536 k)<|mZ a t] (rg 0 8) [] [(6,b_ (!(lM (bE 65536 k)<|mZ a t)))] (oc (qw<|uD 65536 k)<|oc (qw<|TK a t)<|o1<|qw<|Q6 (bE 65536 k)<|mZ a t)<|aF<|bK [b_ (!(lM (bE 65536 k)<|mZ a t))] ?_
 rfl
theorem Jj(al:bn)(l:List Cv)(cl:Nat)(t:Int)(hl:l.length≤100000)(w:World)(r0:dR w al (V.aQ cZ l))(hs:HI w []):
  CV 83 #[i_ t,vS al l cl] w [] (fun(v:Int)=>(i_ v)) (fun _=>True) fun _=>[]:=by
 refine aU Tryz.func83 rfl hs (aD []<|cS<|bF [.o,.cl] [(12,b_<|(decide (t<1))||(decide (t>65536)))]<|aI (E:=(decide (t<1))||(decide (t>65536))) rfl (fun e1=>?_) (fun e1=>?_))
 ·refine aD [(4,i_ 1)]<|aF<|cN [] [i_ 1] (fun _ w r s=>⟨dM r rfl,trivial⟩) (1) ?_ ?_<|by kernel_rfl
  ·rfl
  trivial
 refine au<|aD [(13,vS al l cl),(14,c_ l.length),(15,i_ 0)]<|aO<|fm (fun(zz:Nat)=>match zz with|k=>[(13,vS al l cl),(14,c_ l.length),(15,c_ k)]) (fun(zz:Nat)=>match zz with|k=>[]) (fun(zz:Nat)=>match zz with|k=>(k≤l.length)) (fun(zz:Nat)=>match zz with|k=>l.length-k) (0:Nat) (by omega) ?_ ?_
 ·exact cQ [] ⟨rfl,rfl,rfl,trivial⟩<|by kernel_rfl
 rintro k hk
 have hk:k≤l.length:=hk
 refine eo [(13,vS al l cl),(14,c_ l.length),(15,c_ k)] [] ⟨rfl,rfl,rfl,trivial⟩ rfl (aD [(15,c_ k),(16,b_<|decide ((k:Int)<(l.length:Int)))]<|aE<|aI (E:=decide ((k:Int)<(l.length:Int))) rfl (fun e2=>?_) (fun e2=>?_))
 ·have p2:=dZ e2
  refine au<|aO<|aC<|ic [.ix] [(17,.pointer<|some<|(aZ al).add (k*3))] (o1<|io (k:Int)<|dh kG (by decide) (bg r0<|by simp[aL])<|by omega) ?_
  obtain⟨x1,hx1⟩: ∃x,(l)[k]? =some x:=⟨_,dA<|by omega⟩
  refine jN [.rd<|cZ x1,.al,.st 0] [13,14,15,6] (fun b2=>[(13,vS al l cl),(14,c_ l.length),(15,c_ k),(6,p_ b2)]) (fun b2=>[aA b2 (cZ x1) 60]) (fun b2=>[b2]) (fun _=>(fun κ=>κ.rd ((aZ al).add (k*3)) (cZ x1)∧True)) (fun _=>by kernel_rfl) (fun b2=>⟨dY (vs:=(cZ x1)) kG (bg r0<|by simp[aL]) hx1 (Nat.le_of_ble_eq_true rfl) rfl,trivial⟩) ?_
  intro b2
  refine aC<|fy [.ld 0,.cq<|i_<|cR x1.ka x1.kb x1.kc] [(13,vS al l cl),(14,c_ l.length),(15,c_ k),(21,b_<|(cR x1.ka x1.kb x1.kc)==0)] (o1<|qw<|lN x1.ka x1.kb x1.kc)<|aI (E:=(cR x1.ka x1.kb x1.kc)==0) rfl (fun e3=>?_) (fun e3=>?_)
  ·refine aD [(4,i_ 21)]<|aF<|cN [] [i_ 21] (fun _ w r s=>⟨dM r rfl,trivial⟩) (21) ?_ ?_<|by kernel_rfl
   ·rfl
   trivial
  refine aP<|aM<|az [.w<|(k:Int)+1] [(15,i_<|(k:Int)+1)] (o1<|wj ((k:Int)+1)<|by omega)<|bC (k+1) (by omega) (by(simp;omega)) ?_
  exact cQ [] ⟨rfl,rfl,rfl,trivial⟩<|by kernel_rfl
 have p2:=ga e2
 refine bR<|aD [(4,i_ 0)]<|aF<|cN [] [i_ 0] (fun _ w r s=>⟨dM r rfl,trivial⟩) (0) ?_ ?_<|by kernel_rfl
 ·rfl
 trivial
theorem TL(al:bn)(l:List Cv)(cl:Nat)(t:Int)(hl:l.length≤100000)(w:World)(r0:dR w al (V.aQ cZ l))(hs:HI w []):
  CV 84 #[i_ t,vS al l cl] w [] (fun((v,b):Int×Bool)=>(.agg #[u_ v,b_ b])) (fun _=>True) fun _=>[]:=by
 refine aU Tryz.func84 rfl hs (aC<|dS [.al] [] (fun b1=>[(4,p_ b1)]) (fun _=>[]) (fun b1=>aA b1 [u_ 0,b_ false] 179) ?_)
 intro b1
 refine cS<|bA 2 [] [(7,i_ t),(8,vS al l cl)]<|aG<|dG (some 9) [] (fun w s h=>Jj al l cl t ‹_› w ((bg r0<|by simp[aL]) w s) h) ?_
 rintro v2-
 refine ak [(10,b_<|v2 !=0)]<|aI (E:=v2 !=0) rfl (fun e2=>?_) (fun e2=>?_)
 ·refine aC<|bU [.st 0] [] [(0,aA b1 [u_ 0,b_ false] 179)]<|aF<|cN [] [.agg #[u_ 0,b_ false]] (fun _ w r s=>⟨dU 0 r s,trivial⟩) (0,false) ?_ ?_<|by kernel_rfl
  ·rfl
  trivial
 refine aP<|cS<|cP [.p] [(12,vS al l cl)]<|aG<|dG (some 13) [] (fun w s h=>TJ al l cl ‹_› w ((bg r0<|by simp[aL]) w s) h) ?_
 rintro⟨A'3,xs'4,c'5⟩ hz3
 dsimp only at hz3
 refine ak [(14,c_ xs'4.length),(15,i_ 0)]<|aO<|fm (fun(zz:Nat)=>match zz with|k=>[(0,i_ t),(1,vS al l cl),(4,p_ b1),(13,vS A'3 xs'4 c'5),(14,c_ xs'4.length),(15,c_ k)]) (fun(zz:Nat)=>match zz with|k=>[sl A'3 (xs'4.length) c'5 40 1<|V.aQ fP xs'4,aA b1 [u_ 0,b_ false] 179]) (fun(zz:Nat)=>match zz with|k=>(k≤xs'4.length)) (fun(zz:Nat)=>match zz with|k=>xs'4.length-k) (0:Nat) (by omega) ?_ ?_
 ·exact cQ [0,0] ⟨rfl,rfl,rfl,rfl,rfl,rfl,trivial⟩<|by kernel_rfl
 rintro k hk
 have hk:k≤xs'4.length:=hk
 refine eo [(0,i_ t),(1,vS al l cl),(4,p_ b1),(13,vS A'3 xs'4 c'5),(14,c_ xs'4.length),(15,c_ k)] [sl A'3 (xs'4.length) c'5 40 1<|V.aQ fP xs'4,aA b1 [u_ 0,b_ false] 179] ⟨rfl,rfl,rfl,rfl,rfl,rfl,trivial⟩ rfl (aC<|dQ [] [(0,i_ t),(1,vS al l cl),(4,p_ b1),(13,vS A'3 xs'4 c'5),(14,c_ xs'4.length),(15,c_ k),(16,b_<|decide ((k:Int)<(xs'4.length:Int)))]<|aE<|aI (E:=decide ((k:Int)<(xs'4.length:Int))) rfl (fun e4=>?_) (fun e4=>?_))
 ·have p4:=dZ e4
  refine au<|aO<|aC<|ic [.ix] [(17,.pointer<|some<|(aZ A'3).add (k*1))] (o1<|io (k:Int)<|dh aR (by decide) (cV (i:=0) rfl)<|by omega) ?_
  obtain⟨x7,hx7⟩: ∃x,(xs'4)[k]? =some x:=⟨_,dA<|by omega⟩
  refine az [.rd [u_ x7]] [(6,u_ x7)] (o1<|ro ((aZ A'3).add (k*1))<|dY (vs:=[u_ x7]) aR (cV (i:=0) rfl) hx7 (Nat.le_of_ble_eq_true rfl) rfl)<|aC<|bA 2 [] [(19,vS al l cl),(20,u_ x7)]<|aG<|dG (some 21) [] (fun w s h=>TG al l cl x7 ‹_› w ((bg r0<|by simp[aL]) w s) h) ?_
  rintro⟨o18,o29,o310,o411⟩-
  refine az [.cq<|b_<|rJ (⟨o18,o29,o310,o411⟩:N4) t x7] [(25,b_ (!(rJ (⟨o18,o29,o310,o411⟩:N4) t x7)))] (o1<|qw<|Ji (⟨o18,o29,o310,o411⟩:N4) t x7)<|aI (E:= !(rJ (⟨o18,o29,o310,o411⟩:N4) t x7)) rfl (fun e6=>?_) (fun e6=>?_)
  ·refine aC<|bU [.st 1] [] [(1,aA b1 [u_ x7,b_ true] 179)]<|aF<|cN [] [.agg #[u_ x7,b_ true]] (fun _ w r s=>⟨dU 1 r s,trivial⟩) (x7,true) ?_ ?_<|by kernel_rfl
   ·rfl
   trivial
  refine aP<|aM<|az [.w<|(k:Int)+1] [(15,i_<|(k:Int)+1)] (o1<|wj ((k:Int)+1)<|by omega)<|bC (k+1) (by omega) (by(simp;omega)) ?_
  exact cQ [0,0] ⟨rfl,rfl,rfl,rfl,rfl,rfl,trivial⟩<|by kernel_rfl
 have p4:=ga e4
 refine bR<|aC<|cP [.p] [(29,vS al l cl)]<|aG<|dG (some 30) [] (fun w s h=>TI al l cl false ‹_› w ((bg r0<|by simp[aL]) w s) h) ?_
 rintro⟨o112,o213,o314,o415⟩-
 refine gA [.cq<|b_<|rJ (⟨o112,o213,o314,o415⟩:N4) t 1,.st 1] [] [] [(1,aA b1 [u_ 0,b_ (!(rJ (⟨o112,o213,o314,o415⟩:N4) t 1))] 179)] (o1<|qw<|Ji (⟨o112,o213,o314,o415⟩:N4) t 1)<|aF<|cN [] [.agg #[u_ 0,b_ (!(rJ (⟨o112,o213,o314,o415⟩:N4) t 1))]] (fun _ w r s=>⟨dU 1 r s,trivial⟩) (0,!(rJ (⟨o112,o213,o314,o415⟩:N4) t 1)) ?_ ?_<|by kernel_rfl
 ·rfl
 trivial
theorem TM(al:bn)(l:List Cv)(cl:Nat)(t:Int)(hl:l.length≤100000)(w:World)(r0:dR w al (V.aQ cZ l))(hs:HI w []):
  CV 51 #[i_ t,vS al l cl] w [] (fun(v:Int)=>(i_ v)) (fun _=>True) fun _=>[]:=by
 refine aU Tryz.func51 rfl hs (aD []<|cS<|bA 2 [] [(6,i_ t),(7,vS al l cl)]<|aG<|dG (some 8) [] (fun w s h=>Jj al l cl t ‹_› w ((bg r0<|by simp[aL]) w s) h) ?_)
 rintro v1-
 refine ak [(5,i_ v1)]<|aD [(10,b_<|v1 !=0)]<|fx (v1 !=0) (fun e2=>?_)<|fun e2=>?_
 ·refine aD [(4,i_ v1)]<|aF<|bJ [] [i_ v1] (v1) ?_ ?_
  ·rfl
  trivial
 refine aP<|cS<|bA 2 [] [(12,i_ t),(13,vS al l cl)]<|aG<|dG (some 14) [] (fun w s h=>TL al l cl t ‹_› w ((bg r0<|by simp[aL]) w s) h) ?_
 rintro⟨v2,b3⟩-
 refine ak [(15,b_ b3)]<|fx b3 (fun e4=>?_)<|fun e4=>?_
 ·refine aD [(4,i_ 22)]<|aF<|bJ [] [i_ 22] (22) ?_ ?_
  ·rfl
  trivial
 refine aP<|aD [(4,i_ 0)]<|aF<|bJ [] [i_ 0] (0) ?_ ?_
 ·rfl
 trivial
end Go.Proofs.YtobgjpigngoggaaGreat
