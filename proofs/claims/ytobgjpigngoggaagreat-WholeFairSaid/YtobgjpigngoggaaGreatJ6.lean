/- The functions of the scheduler, layer by layer, proved operation by operation for all arguments, under the conditions that each theorem states: part 6. -/
import Derived.Test.YtobgjpigngoggaaGreatProg
import Derived.ProofKit
import Derived.OpenShut
import Derived.Below
import Derived.Lib.SmallJoins
import Derived.Test.YtobgjpigngoggaaGreatJ5
set_option linter.unusedVariables false
set_option linter.unusedSimpArgs false
set_option maxHeartbeats 4000000
set_option maxRecDepth 100000
namespace Go.Proofs.YtobgjpigngoggaaGreat
open Go V
structure wI(kv:List (Int×Cl))(L:List Cl):Prop where
 mem: ∀y,y∈L↔aB kv y.hi=some y
 own: ∀i c,aB kv i=some c→c.hi=i
 rng: ∀i c,aB kv i=some c→(0≤c.ra∧0≤c.rb∧0≤c.rc)∧(0≤c.la∧0≤c.lb∧0≤c.lc)∧0≤c.ua∧0≤c.ub∧0≤c.uc
variable{L:List Cl}
theorem Td{kv:hV Cl}{M:List Cl}{z:Zc}(hn:(kv.map (·.1)).Nodup)(h:wI kv L)(hz:iQ z)(hs:gG kv z=0)(hr:vl z L M):wI (iZ kv z) M:=by
 rcases hr with⟨hk,hr⟩|⟨hk,hr⟩
 ·have e:iZ kv z=aJ kv (oO z).hi (oO z):=by
   unfold gG at hs;unfold iZ
   rcases hk with hk|hk
   ·rw[if_pos hk] at hs⊢;unfold mW;rw[if_pos hs]
   ·rw[if_neg<|by omega,if_pos hk] at hs⊢;unfold mC;rw[if_pos hs]
  rw[e]
  refine⟨λy=>?_,λi c hc=>?_,λi c hc=>?_⟩
  ·rw[hr,ed,h.mem];by_cases q:(oO z).hi=y.hi
   ·rw[if_pos q];constructor
    ·rintro(rfl|⟨-,g⟩);exact rfl;exact absurd q.symm g
    ·intro g;cases g;exact .inl rfl
   ·rw[if_neg q];constructor
    ·rintro(rfl|⟨g,-⟩);exact absurd rfl q;exact g
    ·exact λg=> .inr ⟨g,λe=>q e.symm⟩
  ·rw[ed] at hc;split at hc
   ·rename_i q;cases hc;exact q
   ·exact h.own i c hc
  ·rw[ed] at hc;split at hc
   ·cases hc;unfold iQ at hz;unfold oO;simp only;omega
   ·exact h.rng i c hc
 ·have e:iZ kv z=aW kv z.zi:=by
   unfold gG at hs;unfold iZ
   rw[if_neg<|by omega,if_neg<|by omega,if_pos hk] at hs⊢;unfold py;rw[if_pos hs]
  rw[e]
  refine⟨λy=>?_,λi c hc=>?_,λi c hc=>?_⟩
  ·rw[hr,gP hn,h.mem];split
   ·rename_i q;simp[q]
   ·rename_i q;simp[show¬y.hi=z.zi from λg=>q g.symm]
  ·rw[gP hn] at hc;split at hc;cases hc;exact h.own i c hc
  ·rw[gP hn] at hc;split at hc;cases hc;exact h.rng i c hc
variable{zl:List Zc}{k:Nat}
theorem KJ(hz: ∀z∈zl,iQ z)(he:fw [] zl=0)(h:lj zl k L):cB (bQ []<|zl.take k)∧fw [] (zl.take k)=0∧wI (bQ []<|zl.take k) L:=by
 induction h with
 |nil=>exact⟨I5,rfl,λy=>⟨λh=>(by cases h),λh=>by cases h⟩,λi c h=>(by cases h),λi c h=>by cases h⟩
 |snoc h hk hs ih=>
  obtain⟨i1,i2,i3⟩:=ih
  rename_i k z l m
  have hst:gG (bQ []<|zl.take k) z=0:=Classical.byContradiction λhn=>hn<|(BU hk i2 hn).1.symm.trans he
  rw[mK hk,D6,D7 _ _ _ i2]
  exact⟨xO i1 z,hst,Td i1.nd i3 (hz z<|Zd hk) hst hs⟩
def oM(L:List Cl)(P v:Int):Prop:= ∀x∈L,bD x.ra x.rb x.rc≤1∧bD x.ua x.ub x.uc≤1∧(x.hp=P→2≤bD x.la x.lb x.lc→bD x.la x.lb x.lc=2∧v≤x.lc)
variable{c:Ss}{d d':Sd}{P lst:Int}
theorem Wa{idle:Bool}{pl er:Int}(h1:1≤c.lt∧c.lt≤65536)(h2:1≤c.lm∧c.lm≤16384)(hn:lU d)(hz: ∀z∈zl,iQ z)(hF:lj zl zl.length L)(hS:oM L P lst)(hl1:1≤lst)(hx: ∃x∈L,x.hp=P)(ht:uz c d idle zl pl er d'):
  Bz c d'∧(∀i,qk d'.kb i=[])∧(d'.kc≠[]→Fz c P lst 0 d'∧wI d'.kc L∧ ∀i m,aB d'.kb i=some m→m.tot=0):=by
 have hI:=BD h1 h2 hn
 obtain⟨k1,k2⟩:=F8 hI hz ht
 obtain⟨e1,e2,-,-,-,-,-,⟨v,e8,e9,-⟩,-,-⟩:=hn
 have hqk: ∀i,qk d'.kb i=[]:=λi=>by rw[k2];unfold qk;rw[e2];rfl
 refine⟨?_,hqk,?_⟩
 all_goals
  obtain⟨-,-,-,-,hR,-⟩:=ht
  rw[e1,e2,e8] at hR
  have hv: ∀p w,aB [((0:Int),v)] p=some w→ ∀i y,aB w.kv i=some y→False:=λp w hw i y hy=>by
   simp only[aB] at hw;split at hw
   ·cases hw;rw[e9] at hy;cases hy
   ·cases hw
  rcases hR with⟨-,-,-,-,hkc,hkb,-,-,-,hkk,-⟩|⟨-,hok,hkc,hC,-⟩
 ·refine⟨k1,⟨λi m hm=>?_,λp w hp hw i y hy=>?_⟩,λi x hx=>?_⟩
  ·rw[hkb] at hm;cases hm
  ·rw[hkk] at hw;exact(hv p w hw i y hy).elim
  ·rw[hkc] at hx;cases hx
 rotate_left
 ·exact λh=>absurd hkc h
 all_goals
  have he:fw [] zl=0:=by
   have:=hok.1;unfold iH at this
   split at this
   ·omega
   ·split at this
    ·omega
    ·split at this
     ·exact this
     ·rename_i h;exact Classical.byContradiction h
  have hE:=(KJ hz he hF).2.2;rw[List.take_length,←hkc] at hE
  have hcl: ∀i x,aB d'.kc i=some x→ai x.ra x.rb x.rc≤1∧ai x.ua x.ub x.uc≤1∧(x.hp=P→2≤ai x.la x.lb x.lc→ai x.la x.lb x.lc=2∧lst≤x.lc):=by
   intro i x hx
   obtain⟨⟨r1,r2,r3⟩,⟨q2,q3,q4⟩,q5,q6,q7⟩:=hE.rng i x hx
   have hxL:=(hE.mem x).2 (by rw[hE.own i x hx];exact hx)
   have:=hS x hxL
   rw[←qS r1 r2 r3,←qS q2 q3 q4,←qS q5 q6 q7] at this
   exact this
  have hg:=λi=>AD (by simp) (by simp) hC i
  have hfr: ∀i m,aB d'.kb i=some m→m.tot=0∧m.sh=lF∧m.li=rB:=λi m hm=>by
   by_cases e:i∈dE [] d'.kc
   ·rcases(hg i).2 (.inl e) with⟨-,h1⟩|⟨-,m',h1,h2,-⟩
    ·rw[h1] at hm;cases hm
    ·rw[h2] at hm;cases hm
     exact⟨h1.2.2.1,h1.2.2.2.2.1,h1.2.2.2.2.2.1⟩
   ·rw[((hg i).1 e).1] at hm;cases hm
  have hkv: ∀p w,kZ d'.kc p→aB d'.kk p=some w→ ∀i y,aB w.kv i=some y→False:=λp w hp hw i y hy=>by
   by_cases e:p∈dE [] d'.kc
   ·rcases hp with rfl|⟨x,hx,hl⟩
    ·have:=((xP [] d'.kc).2 0).1 e
     unfold kr at this;simp only[decide_eq_true_eq] at this
     exact this.2 (by rw[lO k1.laid];rfl)
    ·rcases(hg p).2 (.inl e) with⟨h1,-⟩|⟨-,m',-,-,h3⟩
     ·rw[GA h1] at hx;cases hx
     ·obtain⟨v',q1,-,q3⟩:=h3 (by rw[fL hx];exact hl)
      rw[q3] at hw;cases hw;rw[q1] at hy;cases hy
   ·rw[((hg p).1 e).2] at hw;exact hv p w hw i y hy
  have hbz:Bz c d':=by
   refine⟨k1,⟨λi m hm=>⟨(hcl i _<|jP k1.by_ hm).2.1,(hfr i m hm).2.2⟩,λp w hp hw i y hy=>(hkv p w hp hw i y hy).elim⟩,λi x hx hl=>?_⟩
   have hw:=(k1.laid.key i x hx).2
   have hr:=(hcl i x hx).1
   unfold eA;rw[fL hx];simp only[decide_eq_true_eq]
   have b1:=rR x.ra x.rb x.rc;have b2:=rR x.la x.lb x.lc;have b3:=rR x.ua x.ub x.uc
   unfold fK at hw;rw[if_pos hl] at hw;(repeat' split at hw)<;>omega
 rotate_left
 ·exact hbz
 intro _
 have hpvn: ∀i,kZ d'.kc P→pv d'.kk P i=none:=λi hp=>by
  obtain⟨A,-,hK⟩:=k1.ac
  obtain⟨w,h3,-⟩:=hK P hp
  rw[pt h3];cases e:aB w.kv i with
  |none=>rfl
  |some y=>exact(hkv P w hp h3 i y e).elim
 have hP:kZ d'.kc P:=by
  obtain⟨x,hx,rfl⟩:=hx
  exact xT k1.laid<|(hE.mem x).1 hx
 refine⟨⟨hbz,hP,λi x hx=>by unfold ib;have:=(hcl i x hx).1;simpa using this,λi x hx hs hp=>?_,hl1,Int.le_refl _,λi p hp=>by rw[hqk] at hp;(cases hp),λi m hm=>by rw[(hfr i m hm).1];omega,λi m hm _ h=>by rw[(hfr i m hm).2.1] at h;(cases h),λi t ht=>by rw[hpvn i hP] at ht;(cases ht),λ_ i m hm _=>by rw[(hfr i m hm).2.1];rfl,λi t j m ht=>by rw[hpvn i hP] at ht;(cases ht)⟩,hE,λi m hm=>(hfr i m hm).1⟩
 have hls:ai x.la x.lb x.lc>1:=by unfold eA at hs;rw[fL hx] at hs;simpa using hs
 obtain⟨h3,h4⟩:=(hcl i x hx).2.2 hp (by omega)
 refine⟨h3,h4,?_⟩
 unfold ai at h3;(repeat' split at h3)<;>omega
def qN(f:Int→Bool)(n:Nat)(e:Ev):Nat:=if f e.vq6=true then(if e.vq2=true then n+1 else n-1) else n
def nS(l:List Ev)(f:Int→Bool):Nat:=l.foldl (qN f) 0
theorem Dj(l:List Ev)(f:Int→Bool)(e:Ev):nS (l++[e]) f=qN f (nS l f) e:=by unfold nS;rw[List.foldl_append];rfl
def tB(f:Int→Bool)(e:Ev):Int:=if e.vq2=false∧f e.vq6=true then e.vq8 else 0
def eP(l:List Ev)(f:Int→Bool):Int:=(l.map<|tB f).sum
theorem Dk(l:List Ev)(f:Int→Bool)(e:Ev):eP (l++[e]) f=eP l f+tB f e:=by unfold eP;rw[List.map_append,List.sum_append];simp
def mg(d:Sd)(f:Int→Bool):Nat:=((d.kc.map (·.1)).map λi=>if f i=true then(qk d.kb i).length else 0).sum
def sW(kc:List (Int×Cl))(i:Int)(f:Int→Bool):Prop:= ∀z x,aB kc z=some x→x.hl=true→(f z=true↔i∈bE kc z)
structure Ft(c:Ss)(P lst:Int)(d:Sd)(pre:List Ev)(no:Nat)(g:Int):Prop where
 fz:Fz c P lst g d
 gn:g+16384*lA d≤16384*no
 tt: ∀i f,sW d.kc i f→ ∀m,aB d.kb i=some m→m.tot=eP pre f
structure Fi(c:Ss)(P lst:Int)(d:Sd)(pre:List Ev)(no:Nat):Prop where
 bz:Bz c d
 qq: ∀f,nS pre f=mg d f
 ps: ∀e∈pre,e.vq2=false→1≤e.vq8∧e.vq8≤16384
 ft:d.kc≠[]→ ∃g,Ft c P lst d pre no g
variable{i:Int}
theorem Fj(hkc:d'.kc=d.kc)(hn:(d.kc.map (·.1)).Nodup)(hi:i∈d.kc.map (·.1))(h: ∀j,j≠i→qk d'.kb j=qk d.kb j)(f:Int→Bool):mg d' f+(if f i=true then(qk d.kb i).length else 0)=mg d f+(if f i=true then(qk d'.kb i).length else 0):=by
 unfold mg;rw[hkc]
 exact zw (f:=λj=>if f j=true then(qk d.kb j).length else 0) (g:=λj=>if f j=true then(qk d'.kb j).length else 0) (λj hj=>by simp only[h j hj]) hn hi
theorem AL(hkc:d'.kc=d.kc)(h: ∀j,qk d'.kb j=qk d.kb j)(f:Int→Bool):mg d' f=mg d f:=by unfold mg;rw[hkc];congr 1;exact List.map_congr_left λj _=>by rw[h]
theorem uJ(d:Sd):lA d=mg d λ_=>true:=by unfold lA mg;simp
variable{kc:hV Cl}
theorem Xw(h:aB kc i≠none):kc≠[]:=λe=>h (by rw[e];rfl)
def Nu(P:Int)(d d':Sd):Prop:= ∀i,pv d'.kk P i≠none→pv d.kk P i≠none
theorem MK(P:Int)(d:Sd):nN P d d:=λi m m' h h' _ _ _=>by rw[h] at h';cases h';rfl
theorem ML{d1 d2:Sd}(hkc:d1.kc=d.kc)(he: ∀i m,aB d2.kb i=some m→ ∃m1,aB d1.kb i=some m1)(h1:nN P d d1)(h2:nN P d1 d2)(hm:Nu P d1 d2):nN P d d2:=λi m m' h h' hc g g'=>by
 obtain⟨m1,e⟩:=he i m' h'
 exact(h2 i m1 m' e h' (by rw[hkc];exact hc) (hm i g') g').trans (h1 i m m1 h e hc g<|hm i g')
structure wJ(c:Ss)(P lst:Int)(d d':Sd)(pre pre':List Ev)(no:Nat)(oo:Int):Prop where
 fi:Fi c P lst d' pre' no
 kc:d'.kc=d.kc
 kp:nN P d d'
 mo:Nu P d d'
 ev: ∃l,pre'=pre++l∧ ∀e∈l,e.vq1=oo
 en: ∀i m,aB d'.kb i=some m→ ∃m1,aB d.kb i=some m1
variable{pre:List Ev}{no:Nat}
theorem NV(oo:Int)(h:Fi c P lst d pre no):wJ c P lst d d pre pre no oo:=⟨h,rfl,MK P d,λ_=>id,⟨[],by simp,by simp⟩,λi m h=>⟨m,h⟩⟩
variable{oo:Int}
theorem Xx{d1 d2:Sd}{pre1 pre2:List Ev}(h:wJ c P lst d d1 pre pre1 no oo)(g:wJ c P lst d1 d2 pre1 pre2 no oo):wJ c P lst d d2 pre pre2 no oo:=by
 obtain⟨l,e1,e2⟩:=h.ev;obtain⟨k,e3,e4⟩:=g.ev
 exact⟨g.fi,g.kc.trans h.kc,ML h.kc g.en h.kp g.kp g.mo,λi q=>h.mo i<|g.mo i q,⟨l++k,by rw[e3,e1,List.append_assoc],λe he=>(List.mem_append.1 he).elim (e2 e) (e4 e)⟩,λi m hm=>by obtain⟨m1,q⟩:=g.en i m hm;exact h.en i m1 q⟩
variable{un un' t now:Int}
theorem MM{pre':List Ev}(h:Fi c P lst d pre no)(hno:no≤500)(hn0:0≤now)(hp:sM d un t oo now pre d' un' pre'):wJ c P lst d d' pre pre' no oo:=by
 rcases hp with⟨h1,rfl,rfl,rfl⟩|⟨h1,z,ok,hT,hp⟩
 ·exact NV oo h
 have hkc:d'.kc=d.kc:=hT.1.2.2.1
 have hz:=KI h.bz hT
 obtain⟨-,hq,hq0,-⟩:=vA h.bz.iv hT
 have hpk:=AA (Ax h.bz.iv) hT
 have hT0:=hT
 cases ok with
 |false=>
  rcases hp with⟨-,rfl,rfl⟩|⟨h2,-⟩
  rotate_left
  ·cases h2
  have hsame:d'.kb=d.kb∧d'.kk=d.kk:=by
   obtain⟨-,-,-,⟨-,-,h1,-,-,-,-,h2⟩|⟨-,h1,-⟩⟩:=hT
   ·exact⟨h1,h2⟩
   ·cases h1
  obtain⟨hkb,hkk⟩:=hsame
  refine⟨⟨hz,λf=>by rw[h.qq,AL hkc λj=>by rw[hkb]],h.ps,λhne=>?_⟩,hkc,λi m m' e e' _ _ _=>by rw[hkb,e] at e';cases e';rfl,λi=>by rw[hkk];exact id,⟨[],by simp,by simp⟩,λi m e=>⟨m,by rw[←hkb];exact e⟩⟩
  obtain⟨g,hg⟩:=h.ft (by rw[←hkc];exact hne)
  obtain⟨b1,b2,b3,b4,b5,b6,b7,b8,b9,b10,b11,b12⟩:=hg.fz
  refine⟨g,⟨hz,by rw[hkc];exact b2,by rw[hkc];exact b3,by rw[hkc];exact b4,b5,b6,by rw[hkb];exact b7,by rw[hkb];exact b8,by rw[hkb,hkc];exact b9,by rw[hkb,hkk];exact b10,by rw[hkb,hkk,hkc];exact b11,by rw[hkb,hkk,hkc];exact b12⟩,?_,by rw[hkc,hkb];exact hg.tt⟩
  have:lA d'=lA d:=by rw[uJ,uJ,AL hkc λj=>by rw[hkb]]
  rw[this];exact hg.gn
 |true=>
  rcases hp with⟨h2,-⟩|⟨-,rfl,rfl⟩
  ·cases h2
  obtain⟨m,-,hci,hl,-⟩:=nu h.bz.iv.by_<|hq0 rfl
  have hcn:aB d.kc z.gq1≠none:=by rw[hci];simp
  have hme:=mO.1 hcn
  have hqz:=congrArg List.length<|hq z.gq1;simp at hqz
  have hupd:=Fj hkc h.bz.iv.laid.nd hme λj hj=>by rw[hq j];simp[show¬z.gq1=j from λe=>hj e.symm]
  obtain⟨g,hg⟩:=h.ft<|Xw hcn
  have hgn:=hg.gn
  have hcd:lA d=lA d'+1:=by have:=hupd λ_=>true;rw[←uJ,←uJ] at this;simp at this;omega
  obtain⟨f1,f2,f3,f4,f5,f6⟩:=Ta hg.fz (by omega) hn0 hT rfl
  refine⟨⟨hz,λf=>?_,λe he e2=>?_,λ_=>⟨g+z.gq3,f1,by omega,λi f hb m' hm'=>?_⟩⟩,hkc,f2,f3,⟨[_],rfl,by simp[Nc]⟩,λi m e=>by obtain⟨m1,q,-⟩:=f4 i m e;exact⟨m1,q⟩⟩
  ·have:=hupd f
   rw[Dj,h.qq];unfold qN
   show(if f z.gq1=true then(if false=true then _ else _) else _)=_
   split
   ·rename_i e;rw[if_pos e,if_pos e] at this;simp;omega
   ·rename_i e;rw[if_neg e,if_neg e] at this;omega
  ·rcases List.mem_append.1 he with he|he
   ·exact h.ps e he e2
   ·rw[List.mem_singleton] at he;subst he;exact hpk rfl
  ·obtain⟨m1,q1,-,q2⟩:=f4 i m' hm'
   rw[hkc] at hb
   have q3:=hg.tt i f hb m1 q1
   rw[Dk,q2,q3];congr 1
   unfold tB;show _=if false=false∧f z.gq1=true then z.gq3 else 0
   simp only[hb _ _ hci hl,true_and]
theorem Xy{ci er clk:Int}{p:Pk}(h:Fi c P lst d pre no)(hno:no≤500)(hp:oH c d now ci p er d'):
  Fi c P lst d' (if er=0 then pre++[wE oo clk ci p] else pre) (no+1)∧d'.kc=d.kc∧nN P d d'∧ ∀i m,aB d'.kb i=some m→ ∃m1,aB d.kb i=some m1:=by
 have hkc:d'.kc=d.kc:=hp.1.2.2.1
 have hz:=Fh h.bz hp
 obtain⟨-,hq,hc,-⟩:=vU h.bz.iv hp
 have hqq: ∀f,nS (if er=0 then pre++[wE oo clk ci p] else pre) f=mg d' f:=λf=>by
  by_cases e:er=0
  ·have hupd:=Fj hkc h.bz.iv.laid.nd (hc e) (λj hj=>by rw[hq j];simp[show¬ci=j from λe=>hj e.symm]) f
   have h5:=congrArg List.length<|hq ci;simp[e] at h5
   rw[if_pos e,Dj,h.qq];unfold qN
   show(if f ci=true then(if true=true then _ else _) else _)=_
   split
   ·rename_i e;rw[if_pos e,if_pos e] at hupd;simp;omega
   ·rename_i e;rw[if_neg e,if_neg e] at hupd;omega
  ·rw[if_neg e,h.qq,AL hkc λj=>by rw[hq j];simp[e]]
 have hps: ∀e∈(if er=0 then pre++[wE oo clk ci p] else pre),e.vq2=false→1≤e.vq8∧e.vq8≤16384:=λe he e2=>by
  split at he
  ·rcases List.mem_append.1 he with he|he
   ·exact h.ps e he e2
   ·rw[List.mem_singleton] at he;subst he;cases e2
  ·exact h.ps e he e2
 by_cases hne:d.kc=[]
 ·have hB:=(Fh h.bz hp).iv.by_
  have hno: ∀i,aB d'.kb i=none:=λi=>by
   cases e:aB d'.kb i with
   |none=>rfl
   |some m=>have:=jP hB e;rw[hkc,hne] at this;cases this
  exact⟨⟨hz,hqq,hps,λq=>absurd (hkc.trans hne) q⟩,hkc,λi m m' _ e'=>(by rw[hno] at e';cases e'),λi m e'=>(by rw[hno] at e';cases e')⟩
 obtain⟨g,hg⟩:=h.ft hne
 have hgn:=hg.gn
 obtain⟨f1,f2,f3⟩:=W9 hg.fz (by omega) hp
 have hcn:lA d'≤lA d+1:=by
  rw[uJ,uJ]
  by_cases e:er=0
  ·have hupd:=Fj hkc h.bz.iv.laid.nd (hc e) (λj hj=>by rw[hq j];simp[show¬ci=j from λe=>hj e.symm]) λ_=>true
   have h5:=congrArg List.length<|hq ci;simp[e] at h5
   simp at hupd;omega
  ·rw[AL hkc λj=>by rw[hq j];simp[e]];omega
 refine⟨⟨hz,hqq,hps,λ_=>⟨g,f1,by omega,λi f hb m' hm'=>?_⟩⟩,hkc,f2,λi m e=>by obtain⟨m1,q,-⟩:=f3 i m e;exact⟨m1,q⟩⟩
 obtain⟨m1,q1,-,q2⟩:=f3 i m' hm'
 rw[hkc] at hb;rw[q2,hg.tt i f hb m1 q1]
 split
 ·rw[Dk];unfold tB wE;simp
 ·rfl
theorem Xz{fin:Int}(hno:no≤500)(hf:fin≤4611686018427387904): ∀{clk un un':Int}{d d':Sd}{evs evs':List Ev},ow t oo fin clk d un evs d' un' evs'→0≤clk→Fi c P lst d evs no→wJ c P lst d d' evs evs' no oo:=by
 intro clk un un' d d' evs evs' h
 induction h with
 |stop h1=>intro _ hb;exact NV oo hb
 |step hx hp _ ih=>
  intro h0 hb
  obtain⟨n1,n2,n3⟩:=xU hx hf
  have h1:=MM hb hno (by omega) hp
  exact Xx h1<|ih (by omega) h1.fi
variable{evs:List Ev}
theorem JB{evs':List Ev}(P:List Ev)(h:sM d un t oo now evs d' un' evs'):sM d un t oo now (P++evs) d' un' (P++evs'):=by
 rcases h with⟨h1,h2,h3,rfl⟩|⟨h1,z,ok,h2,⟨h3,h4,rfl⟩|⟨h3,h4,rfl⟩⟩
 ·exact .inl ⟨h1,h2,h3,rfl⟩
 ·exact .inr ⟨h1,z,ok,h2,.inl ⟨h3,h4,rfl⟩⟩
 ·exact .inr ⟨h1,z,ok,h2,.inr ⟨h3,h4,by rw[List.append_assoc]⟩⟩
theorem Tf{fin:Int}(P:List Ev): ∀{clk un un':Int}{d d':Sd}{evs evs':List Ev},ow t oo fin clk d un evs d' un' evs'→ow t oo fin clk d un (P++evs) d' un' (P++evs'):=by
 intro clk un un' d d' evs evs' h
 induction h with
 |stop h=>exact .stop h
 |step h1 h2 _ ih=>exact .step h1 (JB P h2) ih
theorem NW(h:Fi c P lst d pre no):Fi c P lst d pre (no+1):=⟨h.bz,h.qq,h.ps,λq=>by obtain⟨g,hg⟩:=h.ft q;exact⟨g,hg.fz,by have:=hg.gn;omega,hg.tt⟩⟩
theorem Y2{no clk clk':Int}{n:Nat}{rl rl':List Rl}{o:ew}{x:Rs}(pre:List Ev)(hk:o.kd≠1)(htk:0≤o.tk)(hn:0≤clk∧clk≤4611686018427387904)(hno:n+1≤500)(hb:Fi c P lst d pre n)
  (h:yK c t o.kd o.zl o.rl o.op o.tk no d un clk rl x evs d' un' clk' rl'):Fi c P lst d' (pre++evs) (n+1)∧d'.kc=d.kc∧nN P d d'∧(0≤clk'∧clk'≤4611686018427387904)∧ ∀e∈evs,e.vq1=no:=by
 have fin: ∀{l:List Ev},(∃m,pre++evs=pre++m∧ ∀e∈m,e.vq1=no)→ ∀e∈evs,e.vq1=no:=λ⟨m,h1,h2⟩=>by rw[List.append_cancel_left h1];exact h2
 have same:Fi c P lst d (pre++[]) (n+1)∧d.kc=d.kc∧nN P d d:=⟨by rw[List.append_nil];exact NW hb,rfl,MK P d⟩
 rcases h with⟨h1,-⟩|⟨h1,rfl,rfl,rfl,rfl,-⟩|⟨h1,rfl,-,hp⟩|⟨h1,-,hp⟩|⟨h1,-,rfl,rfl,rfl,-,rfl⟩
 ·exact absurd h1 hk
 ·exact⟨same.1,same.2.1,same.2.2,hn,by simp⟩
 ·rcases hp with⟨-,-,rfl,rfl,rfl⟩|⟨-,er,d1,hP,hp⟩
  ·exact⟨same.1,same.2.1,same.2.2,hn,by simp⟩
  obtain⟨g1,g2,g3,g4⟩:=Xy (oo:=no) (clk:=clk') hb (by omega) hP
  rcases hp with⟨he,-,rfl,rfl,rfl⟩|⟨he,-,hp⟩
  ·rw[if_neg he] at g1;rw[List.append_nil];exact⟨g1,g2,g3,hn,by simp⟩
  ·rw[if_pos he] at g1
   have hp':=JB pre hp
   rw[List.nil_append] at hp'
   have h2:=MM g1 hno hn.1 hp'
   refine⟨h2.fi,h2.kc.trans g2,ML g2 h2.en g3 h2.kp h2.mo,hn,fin (l:=[]) ?_⟩
   obtain⟨l,e1,e2⟩:=h2.ev
   exact⟨wE no clk' (fB rl<|fc o.op) o.op::l,by rw[e1];simp,λe he=>by rcases List.mem_cons.1 he with rfl|he;rfl;exact e2 e he⟩
 ·rcases hp with⟨q1,-,rfl,rfl,rfl,rfl⟩|⟨q1,-,rfl,q2⟩
  ·exact⟨same.1,same.2.1,same.2.2,hn,by simp⟩
  ·have q3:=Tf pre q2;rw[List.append_nil] at q3
   have h2:=Xz (by omega) (by omega) q3 hn.1 hb
   exact⟨NW h2.fi,h2.kc,h2.kp,⟨by omega,by omega⟩,fin (l:=[]) h2.ev⟩
 ·exact⟨same.1,same.2.1,same.2.2,hn,by simp⟩
variable{m:Int}
theorem JC{A B:List Ev}(hA: ∀e∈A,e.vq1<m)(hB: ∀e∈B,m≤e.vq1):(A++B).take (aY (A++B) m)=A:=by
 have:aY (A++B) m=A.length:=by
  unfold aY
  rw[List.filter_append,List.filter_eq_self.2<|λe he=>by simpa using hA e he,List.filter_eq_nil_iff.2 (λe he=>by have:=hB e he;simp;omega)];simp
 rw[this,List.take_left'];rfl
theorem JD: ∀(ops:List ew)(n:Nat)(un clk:Int)(d:Sd)(rl:List Rl)(rsl:List Rs)(evl pre:List Ev),oK c t ops n d un clk rl rsl evl→Fi c P lst d pre n→0≤clk∧clk≤4611686018427387904→
  (∀o∈ops,o.kd≠1∧0≤o.tk)→(∀e∈pre,e.vq1<n)→n+ops.length≤500→(∀e∈evl,(n:Int)≤e.vq1)∧
  ∃D:Nat→Sd,D 0=d∧ ∀b≤ops.length,Fi c P lst (D b) ((pre++evl).take (aY (pre++evl) (n+b:Nat))) (n+b)∧(D b).kc=d.kc∧(b<ops.length→nN P (D b) (D<|b+1))
 |[],n,un,clk,d,rl,rsl,evl,pre,⟨h1,h2⟩,hb,hn,ho,hp,hl=>by
  subst h2
  refine⟨by simp,λ_=>d,rfl,λb hb2=>?_⟩
  have hb0:b=0:=by simpa using hb2
  subst hb0
  have:=JC (A:=pre) (B:=[]) (m:=(n:Int)) hp<|by simp
  rw[show((n+0:Nat):Int)=n by omega,this]
  exact⟨hb,rfl,λh=>absurd h<|by simp⟩
 |o::ops,n,un,clk,d,rl,rsl,evl,pre,⟨x,evs,d',un',clk',rl',rsl',evl',hd,hr,h1,h2⟩,hb,hn,ho,hp,hl=>by
  obtain⟨o1,o2⟩:=ho o<|List.mem_cons_self ..
  simp only[List.length_cons] at hl
  obtain⟨b1,b2,b3,b4,b5⟩:=Y2 pre o1 o2 hn (by omega) hb hd
  have hpe: ∀e∈pre++evs,e.vq1<((n+1:Nat):Int):=λe he=>by
   rcases List.mem_append.1 he with he|he
   ·have:=hp e he;omega
   ·have:=b5 e he;omega
  obtain⟨c1,D,c2,c3⟩:=JD ops (n+1) un' clk' d' rl' rsl' evl' (pre++evs) hr b1 b4 (λy hy=>ho y<|List.mem_cons_of_mem _ hy) hpe<|by omega
  subst h2
  have hge: ∀e∈evs++evl',(n:Int)≤e.vq1:=λe he=>by
   rcases List.mem_append.1 he with he|he
   ·have:=b5 e he;omega
   ·have:=c1 e he;omega
  refine⟨hge,λb=>match b with|0=>d|b+1=>D b,rfl,λb hb2=>?_⟩
  cases b with
  |zero=>
   have:=JC (A:=pre) (B:=evs++evl') (m:=(n:Int)) hp hge
   rw[show((n+0:Nat):Int)=n by omega,this]
   refine⟨hb,rfl,λ_=>?_⟩
   show nN P d (D 0)
   rw[c2];exact b3
  |succ b=>
   obtain⟨g1,g2,g3⟩:=c3 b (by simp at hb2;omega)
   rw[←List.append_assoc]
   rw[show n+1+b=n+(b+1) by omega] at g1
   exact⟨g1,g2.trans b2,λh=>g3 (by simp at h;omega)⟩
variable{f:Int→Bool}
theorem Wb(h:Fi c P lst d pre no)(hP:kZ d.kc P)(hi:jS d.kc P i)(hb:sW d.kc i f)(h0:0<nS pre f):pv d.kk P i≠none:=by
 rw[h.qq] at h0;unfold mg at h0
 have: ∃z,f z=true∧qk d.kb z≠[]:=Classical.byContradiction λhn=>by
  have:(λz=>if f z=true then(qk d.kb z).length else 0)=λ_=>0:=funext λz=>by
   split
   ·rename_i e;rw[Classical.not_not.1 λq=>hn ⟨z,e,q⟩];rfl
   ·rfl
  rw[this] at h0
  have hz: ∀l:Wx,(l.map λ_=>0).sum=0:=λl=>by induction l with|nil=>rfl|cons a l ih=>simp only[List.map_cons,List.sum_cons,ih]
  rw[hz] at h0;omega
 obtain⟨z,h1,h2⟩:=this
 have hiv:=h.bz.iv
 obtain⟨m,-,h3,h4,h5⟩:=nu hiv.by_ h2
 have h6:=(hb z _ h3 h4).1 h1
 obtain⟨A,hA,hK⟩:=hiv.ac
 have hz:z∈d.on.map (·.1):=(hiv.onk z).2 ⟨h.bz.eg z _ h3 h4,by rw[h5];exact h4,h2⟩
 exact(BL hK hP i).2 ⟨(pS hiv.laid hA.ast i).2 ⟨z,hz,h6⟩,hi.2⟩
theorem KL{t1 t2 X T:Int}(hm:1≤m)(h1:T≤t1)(h2:T≤t2):
  65536*(t2-t1)<m*((X+eL (65536*(t2-T)) m)-(X+eL (65536*(t1-T)) m))+m∧m*((X+eL (65536*(t2-T)) m)-(X+eL (65536*(t1-T)) m))-m<65536*(t2-t1):=by
 have a:=vB (a:=65536*(t2-T)) hm;have b:=vB (a:=65536*(t1-T)) hm
 have e:m*((X+eL (65536*(t2-T)) m)-(X+eL (65536*(t1-T)) m))=m*eL (65536*(t2-T)) m-m*eL (65536*(t1-T)) m:=by rw[←Int.mul_sub];congr 1;omega
 rw[e];omega
theorem Ti{n V W D E B:Int}(hm:1≤m)(hn:1≤n)(h1:65536*V<m*D+m)(h2:m*D-m<65536*V)(h3:65536*W<n*E+n)(h4:n*E-n<65536*W)(h5:D-E≤2*B)(h6:E-D≤2*B):
  V*n*65536-W*m*65536≤m*n*(2*B+2)∧W*m*65536-V*n*65536≤m*n*(2*B+2):=by
 have a1:=Int.mul_le_mul_of_nonneg_right (Int.le_of_lt h1) (show 0≤n by omega)
 have a2:=Int.mul_le_mul_of_nonneg_right (Int.le_of_lt h2) (show 0≤n by omega)
 have a3:=Int.mul_le_mul_of_nonneg_right (Int.le_of_lt h3) (show 0≤m by omega)
 have a4:=Int.mul_le_mul_of_nonneg_right (Int.le_of_lt h4) (show 0≤m by omega)
 have hmn:0≤m*n:=Int.mul_nonneg (by omega)<|by omega
 have b1:=Int.mul_le_mul_of_nonneg_left h5 hmn
 have b2:=Int.mul_le_mul_of_nonneg_left h6 hmn
 constructor<;>grind
theorem Fo{l:List Ev}{a b:Nat}(f:Int→Bool):eP (l.take<|a+b) f=eP (l.take a) f+eP ((l.drop a).take b) f:=by
 unfold eP;rw[←List.sum_append,←List.map_append,←List.take_add]
theorem Wc{g:Int}(h:Ft c P lst d pre no g)(hi:pv d.kk P i≠none)(hb:sW d.kc i f):
  ∃m X T,aB d.kb i=some m∧jS d.kc P i∧1≤m.ec.lc∧m.ec.lc≤4294967295∧eS m.sh=kG m.ec.lc X T∧0≤T∧T≤eP pre f∧pv d.kk P i=some (X+eL (65536*(eP pre f-T)) m.ec.lc)∧0≤eP pre f∧eP pre f≤16384*no:=by
 cases e:pv d.kk P i with
 |none=>exact absurd e hi
 |some t=>
  obtain⟨m,h1,h2,h3⟩:=h.fz.ka i t e
  have hc:=uN h.fz hi
  obtain⟨X,T,e1,e2,e3,e4,e5,e6⟩:=h.fz.sh i m h1 hc h2
  obtain⟨-,-,l3,l4⟩:=AI h.fz h1 hc
  have ht:=h.tt i f hb m h1
  have hr:=h.fz.tot i m h1
  have hgn:=h.gn
  rw[ht] at e4 e5 hr
  exact⟨m,X,T,h1,hc,l3,l4,e1,e3,e4,by rw[←h3,e5],hr.1,by omega⟩
theorem RL{X T Y U:Int}(hT:0≤T∧T≤16777216)(hU:0≤U∧U≤16777216)(h:kG m X T=kG m Y U):X=Y∧T=U:=by
 unfold kG nJ jW nP at h;simp only[Rn.mk.injEq,true_and,and_true] at h
 obtain⟨h1,h2,h3⟩:=h
 have a:=(vY (a:=T) (b:=65536) (by omega)<|by decide).2
 have b:=(vY (a:=U) (b:=65536) (by omega)<|by decide).2
 unfold nv at a b;rw[h2,h3] at a;exact⟨h1,by omega⟩
theorem B5{g:Int}(h:Fz c P lst g d){j u:Int}(hi:pv d.kk P i=some t)(hj:pv d.kk P j=some u):u≤t+eL (65536*c.lm) lst:=by
 obtain⟨m,h1,h2,h3⟩:=h.ka j u hj
 rw[←h3];exact h.fr i t j m hi h1 (uN h (by rw[hj];simp)) h2
theorem Tj{D:Nat→Sd}{E:Nat→List Ev}{n0 N:Nat}(hn:n0+N≤500)(hD: ∀b≤N,Fi c P lst (D b) (E b) (n0+b)∧(D b).kc=kc∧(b<N→nN P (D b) (D<|b+1)))(hne:kc≠[]){j:Int}{g:Int→Bool}(hi:jS kc P i)(hj:jS kc P j)(hf:sW kc i f)(hg:sW kc j g)
  {a r:Nat}(har:a+r≤N)(hact: ∀q≤r,0<nS (E<|a+q) f∧0<nS (E<|a+q) g):
  (1≤(aK kc i).lc∧(aK kc i).lc≤4294967295)∧(1≤(aK kc j).lc∧(aK kc j).lc≤4294967295)∧
  (eP (E<|a+r) f-eP (E a) f)*(aK kc j).lc*65536-(eP (E<|a+r) g-eP (E a) g)*(aK kc i).lc*65536≤(aK kc i).lc*(aK kc j).lc*(2*eL (65536*c.lm) lst+2)∧
  (eP (E<|a+r) g-eP (E a) g)*(aK kc i).lc*65536-(eP (E<|a+r) f-eP (E a) f)*(aK kc j).lc*65536≤(aK kc i).lc*(aK kc j).lc*(2*eL (65536*c.lm) lst+2):=by
 have key: ∀{x:Int}{h:Int→Bool},jS kc P x→sW kc x h→(∀q≤r,0<nS (E<|a+q) h)→ ∃m X T,1≤m∧m≤4294967295∧m=(aK kc x).lc∧ ∀q≤r,pv (D<|a+q).kk P x=some (X+eL (65536*(eP (E<|a+q) h-T)) m)∧T≤eP (E<|a+q) h:=by
  intro x h hx hb ha
  have pvn: ∀q≤r,pv (D<|a+q).kk P x≠none:=λq hq=>by
   obtain⟨h1,h2,-⟩:=hD (a+q)<|by omega
   obtain⟨g0,hg0⟩:=h1.ft (by rw[h2];exact hne)
   exact Wb h1 hg0.fz.hP (by rw[h2];exact hx) (by rw[h2];exact hb)<|ha q hq
  have at_: ∀q≤r,∃m X T,aB (D<|a+q).kb x=some m∧1≤m.ec.lc∧m.ec.lc≤4294967295∧m.ec.lc=(aK kc x).lc∧eS m.sh=kG m.ec.lc X T∧(0≤T∧T≤16777216)∧T≤eP (E<|a+q) h∧pv (D<|a+q).kk P x=some (X+eL (65536*(eP (E<|a+q) h-T)) m.ec.lc):=λq hq=>by
   obtain⟨h1,h2,-⟩:=hD (a+q)<|by omega
   obtain⟨g0,hg0⟩:=h1.ft (by rw[h2];exact hne)
   obtain⟨m,X,T,e1,e2,e3,e4,e5,e10,e6,e7,e8,e9⟩:=Wc hg0 (pvn q hq) (by rw[h2];exact hb)
   have hc:=jP h1.bz.iv.by_ e1
   rw[h2] at hc
   exact⟨m,X,T,e1,e3,e4,by rw[fL hc],e5,⟨e10,by omega⟩,e6,e7⟩
  obtain⟨m,X,T,e1,e2,e3,e4,e5,e6,e7,e8⟩:=at_ 0<|by omega
  refine⟨_,X,T,e2,e3,e4,λq=>?_⟩
  have run: ∀q≤r,∀m',aB (D<|a+q).kb x=some m'→eS m'.sh=eS m.sh:=by
   intro q
   induction q with
   |zero=>intro _ m' h';rw[e1] at h';cases h';rfl
   |succ q ih=>
    intro hq m' h'
    obtain⟨h1,h2,h3⟩:=hD (a+q)<|by omega
    obtain⟨mq,-,-,f1,-⟩:=at_ q<|by omega
    rw[←ih (by omega) mq f1]
    exact h3 (by omega) x mq m' f1 h' (by rw[h2];exact hx) (pvn q<|by omega)<|pvn (q+1) hq
  intro hq
  obtain⟨m',X',T',f1,f2,f3,f4,f5,f6,f7,f8⟩:=at_ q hq
  have hr:=run q hq m' f1
  rw[f5,e5,e4,f4] at hr
  obtain⟨rfl,rfl⟩:=RL f6 e6 hr
  exact⟨by rw[f8,f4,e4],f7⟩
 obtain⟨m,X,T,l1,l2,l3,l4⟩:=key hi hf λq hq=>(hact q hq).1
 obtain⟨n,Y,U,k1,k2,k3,k4⟩:=key hj hg λq hq=>(hact q hq).2
 rw[←l3,←k3]
 refine⟨⟨l1,l2⟩,⟨k1,k2⟩,?_⟩
 obtain⟨a1,a2⟩:=l4 0 (by omega);obtain⟨a3,a4⟩:=l4 r<|Nat.le_refl _
 obtain⟨b1,b2⟩:=k4 0 (by omega);obtain⟨b3,b4⟩:=k4 r<|Nat.le_refl _
 rw[Nat.add_zero] at a1 a2 b1 b2
 have fz: ∀q≤r,∃g0,Fz c P lst g0 (D<|a+q):=λq hq=>by
  obtain⟨h1,h2,-⟩:=hD (a+q)<|by omega
  obtain⟨g0,hg0⟩:=h1.ft (by rw[h2];exact hne)
  exact⟨g0,hg0.fz⟩
 obtain⟨g0,f0⟩:=fz 0 (by omega);obtain⟨g1,f1⟩:=fz r<|Nat.le_refl _
 rw[Nat.add_zero] at f0
 have n1:=B5 f0 a1 b1;have n2:=B5 f0 b1 a1
 have n3:=B5 f1 a3 b3;have n4:=B5 f1 b3 a3
 obtain⟨p1,p2⟩:=KL (X:=X) l1 a2 a4
 obtain⟨p3,p4⟩:=KL (X:=Y) k1 b2 b4
 exact Ti l1 k1 p1 p2 p3 p4 (by omega)<|by omega
theorem Fp(hL:cB kc)(hE:wI kc L): ∀(n:Nat)(a:Int),dep kc a<n→jX L n a=bE kc a
 |0,a,h=>by omega
 |n+1,a,h=>by
  unfold jX
  rcases vV L a with⟨h1,h2⟩|⟨m,x,h1,h2,h3⟩
  ·rw[h1,if_pos<|by decide,lL]
   cases e:aB kc a with
   |none=>rfl
   |some c=>exact absurd (hE.own a c e)<|h2 c<|(hE.mem c).2 (by rw[hE.own a c e];exact e)
  ·have hx:=(hE.mem x).1 (Zd h2)
   rw[h3] at hx
   rw[h1,if_neg<|by omega,i6 hL hx,Int.toNat_natCast,h2,Option.getD_some,Fp hL hE n x.hp (by have:=iM hL hx;omega)]
def sX(L:List Cl)(i:Int)(p:List Int):Prop:= ∀z,z∈p↔ ∃c∈L,c.hl=true∧c.hi=z∧(i=0∨i∈jX L 70 z)
variable{p:Wx}
theorem B1(hL:cB kc)(hE:wI kc L)(hi:aB kc i≠none)(h:sX L i p):sW kc i λz=>decide (z∈p):=λz x hz hl=>by
 rw[decide_eq_true_eq,h];constructor
 ·rintro⟨y,h1,h2,h3,h4⟩
  have:=h4.resolve_left<|o8 hL hi
  rwa[Fp hL hE 70 z (by have:=hL.dep z;omega)] at this
 ·intro hu
  exact⟨x,(hE.mem x).2 (by rw[hE.own z x hz];exact hz),hl,hE.own z x hz,.inr (by rw[Fp hL hE 70 z (by have:=hL.dep z;omega)];exact hu)⟩
variable{ops:List ew}{rs:List Rs}{evz:List Ev}{q:Wx}
theorem Tm{o:ew}{xi xj:Cl}(hlt:c.lt=t)(htt:1≤t∧t≤65536)(hlm:1≤c.lm∧c.lm≤16384)(hN:lU d)(hR:oK c t ops 0 d 0 0 [] rs evz)(hz: ∀o∈ops,(∀z∈o.zl,iQ z)∧0≤o.tk)(hlen:ops.length≤400)
  (ho:ops[0]? =some o)(hk:o.kd=1)(hnk: ∀(j:Nat)(y:ew),0<j→ops[j]? =some y→y.kd≠1)(hF:lj o.zl o.zl.length L)(hS:oM L P lst)(hl1:1≤lst)
  (hxi:xi∈L∧xi.hp=P∧bD xi.la xi.lb xi.lc=2)(hxj:xj∈L∧xj.hp=P∧bD xj.la xj.lb xj.lc=2)(hp:sX L xi.hi p)(hq:sX L xj.hi q){a r:Nat}(har:a+r<ops.length)
  (hact: ∀k≤r,0<nS (evz.take<|aY evz<|(a+k:Nat)+1) (λz=>decide (z∈p))∧0<nS (evz.take<|aY evz<|(a+k:Nat)+1) (λz=>decide (z∈q))):
  let V:=eP (evz.take<|aY evz<|(a+r:Nat)+1) (λz=>decide (z∈p))-eP (evz.take<|aY evz<|(a:Nat)+1) (λz=>decide (z∈p))
  let W:=eP (evz.take<|aY evz<|(a+r:Nat)+1) (λz=>decide (z∈q))-eP (evz.take<|aY evz<|(a:Nat)+1) (λz=>decide (z∈q))
  (1≤xi.lc∧xi.lc≤4294967295)∧(1≤xj.lc∧xj.lc≤4294967295)∧V*xj.lc*65536-W*xi.lc*65536≤xi.lc*xj.lc*(2*eL (65536*c.lm) lst+2)∧W*xi.lc*65536-V*xj.lc*65536≤xi.lc*xj.lc*(2*eL (65536*c.lm) lst+2)∧
  (∀e∈evz.take (aY evz<|(a+r:Nat)+1),e.vq2=false→1≤e.vq8∧e.vq8≤16384)∧eP (evz.take<|aY evz<|(a+r:Nat)+1) (λz=>decide (z∈p))≤16777216∧eP (evz.take<|aY evz<|(a+r:Nat)+1) (λz=>decide (z∈q))≤16777216:=by
 cases ops with
 |nil=>cases ho
 |cons o' ops=>
  simp only[List.getElem?_cons_zero,Option.some.injEq] at ho;subst ho
  obtain⟨x,evs,d',un',clk',rl',rsl',evl',hd,hr,-,rfl⟩:=hR
  obtain⟨-,⟨er,pl,hC,-⟩,rfl,rfl,rfl,rfl⟩|⟨q,-⟩|⟨q,-⟩|⟨q,-⟩|⟨q,-⟩:=hd
  rotate_left
  ·omega
  ·omega
  ·omega
  ·omega
  obtain⟨b1,b2,b3⟩:=Wa (by rw[hlt];exact htt) hlm hN (hz o'<|List.mem_cons_self ..).1 hF hS hl1 ⟨xi,hxi.1,hxi.2.1⟩ hC
  have hcnt: ∀f,mg d' f=0:=λf=>by
   unfold mg
   have:(λi=>if f i=true then(qk d'.kb i).length else 0)=λ_=>0:=funext λi=>by rw[b2];simp
   rw[this];generalize d'.kc.map (·.1)=l;induction l with
   |nil=>rfl
   |cons a l ih=>simp only[List.map_cons,List.sum_cons,ih]
  have hFi:Fi c P lst d' [] 1:=⟨b1,λf=>by rw[hcnt];rfl,by simp,λhne=>by
   obtain⟨h1,-,h3⟩:=b3 hne
   exact⟨0,h1,by rw[uJ,hcnt];omega,λi f _ m hm=>h3 i m hm⟩⟩
  simp only[List.length_cons] at hlen har
  obtain⟨-,D,hD0,hD⟩:=JD ops 1 0 0 d' [] rsl' evl' [] hr hFi (by decide) (λy hy=>by
   obtain⟨j,h1,h2⟩:=List.getElem_of_mem hy
   exact⟨hnk (j+1) y (by omega) (by rw[List.getElem?_cons_succ,←h2];exact Ze h1),(hz y<|List.mem_cons_of_mem _ hy).2⟩) (by simp)<|by omega
  simp only[List.nil_append] at hD hact⊢
  have hne:d'.kc≠[]:=λhne=>by
   obtain⟨h1,h2,-⟩:=hD a<|by omega
   have h3:=(hact 0<|by omega).1
   rw[show((a+0:Nat):Int)+1=((1+a:Nat):Int) by omega,h1.qq] at h3
   unfold mg at h3;rw[h2,hne] at h3;exact absurd h3<|by simp
  obtain⟨h1,hE,-⟩:=b3 hne
  have hL:=b1.iv.laid
  have kid: ∀{y:Cl},y∈L∧y.hp=P∧bD y.la y.lb y.lc=2→aB d'.kc y.hi=some y∧jS d'.kc P y.hi:=λ{y}hy=>by
   have h:=(hE.mem y).1 hy.1
   have hg:=fL h
   obtain⟨-,⟨q2,q3,q4⟩,-⟩:=hE.rng _ _ h
   refine⟨h,?_,by rw[hg];exact hy.2.1⟩
   unfold eA;rw[hg];simp only[decide_eq_true_eq];rw[qS q2 q3 q4,hy.2.2];decide
  obtain⟨i1,i2⟩:=kid hxi;obtain⟨j1,j2⟩:=kid hxj
  have e: ∀b:Nat,((b:Nat):Int)+1=((1+b:Nat):Int):=λb=>by omega
  simp only[e] at hact⊢
  have:=Tj (E:=λb=>evl'.take<|aY evl' ((1+b:Nat):Int)) (by omega) hD hne i2 j2 (B1 hL hE (by rw[i1];simp) hp) (B1 hL hE (by rw[j1];simp) hq) (a:=a) (r:=r) (by omega) hact
  rw[fL i1,fL j1] at this
  obtain⟨h1,h2,-⟩:=hD (a+r)<|by omega
  obtain⟨g0,hg0⟩:=h1.ft (by rw[h2];exact hne)
  rw[show 1+(a+r)=1+(a+r) from rfl] at h1
  have hgn:=hg0.gn
  have bnd: ∀{i:Int}{f:Int→Bool},aB d'.kc i≠none→sW d'.kc i f→eP (evl'.take<|aY evl' ((1+(a+r):Nat):Int)) f≤16777216:=λ{i f}hi hb=>by
   cases e:aB d'.kc i with
   |none=>exact absurd e hi
   |some x=>
    rw[←h2] at e hb
    obtain⟨m,q1,-⟩:=oe h1.bz.iv.by_ e
    have:=hg0.tt i f hb m q1
    have:=hg0.fz.tot i m q1
    omega
  exact⟨this.1,this.2.1,this.2.2.1,this.2.2.2,h1.ps,bnd (by rw[i1];simp)<|B1 hL hE (by rw[i1];simp) hp,bnd (by rw[j1];simp)<|B1 hL hE (by rw[j1];simp) hq⟩
variable{a:Int}
theorem RN{l:List Cl}{xs:Wx}(h:xs=jX l 70 a):xs.length≤100000:=by rw[h];exact Nat.le_trans (E1 _ _ _)<|by decide
variable{l:Wx}
theorem KN{y:Int}(h:l[k]? =some y)(e:y=a):decide (a∈l)=true:=decide_eq_true<|e▸Zd h
theorem MN(hk:l.length≤k)(hn: ∀j y,j<k→l[j]? =some y→y≠a):decide (a∈l)=false:=decide_eq_false λh=>by
 obtain⟨j,hj⟩:=List.mem_iff_getElem?.1 h
 exact hn j a (by have:=(Zf.1 hj).1;omega) hj rfl
def pB(lv:List Int)(n:Nat)(e:Ev):Nat:=if e.vq6∈lv then(if e.vq2=true then n+1 else n-1) else n
theorem YA(lv:Wx)(n:Nat)(e:Ev):pB lv n e=qN (λz=>decide (z∈lv)) n e:=by unfold pB qN;simp only[decide_eq_true_eq]
def cJ(l:List Ev)(lv:List Int):Nat:=nS l λz=>decide (z∈lv)
theorem MO(f:Int→Bool): ∀(l:List Ev)(n:Nat),l.foldl (qN f) n≤n+l.length
 |[],n=>by simp
 |e::l,n=>by
  have:=MO f l<|qN f n e
  have h:qN f n e≤n+1:=by unfold qN;(repeat' split)<;>omega
  simp only[List.foldl_cons,List.length_cons];omega
theorem We(l:List Ev)(lv:Wx):cJ l lv≤l.length:=by have:=MO (λz=>decide (z∈lv)) l 0;unfold cJ nS;omega
def cD(evs:List Ev)(lv:List Int)(k:Nat):List Int:=(List.range<|k+1).map λj=>((cJ (evs.take j) lv:Nat):Int)
theorem qV(evs:List Ev)(lv:Wx)(k:Nat):(cD evs lv k).length=k+1:=by simp[cD]
variable{lv:Wx}
theorem xn{j:Nat}(h:j<k+1):(cD evs lv k)[j]? =some ((cJ (evs.take j) lv:Nat):Int):=by simp[cD,h]
variable{v:Int}
theorem rP{e:Ev}(h:evs[k]? =some e)(q:v=((pB lv (cJ (evs.take k) lv) e:Nat):Int)):cD evs lv (k+1)=cD evs lv k++[v]:=by
 rw[q,YA];unfold cJ;rw[←Dj,←mK h];unfold cD;rw[List.range_succ,List.map_append];rfl
def yD(l:List Cl)(a:Int)(k:Nat)(p:List Int):Prop:= ∀z,z∈p↔ ∃c∈l.take k,c.hl=true∧c.hi=z∧(a=0∨a∈jX l 70 z)
theorem YB(l:List Cl)(a:Int):yD l a 0 []:=λz=>by simp
variable{l:List Cl}
theorem zQ{x:Cl}(h:yD l a k p)(hx:l[k]? =some x)(hq:q=if x.hl=true∧(a=0∨a∈jX l 70 x.hi) then p++[x.hi] else p):yD l a (k+1) q:=λz=>by
 rw[mK hx,hq];simp only[List.mem_append,List.mem_singleton]
 have:=h z
 split
 ·rename_i e
  rw[List.mem_append,this,List.mem_singleton];constructor
  ·rintro(⟨c,h1,h2⟩|rfl)
   ·exact⟨c,.inl h1,h2⟩
   ·exact⟨x,.inr rfl,e.1,rfl,e.2⟩
  ·rintro⟨c,h1|rfl,h2,h3,h4⟩
   ·exact .inl ⟨c,h1,h2,h3,h4⟩
   ·exact .inr h3.symm
 ·rename_i e
  rw[this];constructor
  ·rintro⟨c,h1,h2⟩;exact⟨c,.inl h1,h2⟩
  ·rintro⟨c,h1|rfl,h2,h3,h4⟩
   ·exact⟨c,h1,h2,h3,h4⟩
   ·subst h3;exact absurd ⟨h2,h4⟩ e
theorem Tn(h:yD l a k p)(hk:l.length≤k):sX l a p:=λz=>by rw[h z,List.take_of_length_le hk]
def dp(evs:List Ev)(lv:List Int)(fr to_:Int):Nat→Int
 |0=>0
 |k+1=>match evs[k]? with
  |some e=>if(k:Int)≥fr∧(k:Int)≤to_∧e.vq2=false∧e.vq6∈lv∧e.vq8>0 then IntKind.u64.wrap (dp evs lv fr to_ k+IntKind.u64.wrap e.vq8) else dp evs lv fr to_ k
  |none=>dp evs lv fr to_ k
theorem BM(evs:List Ev)(m:Int):aY evs m≤evs.length:=List.length_filter_le _ _
theorem JE(l:List Ev)(e:Ev)(m:Int):aY (l++[e]) m=aY l m+(if e.vq1<m then 1 else 0):=by
 unfold aY;rw[List.filter_append,List.length_append];congr 1;by_cases h:e.vq1<m<;>simp[h]
theorem Dl{w:Int}{x:Cl}(h:oM (l.take k) a v)(hx:l[k]? =some x)(h1:bD x.ra x.rb x.rc≤1∧bD x.ua x.ub x.uc≤1)(h2:x.hp=a→2≤bD x.la x.lb x.lc→bD x.la x.lb x.lc=2∧w≤x.lc)(h3:w≤v):oM (l.take<|k+1) a w:=λy hy=>by
 rw[mK hx,List.mem_append,List.mem_singleton] at hy
 rcases hy with hy|rfl
 ·obtain⟨g1,g2,g3⟩:=h y hy
  exact⟨g1,g2,λe e2=>⟨(g3 e e2).1,by have:=(g3 e e2).2;omega⟩⟩
 ·exact⟨h1.1,h1.2,h2⟩
set_option maxHeartbeats 4000000 in
set_option maxRecDepth 100000 in
abbrev BN(p0)(p1)(p2:Wx)(p3)(p4):=([(1,i_ p0),(7,vS p1 p2 p3),(8,c_ p2.length),(9,c_ p4)]:aT)
theorem BO(al:k0)(l:Wx)(cl:Nat)(a:Int)(hl:l.length≤100000)(w:World)(r0:dR w al (V.aP gq l)):
  CQ Tryz.prog 34 #[vS al l cl,i_ a] w (b_<|decide (a∈l)):=by
 refine aU Tryz.func34 rfl (HS.nil w) ?_
 refine dW [(0,vS al l cl),(1,i_ a)] [] ⟨rfl,rfl,trivial⟩ rfl (aC<|aQ [(0,vS al l cl),(1,i_ a)]<|bS<|aQ [(7,vS al l cl),(8,c_ l.length),(9,i_ 0)]<|aR<|fY (λ(zz:Nat)=>match zz with|k=>(BN a al l cl k)) (λ(zz:Nat)=>match zz with|k=>[]) (λ(zz:Nat)=>match zz with|k=>(k≤l.length)∧(∀j y,j<k→l[j]? =some y→y≠a)) (λ(zz:Nat)=>match zz with|k=>l.length-k) (0:Nat) ⟨(by omega),(by(intro j y h_;omega))⟩ ?_ ?_)
 ·exact bw [] ⟨rfl,rfl,rfl,rfl,trivial⟩<|by kernel_rfl
 ·rintro k ⟨hk,hn⟩
  refine dW (BN a al l cl k) [] ⟨rfl,rfl,rfl,rfl,trivial⟩ rfl (aC<|aQ [(9,c_ k),(10,b_<|decide ((k:Int)<(l.length:Int)))]<|aD<|aL (E:=decide ((k:Int)<(l.length:Int))) rfl (λe1=>?_) (λe1=>?_))
  ·skip
   have p1:=Zg e1
   refine az<|aR<|aC<|jJ [.ix] [(11,.pointer<|some<|(au al).add (k*1))] (o1<|io (k:Int)<|dh dG (by decide) (cL r0<|by simp[aN])<|by omega) ?_
   obtain⟨x1,hx1⟩: ∃x,(l)[k]? =some x:=⟨_,Ze<|by omega⟩
   refine aj [.rd [i_ x1]] [(6,i_ x1)] (o1<|ro ((au al).add (k*1))<|dr (vs:=[i_ x1]) dG (cL r0<|by simp[aN]) hx1 (Nat.le_of_ble_eq_true rfl) rfl)<|aC<|da [] [(1,i_ a),(7,vS al l cl),(8,c_ l.length),(9,c_ k),(15,b_<|x1==a)]<|aL (E:=x1==a) rfl (λe2=>?_) (λe2=>?_)
   ·skip
    refine aC<|aQ [(4,b_ true)] ?_
    refine aF<|fE [b_ true] (λ_ w r s=>⟨cw r rfl,trivial⟩) ?_
    show((b_ true):Value)=(b_<|decide (a∈l))
    refine congrArg Value.bool ?_;exact(KN ‹_› (by simp_all)).symm
   ·skip
    refine aO<|aM<|aj [.w<|(k:Int)+1] [(9,i_<|(k:Int)+1)] (o1<|wj ((k:Int)+1)<|by omega) ?_
    refine bN (k+1) ⟨(by omega),(by(intro j y h1_ h2_;rcases Nat.lt_or_ge j k with h4_|h4_;exact hn j y h4_ h2_;(have h5_:j=k:=by omega);subst h5_;grind))⟩ (by(simp;omega)) ?_
    exact bw [] ⟨rfl,rfl,rfl,rfl,trivial⟩<|by kernel_rfl
  ·skip
   have p1:=Zh e1
   refine bg<|aC<|aQ [(4,b_ false)]<|aF<|fE [b_ false] (λ_ w r s=>⟨cw r rfl,trivial⟩) ?_
   show((b_ false):Value)=(b_<|decide (a∈l))
   refine congrArg Value.bool ?_;exact(MN (by omega) hn).symm
set_option maxHeartbeats 4000000 in
set_option maxRecDepth 100000 in
theorem Wg(al:k0)(l:Wx)(cl:Nat)(a:Int)(hl:l.length≤100000)(w:World)(r0:dR w al (V.aP gq l)):
  CQ Tryz.prog 40 #[vS al l cl,i_ a] w (b_<|decide (a∈l)):=by
 refine aU Tryz.func40 rfl (HS.nil w) ?_
 refine dW [(0,vS al l cl),(1,i_ a)] [] ⟨rfl,rfl,trivial⟩ rfl (aC<|aQ [(0,vS al l cl),(1,i_ a)]<|bS<|aQ [(7,vS al l cl),(8,c_ l.length),(9,i_ 0)]<|aR<|fY (λ(zz:Nat)=>match zz with|k=>(BN a al l cl k)) (λ(zz:Nat)=>match zz with|k=>[]) (λ(zz:Nat)=>match zz with|k=>(k≤l.length)∧(∀j y,j<k→l[j]? =some y→y≠a)) (λ(zz:Nat)=>match zz with|k=>l.length-k) (0:Nat) ⟨(by omega),(by(intro j y h_;omega))⟩ ?_ ?_)
 ·exact bw [] ⟨rfl,rfl,rfl,rfl,trivial⟩<|by kernel_rfl
 ·rintro k ⟨hk,hn⟩
  refine dW (BN a al l cl k) [] ⟨rfl,rfl,rfl,rfl,trivial⟩ rfl (aC<|aQ [(9,c_ k),(10,b_<|decide ((k:Int)<(l.length:Int)))]<|aD<|aL (E:=decide ((k:Int)<(l.length:Int))) rfl (λe1=>?_) (λe1=>?_))
  ·skip
   have p1:=Zg e1
   refine az<|aR<|aC<|jJ [.ix] [(11,.pointer<|some<|(au al).add (k*1))] (o1<|io (k:Int)<|dh dG (by decide) (cL r0<|by simp[aN])<|by omega) ?_
   obtain⟨x1,hx1⟩: ∃x,(l)[k]? =some x:=⟨_,Ze<|by omega⟩
   refine aj [.rd [i_ x1]] [(6,i_ x1)] (o1<|ro ((au al).add (k*1))<|dr (vs:=[i_ x1]) dG (cL r0<|by simp[aN]) hx1 (Nat.le_of_ble_eq_true rfl) rfl)<|aC<|da [] [(1,i_ a),(7,vS al l cl),(8,c_ l.length),(9,c_ k),(15,b_<|x1==a)]<|aL (E:=x1==a) rfl (λe2=>?_) (λe2=>?_)
   ·skip
    refine aC<|aQ [(4,b_ true)] ?_
    refine aF<|fE [b_ true] (λ_ w r s=>⟨cw r rfl,trivial⟩) ?_
    show((b_ true):Value)=(b_<|decide (a∈l))
    refine congrArg Value.bool ?_;exact(KN ‹_› (by simp_all)).symm
   ·skip
    refine aO<|aM<|aj [.w<|(k:Int)+1] [(9,i_<|(k:Int)+1)] (o1<|wj ((k:Int)+1)<|by omega) ?_
    refine bN (k+1) ⟨(by omega),(by(intro j y h1_ h2_;rcases Nat.lt_or_ge j k with h4_|h4_;exact hn j y h4_ h2_;(have h5_:j=k:=by omega);subst h5_;grind))⟩ (by(simp;omega)) ?_
    exact bw [] ⟨rfl,rfl,rfl,rfl,trivial⟩<|by kernel_rfl
  ·skip
   have p1:=Zh e1
   refine bg<|aC<|aQ [(4,b_ false)]<|aF<|fE [b_ false] (λ_ w r s=>⟨cw r rfl,trivial⟩) ?_
   show((b_ false):Value)=(b_<|decide (a∈l))
   refine congrArg Value.bool ?_;exact(MN (by omega) hn).symm
set_option maxHeartbeats 4000000 in
set_option maxRecDepth 100000 in
theorem MP(ae:k0)(evs:List Ev)(ce:Nat)(al:k0)(lv:Wx)(cl:Nat)(hle:evs.length≤1000000)(hlv:lv.length≤100000)(w:World)(r0:dR w ae (V.aP gw evs))(r1:dR w al (V.aP gq lv))(hs:HI w []):
  CT Tryz.prog 18 #[vS ae evs ce,vS al lv cl] w [] (λ((A',c'):(k0)×Nat)=>(vS A' (cD evs lv evs.length) c')) (λ_=>True) λ(A',c')=>[sI A' (cD evs lv evs.length) c']:=by
 refine aU Tryz.func18 rfl hs ?_
 refine dW [(0,vS ae evs ce),(1,vS al lv cl)] [] ⟨rfl,rfl,trivial⟩ rfl (aC<|aQ [(0,vS ae evs ce),(1,vS al lv cl)]<|aC<|aG<|eB 9 (e:=3) [i_ 0] (by kernel_rfl) rfl (λ_=>by kernel_rfl) (λb1=>[aA b1 [i_ 0] 3]) (λ_=>rfl) ?_)
 intro b1
 refine aQ [(5,.slice (some ⟨b1,0,none⟩) 1 1)]<|bS<|aQ [(10,vS ae evs ce),(11,c_ evs.length),(12,i_ 0)]<|aR<|yU 0 (b:=b1) 1 1 [sI (some ⟨b1,0,none⟩) ([0]) 1] rfl rfl (by decide) rfl (ca 0 (sI (some ⟨b1,0,none⟩) (cD evs lv 0) 1) rfl (eJ (by rfl:[0]=(cD evs lv 0))) (ei [(1,vS al lv cl),(5,vS (some ⟨b1,0,none⟩) (cD evs lv 0) 1),(10,vS ae evs ce),(11,c_ evs.length),(12,i_ 0)] ⟨rfl,congrArg (λz_:Wx=>some<|Value.slice (some ⟨b1,0,none⟩) z_.length 1) (by rfl:[0]=(cD evs lv 0)),rfl,rfl,rfl,trivial⟩<|fY (λ(zz:Nat×(k0)×Nat)=>match zz with|(k,ao,co)=>[(1,vS al lv cl),(10,vS ae evs ce),(11,c_ evs.length),(12,c_ k),(5,vS ao (cD evs lv k) co)]) (λ(zz:Nat×(k0)×Nat)=>match zz with|(k,ao,co)=>[sI ao (cD evs lv k) co]) (λ(zz:Nat×(k0)×Nat)=>match zz with|(k,ao,co)=>(k≤evs.length)) (λ(zz:Nat×(k0)×Nat)=>match zz with|(k,ao,co)=>evs.length-k) (0,some ⟨b1,0,none⟩,1) (by omega) ?_ ?_))
 ·exact bw [0] ⟨rfl,rfl,rfl,rfl,rfl,trivial⟩<|by kernel_rfl
 ·rintro⟨k,ao,co⟩ hk
  have hk:k≤evs.length:=hk
  have hwl:=qV evs lv k;have hwn:=We (evs.take k) lv;rw[List.length_take] at hwn
  refine dW [(1,vS al lv cl),(10,vS ae evs ce),(11,c_ evs.length),(12,c_ k),(5,vS ao (cD evs lv k) co)] [sI ao (cD evs lv k) co] ⟨rfl,rfl,rfl,rfl,rfl,trivial⟩ rfl (aC<|aQ [(12,c_ k),(5,vS ao (cD evs lv k) co),(13,b_<|decide ((k:Int)<(evs.length:Int)))]<|aD<|aL (E:=decide ((k:Int)<(evs.length:Int))) rfl (λe1=>?_) (λe1=>?_))
  ·skip
   have p1:=Zg e1
   refine az<|aR<|aC<|eI 2 [.ix] [(14,c_ k),(15,.pointer<|some<|(au ae).add (k*12))] (o1<|io (k:Int)<|dh lK (by decide) (cL r0<|by simp[aN])<|by omega) ?_
   obtain⟨x2,hx2⟩: ∃x,(evs)[k]? =some x:=⟨_,Ze<|by omega⟩
   refine iI [.rd<|gw x2,.al,.p,.st 1] [1,10,11,12,5,7,6] (λb3=>[(1,vS al lv cl),(10,vS ae evs ce),(11,c_ evs.length),(12,c_ k),(5,vS ao (cD evs lv k) co),(7,p_ b3),(6,c_ k)]) (λb3=>[sI ao (cD evs lv k) co,aA b3 (gw x2) 52]) (λb3=>[b3]) (λ_=>(λκ=>κ.rd ((au ae).add (k*12)) (gw x2)∧True)) (λ_=>by kernel_rfl) (λb3=>⟨dr (vs:=(gw x2)) lK (cL r0<|by simp[aN]) hx2 (Nat.le_of_ble_eq_true rfl) rfl,trivial⟩) ?_
   intro b3
   refine aC<|jK [.ix,.rd [c_ (cJ (evs.take<|k) lv:Nat)]] [(1,vS al lv cl),(10,vS ae evs ce),(11,c_ evs.length),(12,c_ k),(5,vS ao (cD evs lv k) co),(7,p_ b3),(8,c_ (cJ (evs.take<|k) lv:Nat))] (oc (io (k:Int)<|dh dG (by decide) (bW (i:=0) rfl)<|by omega)<|o1<|ro ((au ao).add (k*1))<|dr (vs:=[c_ (cJ (evs.take<|k) lv:Nat)]) dG (bW (i:=0) rfl) (xn<|by omega) (Nat.le_of_ble_eq_true rfl) rfl)<|bS<|aj [.ld 1,.cq<|b_<|decide (x2.vq6∈lv),.o,.ld 1,.cl] [(28,b_<|(decide (x2.vq6∈lv))&&x2.vq2)] (o1<|qo<|λw s=>BO al lv cl x2.vq6 ‹_› w ((cL r1<|by simp[aN]) w s))<|aL (E:=(decide (x2.vq6∈lv))&&x2.vq2) rfl (λe2=>?_) (λe2=>?_)
   ·skip
    refine aM<|aj [.w<|((cJ (evs.take<|k) lv:Nat):Int)+1] [(8,i_<|((cJ (evs.take<|k) lv:Nat):Int)+1)] (o1<|wj (((cJ (evs.take<|k) lv:Nat):Int)+1)<|by omega) ?_
    refine bS<|aj [.ld 1,.cq<|b_<|decide (x2.vq6∈lv),.o,.ld 1,.cl,.o,.cl] [(43,b_<|((decide (x2.vq6∈lv))&&(!x2.vq2))&&(decide ((((cJ (evs.take<|k) lv:Nat):Int)+1)>0)))] (o1<|qo<|λw s=>BO al lv cl x2.vq6 ‹_› w ((cL r1<|by simp[aN]) w s))<|aL (E:=((decide (x2.vq6∈lv))&&(!x2.vq2))&&(decide ((((cJ (evs.take<|k) lv:Nat):Int)+1)>0))) rfl (λe3=>?_) (λe3=>?_)
    ·skip
     refine aM<|aj [.w<|(((cJ (evs.take<|k) lv:Nat):Int)+1)-1] [(8,i_<|(((cJ (evs.take<|k) lv:Nat):Int)+1)-1)] (o1<|wj ((((cJ (evs.take<|k) lv:Nat):Int)+1)-1)<|by omega) ?_
     refine aM<|an 2 [] [(46,vS ao (cD evs lv k) co),(47,i_<|(((cJ (evs.take<|k) lv:Nat):Int)+1)-1)]<|aG<|eB 48 (e:=3) [i_<|(((cJ (evs.take<|k) lv:Nat):Int)+1)-1] (by kernel_rfl) rfl (λ_=>by kernel_rfl) (λb4=>[sI ao (cD evs lv k) co,aA b3 (gw x2) 52,aA b4 [i_<|(((cJ (evs.take<|k) lv:Nat):Int)+1)-1] 3]) (λ_=>rfl) ?_
     intro b4
     refine aG<|jZ (enc:=gq) (xs:=(cD evs lv k)) ([(((cJ (evs.take<|k) lv:Nat):Int)+1)-1]) 0 49 (e:=3) (z:=(i_ 0)) (sz:=1) (by_:=8) (by kernel_rfl) rfl rfl rfl (by kernel_rfl) (by kernel_rfl) (by rfl) (by decide) dG j9 rfl (ef (i:=2) rfl) (by(simp[qV];omega)) (λA5 c5=>[sI A5 ((cD evs lv k)++([(((cJ (evs.take<|k) lv:Nat):Int)+1)-1])) c5,aA b3 (gw x2) 52,aA b4 [i_<|(((cJ (evs.take<|k) lv:Nat):Int)+1)-1] 3]) (λ_ _=>rfl) ?_
     intro A5 c5
     refine da [] [(1,vS al lv cl),(10,vS ae evs ce),(11,c_ evs.length),(12,c_ k),(5,vS A5 ((cD evs lv k)++([(((cJ (evs.take<|k) lv:Nat):Int)+1)-1])) c5)]<|(aM<|aj [.w<|(k:Int)+1] [(12,i_<|(k:Int)+1)] (o1<|wj ((k:Int)+1)<|by omega)<|ca 0 (sI A5 (cD evs lv<|k+1) c5) rfl (eJ (by(refine(rP ‹_› ?_).symm;unfold pB;(try simp only[cR] at*);grind):(cD evs lv k)++([(((cJ (evs.take<|k) lv:Nat):Int)+1)-1])=(cD evs lv<|k+1))) ?_)
     refine ei [(1,vS al lv cl),(10,vS ae evs ce),(11,c_ evs.length),(12,i_<|(k:Int)+1),(5,vS A5 (cD evs lv<|k+1) c5)] (by exact⟨rfl,rfl,rfl,rfl,congrArg (λz_:Wx=>some<|Value.slice A5 z_.length c5) (by(refine(rP ‹_› ?_).symm;unfold pB;(try simp only[cR] at*);grind):(cD evs lv k)++([(((cJ (evs.take<|k) lv:Nat):Int)+1)-1])=(cD evs lv<|k+1)),trivial⟩) ?_
     refine bN (k+1,A5,c5) (by omega) (by(simp;omega)) ?_
     exact bw [0] ⟨rfl,rfl,rfl,rfl,rfl,trivial⟩<|by kernel_rfl
    ·skip
     refine aO<|aM<|an 2 [] [(46,vS ao (cD evs lv k) co),(47,i_<|((cJ (evs.take<|k) lv:Nat):Int)+1)] ?_
     refine aG<|eB 48 (e:=3) [i_<|((cJ (evs.take<|k) lv:Nat):Int)+1] (by kernel_rfl) rfl (λ_=>by kernel_rfl) (λb6=>[sI ao (cD evs lv k) co,aA b3 (gw x2) 52,aA b6 [i_<|((cJ (evs.take<|k) lv:Nat):Int)+1] 3]) (λ_=>rfl) ?_
     intro b6
     refine aG<|jZ (enc:=gq) (xs:=(cD evs lv k)) ([((cJ (evs.take<|k) lv:Nat):Int)+1]) 0 49 (e:=3) (z:=(i_ 0)) (sz:=1) (by_:=8) (by kernel_rfl) rfl rfl rfl (by kernel_rfl) (by kernel_rfl) (by rfl) (by decide) dG j9 rfl (ef (i:=2) rfl) (by(simp[qV];omega)) (λA7 c7=>[sI A7 ((cD evs lv k)++([((cJ (evs.take<|k) lv:Nat):Int)+1])) c7,aA b3 (gw x2) 52,aA b6 [i_<|((cJ (evs.take<|k) lv:Nat):Int)+1] 3]) (λ_ _=>rfl) ?_
     intro A7 c7
     refine aQ [(5,vS A7 ((cD evs lv k)++([((cJ (evs.take<|k) lv:Nat):Int)+1])) c7)]<|(aM<|jK [.w<|(k:Int)+1] [(1,vS al lv cl),(10,vS ae evs ce),(11,c_ evs.length),(12,i_<|(k:Int)+1),(5,vS A7 ((cD evs lv k)++([((cJ (evs.take<|k) lv:Nat):Int)+1])) c7)] (o1<|wj ((k:Int)+1)<|by omega)<|ca 0 (sI A7 (cD evs lv<|k+1) c7) rfl (eJ (by(refine(rP ‹_› ?_).symm;unfold pB;(try simp only[cR] at*);grind):(cD evs lv k)++([((cJ (evs.take<|k) lv:Nat):Int)+1])=(cD evs lv<|k+1))) ?_)
     refine ei [(1,vS al lv cl),(10,vS ae evs ce),(11,c_ evs.length),(12,i_<|(k:Int)+1),(5,vS A7 (cD evs lv<|k+1) c7)] (by exact⟨rfl,rfl,rfl,rfl,congrArg (λz_:Wx=>some<|Value.slice A7 z_.length c7) (by(refine(rP ‹_› ?_).symm;unfold pB;(try simp only[cR] at*);grind):(cD evs lv k)++([((cJ (evs.take<|k) lv:Nat):Int)+1])=(cD evs lv<|k+1)),trivial⟩) ?_
     refine bN (k+1,A7,c7) (by omega) (by(simp;omega)) ?_
     exact bw [0] ⟨rfl,rfl,rfl,rfl,rfl,trivial⟩<|by kernel_rfl
   ·skip
    refine aO<|bS<|aj [.ld 1,.cq<|b_<|decide (x2.vq6∈lv),.o,.ld 1,.cl,.o,.cl] [(43,b_<|((decide (x2.vq6∈lv))&&(!x2.vq2))&&(decide (((cJ (evs.take<|k) lv:Nat):Int)>0)))] (o1<|qo<|λw s=>BO al lv cl x2.vq6 ‹_› w ((cL r1<|by simp[aN]) w s)) ?_
    refine aL (E:=((decide (x2.vq6∈lv))&&(!x2.vq2))&&(decide (((cJ (evs.take<|k) lv:Nat):Int)>0))) rfl (λe4=>?_) (λe4=>?_)
    ·skip
     refine aM<|aj [.w<|((cJ (evs.take<|k) lv:Nat):Int)-1] [(8,i_<|((cJ (evs.take<|k) lv:Nat):Int)-1)] (o1<|wj (((cJ (evs.take<|k) lv:Nat):Int)-1)<|by omega) ?_
     refine aM<|an 2 [] [(46,vS ao (cD evs lv k) co),(47,i_<|((cJ (evs.take<|k) lv:Nat):Int)-1)]<|aG<|eB 48 (e:=3) [i_<|((cJ (evs.take<|k) lv:Nat):Int)-1] (by kernel_rfl) rfl (λ_=>by kernel_rfl) (λb8=>[sI ao (cD evs lv k) co,aA b3 (gw x2) 52,aA b8 [i_<|((cJ (evs.take<|k) lv:Nat):Int)-1] 3]) (λ_=>rfl) ?_
     intro b8
     refine aG<|jZ (enc:=gq) (xs:=(cD evs lv k)) ([((cJ (evs.take<|k) lv:Nat):Int)-1]) 0 49 (e:=3) (z:=(i_ 0)) (sz:=1) (by_:=8) (by kernel_rfl) rfl rfl rfl (by kernel_rfl) (by kernel_rfl) (by rfl) (by decide) dG j9 rfl (ef (i:=2) rfl) (by(simp[qV];omega)) (λA9 c9=>[sI A9 ((cD evs lv k)++([((cJ (evs.take<|k) lv:Nat):Int)-1])) c9,aA b3 (gw x2) 52,aA b8 [i_<|((cJ (evs.take<|k) lv:Nat):Int)-1] 3]) (λ_ _=>rfl) ?_
     intro A9 c9
     refine aQ [(5,vS A9 ((cD evs lv k)++([((cJ (evs.take<|k) lv:Nat):Int)-1])) c9)]<|(aM<|jK [.w<|(k:Int)+1] [(1,vS al lv cl),(10,vS ae evs ce),(11,c_ evs.length),(12,i_<|(k:Int)+1),(5,vS A9 ((cD evs lv k)++([((cJ (evs.take<|k) lv:Nat):Int)-1])) c9)] (o1<|wj ((k:Int)+1)<|by omega)<|ca 0 (sI A9 (cD evs lv<|k+1) c9) rfl (eJ (by(refine(rP ‹_› ?_).symm;unfold pB;(try simp only[cR] at*);grind):(cD evs lv k)++([((cJ (evs.take<|k) lv:Nat):Int)-1])=(cD evs lv<|k+1))) ?_)
     refine ei [(1,vS al lv cl),(10,vS ae evs ce),(11,c_ evs.length),(12,i_<|(k:Int)+1),(5,vS A9 (cD evs lv<|k+1) c9)] (by exact⟨rfl,rfl,rfl,rfl,congrArg (λz_:Wx=>some<|Value.slice A9 z_.length c9) (by(refine(rP ‹_› ?_).symm;unfold pB;(try simp only[cR] at*);grind):(cD evs lv k)++([((cJ (evs.take<|k) lv:Nat):Int)-1])=(cD evs lv<|k+1)),trivial⟩) ?_
     refine bN (k+1,A9,c9) (by omega) (by(simp;omega)) ?_
     exact bw [0] ⟨rfl,rfl,rfl,rfl,rfl,trivial⟩<|by kernel_rfl
    ·skip
     refine aO<|aM<|an 2 [] [(46,vS ao (cD evs lv k) co),(47,c_ (cJ (evs.take<|k) lv:Nat))] ?_
     refine aG<|eB 48 (e:=3) [c_ (cJ (evs.take<|k) lv:Nat)] (by kernel_rfl) rfl (λ_=>by kernel_rfl) (λb10=>[sI ao (cD evs lv k) co,aA b3 (gw x2) 52,aA b10 [c_ (cJ (evs.take<|k) lv:Nat)] 3]) (λ_=>rfl) ?_
     intro b10
     refine aG<|jZ (enc:=gq) (xs:=(cD evs lv k)) ([((cJ (evs.take<|k) lv:Nat):Int)]) 0 49 (e:=3) (z:=(i_ 0)) (sz:=1) (by_:=8) (by kernel_rfl) rfl rfl rfl (by kernel_rfl) (by kernel_rfl) (by rfl) (by decide) dG j9 rfl (ef (i:=2) rfl) (by(simp[qV];omega)) (λA11 c11=>[sI A11 ((cD evs lv k)++([((cJ (evs.take<|k) lv:Nat):Int)])) c11,aA b3 (gw x2) 52,aA b10 [c_ (cJ (evs.take<|k) lv:Nat)] 3]) (λ_ _=>rfl) ?_
     intro A11 c11
     refine aQ [(5,vS A11 ((cD evs lv k)++([((cJ (evs.take<|k) lv:Nat):Int)])) c11)]<|(aM<|aj [.w<|(k:Int)+1] [(12,i_<|(k:Int)+1)] (o1<|wj ((k:Int)+1)<|by omega)<|ca 0 (sI A11 (cD evs lv<|k+1) c11) rfl (eJ (by(refine(rP ‹_› ?_).symm;unfold pB;(try simp only[cR] at*);grind):(cD evs lv k)++([((cJ (evs.take<|k) lv:Nat):Int)])=(cD evs lv<|k+1))) ?_)
     refine ei [(1,vS al lv cl),(10,vS ae evs ce),(11,c_ evs.length),(12,i_<|(k:Int)+1),(5,vS A11 (cD evs lv<|k+1) c11)] (by exact⟨rfl,rfl,rfl,rfl,congrArg (λz_:Wx=>some<|Value.slice A11 z_.length c11) (by(refine(rP ‹_› ?_).symm;unfold pB;(try simp only[cR] at*);grind):(cD evs lv k)++([((cJ (evs.take<|k) lv:Nat):Int)])=(cD evs lv<|k+1)),trivial⟩) ?_
     refine bN (k+1,A11,c11) (by omega) (by(simp;omega)) ?_
     exact bw [0] ⟨rfl,rfl,rfl,rfl,rfl,trivial⟩<|by kernel_rfl
  ·skip
   have p1:=Zh e1
   refine bg<|aC<|aQ [(4,vS ao (cD evs lv k) co)]<|aF<|ca 0 (sI ao (cD evs lv evs.length) co) rfl (eJ (by((have h_:k=evs.length:=by omega);rw[h_]):(cD evs lv k)=(cD evs lv evs.length))) (cP [0] [vS ao (cD evs lv k) co] (λ_ w r s=>⟨cw r rfl,trivial⟩) (ao,co) ?_ ?_<|by kernel_rfl)
   ·show((vS ao (cD evs lv k) co):Value)=(vS ao (cD evs lv evs.length) co)
    (have hk2:k=evs.length:=by omega);subst hk2;rfl
   ·trivial
set_option maxHeartbeats 4000000 in
set_option maxRecDepth 100000 in
theorem MQ(al:k0)(l:List Cl)(cl:Nat)(a:Int)(hl:l.length≤100000)(w:World)(r0:dR w al (V.aP aX l))(hs:HI w []):
  CT Tryz.prog 17 #[vS al l cl,i_ a] w [] (λ((A',xs',c'):(k0)×(Wx)×Nat)=>(vS A' xs' c')) (λ(A',xs',c')=>xs'.length≤l.length∧sX l a xs') λ(A',xs',c')=>[sI A' xs' c']:=by
 refine aU Tryz.func17 rfl hs ?_
 refine dW [(0,vS al l cl),(1,i_ a)] [] ⟨rfl,rfl,trivial⟩ rfl (aC<|aQ [(0,vS al l cl),(1,i_ a)]<|aC<|aQ [(5,e_)]<|bS<|aQ [(8,vS al l cl),(9,c_ l.length),(10,i_ 0)]<|aR<|gW 3 1 [sI none ([]:Wx) 0] rfl (fY (λ(zz:Nat×(k0)×(Wx)×Nat)=>match zz with|(k,ao,xs,co)=>[(0,vS al l cl),(1,i_ a),(8,vS al l cl),(9,c_ l.length),(10,c_ k),(5,vS ao xs co)]) (λ(zz:Nat×(k0)×(Wx)×Nat)=>match zz with|(k,ao,xs,co)=>[sI ao xs co]) (λ(zz:Nat×(k0)×(Wx)×Nat)=>match zz with|(k,ao,xs,co)=>(k≤l.length)∧(xs.length≤k)∧(yD l a k xs)) (λ(zz:Nat×(k0)×(Wx)×Nat)=>match zz with|(k,ao,xs,co)=>l.length-k) (0,none,([]:Wx),0) ⟨(by omega),(by(simp;done)),YB l a⟩ ?_ ?_))
 ·exact bw [0] ⟨rfl,rfl,rfl,rfl,rfl,rfl,trivial⟩<|by kernel_rfl
 ·rintro⟨k,ao,xs,co⟩ ⟨hk,hx,hb⟩
  refine dW [(0,vS al l cl),(1,i_ a),(8,vS al l cl),(9,c_ l.length),(10,c_ k),(5,vS ao xs co)] [sI ao xs co] ⟨rfl,rfl,rfl,rfl,rfl,rfl,trivial⟩ rfl (aC<|aQ [(10,c_ k),(5,vS ao xs co),(11,b_<|decide ((k:Int)<(l.length:Int)))]<|aD<|aL (E:=decide ((k:Int)<(l.length:Int))) rfl (λe1=>?_) (λe1=>?_))
  ·skip
   have p1:=Zg e1
   refine az<|aR<|aC<|jJ [.ix] [(12,.pointer<|some<|(au al).add (k*14))] (o1<|io (k:Int)<|dh fJ (by decide) (cL r0<|by simp[aN])<|by omega) ?_
   obtain⟨x2,hx2⟩: ∃x,(l)[k]? =some x:=⟨_,Ze<|by omega⟩
   refine iI [.rd<|aX x2,.al,.st 1] [0,1,8,9,10,5,7] (λb3=>[(0,vS al l cl),(1,i_ a),(8,vS al l cl),(9,c_ l.length),(10,c_ k),(5,vS ao xs co),(7,p_ b3)]) (λb3=>[sI ao xs co,aA b3 (aX x2) 62]) (λb3=>[b3]) (λ_=>(λκ=>κ.rd ((au al).add (k*14)) (aX x2)∧True)) (λ_=>by kernel_rfl) (λb3=>⟨dr (vs:=(aX x2)) fJ (cL r0<|by simp[aN]) hx2 (Nat.le_of_ble_eq_true rfl) rfl,trivial⟩) ?_
   intro b3
   refine aC<|k9 [.p,.ld 1,.p] [(0,vS al l cl),(1,i_ a),(8,vS al l cl),(9,c_ l.length),(10,c_ k),(5,vS ao xs co),(7,p_ b3),(16,b_ x2.hl)]<|i5 (x2.hl) (λe2=>?_)<|λe2=>?_
   ·skip
    refine ei [(0,vS al l cl),(1,i_ a),(8,vS al l cl),(9,c_ l.length),(10,c_ k),(5,vS ao xs co),(7,p_ b3),(16,b_ true)] ⟨rfl,rfl,rfl,rfl,rfl,rfl,rfl,congrArg (λz=>some<|Value.bool z) e2,trivial⟩<|an 3 [] [(16,b_ true),(17,i_ a),(18,b_<|a==0),(19,b_<|a==0)]<|i5 (a==0) (λe3=>?_)<|λe3=>?_
    ·skip
     refine ei [(0,vS al l cl),(1,i_ a),(8,vS al l cl),(9,c_ l.length),(10,c_ k),(5,vS ao xs co),(7,p_ b3),(16,b_ true),(17,i_ a),(18,b_ true),(19,b_ true)] ⟨rfl,rfl,rfl,rfl,rfl,rfl,rfl,rfl,rfl,congrArg (λz=>some<|Value.bool z) e3,congrArg (λz=>some<|Value.bool z) e3,trivial⟩<|bB [.sk,.sk,.sk,.sk,.sk,.sk] [(18,b_ true),(19,b_ true),(26,b_ true),(27,b_ true)]<|iw rfl (aM<|an 3 [.ld 1] [(28,vS ao xs co),(30,i_ x2.hi)]<|aG<|eB 31 (e:=3) [i_ x2.hi] (by kernel_rfl) rfl (λ_=>by kernel_rfl) (λb4=>[sI ao xs co,aA b3 (aX x2) 62,aA b4 [i_ x2.hi] 3]) (λ_=>rfl) ?_)
     intro b4
     refine aG<|jZ (enc:=gq) (xs:=xs) ([x2.hi]) 0 32 (e:=3) (z:=(i_ 0)) (sz:=1) (by_:=8) (by kernel_rfl) rfl rfl rfl (by kernel_rfl) (by kernel_rfl) (by rfl) (by decide) dG j9 rfl (ef (i:=2) rfl) (by(simp_all<;>omega)) (λA5 c5=>[sI A5 (xs++([x2.hi])) c5,aA b3 (aX x2) 62,aA b4 [i_ x2.hi] 3]) (λ_ _=>rfl) ?_
     intro A5 c5
     refine aQ [(5,vS A5 (xs++([x2.hi])) c5)]<|(aM<|aj [.w<|(k:Int)+1] [(10,i_<|(k:Int)+1)] (o1<|wj ((k:Int)+1)<|by omega)<|bN (k+1,A5,xs++([x2.hi]),c5) ⟨(by omega),(by(simp_all<;>omega)),(by(refine zQ hb ‹_› ?_;simp_all))⟩ (by(simp;omega)) ?_)
     exact bw [0] ⟨rfl,rfl,rfl,rfl,rfl,rfl,trivial⟩<|by kernel_rfl
    ·skip
     refine ei [(0,vS al l cl),(1,i_ a),(8,vS al l cl),(9,c_ l.length),(10,c_ k),(5,vS ao xs co),(7,p_ b3),(16,b_ true),(17,i_ a),(18,b_ false),(19,b_ false)] ⟨rfl,rfl,rfl,rfl,rfl,rfl,rfl,rfl,rfl,congrArg (λz=>some<|Value.bool z) e3,congrArg (λz=>some<|Value.bool z) e3,trivial⟩<|an 3 [.ld 1] [(18,b_ false),(19,b_ false),(20,vS al l cl),(21,p_ b3),(22,i_ x2.hi)]<|aG<|dH (some 23) [] (λw s h=>ME al l cl x2.hi ‹_› w ((cL r0<|by simp[aN]) w s) h) ?_
     rintro⟨A'6,xs'7,c'8⟩ hz4
     dsimp only at hz4
     refine aj [.cq<|b_<|decide (a∈xs'7)] [(24,i_ a),(25,b_<|decide (a∈xs'7)),(26,b_<|decide (a∈xs'7)),(27,b_<|decide (a∈xs'7))] (o1<|qo<|λw s=>BO A'6 xs'7 c'8 a (RN ‹_›) w<|(bW (i:=0) rfl) w s)<|aL (E:=(decide (a∈xs'7))) rfl (λe5=>?_) (λe5=>?_)
     ·skip
      refine aM<|an 3 [.ld 2] [(28,vS ao xs co),(30,i_ x2.hi)] ?_
      refine aG<|eB 31 (e:=3) [i_ x2.hi] (by kernel_rfl) rfl (λ_=>by kernel_rfl) (λb10=>[sI A'6 xs'7 c'8,sI ao xs co,aA b3 (aX x2) 62,aA b10 [i_ x2.hi] 3]) (λ_=>rfl) ?_
      intro b10
      refine aG<|jZ (enc:=gq) (xs:=xs) ([x2.hi]) 1 32 (e:=3) (z:=(i_ 0)) (sz:=1) (by_:=8) (by kernel_rfl) rfl rfl rfl (by kernel_rfl) (by kernel_rfl) (by rfl) (by decide) dG j9 rfl (ef (i:=3) rfl) (by(simp_all<;>omega)) (λA11 c11=>[sI A'6 xs'7 c'8,sI A11 (xs++([x2.hi])) c11,aA b3 (aX x2) 62,aA b10 [i_ x2.hi] 3]) (λ_ _=>rfl) ?_
      intro A11 c11
      refine aQ [(5,vS A11 (xs++([x2.hi])) c11)]<|(aM<|jK [.w<|(k:Int)+1] [(0,vS al l cl),(1,i_ a),(8,vS al l cl),(9,c_ l.length),(10,i_<|(k:Int)+1),(5,vS A11 (xs++([x2.hi])) c11),(17,i_ a),(18,b_ false),(19,b_ false),(20,vS al l cl),(21,p_ b3),(22,i_ x2.hi),(23,vS A'6 xs'7 c'8),(24,i_ a),(25,b_<|decide (a∈xs'7)),(26,b_<|decide (a∈xs'7))] (o1<|wj ((k:Int)+1)<|by omega)<|bN (k+1,A11,xs++([x2.hi]),c11) ⟨(by omega),(by(simp_all<;>omega)),(by(refine zQ hb ‹_› ?_;simp_all))⟩ (by(simp;omega)) ?_)
      exact bw [1] ⟨rfl,rfl,rfl,rfl,rfl,rfl,trivial⟩<|by kernel_rfl
     ·skip
      refine aO<|aM<|aj [.w<|(k:Int)+1] [(10,i_<|(k:Int)+1)] (o1<|wj ((k:Int)+1)<|by omega) ?_
      refine bN (k+1,ao,xs,co) ⟨(by omega),(by(simp_all<;>omega)),(by(refine zQ hb ‹_› ?_;simp_all))⟩ (by(simp;omega)) ?_
      exact bw [1] ⟨rfl,rfl,rfl,rfl,rfl,rfl,trivial⟩<|by kernel_rfl
   ·skip
    refine ei [(0,vS al l cl),(1,i_ a),(8,vS al l cl),(9,c_ l.length),(10,c_ k),(5,vS ao xs co),(7,p_ b3),(16,b_ false)] ⟨rfl,rfl,rfl,rfl,rfl,rfl,rfl,congrArg (λz=>some<|Value.bool z) e2,trivial⟩<|bB [.sk,.sk,.sk,.sk,.sk,.sk,.sk,.sk,.sk,.sk] [(27,b_ false)]<|oW rfl (aO<|aM<|aj [.w<|(k:Int)+1] [(10,i_<|(k:Int)+1)] (o1<|wj ((k:Int)+1)<|by omega)<|bN (k+1,ao,xs,co) ⟨(by omega),(by(simp_all<;>omega)),(by(refine zQ hb ‹_› ?_;simp_all))⟩ (by(simp;omega)) ?_)
    exact bw [0] ⟨rfl,rfl,rfl,rfl,rfl,rfl,trivial⟩<|by kernel_rfl
  ·skip
   have p1:=Zh e1
   refine bg<|aC<|aQ [(4,vS ao xs co)]<|aF<|cP [0] [vS ao xs co] (λ_ w r s=>⟨cw r rfl,trivial⟩) (ao,xs,co) ?_ ?_<|by kernel_rfl
   ·rfl
   ·show xs.length≤l.length∧sX l a xs
    exact⟨by omega,Tn hb<|by omega⟩
set_option maxHeartbeats 4000000 in
set_option maxRecDepth 100000 in
theorem MR(ae:k0)(evs:List Ev)(ce:Nat)(al:k0)(lv:Wx)(cl:Nat)(fr to_:Int)(hle:evs.length≤1000000)(hlv:lv.length≤100000)(w:World)(r0:dR w ae (V.aP gw evs))(r1:dR w al (V.aP gq lv)):
  CQ Tryz.prog 23 #[vS ae evs ce,vS al lv cl,i_ fr,i_ to_] w (u_<|dp evs lv fr to_ evs.length):=by
 refine aU Tryz.func23 rfl (HS.nil w) ?_
 refine dW [(0,vS ae evs ce),(1,vS al lv cl),(2,i_ fr),(3,i_ to_)] [] ⟨rfl,rfl,rfl,rfl,trivial⟩ rfl (aC<|aQ [(0,vS ae evs ce),(1,vS al lv cl),(2,i_ fr),(3,i_ to_)]<|aC<|aQ [(9,u_ 0)]<|bS<|aQ [(12,vS ae evs ce),(13,c_ evs.length),(14,i_ 0)]<|aR<|ei [(1,vS al lv cl),(2,i_ fr),(3,i_ to_),(9,u_<|dp evs lv fr to_ 0),(12,vS ae evs ce),(13,c_ evs.length),(14,i_ 0)] ⟨rfl,rfl,rfl,congrArg (λz_=>some<|u_ z_) (by rfl:0=(dp evs lv fr to_ 0)),rfl,rfl,rfl,trivial⟩<|fY (λ(zz:Nat)=>match zz with|k=>[(1,vS al lv cl),(2,i_ fr),(3,i_ to_),(12,vS ae evs ce),(13,c_ evs.length),(14,c_ k),(9,u_<|dp evs lv fr to_ k)]) (λ(zz:Nat)=>match zz with|k=>[]) (λ(zz:Nat)=>match zz with|k=>(k≤evs.length)) (λ(zz:Nat)=>match zz with|k=>evs.length-k) (0:Nat) (by omega) ?_ ?_)
 ·exact bw [] ⟨rfl,rfl,rfl,rfl,rfl,rfl,rfl,trivial⟩<|by kernel_rfl
 ·rintro k hk
  have hk:k≤evs.length:=hk
  refine dW [(1,vS al lv cl),(2,i_ fr),(3,i_ to_),(12,vS ae evs ce),(13,c_ evs.length),(14,c_ k),(9,u_<|dp evs lv fr to_ k)] [] ⟨rfl,rfl,rfl,rfl,rfl,rfl,rfl,trivial⟩ rfl (aC<|aQ [(14,c_ k),(9,u_<|dp evs lv fr to_ k),(15,b_<|decide ((k:Int)<(evs.length:Int)))]<|aD<|aL (E:=decide ((k:Int)<(evs.length:Int))) rfl (λe1=>?_) (λe1=>?_))
  ·skip
   have p1:=Zg e1
   refine az<|aR<|aC<|eI 2 [.ix] [(16,c_ k),(17,.pointer<|some<|(au ae).add (k*12))] (o1<|io (k:Int)<|dh lK (by decide) (cL r0<|by simp[aN])<|by omega) ?_
   obtain⟨x1,hx1⟩: ∃x,(evs)[k]? =some x:=⟨_,Ze<|by omega⟩
   refine iI [.rd<|gw x1,.al,.p,.st 0] [1,2,3,12,13,14,9,11,10] (λb2=>[(1,vS al lv cl),(2,i_ fr),(3,i_ to_),(12,vS ae evs ce),(13,c_ evs.length),(14,c_ k),(9,u_<|dp evs lv fr to_ k),(11,p_ b2),(10,c_ k)]) (λb2=>[aA b2 (gw x1) 52]) (λb2=>[b2]) (λ_=>(λκ=>κ.rd ((au ae).add (k*12)) (gw x1)∧True)) (λ_=>by kernel_rfl) (λb2=>⟨dr (vs:=(gw x1)) lK (cL r0<|by simp[aN]) hx1 (Nat.le_of_ble_eq_true rfl) rfl,trivial⟩) ?_
   intro b2
   refine aC<|jK [.o,.cl,.o,.ld 0,.cl,.o,.ld 0,.cq<|b_<|decide (x1.vq6∈lv),.cl,.o,.ld 0,.cl] [(1,vS al lv cl),(2,i_ fr),(3,i_ to_),(12,vS ae evs ce),(13,c_ evs.length),(14,c_ k),(9,u_<|dp evs lv fr to_ k),(11,p_ b2),(43,b_<|((((decide ((k:Int)≥fr))&&(decide ((k:Int)≤to_)))&&(!x1.vq2))&&(decide (x1.vq6∈lv)))&&(decide (x1.vq8>0)))] (o1<|go (true&&((((decide ((k:Int)≥fr))&&(decide ((k:Int)≤to_)))&&(!x1.vq2))==true)) λh_=>(qo<|λw s=>Wg al lv cl x1.vq6 ‹_› w ((cL r1<|by simp[aN]) w s)))<|aL (E:=((((decide ((k:Int)≥fr))&&(decide ((k:Int)≤to_)))&&(!x1.vq2))&&(decide (x1.vq6∈lv)))&&(decide (x1.vq8>0))) rfl (λe2=>?_) (λe2=>?_)
   ·skip
    refine aM<|bB [.ld 0] [(9,u_<|wU<|(dp evs lv fr to_ k)+(wU<|x1.vq8))] ?_
    refine(aM<|aj [.w<|(k:Int)+1] [(14,i_<|(k:Int)+1)] (o1<|wj ((k:Int)+1)<|by omega) ?_)
    refine ei [(1,vS al lv cl),(2,i_ fr),(3,i_ to_),(12,vS ae evs ce),(13,c_ evs.length),(14,i_<|(k:Int)+1),(9,u_<|dp evs lv fr to_<|k+1)] (by exact⟨rfl,rfl,rfl,rfl,rfl,rfl,congrArg (λz_=>some<|u_ z_) (by(rw[dp,‹evs[k]? =some _›];grind):wU ((dp evs lv fr to_ k)+(wU<|x1.vq8))=(dp evs lv fr to_<|k+1)),trivial⟩)<|bN (k+1) (by omega) (by(simp;omega)) ?_
    exact bw [] ⟨rfl,rfl,rfl,rfl,rfl,rfl,rfl,trivial⟩<|by kernel_rfl
   ·skip
    refine aO<|aM<|aj [.w<|(k:Int)+1] [(14,i_<|(k:Int)+1)] (o1<|wj ((k:Int)+1)<|by omega) ?_
    refine ei [(1,vS al lv cl),(2,i_ fr),(3,i_ to_),(12,vS ae evs ce),(13,c_ evs.length),(14,i_<|(k:Int)+1),(9,u_<|dp evs lv fr to_<|k+1)] (by exact⟨rfl,rfl,rfl,rfl,rfl,rfl,congrArg (λz_=>some<|u_ z_) (by(rw[dp,‹evs[k]? =some _›];grind):(dp evs lv fr to_ k)=(dp evs lv fr to_<|k+1)),trivial⟩)<|bN (k+1) (by omega) (by(simp;omega)) ?_
    exact bw [] ⟨rfl,rfl,rfl,rfl,rfl,rfl,rfl,trivial⟩<|by kernel_rfl
  ·skip
   have p1:=Zh e1
   refine bg<|aC<|aQ [(8,u_<|dp evs lv fr to_ k)]<|aF<|fE [u_<|dp evs lv fr to_ k] (λ_ w r s=>⟨cw r rfl,trivial⟩) ?_
   show((u_<|dp evs lv fr to_ k):Value)=(u_<|dp evs lv fr to_ evs.length)
   (have h_:k=evs.length:=by omega);rw[h_]
set_option maxHeartbeats 4000000 in
set_option maxRecDepth 100000 in
theorem MS(ae:k0)(evs:List Ev)(ce:Nat)(m:Int)(hle:evs.length≤1000000)(w:World)(r0:dR w ae (V.aP gw evs)):
  CQ Tryz.prog 20 #[vS ae evs ce,i_ m] w (i_ (aY evs m:Int)):=by
 refine aU Tryz.func20 rfl (HS.nil w) ?_
 refine dW [(0,vS ae evs ce),(1,i_ m)] [] ⟨rfl,rfl,trivial⟩ rfl (aC<|aQ [(0,vS ae evs ce),(1,i_ m)]<|aC<|aQ [(5,i_ 0)]<|bS<|aQ [(8,vS ae evs ce),(9,c_ evs.length),(10,i_ 0)]<|aR<|ei [(1,i_ m),(5,i_ (aY (evs.take 0) m:Int)),(8,vS ae evs ce),(9,c_ evs.length),(10,i_ 0)] ⟨rfl,congrArg (λz_=>some<|i_ z_) (by rfl:0=(aY (evs.take 0) m:Int)),rfl,rfl,rfl,trivial⟩<|fY (λ(zz:Nat)=>match zz with|k=>[(1,i_ m),(8,vS ae evs ce),(9,c_ evs.length),(10,c_ k),(5,i_ (aY (evs.take k) m:Int))]) (λ(zz:Nat)=>match zz with|k=>[]) (λ(zz:Nat)=>match zz with|k=>(k≤evs.length)) (λ(zz:Nat)=>match zz with|k=>evs.length-k) (0:Nat) (by omega) ?_ ?_)
 ·exact bw [] ⟨rfl,rfl,rfl,rfl,rfl,trivial⟩<|by kernel_rfl
 ·rintro k hk
  have hk:k≤evs.length:=hk
  have hul:=BM (evs.take k) m;rw[List.length_take] at hul
  refine dW [(1,i_ m),(8,vS ae evs ce),(9,c_ evs.length),(10,c_ k),(5,i_ (aY (evs.take k) m:Int))] [] ⟨rfl,rfl,rfl,rfl,rfl,trivial⟩ rfl (aC<|aQ [(10,c_ k),(5,i_ (aY (evs.take k) m:Int)),(11,b_<|decide ((k:Int)<(evs.length:Int)))]<|aD<|aL (E:=decide ((k:Int)<(evs.length:Int))) rfl (λe1=>?_) (λe1=>?_))
  ·skip
   have p1:=Zg e1
   refine az<|aR<|aC<|jJ [.ix] [(12,.pointer<|some<|(au ae).add (k*12))] (o1<|io (k:Int)<|dh lK (by decide) (cL r0<|by simp[aN])<|by omega) ?_
   obtain⟨x1,hx1⟩: ∃x,(evs)[k]? =some x:=⟨_,Ze<|by omega⟩
   refine iI [.rd<|gw x1,.al,.st 0] [1,8,9,10,5,7] (λb2=>[(1,i_ m),(8,vS ae evs ce),(9,c_ evs.length),(10,c_ k),(5,i_ (aY (evs.take k) m:Int)),(7,p_ b2)]) (λb2=>[aA b2 (gw x1) 52]) (λb2=>[b2]) (λ_=>(λκ=>κ.rd ((au ae).add (k*12)) (gw x1)∧True)) (λ_=>by kernel_rfl) (λb2=>⟨dr (vs:=(gw x1)) lK (cL r0<|by simp[aN]) hx1 (Nat.le_of_ble_eq_true rfl) rfl,trivial⟩) ?_
   intro b2
   refine aC<|da [.ld 0] [(1,i_ m),(8,vS ae evs ce),(9,c_ evs.length),(10,c_ k),(5,i_ (aY (evs.take k) m:Int)),(17,b_<|decide (x1.vq1<m))]<|aL (E:=decide (x1.vq1<m)) rfl (λe2=>?_) (λe2=>?_)
   ·skip
    have p2:=Zg e2
    refine aM<|aj [.w<|(aY (evs.take k) m:Int)+1] [(5,i_<|(aY (evs.take k) m:Int)+1)] (o1<|wj ((aY (evs.take k) m:Int)+1)<|by omega)<|(aM<|aj [.w<|(k:Int)+1] [(10,i_<|(k:Int)+1)] (o1<|wj ((k:Int)+1)<|by omega)<|ei [(1,i_ m),(8,vS ae evs ce),(9,c_ evs.length),(10,i_<|(k:Int)+1),(5,i_ (aY (evs.take<|k+1) m:Int))] (by exact⟨rfl,rfl,rfl,rfl,congrArg (λz_=>some<|i_ z_) (by(rw[mK ‹_›,JE];simp_all<;>(try split)<;>omega):(aY (evs.take k) m:Int)+1=(aY (evs.take<|k+1) m:Int)),trivial⟩) ?_)
    refine bN (k+1) (by omega) (by(simp;omega)) ?_
    exact bw [] ⟨rfl,rfl,rfl,rfl,rfl,trivial⟩<|by kernel_rfl
   ·skip
    have p2:=Zh e2
    refine aO<|aM<|aj [.w<|(k:Int)+1] [(10,i_<|(k:Int)+1)] (o1<|wj ((k:Int)+1)<|by omega)<|ei [(1,i_ m),(8,vS ae evs ce),(9,c_ evs.length),(10,i_<|(k:Int)+1),(5,i_ (aY (evs.take<|k+1) m:Int))] (by exact⟨rfl,rfl,rfl,rfl,congrArg (λz_=>some<|i_ z_) (by(rw[mK ‹_›,JE];simp_all<;>(try split)<;>omega):(aY (evs.take k) m:Int)=(aY (evs.take<|k+1) m:Int)),trivial⟩) ?_
    refine bN (k+1) (by omega) (by(simp;omega)) ?_
    exact bw [] ⟨rfl,rfl,rfl,rfl,rfl,trivial⟩<|by kernel_rfl
  ·skip
   have p1:=Zh e1
   refine bg<|aC<|aQ [(4,i_ (aY (evs.take k) m:Int))]<|aF<|fE [i_ (aY (evs.take k) m:Int)] (λ_ w r s=>⟨cw r rfl,trivial⟩) ?_
   show((i_ (aY (evs.take k) m:Int)):Value)=(i_ (aY evs m:Int))
   (rw[List.take_of_length_le<|by omega])
set_option maxHeartbeats 4000000 in
set_option maxRecDepth 100000 in
theorem Wh(al:k0)(l:List Cl)(cl:Nat)(a:Int)(hl:l.length≤100000)(w:World)(r0:dR w al (V.aP aX l))(hs:HI w []):
  CT Tryz.prog 16 #[vS al l cl,i_ a] w [] (λ(v:Int)=>(u_ v)) (λv=>v=0∨((v=4294967296∨ ∃x∈l,x.lc=v)∧oM l a v)) λ_=>[]:=by
 refine aU Tryz.func16 rfl hs ?_
 refine dW [(0,vS al l cl),(1,i_ a)] [] ⟨rfl,rfl,trivial⟩ rfl (aC<|aQ [(0,vS al l cl),(1,i_ a)]<|aC<|aQ [(5,u_ 4294967296)]<|bS<|aQ [(8,vS al l cl),(9,c_ l.length),(10,i_ 0)]<|aR<|fY (λ(zz:Nat×Int)=>match zz with|(k,v)=>[(1,i_ a),(8,vS al l cl),(9,c_ l.length),(10,c_ k),(5,u_ v)]) (λ(zz:Nat×Int)=>match zz with|(k,v)=>[]) (λ(zz:Nat×Int)=>match zz with|(k,v)=>(k≤l.length)∧(v=4294967296∨ ∃x∈l,x.lc=v)∧(oM (l.take k) a v)) (λ(zz:Nat×Int)=>match zz with|(k,v)=>l.length-k) (0,4294967296) ⟨(by omega),.inl rfl,(by(intro x hx;simp at hx))⟩ ?_ ?_)
 ·exact bw [] ⟨rfl,rfl,rfl,rfl,rfl,trivial⟩<|by kernel_rfl
 ·rintro⟨k,v⟩ ⟨hk,hv,hs⟩
  refine dW [(1,i_ a),(8,vS al l cl),(9,c_ l.length),(10,c_ k),(5,u_ v)] [] ⟨rfl,rfl,rfl,rfl,rfl,trivial⟩ rfl (aC<|aQ [(10,c_ k),(5,u_ v),(11,b_<|decide ((k:Int)<(l.length:Int)))]<|aD<|aL (E:=decide ((k:Int)<(l.length:Int))) rfl (λe1=>?_) (λe1=>?_))
  ·skip
   have p1:=Zg e1
   refine az<|aR<|aC<|jJ [.ix] [(12,.pointer<|some<|(au al).add (k*14))] (o1<|io (k:Int)<|dh fJ (by decide) (cL r0<|by simp[aN])<|by omega) ?_
   obtain⟨x1,hx1⟩: ∃x,(l)[k]? =some x:=⟨_,Ze<|by omega⟩
   refine iI [.rd<|aX x1,.al,.st 0] [1,8,9,10,5,7] (λb2=>[(1,i_ a),(8,vS al l cl),(9,c_ l.length),(10,c_ k),(5,u_ v),(7,p_ b2)]) (λb2=>[aA b2 (aX x1) 62]) (λb2=>[b2]) (λ_=>(λκ=>κ.rd ((au al).add (k*14)) (aX x1)∧True)) (λ_=>by kernel_rfl) (λb2=>⟨dr (vs:=(aX x1)) fJ (cL r0<|by simp[aN]) hx1 (Nat.le_of_ble_eq_true rfl) rfl,trivial⟩) ?_
   intro b2
   refine bS<|jK [.ld 0,.cq<|i_<|bD x1.ra x1.rb x1.rc,.o,.ld 0,.cq<|i_<|bD x1.ua x1.ub x1.uc,.cl] [(1,i_ a),(8,vS al l cl),(9,c_ l.length),(10,c_ k),(5,u_ v),(7,p_ b2),(23,b_<|(decide ((bD x1.ra x1.rb x1.rc)>1))||(decide ((bD x1.ua x1.ub x1.uc)>1)))] (oc (qw<|kD x1.ra x1.rb x1.rc)<|o1<|go (true&&((decide ((bD x1.ra x1.rb x1.rc)>1))==false)) λh_=>(qw<|kD x1.ua x1.ub x1.uc))<|aL (E:=(decide ((bD x1.ra x1.rb x1.rc)>1))||(decide ((bD x1.ua x1.ub x1.uc)>1))) rfl (λe2=>?_) (λe2=>?_)
   ·skip
    refine aC<|aQ [(4,u_ 0)] ?_
    refine aF<|cP [] [u_ 0] (λ_ w r s=>⟨cw r rfl,trivial⟩) (0) ?_ ?_<|by kernel_rfl
    ·rfl
    ·show 0=0∨((0=4294967296∨ ∃x∈l,x.lc=0)∧oM l a 0)
     exact .inl rfl
   ·skip
    refine aO<|bS<|aj [.ld 0,.o,.ld 0,.cq<|i_<|bD x1.la x1.lb x1.lc,.cl] [(33,b_<|(x1.hp !=a)||(decide ((bD x1.la x1.lb x1.lc)<2)))] (o1<|go (true&&((x1.hp !=a)==false)) λh_=>(qw<|kD x1.la x1.lb x1.lc)) ?_
    refine aL (E:=(x1.hp !=a)||(decide ((bD x1.la x1.lb x1.lc)<2))) rfl (λe3=>?_) (λe3=>?_)
    ·skip
     refine bg<|aM<|aj [.w<|(k:Int)+1] [(10,i_<|(k:Int)+1)] (o1<|wj ((k:Int)+1)<|by omega) ?_
     refine bN (k+1,v) ⟨(by omega),hv,(by(refine Dl hs ‹_› ?_ ?_ ?_<;>grind))⟩ (by(simp;omega)) ?_
     exact bw [] ⟨rfl,rfl,rfl,rfl,rfl,trivial⟩<|by kernel_rfl
    ·skip
     refine aO<|bS<|aj [.ld 0,.cq<|i_<|bD x1.la x1.lb x1.lc] [(37,b_<|(bD x1.la x1.lb x1.lc)!=2)] (o1<|qw<|kD x1.la x1.lb x1.lc) ?_
     refine aL (E:=(bD x1.la x1.lb x1.lc)!=2) rfl (λe4=>?_) (λe4=>?_)
     ·skip
      refine aC<|aQ [(4,u_ 0)] ?_
      refine aF<|cP [] [u_ 0] (λ_ w r s=>⟨cw r rfl,trivial⟩) (0) ?_ ?_<|by kernel_rfl
      ·rfl
      ·show 0=0∨((0=4294967296∨ ∃x∈l,x.lc=0)∧oM l a 0)
       exact .inl rfl
     ·skip
      refine aO<|aC<|bB [.ld 0] [(42,b_<|decide (x1.lc<v))] ?_
      refine aL (E:=decide (x1.lc<v)) rfl (λe5=>?_) (λe5=>?_)
      ·skip
       have p5:=Zg e5
       refine aM<|bB [.ld 0] [(5,u_ x1.lc)]<|(aM<|aj [.w<|(k:Int)+1] [(10,i_<|(k:Int)+1)] (o1<|wj ((k:Int)+1)<|by omega)<|bN (k+1,x1.lc) ⟨(by omega),.inr ⟨_,Zd ‹_›,rfl⟩,(by(refine Dl hs ‹_› ?_ ?_ ?_<;>grind))⟩ (by(simp;omega)) ?_)
       exact bw [] ⟨rfl,rfl,rfl,rfl,rfl,trivial⟩<|by kernel_rfl
      ·skip
       have p5:=Zh e5
       refine aO<|aM<|aj [.w<|(k:Int)+1] [(10,i_<|(k:Int)+1)] (o1<|wj ((k:Int)+1)<|by omega)<|bN (k+1,v) ⟨(by omega),hv,(by(refine Dl hs ‹_› ?_ ?_ ?_<;>grind))⟩ (by(simp;omega)) ?_
       exact bw [] ⟨rfl,rfl,rfl,rfl,rfl,trivial⟩<|by kernel_rfl
  ·skip
   have p1:=Zh e1
   refine bg<|aC<|aQ [(4,u_ v)]<|aF<|cP [] [u_ v] (λ_ w r s=>⟨cw r rfl,trivial⟩) (v) ?_ ?_<|by kernel_rfl
   ·rfl
   ·show v=0∨((v=4294967296∨ ∃x∈l,x.lc=v)∧oM l a v)
    exact .inr ⟨hv,by rw[List.take_of_length_le<|by omega] at hs;exact hs⟩
variable{x b:Int}
theorem Wi(h:0≤x∧x<9223372036854775808)(hb:0<b):IntKind.i64.wrap (x.tdiv b)=x/b:=by
 rw[Int.tdiv_eq_ediv_of_nonneg h.1]
 have h1:0≤x/b:=Int.ediv_nonneg h.1<|by omega
 have h2:x/b≤x:=Int.ediv_le_self _ h.1
 exact nB<|by omega
def dA(v:Int):Int:=v%4294967296
def dB(v:Int):Int:=v/4294967296%4294967296
def dC(v:Int):Int:=v/18446744073709551616%4294967296
def dD(v:Int):Int:=v/79228162514264337593543950336
theorem mQ(h:0≤x∧x<18446744073709551616)(hb:0<b):IntKind.u64.wrap (x.tdiv b)=x/b:=by
 rw[Int.tdiv_eq_ediv_of_nonneg h.1,IntKind.wrap_u64]
 have h1:=Int.ediv_nonneg h.1<|Int.le_of_lt hb
 have h2:=Int.ediv_le_self b h.1
 omega
theorem kB(h:0≤x):x.tmod b=x%b:=Int.tmod_eq_emod_of_nonneg h
theorem sH(h:0≤v∧v<bX):(0≤dA v∧dA v<4294967296)∧(0≤dB v∧dB v<4294967296)∧(0≤dC v∧dC v<4294967296)∧0≤dD v∧dD v<4294967296:=by
 unfold dA dB dC dD;unfold bX at h;omega
theorem sN(h:0≤v∧v<bX):v=dA v+dB v*4294967296+dC v*18446744073709551616+dD v*79228162514264337593543950336:=by
 unfold dA dB dC dD;unfold bX at h;omega
theorem YC{c d:Int}(ha:0≤a∧a<4294967296)(hb:0≤b∧b<4294967296)(hc:0≤c∧c<4294967296)(hd:0≤d∧d<4294967296)(h:v=a+b*4294967296+c*18446744073709551616+d*79228162514264337593543950336):a=dA v∧b=dB v∧c=dC v∧d=dD v:=by
 unfold dA dB dC dD;subst h;omega
theorem To(ha:0≤a∧a<bX)(hb:0≤b∧b<bX):(a<b)↔(dD a<dD b∨dD a=dD b∧(dC a<dC b∨dC a=dC b∧(dB a<dB b∨dB a=dB b∧dA a<dA b))):=by
 have e1:=sN ha;have e2:=sN hb
 have r1:=sH ha;have r2:=sH hb
 omega
def dg(v:Int):N4:=⟨dA v,dB v,dC v,dD v⟩
theorem sO{x:N4}(h1:0≤x.nn1∧x.nn1<4294967296)(h2:0≤x.nn2∧x.nn2<4294967296)(h3:0≤x.nn3∧x.nn3<4294967296)(h4:0≤x.nn4∧x.nn4<4294967296)(h:v=x.nn1+x.nn2*4294967296+x.nn3*18446744073709551616+x.nn4*79228162514264337593543950336):x=dg v:=by
 obtain⟨e1,e2,e3,e4⟩:=YC h1 h2 h3 h4 h
 cases x;unfold dg;simp only at*;rw[←e1,←e2,←e3,←e4]
theorem Wj(h:0≤v∧v<18446744073709551616):cM v=dg v:=by
 unfold cM;rw[mQ h<|by decide,kB h.1];exact sO (by simp only;omega) (by simp only;omega) (by simp) (by simp) (by simp only;omega)
theorem Tq{w:Int}(hv:0≤v∧v<18446744073709551616)(hw:0≤w∧w<18446744073709551616):iR v w=dg (v*18446744073709551616+w):=by
 unfold iR;rw[mQ hv<|by decide,mQ hw<|by decide,kB hv.1,kB hw.1];exact sO (by simp only;omega) (by simp only;omega) (by simp only;omega) (by simp only;omega) (by simp only;omega)
theorem Wl(h:0≤v∧v<bX):fX (dg v)=nH v:=by
 have e1:=sN h;have r1:=sH h
 unfold fX dg nH;dsimp only;rw[IntKind.wrap_u64,IntKind.wrap_u64];unfold bX at*;omega
theorem Wm(h:0≤v∧v<bX):eK (dg v)=nL v:=by
 have e1:=sN h;have r1:=sH h
 unfold eK dg nL;dsimp only;rw[IntKind.wrap_u64,IntKind.wrap_u64];unfold bX at*;omega
theorem RO(ha:0≤a∧a<bX)(hb:0≤b∧b<bX):km (dg a) (dg b)=decide (a<b):=by
 rw[Bool.eq_iff_iff,decide_eq_true_eq,To ha hb];unfold km dg;dsimp only;(repeat' split)<;>simp_all<;>omega
set_option maxHeartbeats 4000000 in
theorem xI(ha:0≤a∧a<bX)(hb:0≤b∧b<bX):bP (dg a) (dg b)=dg ((a+b)%340282366920938463463374607431768211456):=by
 have e1:=sN ha;have r1:=sH ha;have e2:=sN hb;have r2:=sH hb
 have s1:oS (dg a) (dg b)=dA a+dA b:=by unfold oS dg;dsimp only;rw[IntKind.wrap_u64,IntKind.wrap_u64];omega
 have o1:Be (dg a) (dg b)=(dA a+dA b)/4294967296:=by unfold Be;rw[s1,mQ (by omega)<|by decide]
 have s2:mf (dg a) (dg b)=dB a+dB b+(dA a+dA b)/4294967296:=by unfold mf;rw[o1];unfold dg;dsimp only;rw[IntKind.wrap_u64,IntKind.wrap_u64];omega
 have o2:Bf (dg a) (dg b)=mf (dg a) (dg b)/4294967296:=by unfold Bf;rw[mQ (by omega)<|by decide]
 have s3:nR (dg a) (dg b)=dC a+dC b+mf (dg a) (dg b)/4294967296:=by unfold nR;rw[o2];unfold dg at*;dsimp only;rw[IntKind.wrap_u64,IntKind.wrap_u64];omega
 have o3:yN (dg a) (dg b)=nR (dg a) (dg b)/4294967296:=by unfold yN;rw[mQ (by omega)<|by decide]
 have s4:oz (dg a) (dg b)=dD a+dD b+nR (dg a) (dg b)/4294967296:=by unfold oz;rw[o3];unfold dg at*;dsimp only;rw[IntKind.wrap_u64,IntKind.wrap_u64];omega
 have g:(a+b)%340282366920938463463374607431768211456=oS (dg a) (dg b)%4294967296+mf (dg a) (dg b)%4294967296*4294967296+nR (dg a) (dg b)%4294967296*18446744073709551616+oz (dg a) (dg b)%4294967296*79228162514264337593543950336:=by
  have g1:a+b=oS (dg a) (dg b)%4294967296+mf (dg a) (dg b)%4294967296*4294967296+nR (dg a) (dg b)%4294967296*18446744073709551616+oz (dg a) (dg b)%4294967296*79228162514264337593543950336+oz (dg a) (dg b)/4294967296*340282366920938463463374607431768211456:=by
   clear ha hb r1 r2 o1 o2 o3;generalize oS _ _=x1 at*;generalize mf _ _=x2 at*;generalize nR _ _=x3 at*;generalize oz _ _=x4 at*;generalize dA a=p1 at*;generalize dB a=p2 at*;generalize dC a=p3 at*;generalize dD a=p4 at*;generalize dA b=q1 at*;generalize dB b=q2 at*;generalize dC b=q3 at*;generalize dD b=q4 at*;omega
  rw[g1,Int.add_mul_emod_self_right];clear g1 s1 s2 s3 s4 o1 o2 o3 e1 e2 r1 r2 ha hb;generalize oS _ _=x1;generalize mf _ _=x2;generalize nR _ _=x3;generalize oz _ _=x4;omega
 have m: ∀{x:Int},0≤x%4294967296∧x%4294967296<4294967296:=λ{x}=>⟨Int.emod_nonneg _<|by decide,Int.emod_lt_of_pos _<|by decide⟩
 unfold bP;rw[kB<|by omega,kB<|by omega,kB<|by omega,kB<|by omega]
 exact sO m m m m g
theorem Yh:(⟨0,0,0,0⟩:N4)=dg 0:=rfl
set_option maxHeartbeats 4000000 in
theorem RP{y:Int}(hx:0≤x∧x<18446744073709551616)(hy:0≤y∧y<18446744073709551616):aw x y=dg (x*y):=by
 have e:=FB x y hx hy
 have hp: ∀{u v:Int},0≤u∧u<4294967296→0≤v∧v<4294967296→IntKind.u64.wrap (u*v)=u*v:=λhu hv=>by have:=nC hu hv;rw[IntKind.wrap_u64];omega
 have x1:(cM x).nn1=x%4294967296:=kB hx.1
 have x2:(cM x).nn2=x/4294967296:=mQ hx<|by decide
 have y1:(cM y).nn1=y%4294967296:=kB hy.1
 have y2:(cM y).nn2=y/4294967296:=mQ hy<|by decide
 have p1:=nC (x:=x%4294967296) (y:=y%4294967296) (by omega) (by omega);have p2:=nC (x:=x%4294967296) (y:=y/4294967296) (by omega) (by omega);have p3:=nC (x:=x/4294967296) (y:=y%4294967296) (by omega) (by omega);have p4:=nC (x:=x/4294967296) (y:=y/4294967296) (by omega)<|by omega
 have a1:sj x y=x%4294967296*(y%4294967296):=by unfold sj;rw[x1,y1,hp (by omega)<|by omega]
 have a2:sq x y=x%4294967296*(y/4294967296):=by unfold sq;rw[x1,y2,hp (by omega)<|by omega]
 have a3:tA x y=x/4294967296*(y%4294967296):=by unfold tA;rw[x2,y1,hp (by omega)<|by omega]
 have a4:rI x y=x/4294967296*(y/4294967296):=by unfold rI;rw[x2,y2,hp (by omega)<|by omega]
 have q1:qA x y=dg (sj x y):=by unfold qA;rw[mQ (by omega)<|by decide,kB<|by omega];exact sO (by dsimp only;omega) (by dsimp only;omega) (by simp) (by simp) (by dsimp only;omega)
 have q2:qB x y=dg (sq x y*4294967296):=by unfold qB;rw[mQ (by omega)<|by decide,kB<|by omega];exact sO (by simp) (by dsimp only;omega) (by dsimp only;omega) (by simp) (by dsimp only;omega)
 have q3:yO x y=dg (tA x y*4294967296):=by unfold yO;rw[mQ (by omega)<|by decide,kB<|by omega];exact sO (by simp) (by dsimp only;omega) (by dsimp only;omega) (by simp) (by dsimp only;omega)
 have q4:qD x y=dg (rI x y*18446744073709551616):=by unfold qD;rw[mQ (by omega)<|by decide,kB<|by omega];exact sO (by simp) (by simp) (by dsimp only;omega) (by dsimp only;omega) (by dsimp only;omega)
 unfold aw yP mB mA
 rw[q1,q2,q3,q4,Yh,xI (by unfold bX;omega) (by unfold bX;omega),xI (by unfold bX;omega) (by unfold bX;omega),xI (by unfold bX;omega) (by unfold bX;omega),xI (by unfold bX;omega) (by unfold bX;omega)]
 congr 1;rw[a1,a2,a3,a4];omega
abbrev dv(v:Int):Za:=[u_<|dA v,u_<|dB v,u_<|dC v,u_<|dD v]
abbrev dq(v:Int):Value:= .agg #[u_<|dA v,u_<|dB v,u_<|dC v,u_<|dD v]
def mG(a b:N4):Int:=(IntKind.u64.wrap<|(IntKind.u64.wrap<|(IntKind.u64.wrap<|a.nn1+4294967296)-b.nn1)-0)
def pC(a b:N4):Int:=(IntKind.u64.wrap<|1-(IntKind.u64.wrap<|(mG a b).tdiv 4294967296))
def mh(a b:N4):Int:=(IntKind.u64.wrap<|(IntKind.u64.wrap<|(IntKind.u64.wrap<|a.nn2+4294967296)-b.nn2)-(pC a b))
def pD(a b:N4):Int:=(IntKind.u64.wrap<|1-(IntKind.u64.wrap<|(mh a b).tdiv 4294967296))
def nT(a b:N4):Int:=(IntKind.u64.wrap<|(IntKind.u64.wrap<|(IntKind.u64.wrap<|a.nn3+4294967296)-b.nn3)-(pD a b))
def pE(a b:N4):Int:=(IntKind.u64.wrap<|1-(IntKind.u64.wrap<|(nT a b).tdiv 4294967296))
def oU(a b:N4):Int:=(IntKind.u64.wrap<|(IntKind.u64.wrap<|(IntKind.u64.wrap<|a.nn4+4294967296)-b.nn4)-(pE a b))
def Gi(a b:N4):Int:=(IntKind.u64.wrap<|1-(IntKind.u64.wrap<|(oU a b).tdiv 4294967296))
def lR(a b:N4):N4:=⟨(mG a b).tmod 4294967296,(mh a b).tmod 4294967296,(nT a b).tmod 4294967296,(oU a b).tmod 4294967296⟩
set_option maxHeartbeats 4000000 in
set_option maxRecDepth 100000 in
theorem Wn(a b:N4)(w:World):
  Calls Tryz.prog 39 #[(.agg (dI a).toArray),(.agg (dI b).toArray)] w λe w'=>e= .returned (.agg #[u_<|(lR a b).nn1,u_<|(lR a b).nn2,u_<|(lR a b).nn3,u_<|(lR a b).nn4])∧Fr [] w w':=by
 refine IN (args:=[(.agg (dI a).toArray),(.agg (dI b).toArray)]) (uO [(.agg (dI a).toArray),(.agg (dI b).toArray)]) [] [] Tryz.func39 rfl rfl (Cc _) (HS.nil w) ?_
 refine dW [(0,(.agg (dI a).toArray)),(1,(.agg (dI b).toArray))] [] (by exact⟨rfl,rfl,trivial⟩) rfl ?_
 refine aD<|aM<|nW [.al,.al,.al] [2,3,4] (λb1 b2 b3=>[(2,p_ b1),(3,p_ b2),(4,p_ b3)]) (λb1 b2 b3=>[aA b1 (dI a) 69,aA b2 (dI b) 69,aA b3 [u_ 0,u_ 0,u_ 0,u_ 0] 69]) (λb1 b2 b3=>[]) (λ_ _ _=>T0) (λ_ _ _=>by kernel_rfl) (λb1 b2 b3=>trivial) ?_
 intro b1 b2 b3
 refine eF<|aD<|aM<|iI [.p,.al,.st 3] [2,3,4,5] (λb4=>[(2,p_ b1),(3,p_ b2),(4,p_ b3),(5,p_ b4)]) (λb4=>[aA b1 (dI a) 69,aA b2 (dI b) 69,aA b3 [u_ 0,u_ 0,u_ 0,u_ 0] 69,aA b4 [u_ 0,u_ 0,u_ 0,u_ 0] 69]) (λb4=>[b4]) (λ_=>T0) (λ_=>by kernel_rfl) (λb4=>trivial) ?_
 intro b4
 refine eF<|aD<|aM<|kO [.p] [(2,p_ b1),(3,p_ b2),(4,p_ b3),(5,p_ b4),(6,u_ 0)] [] T0 (by kernel_rfl) trivial ?_
 refine eF<|aD<|aD<|aM<|kO [.p] [(2,p_ b1),(3,p_ b2),(4,p_ b3),(5,p_ b4),(6,u_ 0),(10,i_ 0)] [] T0 (by kernel_rfl) trivial ?_
 refine eF<|aR<|i4 400 ?_
 refine cd (m:=399) ?_
 refine aD<|aM<|kO [.p] [(2,p_ b1),(3,p_ b2),(4,p_ b3),(5,p_ b4),(6,u_ 0),(10,i_ 0),(11,b_ true)] [] T0 (by kernel_rfl) trivial ?_
 refine eF<|aD<|iw rfl (aO<|eF<|aD<|aR<|aD<|aM<|kO [.p,.p] [(2,p_ b1),(3,p_ b2),(4,p_ b3),(5,p_ b4),(6,u_ 0),(10,i_ 0),(7,i_ 0)] [] T0 (by kernel_rfl) trivial ?_)
 refine eF<|aD<|mH [.p,.p,.ld 0,.p,.p,.p,.ld 1,.p,.p,.p,.p] [0,1,2,3,4,5,6,7,8,9,10] [(2,p_ b1),(3,p_ b2),(4,p_ b3),(5,p_ b4),(10,i_ 0),(7,i_ 0),(8,u_<|mG a b)] [b1,b2] T0 (by kernel_rfl) (by kernel_rfl) trivial ?_
 refine eF<|aD<|aM<|wM [.p,.p,.p,.p,.st 3] [(2,p_ b1),(3,p_ b2),(4,p_ b3),(5,p_ b4),(10,i_ 0),(8,u_<|mG a b)] [aA b1 (dI a) 69,aA b2 (dI b) 69,aA b3 [u_ 0,u_ 0,u_ 0,u_ 0] 69,aA b4 [u_<|(mG a b).tmod 4294967296,u_ 0,u_ 0,u_ 0] 69] [b4] T0 (by kernel_rfl) trivial ?_
 refine eF<|aM<|kO [.p,.p,.p,.p] [(2,p_ b1),(3,p_ b2),(4,p_ b3),(5,p_ b4),(10,i_ 0),(6,u_<|pC a b)] [] T0 (by kernel_rfl) trivial ?_
 refine yW<|eF<|aM<|kO [.p,.p] [(2,p_ b1),(3,p_ b2),(4,p_ b3),(5,p_ b4),(10,i_ 1),(6,u_<|pC a b)] [] T0 (by kernel_rfl) trivial ?_
 refine eF<|cd (m:=398) ?_
 refine aD<|aM<|kO [.p] [(2,p_ b1),(3,p_ b2),(4,p_ b3),(5,p_ b4),(10,i_ 1),(6,u_<|pC a b),(11,b_ true)] [] T0 (by kernel_rfl) trivial ?_
 refine eF<|aD<|iw rfl (aO<|eF<|aD<|aR<|aD<|aM<|kO [.p,.p] [(2,p_ b1),(3,p_ b2),(4,p_ b3),(5,p_ b4),(10,i_ 1),(6,u_<|pC a b),(7,i_ 1)] [] T0 (by kernel_rfl) trivial ?_)
 refine eF<|aD<|mH [.p,.p,.ld 0,.p,.p,.p,.ld 1,.p,.p,.p,.p] [0,1,2,3,4,5,6,7,8,9,10] [(2,p_ b1),(3,p_ b2),(4,p_ b3),(5,p_ b4),(10,i_ 1),(7,i_ 1),(8,u_<|mh a b)] [b1,b2] T0 (by kernel_rfl) (by kernel_rfl) trivial ?_
 refine eF<|aD<|aM<|wM [.p,.p,.p,.p,.st 3] [(2,p_ b1),(3,p_ b2),(4,p_ b3),(5,p_ b4),(10,i_ 1),(8,u_<|mh a b)] [aA b1 (dI a) 69,aA b2 (dI b) 69,aA b3 [u_ 0,u_ 0,u_ 0,u_ 0] 69,aA b4 [u_<|(mG a b).tmod 4294967296,u_<|(mh a b).tmod 4294967296,u_ 0,u_ 0] 69] [b4] T0 (by kernel_rfl) trivial ?_
 refine eF<|aM<|kO [.p,.p,.p,.p] [(2,p_ b1),(3,p_ b2),(4,p_ b3),(5,p_ b4),(10,i_ 1),(6,u_<|pD a b)] [] T0 (by kernel_rfl) trivial ?_
 refine yW<|eF<|aM<|kO [.p,.p] [(2,p_ b1),(3,p_ b2),(4,p_ b3),(5,p_ b4),(10,i_ 2),(6,u_<|pD a b)] [] T0 (by kernel_rfl) trivial ?_
 refine eF<|cd (m:=397) ?_
 refine aD<|aM<|kO [.p] [(2,p_ b1),(3,p_ b2),(4,p_ b3),(5,p_ b4),(10,i_ 2),(6,u_<|pD a b),(11,b_ true)] [] T0 (by kernel_rfl) trivial ?_
 refine eF<|aD<|iw rfl (aO<|eF<|aD<|aR<|aD<|aM<|kO [.p,.p] [(2,p_ b1),(3,p_ b2),(4,p_ b3),(5,p_ b4),(10,i_ 2),(6,u_<|pD a b),(7,i_ 2)] [] T0 (by kernel_rfl) trivial ?_)
 refine eF<|aD<|mH [.p,.p,.ld 0,.p,.p,.p,.ld 1,.p,.p,.p,.p] [0,1,2,3,4,5,6,7,8,9,10] [(2,p_ b1),(3,p_ b2),(4,p_ b3),(5,p_ b4),(10,i_ 2),(7,i_ 2),(8,u_<|nT a b)] [b1,b2] T0 (by kernel_rfl) (by kernel_rfl) trivial ?_
 refine eF<|aD<|aM<|wM [.p,.p,.p,.p,.st 3] [(2,p_ b1),(3,p_ b2),(4,p_ b3),(5,p_ b4),(10,i_ 2),(8,u_<|nT a b)] [aA b1 (dI a) 69,aA b2 (dI b) 69,aA b3 [u_ 0,u_ 0,u_ 0,u_ 0] 69,aA b4 [u_<|(mG a b).tmod 4294967296,u_<|(mh a b).tmod 4294967296,u_<|(nT a b).tmod 4294967296,u_ 0] 69] [b4] T0 (by kernel_rfl) trivial ?_
 refine eF<|aM<|kO [.p,.p,.p,.p] [(2,p_ b1),(3,p_ b2),(4,p_ b3),(5,p_ b4),(10,i_ 2),(6,u_<|pE a b)] [] T0 (by kernel_rfl) trivial ?_
 refine yW<|eF<|aM<|kO [.p,.p] [(2,p_ b1),(3,p_ b2),(4,p_ b3),(5,p_ b4),(10,i_ 3),(6,u_<|pE a b)] [] T0 (by kernel_rfl) trivial ?_
 refine eF<|cd (m:=396) ?_
 refine aD<|aM<|kO [.p] [(2,p_ b1),(3,p_ b2),(4,p_ b3),(5,p_ b4),(10,i_ 3),(6,u_<|pE a b),(11,b_ true)] [] T0 (by kernel_rfl) trivial ?_
 refine eF<|aD<|iw rfl (aO<|eF<|aD<|aR<|aD<|aM<|kO [.p,.p] [(2,p_ b1),(3,p_ b2),(4,p_ b3),(5,p_ b4),(10,i_ 3),(6,u_<|pE a b),(7,i_ 3)] [] T0 (by kernel_rfl) trivial ?_)
 refine eF<|aD<|mH [.p,.p,.ld 0,.p,.p,.p,.ld 1,.p,.p,.p,.p] [0,1,2,3,4,5,6,7,8,9,10] [(2,p_ b1),(3,p_ b2),(4,p_ b3),(5,p_ b4),(10,i_ 3),(7,i_ 3),(8,u_<|oU a b)] [b1,b2] T0 (by kernel_rfl) (by kernel_rfl) trivial ?_
 refine eF<|aD<|aM<|wM [.p,.p,.p,.p,.st 3] [(2,p_ b1),(3,p_ b2),(4,p_ b3),(5,p_ b4),(10,i_ 3),(8,u_<|oU a b)] [aA b1 (dI a) 69,aA b2 (dI b) 69,aA b3 [u_ 0,u_ 0,u_ 0,u_ 0] 69,aA b4 (dI<|lR a b) 69] [b4] T0 (by kernel_rfl) trivial ?_
 refine eF<|aM<|kO [.p,.p,.p,.p] [(2,p_ b1),(3,p_ b2),(4,p_ b3),(5,p_ b4),(10,i_ 3),(6,u_<|Gi a b)] [] T0 (by kernel_rfl) trivial ?_
 refine yW<|eF<|aM<|kO [.p,.p] [(2,p_ b1),(3,p_ b2),(4,p_ b3),(5,p_ b4),(10,i_ 4),(6,u_<|Gi a b)] [] T0 (by kernel_rfl) trivial ?_
 refine eF<|cd (m:=395) ?_
 refine aD<|aM<|kO [.p] [(2,p_ b1),(3,p_ b2),(4,p_ b3),(5,p_ b4),(10,i_ 4),(6,u_<|Gi a b),(11,b_ false)] [] T0 (by kernel_rfl) trivial ?_
 refine eF<|aD<|oW rfl (bg<|qO<|qO<|Bn<|eF<|aD<|aM<|wM [.ld 3,.st 2] [(4,p_ b3)] [aA b1 (dI a) 69,aA b2 (dI b) 69,aA b3 (dI<|lR a b) 69,aA b4 (dI<|lR a b) 69] [b4,b3] T0 (by kernel_rfl) trivial ?_)
 refine eF<|aF<|fE [(.agg (dI<|lR a b).toArray)] (λaa ww rr ss=>⟨tQ (vs:=(dI<|lR a b)) rr ss rfl (by kernel_rfl) (jL (i:=2) rfl rfl),trivial⟩) ?_
 show((.agg (dI<|lR a b).toArray):Value)=(.agg #[u_<|(lR a b).nn1,u_<|(lR a b).nn2,u_<|(lR a b).nn3,u_<|(lR a b).nn4])
 first|rfl|simp_all
abbrev uK(p0):=((dq<|p0):Value)
theorem zR(v:Int)(hv:0≤v∧v<18446744073709551616)(w:World):CW 55 #[u_ v] w (uK v):=by
 have h:=xw v w;rw[Wj hv] at h;exact h
theorem Px(h l:Int)(hh:0≤h∧h<18446744073709551616)(hl:0≤l∧l<18446744073709551616)(w:World):CW 58 #[u_ h,u_ l] w (dq<|h*18446744073709551616+l):=by
 have h1:=Ls h l w;rw[Tq hh hl] at h1;exact h1
theorem JF(a:Int)(ha:0≤a∧a<bX)(w:World):CW 56 #[uK a] w (u_<|nH a):=by
 have h:=NS (dg a) w;rw[Wl ha] at h;exact h
theorem zS(a:Int)(ha:0≤a∧a<bX)(w:World):CW 57 #[uK a] w (u_<|nL a):=by
 have h:=GU (dg a) w;rw[Wm ha] at h;exact h
theorem Cb(a b:Int)(ha:0≤a∧a<bX)(hb:0≤b∧b<bX)(w:World):CW 21 #[uK a,uK b] w (b_<|decide (a<b)):=by
 have h:=KD (dg a) (dg b) w;rw[RO ha hb] at h;exact h
theorem yd(a b:Int)(ha:0≤a∧a<bX)(hb:0≤b∧b<bX)(w:World):CW 54 #[uK a,uK b] w (dq<|(a+b)%340282366920938463463374607431768211456):=by
 have h:=pX (dg a) (dg b) w;rw[xI ha hb] at h;exact h
theorem u9(x y:Int)(hx:0≤x∧x<18446744073709551616)(hy:0≤y∧y<18446744073709551616)(w:World):CW 37 #[u_ x,u_ y] w (dq<|x*y):=by
 have h:=uF x y w;rw[RP hx hy] at h;exact h
def jY(v:Int):Int:=if v<18446744073709551616 then v else 0
def rJ(v:Int):Int:=if v<18446744073709551616 then 0 else 20
def cu(a b:Int):Int:=if a%b=0 then a/b else a/b+1
def gg(a i:Int):Int:=a/2^i.toNat%2
def dK(a:Int)(k:Nat):Int:=a/4294967296^k%4294967296
theorem NX(ha:0≤a∧a<bX)(hb:0<b):0≤a/b∧a/b<bX:=
 ⟨Int.ediv_nonneg ha.1<|Int.le_of_lt hb,Int.lt_of_le_of_lt (Int.ediv_le_self _ ha.1) ha.2⟩
theorem Wp(ha:0≤a∧a<bX)(hb:0<b):0≤cu a b∧cu a b<bX:=by
 obtain⟨h1,h2⟩:=NX ha hb
 unfold cu;split
 ·exact⟨h1,h2⟩
 ·rename_i h
  refine⟨by omega,?_⟩
  by_cases h0:b=1
  ·subst h0;simp at h
  ·have:a/b≤a/2:=by
    exact(Int.le_ediv_iff_mul_le<|by decide).2 (by
     have h3:=Int.ediv_mul_le a (b:=b)<|by omega
     have h4:a/b*2≤a/b*b:=Int.mul_le_mul_of_nonneg_left (by omega) h1
     omega)
   have ha2:=ha.2;unfold bX at*;omega
theorem Nh(h:0≤v∧v<bX):(nH v=0↔v<18446744073709551616)∧(v<18446744073709551616→nL v=v):=by
 unfold nH nL bX at*;omega
theorem YD(a:Int)(h:0≤a∧a<bX):dK a 0=dA a∧dK a 1=dB a∧dK a 2=dC a∧dK a 3=dD a:=by
 unfold dK dA dB dC dD;unfold bX at h;simp;omega
theorem MU(a:Int)(k:Nat):0≤dK a k∧dK a k<4294967296:=by unfold dK;omega
variable{w0:World}{S:E6}{H:List V.aI}{t:TypeId}
theorem Py{j b:Nat}(hi:H[j]? =some (aA b (dv a) t))(ha:0≤a∧a<bX)(hk:k<4):mR w0 S H ⟨b,k,none⟩ [u_<|dK a k]:=by
 obtain⟨h0,h1,h2,h3⟩:=YD a ha
 have:k=0∨k=1∨k=2∨k=3:=by omega
 rcases this with rfl|rfl|rfl|rfl
 ·rw[h0];exact jL hi rfl
 ·rw[h1];exact jL hi rfl
 ·rw[h2];exact jL hi rfl
 ·rw[h3];exact jL hi rfl
theorem Wq{P:Program}{n b m:Nat}{env:aT}{o:Oper}{x y:Operand}{el:TypeId}{k:IntKind}{e:Int}(ho:o.op= .indexAddr t x y)(hx:ev env x=some (.pointer<|some ⟨b,0,none⟩))(hy:ev env y=some (.int k e))
  (ht:P.underlying t=some (.array m el))(hs:(P.info? el).map (·.size)=some 1)(hi:0≤e∧e<(m:Int)):Qt P n env w0 S H o (.pointer<|some ⟨b,e.toNat,none⟩):=
 gr λa w r _=>by
  simp only[Option.map_eq_some_iff] at hs
  obtain⟨i,hinf,hsz⟩:=hs
  simp[execOp,ho,r.ev hx,r.ev hy,Instr.indexAt,asIntOf,run_underlying ht,Instr.sureAddr,sizeOf,typeInfo,hinf,hi,hsz,oZ]
theorem Pz(h:0≤v)(j:Nat):v/2^j/2=v/2^(j+1):=by
 rw[Int.pow_succ,Int.ediv_ediv_of_nonneg<|Int.le_of_lt<|Int.pow_pos<|by decide]
theorem QA(h:0≤v∧v<4294967296)(j:Nat):0≤v/2^j∧v/2^j<4294967296:=
 ⟨Int.ediv_nonneg h.1<|Int.le_of_lt<|Int.pow_pos<|by decide,Int.lt_of_le_of_lt (Int.ediv_le_self _ h.1) h.2⟩
theorem Tt(hi:0≤i∧i<128):dK a (i/32).toNat/2^(i%32).toNat%2=gg a i:=by
 unfold dK gg
 have e:i.toNat=(i/32).toNat*32+(i%32).toNat:=by omega
 have e2:(4294967296:Int)=2^32:=by decide
 generalize(i/32).toNat=p at*
 have hq:(i%32).toNat<32:=by omega
 generalize(i%32).toNat=q at*
 rw[e,e2,←Int.pow_mul,Int.pow_add,←Int.ediv_ediv_of_nonneg (Int.le_of_lt<|Int.pow_pos<|by decide),Nat.mul_comm 32 p]
 generalize a/2^(p*32)=y
 have hs:(2:Int)^32=2^(q+1)*2^(31-q):=by rw[←Int.pow_add];congr 1;omega
 have h1:y%2^32=y-2^32*(y/2^32):=by have:=Int.emod_add_mul_ediv y<|2^32;omega
 rw[h1,hs]
 have h3:y-2^(q+1)*2^(31-q)*(y/(2^(q+1)*2^(31-q)))=y+2^q*(-(2*(2^(31-q)*(y/(2^(q+1)*2^(31-q)))))):=by
  rw[Int.pow_succ];grind
 rw[h3,Int.add_mul_ediv_left _ _ (by have:(0:Int)<2^q:=Int.pow_pos (by decide);omega)]
 omega
theorem RQ{A q r t:Int}(hb:0<b)(hA:A=2*(q*b+r)+t)(hr:0≤r∧r<b)(ht:0≤t∧t≤1):
  (2*r+t<b→A/b=2*q∧A%b=2*r+t)∧(¬2*r+t<b→A/b=2*q+1∧A%b=2*r+t-b):=by
 have h1:A=(2*r+t)+b*(2*q):=by rw[hA];grind
 have h2:A=(2*r+t-b)+b*(2*q+1):=by rw[hA];grind
 constructor
 ·intro h
  have:=(Int.ediv_emod_unique (a:=A) (b:=b) (r:=2*r+t) (q:=2*q) hb).2 ⟨h1.symm,by omega,h⟩
  exact this
 ·intro h
  have:=(Int.ediv_emod_unique (a:=A) (b:=b) (r:=2*r+t-b) (q:=2*q+1) hb).2 ⟨h2.symm,by omega,by omega⟩
  exact this
def cU(a:Int)(k:Nat):Int:=a/2^(128-k)
theorem NY(h:0≤a∧a<bX):cU a 0=0:=by unfold cU;exact Int.ediv_eq_zero_of_lt h.1 (by unfold bX at h;have:=h.2;simpa using this)
theorem Tu(a:Int):cU a 128=a:=by simp[cU]
theorem KO(h:0≤a∧a<bX)(k:Nat):0≤cU a k∧cU a k≤a:=⟨Int.ediv_nonneg h.1<|Int.le_of_lt<|Int.pow_pos<|by decide,Int.ediv_le_self _ h.1⟩
theorem RR(hk:k<128):cU a (k+1)=2*cU a k+gg a (127-(k:Int)):=by
 unfold cU gg
 have e1:(127-(k:Int)).toNat=128-(k+1):=by omega
 have e2:128-k=(128-(k+1))+1:=by omega
 have e3:a/2^(128-(k+1))/2=a/2^(128-(k+1)+1):=by
  rw[Int.pow_succ,Int.ediv_ediv_of_nonneg<|Int.le_of_lt<|Int.pow_pos<|by decide]
 rw[e1,e2,←e3]
 omega
theorem KP(a i:Int):0≤gg a i∧gg a i≤1:=by unfold gg;omega
theorem Ws(hb:0<b)(hk:k<128):
  (2*(cU a k%b)+gg a (127-(k:Int))<b→cU a (k+1)/b=2*(cU a k/b)∧cU a (k+1)%b=2*(cU a k%b)+gg a (127-(k:Int)))∧
  (¬2*(cU a k%b)+gg a (127-(k:Int))<b→cU a (k+1)/b=2*(cU a k/b)+1∧cU a (k+1)%b=2*(cU a k%b)+gg a (127-(k:Int))-b):=by
 refine RQ hb ?_ ⟨Int.emod_nonneg _<|by omega,Int.emod_lt_of_pos _ hb⟩<|KP _ _
 rw[RR hk]
 have:=Int.emod_add_mul_ediv (cU a k) b
 have h2:cU a k/b*b+cU a k%b=cU a k:=by rw[Int.mul_comm];omega
 rw[h2]
theorem RU(ha:0≤a∧a<bX)(hb:0≤b∧b<bX):lR (dg a) (dg b)=dg ((a-b)%340282366920938463463374607431768211456):=by
 have e1:=sN ha;have r1:=sH ha;have e2:=sN hb;have r2:=sH hb
 have td: ∀{x:Int},0≤x∧x<18446744073709551616→IntKind.u64.wrap (x.tdiv 4294967296)=x/4294967296:=λh=>mQ h<|by decide
 have s1:mG (dg a) (dg b)=dA a+4294967296-dA b:=by unfold mG dg;dsimp only;rw[IntKind.wrap_u64,IntKind.wrap_u64,IntKind.wrap_u64];omega
 have t1:pC (dg a) (dg b)=1-mG (dg a) (dg b)/4294967296:=by unfold pC;rw[td<|by omega,IntKind.wrap_u64];omega
 have s2:mh (dg a) (dg b)=dB a+4294967296-dB b-pC (dg a) (dg b):=by
  have:0≤pC (dg a) (dg b)∧pC (dg a) (dg b)≤1:=by omega
  unfold mh;generalize pC (dg a) (dg b)=t at*;unfold dg;dsimp only;rw[IntKind.wrap_u64,IntKind.wrap_u64,IntKind.wrap_u64];omega
 have t2:pD (dg a) (dg b)=1-mh (dg a) (dg b)/4294967296:=by unfold pD;rw[td<|by omega,IntKind.wrap_u64];omega
 have s3:nT (dg a) (dg b)=dC a+4294967296-dC b-pD (dg a) (dg b):=by
  have:0≤pD (dg a) (dg b)∧pD (dg a) (dg b)≤1:=by omega
  unfold nT;generalize pD (dg a) (dg b)=t at*;unfold dg;dsimp only;rw[IntKind.wrap_u64,IntKind.wrap_u64,IntKind.wrap_u64];omega
 have t3:pE (dg a) (dg b)=1-nT (dg a) (dg b)/4294967296:=by unfold pE;rw[td<|by omega,IntKind.wrap_u64];omega
 have s4:oU (dg a) (dg b)=dD a+4294967296-dD b-pE (dg a) (dg b):=by
  have:0≤pE (dg a) (dg b)∧pE (dg a) (dg b)≤1:=by omega
  unfold oU;generalize pE (dg a) (dg b)=t at*;unfold dg;dsimp only;rw[IntKind.wrap_u64,IntKind.wrap_u64,IntKind.wrap_u64];omega
 have p:0≤mG (dg a) (dg b)∧0≤mh (dg a) (dg b)∧0≤nT (dg a) (dg b)∧0≤oU (dg a) (dg b):=by clear e1 e2;refine⟨?_,?_,?_,?_⟩<;>omega
 have g:(a-b)%340282366920938463463374607431768211456=mG (dg a) (dg b)%4294967296+mh (dg a) (dg b)%4294967296*4294967296+nT (dg a) (dg b)%4294967296*18446744073709551616+oU (dg a) (dg b)%4294967296*79228162514264337593543950336:=by
  have g1:a-b=mG (dg a) (dg b)%4294967296+mh (dg a) (dg b)%4294967296*4294967296+nT (dg a) (dg b)%4294967296*18446744073709551616+oU (dg a) (dg b)%4294967296*79228162514264337593543950336+(oU (dg a) (dg b)/4294967296-1)*340282366920938463463374607431768211456:=by
   rw[t1] at s2;rw[t2] at s3;rw[t3] at s4
   clear ha hb r1 r2 t1 t2 t3 p td;generalize mG _ _=x1 at*;generalize mh _ _=x2 at*;generalize nT _ _=x3 at*;generalize oU _ _=x4 at*;generalize dA a=p1 at*;generalize dB a=p2 at*;generalize dC a=p3 at*;generalize dD a=p4 at*;generalize dA b=q1 at*;generalize dB b=q2 at*;generalize dC b=q3 at*;generalize dD b=q4 at*;have m1:=Int.mul_ediv_add_emod x1 4294967296;have m2:=Int.mul_ediv_add_emod x2 4294967296;have m3:=Int.mul_ediv_add_emod x3 4294967296;have m4:=Int.mul_ediv_add_emod x4 4294967296;generalize x1/4294967296=y1 at*;generalize x1%4294967296=z1 at*;generalize x2/4294967296=y2 at*;generalize x2%4294967296=z2 at*;generalize x3/4294967296=y3 at*;generalize x3%4294967296=z3 at*;generalize x4/4294967296=y4 at*;generalize x4%4294967296=z4 at*;omega
  rw[g1,Int.add_mul_emod_self_right];clear g1 s1 s2 s3 s4 t1 t2 t3 e1 e2 r1 r2 ha hb p td;generalize mG _ _=x1;generalize mh _ _=x2;generalize nT _ _=x3;generalize oU _ _=x4;omega
 have m: ∀{x:Int},0≤x%4294967296∧x%4294967296<4294967296:=λ{x}=>⟨Int.emod_nonneg _<|by decide,Int.emod_lt_of_pos _<|by decide⟩
 unfold lR;rw[kB p.1,kB p.2.1,kB p.2.2.1,kB p.2.2.2]
 exact sO m m m m g
theorem CY(a b:Int)(ha:0≤a∧a<bX)(hb:0≤b∧b<bX)(w:World):CW 39 #[(dq a),(dq b)] w (dq<|(a-b)%340282366920938463463374607431768211456):=by
 have h:=Wn (dg a) (dg b) w;rw[RU ha hb] at h;exact h
set_option maxHeartbeats 4000000 in
set_option maxRecDepth 100000 in
theorem Dm(a b:Int)(ha:0≤a∧a<bX)(hb:0≤b∧b<18446744073709551616)(w:World):
  CQ Tryz.prog 85 #[(dq a),u_ b] w (dq<|(2*a+b)%340282366920938463463374607431768211456):=by
 refine aU Tryz.func85 rfl (HS.nil w) ?_
 refine dW [(0,(dq a)),(1,u_ b)] [] ⟨rfl,rfl,trivial⟩ rfl (aC<|wK [.al,.al] [1,2,4] (λb1 b2=>[(1,u_ b),(2,p_ b1),(4,p_ b2)]) (λb1 b2=>[aA b1 (dv a) 69,aA b2 [u_ 0,u_ 0,u_ 0,u_ 0] 69]) (λb1 b2=>[]) (λ_ _=>T0) (λ_ _=>by kernel_rfl) (λb1 b2=>trivial) ?_)
 intro b1 b2
 refine aC<|gJ [.ld 0,.ld 0,.cq<|dq<|(a+a)%340282366920938463463374607431768211456,.cq<|dq b,.cq<|dq<|(((a+a)%340282366920938463463374607431768211456)+b)%340282366920938463463374607431768211456,.st 1] [] [(4,p_ b2)] [(1,aA b2 (dv<|(((a+a)%340282366920938463463374607431768211456)+b)%340282366920938463463374607431768211456) 69)] (oc (qo<|λw s=>yd a a ‹_› ‹_› w)<|oc (qo<|λw s=>zR b ‹_› w)<|o1<|qw<|yd ((a+a)%340282366920938463463374607431768211456) b (by(unfold bX at*;omega))<|by(unfold bX at*;omega))<|aF<|ez 1 (dv<|(((a+a)%340282366920938463463374607431768211456)+b)%340282366920938463463374607431768211456) ?_
 show((dq<|(((a+a)%340282366920938463463374607431768211456)+b)%340282366920938463463374607431768211456):Value)=(dq<|(2*a+b)%340282366920938463463374607431768211456)
 have hV_:((((a+a)%340282366920938463463374607431768211456)+b)%340282366920938463463374607431768211456)=((2*a+b)%340282366920938463463374607431768211456):=(by omega);rw[hV_]
set_option maxHeartbeats 4000000 in
set_option maxRecDepth 100000 in
theorem QB(a i:Int)(ha:0≤a∧a<bX)(hi:0≤i∧i<128)(w:World):
  CQ Tryz.prog 86 #[(dq a),i_ i] w (u_<|gg a i):=by
 refine aU Tryz.func86 rfl (HS.nil w) ?_
 refine dW [(0,(dq a)),(1,i_ i)] [] ⟨rfl,rfl,trivial⟩ rfl (aC<|dM [.al] [] (λb1=>[(1,i_ i),(2,p_ b1)]) (λ_=>[]) (λb1=>aA b1 (dv a) 69) ?_)
 intro b1
 refine eF<|aD<|aM<|Gk [.p,.w<|i/32] [(1,i_ i),(2,p_ b1),(7,i_<|i/32)] [] (λκ=>(IntKind.i64.wrap (i.tdiv 32)=i/32)∧True) (by kernel_rfl) ⟨Wi (by omega)<|by decide,trivial⟩ ?_
 refine aG<|Bj (some 8) (q_ b1<|(i/32).toNat) (by kernel_rfl) (Wq (m:=4) (el:=40) rfl rfl rfl (by kernel_rfl) (by kernel_rfl) ⟨by omega,by omega⟩) ?_
 refine aj [.rd [u_<|dK a (i/32).toNat]] [(5,u_<|dK a (i/32).toNat)] (o1<|ro ⟨b1,(i/32).toNat,none⟩ (vs:=[u_<|dK a (i/32).toNat])<|Py (j:=0) rfl ha (by omega)) ?_
 refine eF<|aD<|aD<|aM<|k9 [.p] [(5,u_<|dK a (i/32).toNat),(10,i_ i)] ?_
 refine aG<|Bj (some 11) (i_<|i%32) (by kernel_rfl) (jC (congrArg (Value.int .i64)<|kB<|by omega)<|jM (v:= .int .i64 (i.tmod 32)) (by kernel_rfl) λ_=>by kernel_rfl) ?_
 refine da [.p] [(5,u_<|dK a (i/32).toNat),(11,i_<|i%32),(12,i_ 0)] ?_
 refine eF<|aR<|ei [(5,u_<|dK a (i/32).toNat/2^0),(11,i_<|i%32),(12,i_ 0)] (by exact⟨congrArg (λz_=>some<|u_ z_) (by(simp;done):(dK a (i/32).toNat)=(dK a (i/32).toNat/2^0)),rfl,rfl,trivial⟩) ?_
 refine fY (λ(zz:Nat)=>match zz with|j=>[(11,i_<|i%32),(12,c_ j),(5,u_<|dK a (i/32).toNat/2^j)]) (λ(zz:Nat)=>match zz with|j=>[aA b1 (dv a) 69]) (λ(zz:Nat)=>match zz with|j=>((j:Int)≤i%32)) (λ(zz:Nat)=>match zz with|j=>(i%32).toNat-j) (0:Nat) (by omega) ?_ ?_
 ·exact bw [0] ⟨rfl,rfl,rfl,trivial⟩<|by kernel_rfl
 ·rintro j hj
  have hj:(j:Int)≤i%32:=hj
  have hh:=QA (MU a (i/32).toNat) j
  refine dW [(11,i_<|i%32),(12,c_ j),(5,u_<|dK a (i/32).toNat/2^j)] [aA b1 (dv a) 69] ⟨rfl,rfl,rfl,trivial⟩ rfl (aC<|aQ [(12,c_ j),(5,u_<|dK a (i/32).toNat/2^j),(13,b_<|decide ((j:Int)<(i%32)))]<|aD<|aL (E:=decide ((j:Int)<(i%32))) rfl (λe1=>?_) (λe1=>?_))
  ·skip
   have p1:=Zg e1
   refine aO<|eF<|aD<|aR<|aM<|tC [.p,.w<|(dK a (i/32).toNat/2^j)/2,.p] [(11,i_<|i%32),(12,c_ j),(5,u_<|(dK a (i/32).toNat/2^j)/2)] (λκ=>(wU ((dK a (i/32).toNat/2^j).tdiv 2)=(dK a (i/32).toNat/2^j)/2)∧True) ⟨mQ (by omega)<|by decide,trivial⟩ ?_
   refine yW<|eF<|aM<|aj [.w<|(j:Int)+1] [(12,i_<|(j:Int)+1),(5,u_<|(dK a (i/32).toNat/2^j)/2)] (o1<|wo<|nB (e:=(j:Int)+1) (by constructor<;>omega)) ?_
   refine eF<|ei [(11,i_<|i%32),(12,i_<|(j:Int)+1),(5,u_<|dK a (i/32).toNat/2^(j+1))] (by exact⟨rfl,rfl,congrArg (λz_=>some<|u_ z_) (Pz (MU a _).1 j:(dK a (i/32).toNat/2^j)/2=(dK a (i/32).toNat/2^(j+1))),trivial⟩) ?_
   refine bN (j+1) (by omega) (by(show(i%32).toNat-(j+1)<(i%32).toNat-j;omega)) ?_
   exact bw [0] ⟨rfl,rfl,rfl,trivial⟩<|by kernel_rfl
  ·skip
   have p1:=Zh e1
   refine bg<|aC<|cV [.p] [(17,u_<|dK a (i/32).toNat/2^j)] ?_
   refine aG<|cC (some 18) (u_<|(dK a (i/32).toNat/2^j)%2) (jC (congrArg (Value.int .u64)<|kB<|by omega)<|jM (v:= .int .u64 ((dK a (i/32).toNat/2^j).tmod 2)) (by kernel_rfl) λ_=>by kernel_rfl)<|aQ [(4,u_<|(dK a (i/32).toNat/2^j)%2)]<|aF<|fE [u_<|(dK a (i/32).toNat/2^j)%2] (λ_ w r s=>⟨cw r rfl,trivial⟩) ?_
   show((u_<|(dK a (i/32).toNat/2^j)%2):Value)=(u_<|gg a i)
   (obtain rfl:j=(i%32).toNat:=by omega);refine congrArg (Value.int .u64) ?_;exact Tt hi
set_option maxHeartbeats 4000000 in
set_option maxRecDepth 100000 in
theorem QC(a b:Int)(ha:0≤a∧a<bX)(hb:0<b∧b<18446744073709551616)(w:World):
  CQ Tryz.prog 53 #[(dq a),u_ b] w (.tuple #[(dq<|a/b),u_<|a%b]):=by
 have hm1:=Int.emod_nonneg a (show b≠0 by omega);have hm2:=Int.emod_lt_of_pos a hb.1
 refine aU Tryz.func53 rfl (HS.nil w) ?_
 refine dW [(0,(dq a)),(1,u_ b)] [] ⟨rfl,rfl,trivial⟩ rfl (aC<|wK [.al,.al,.p] [1,2,4] (λb1 b2=>[(1,u_ b),(2,p_ b1),(4,p_ b2)]) (λb1 b2=>[aA b1 (dv a) 69,aA b2 [u_ 0,u_ 0,u_ 0,u_ 0] 69]) (λb1 b2=>[]) (λ_ _=>T0) (λ_ _=>by kernel_rfl) (λb1 b2=>trivial) ?_)
 intro b1 b2
 refine aC<|dM [.al,.st 2] [] (λb3=>[(1,u_ b),(2,p_ b1),(4,p_ b2),(6,p_ b3)]) (λ_=>[]) (λb3=>aA b3 [u_ 0,u_ 0,u_ 0,u_ 0] 69) ?_
 intro b3
 refine aC<|dM [.al,.st 3] [] (λb4=>[(7,p_ b4)]) (λ_=>[]) (λb4=>aA b4 [u_ 0,u_ 0,u_ 0,u_ 0] 69) ?_
 intro b4
 refine bS<|aQ [(11,i_ 0)]<|aR<|ca 2 (aA b3 (dv<|cU a 0/b) 69) rfl (gx<|congrArg dv (by rw[NY ha,Int.zero_ediv]:0=(cU a 0/b))) (ca 3 (aA b4 (dv<|cU a 0%b) 69) rfl (gx<|congrArg dv (by rw[NY ha,Int.zero_emod]:0=(cU a 0%b))) (fY (λ(zz:Nat)=>match zz with|k=>[(1,u_ b),(2,p_ b1),(4,p_ b2),(6,p_ b3),(7,p_ b4),(11,c_ k)]) (λ(zz:Nat)=>match zz with|k=>[aA b3 (dv<|cU a k/b) 69,aA b4 (dv<|cU a k%b) 69,aA b1 (dv a) 69,aA b2 [u_ 0,u_ 0,u_ 0,u_ 0] 69]) (λ(zz:Nat)=>match zz with|k=>(k≤128)) (λ(zz:Nat)=>match zz with|k=>128-k) (0:Nat) (by omega) ?_ ?_))
 ·exact bw [2,2,0,0] ⟨rfl,rfl,rfl,rfl,rfl,rfl,trivial⟩<|by kernel_rfl
 ·rintro k hk
  have hk:k≤128:=hk
  have hp:=KO ha k;have hm1:=Int.emod_nonneg (cU a k) (show b≠0 by omega);have hm2:=Int.emod_lt_of_pos (cU a k) hb.1;have hd1:=Int.ediv_nonneg hp.1<|Int.le_of_lt hb.1;have hd2:=Int.ediv_le_self b hp.1;have hbr:=KP a<|127-(k:Int)
  refine dW [(1,u_ b),(2,p_ b1),(4,p_ b2),(6,p_ b3),(7,p_ b4),(11,c_ k)] [aA b3 (dv<|cU a k/b) 69,aA b4 (dv<|cU a k%b) 69,aA b1 (dv a) 69,aA b2 [u_ 0,u_ 0,u_ 0,u_ 0] 69] ⟨rfl,rfl,rfl,rfl,rfl,rfl,trivial⟩ rfl (aC<|aQ [(11,c_ k),(12,b_<|decide ((k:Int)<128))]<|aD<|aL (E:=decide ((k:Int)<128)) rfl (λe1=>?_) (λe1=>?_))
  ·skip
   have p1:=Zg e1
   refine az<|aR<|aC<|aQ [(8,c_ k)]<|aD<|bY [6] 7<|Bt 1 [.ld 1,.ld 2,.w<|127-(k:Int),.cq<|u_<|gg a<|127-(k:Int),.cq<|dq<|(2*(cU a k%b)+(gg a<|127-(k:Int)))%340282366920938463463374607431768211456] (rg 0 6) [(1,u_ b),(2,p_ b1),(4,p_ b2),(6,p_ b3),(7,p_ b4),(11,c_ k),(19,(dq<|(2*(cU a k%b)+(gg a<|127-(k:Int)))%340282366920938463463374607431768211456))] (oc (wj (127-(k:Int))<|by omega)<|oc (qo<|λw s=>QB a (127-(k:Int)) ‹_› (by omega) w)<|o1<|qw<|Dm (cU a k%b) (gg a<|127-(k:Int)) (by(unfold bX at*;omega))<|by omega)<|bF 6 rfl (dQ 1 (dv<|(2*(cU a k%b)+(gg a<|127-(k:Int)))%340282366920938463463374607431768211456) rfl (dV<|aD ?_))
   have hq:=Ws (a:=a) hb.1 (show k<128 by omega);have hpn:=KO ha<|k+1
   refine mH [.ld 1,.p,.cq<|dq b,.cq<|b_<|decide (((2*(cU a k%b)+(gg a<|127-(k:Int)))%340282366920938463463374607431768211456)<b)] [0,1,2,3] [(1,u_ b),(2,p_ b1),(4,p_ b2),(6,p_ b3),(7,p_ b4),(11,c_ k),(23,b_<|decide (((2*(cU a k%b)+(gg a<|127-(k:Int)))%340282366920938463463374607431768211456)<b))] [b4] (λκ=>κ.call 55 [u_ b] (dq b)∧κ.call 21 [(dq<|(2*(cU a k%b)+(gg a<|127-(k:Int)))%340282366920938463463374607431768211456),(dq b)] (b_<|decide (((2*(cU a k%b)+(gg a<|127-(k:Int)))%340282366920938463463374607431768211456)<b))∧True) (by kernel_rfl) (by kernel_rfl) ⟨(λw s=>zR b (by omega) w),(λw s=>Cb ((2*(cU a k%b)+(gg a<|127-(k:Int)))%340282366920938463463374607431768211456) b (by(unfold bX at*;omega)) (by(unfold bX at*;omega)) w),trivial⟩<|aL (E:=decide (((2*(cU a k%b)+(gg a<|127-(k:Int)))%340282366920938463463374607431768211456)<b)) rfl (λe2=>?_) (λe2=>?_)
   ·skip
    have p2:=Zg e2
    refine aM<|gJ [.ld 0,.cq<|dq<|(2*(cU a k/b)+0)%340282366920938463463374607431768211456,.st 0] [] [] [(0,aA b3 (dv<|(2*(cU a k/b)+0)%340282366920938463463374607431768211456) 69)] (o1<|qw<|Dm (cU a k/b) 0 (by omega)<|by omega)<|(aM<|aj [.w<|(k:Int)+1] [(11,i_<|(k:Int)+1)] (o1<|wj ((k:Int)+1)<|by omega) ?_)
    have hv5:((2*(cU a k/b)+0)%340282366920938463463374607431768211456)=(cU a (k+1)/b):=by((unfold bX at*;(rw[(hq.1<|by omega).1];have h9_:=Int.ediv_nonneg hpn.1<|Int.le_of_lt hb.1;have h8_:=Int.ediv_le_self b hpn.1;rw[(hq.1<|by omega).1] at h9_ h8_;omega)))
    refine ca 0 (aA b3 (dv<|cU a (k+1)/b) 69) rfl (gx<|congrArg dv (by rw[hv5]:((2*(cU a k/b)+0)%340282366920938463463374607431768211456)=(cU a (k+1)/b))) ?_
    have hv6:((2*(cU a k%b)+(gg a<|127-(k:Int)))%340282366920938463463374607431768211456)=(cU a (k+1)%b):=by((unfold bX at*;(rw[(hq.1<|by omega).2];omega)))
    refine ca 1 (aA b4 (dv<|cU a (k+1)%b) 69) rfl (gx<|congrArg dv (by rw[hv6]:((2*(cU a k%b)+(gg a<|127-(k:Int)))%340282366920938463463374607431768211456)=(cU a (k+1)%b))) (bN (k+1) (by omega) (by(show 128-(k+1)<128-k;omega)) ?_)
    exact bw [0,0,0,0] ⟨rfl,rfl,rfl,rfl,rfl,rfl,trivial⟩<|by kernel_rfl
   ·skip
    have p2:=Zh e2
    refine aD<|bY [4] 5<|eR 1 [.ld 1,.cq<|dq b,.cq<|dq<|(((2*(cU a k%b)+(gg a<|127-(k:Int)))%340282366920938463463374607431768211456)-b)%340282366920938463463374607431768211456] (rg 0 4) [(29,(dq<|(((2*(cU a k%b)+(gg a<|127-(k:Int)))%340282366920938463463374607431768211456)-b)%340282366920938463463374607431768211456))] (oc (qw<|zR b<|by omega)<|o1<|qw<|CY ((2*(cU a k%b)+(gg a<|127-(k:Int)))%340282366920938463463374607431768211456) b (by(unfold bX at*;omega))<|by(unfold bX at*;omega))<|bF 4 rfl (dQ 1 (dv<|(((2*(cU a k%b)+(gg a<|127-(k:Int)))%340282366920938463463374607431768211456)-b)%340282366920938463463374607431768211456) rfl (dV<|aM<|gJ [.ld 0,.cq<|dq<|(2*(cU a k/b)+1)%340282366920938463463374607431768211456,.st 0] [] [] [(0,aA b3 (dv<|(2*(cU a k/b)+1)%340282366920938463463374607431768211456) 69)] (o1<|qw<|Dm (cU a k/b) 1 (by omega)<|by omega)<|(aM<|aj [.w<|(k:Int)+1] [(11,i_<|(k:Int)+1)] (o1<|wj ((k:Int)+1)<|by omega) ?_)))
    have hv7:((2*(cU a k/b)+1)%340282366920938463463374607431768211456)=(cU a (k+1)/b):=by((unfold bX at*;(rw[(hq.2<|by omega).1];have h9_:=Int.ediv_nonneg hpn.1<|Int.le_of_lt hb.1;have h8_:=Int.ediv_le_self b hpn.1;rw[(hq.2<|by omega).1] at h9_ h8_;omega)))
    refine ca 0 (aA b3 (dv<|cU a (k+1)/b) 69) rfl (gx<|congrArg dv (by rw[hv7]:((2*(cU a k/b)+1)%340282366920938463463374607431768211456)=(cU a (k+1)/b))) ?_
    have hv8:((((2*(cU a k%b)+(gg a<|127-(k:Int)))%340282366920938463463374607431768211456)-b)%340282366920938463463374607431768211456)=(cU a (k+1)%b):=by((unfold bX at*;(rw[(hq.2<|by omega).2];omega)))
    refine ca 1 (aA b4 (dv<|cU a (k+1)%b) 69) rfl (gx<|congrArg dv (by rw[hv8]:((((2*(cU a k%b)+(gg a<|127-(k:Int)))%340282366920938463463374607431768211456)-b)%340282366920938463463374607431768211456)=(cU a (k+1)%b))) (bN (k+1) (by omega) (by(show 128-(k+1)<128-k;omega)) ?_)
    exact bw [0,0,0,0] ⟨rfl,rfl,rfl,rfl,rfl,rfl,trivial⟩<|by kernel_rfl
  ·skip
   have p1:=Zh e1
   refine bg<|qO<|qO<|Bn<|eF<|aD<|yS [3] 5 (by kernel_rfl) ?_
   refine eR 2 [.ld 0,.ld 1,.cq<|u_<|nL<|cU a k%b] [0,1,2] [(33,(dq<|cU a k/b)),(35,u_<|nL<|cU a k%b)] (o1<|qw<|zS (cU a k%b)<|by(unfold bX at*;omega)) ?_
   refine yQ 3 rfl (by kernel_rfl) (oV 3 (vs:=(dv<|cU a k/b)) [aA b3 (dv<|cU a k/b) 69,aA b4 (dv<|cU a k%b) 69,aA b1 (dv a) 69,aA b2 (dv<|cU a k/b) 69] (by kernel_rfl) rfl rfl rfl rfl (by kernel_rfl) rfl rfl (by kernel_rfl) rfl ?_)
   refine cb ?_
   refine Bq 0 [.p] [4] [(4,p_ b2),(5,u_<|nL<|cU a k%b)] [] T0 (by kernel_rfl) trivial ?_
   refine yV (by kernel_rfl) ?_
   refine eF<|aF<|fE [(dq<|cU a k/b),u_<|nL<|cU a k%b] (λ_ w r s=>⟨dS 3 r s,cw r rfl,trivial⟩) ?_
   show((.tuple #[(dq<|cU a k/b),u_<|nL<|cU a k%b]):Value)=(.tuple #[(dq<|a/b),u_<|a%b])
   (obtain rfl:k=128:=by omega);rw[Tu];have hnl:nL (a%b)=a%b:=(by unfold nL;omega);rw[hnl]
set_option maxHeartbeats 4000000 in
set_option maxRecDepth 100000 in
theorem QD(a b:Int)(ha:0≤a∧a<bX)(hb:0<b∧b<18446744073709551616)(w:World):
  CQ Tryz.prog 36 #[(dq a),u_ b] w (.agg #[u_<|jY<|cu a b,i_<|rJ<|cu a b]):=by
 have hq:=NX ha hb.1;have hc:=Wp ha hb.1;have hn:=Nh hq;have hn2:=Nh hc;have hm1:=Int.emod_nonneg a (show b≠0 by omega);have hm2:=Int.emod_lt_of_pos a hb.1
 refine aU Tryz.func36 rfl (HS.nil w) ?_
 refine dW [(0,(dq a)),(1,u_ b)] [] ⟨rfl,rfl,trivial⟩ rfl (aC<|wK [.al,.al] [1,2,4] (λb1 b2=>[(1,u_ b),(2,p_ b1),(4,p_ b2)]) (λb1 b2=>[aA b1 (dv a) 69,aA b2 [u_ 0,i_ 0] 97]) (λb1 b2=>[]) (λ_ _=>T0) (λ_ _=>by kernel_rfl) (λb1 b2=>trivial) ?_)
 intro b1 b2
 refine bS<|aQ [(1,u_ b),(2,p_ b1),(4,p_ b2),(8,b_<|b==0)]<|aL (E:=b==0) rfl (λe1=>?_) (λe1=>?_)
 ·exact absurd e1<|by(simp;omega)
 ·skip
  refine aO<|aC<|iI [.ld 0,.p,.cq<|.tuple #[(dq<|a/b),u_<|a%b],.p,.p,.p,.al,.st 2,.p] [4,5,6] (λb3=>[(4,p_ b2),(5,p_ b3),(6,u_<|a%b)]) (λb3=>[aA b1 (dv a) 69,aA b2 [u_ 0,i_ 0] 97,aA b3 (dv<|a/b) 69]) (λb3=>[b1,b3]) (λ_=>(λκ=>κ.call 53 [(dq a),u_ b] (.tuple #[(dq<|a/b),u_<|a%b])∧True)) (λ_=>by kernel_rfl) (λb3=>⟨(λw s=>QC a b ‹_› ‹_› w),trivial⟩) ?_
  intro b3
  refine Nw (λ(zz:Unit)=>match zz with|_=>[(4,p_ b2),(5,p_ b3)]) (λ(zz:Unit)=>match zz with|_=>[aA b3 (dv<|cu a b) 69,aA b1 (dv a) 69,aA b2 [u_ 0,i_ 0] 97]) (λ(zz:Unit)=>match zz with|_=>True) ?_ ?_
  ·skip
   refine aC<|aQ [(5,p_ b3),(17,b_<|decide ((a%b)>0))]<|aL (E:=decide ((a%b)>0)) rfl (λe2=>?_) (λe2=>?_)
   ·skip
    have p2:=Zg e2
    refine yS [3] 4 (by kernel_rfl) ?_
    refine eR 1 [.ld 2,.cq<|dq 1,.cq<|dq<|((a/b)+1)%340282366920938463463374607431768211456] [0,1,2] [(20,(dq<|((a/b)+1)%340282366920938463463374607431768211456))] (oc (qw<|zR 1<|by omega)<|o1<|qw<|yd (a/b) 1 (by assumption)<|by(unfold bX at*;omega)) ?_
    refine yQ 3 rfl (by kernel_rfl) (oV 2 (vs:=(dv<|((a/b)+1)%340282366920938463463374607431768211456)) [aA b1 (dv a) 69,aA b2 [u_ 0,i_ 0] 97,aA b3 (dv<|((a/b)+1)%340282366920938463463374607431768211456) 69] (by kernel_rfl) rfl rfl rfl rfl (by kernel_rfl) rfl rfl (by kernel_rfl) rfl ?_)
    refine cb ?_
    refine yV (by kernel_rfl) ?_
    refine eF<|Bo [aA b1 (dv a) 69,aA b2 [u_ 0,i_ 0] 97,aA b3 (dv<|cu a b) 69] (cc rfl (cc rfl (cc (gx<|congrArg dv (by(have hcd:(a/b+1)%340282366920938463463374607431768211456=cu a b:=(by unfold cu at hc⊢;rw[if_neg<|by omega] at hc⊢;unfold bX at hc;omega);rw[hcd];done):(((a/b)+1)%340282366920938463463374607431768211456)=(cu a b))) rfl))) ?_
    refine k7 () trivial ?_
    exact bw [2,0,0] ⟨rfl,rfl,trivial⟩<|by kernel_rfl
   ·skip
    have p2:=Zh e2
    refine aO<|ca 2 (aA b3 (dv<|cu a b) 69) rfl (gx<|congrArg dv (by(have hcd0:a/b=cu a b:=(by unfold cu;rw[if_pos<|by omega]);rw[hcd0];done):(a/b)=(cu a b))) (k7 () trivial ?_)
    exact bw [2,0,0] ⟨rfl,rfl,trivial⟩<|by kernel_rfl
  ·rintro _-
   refine dW [(4,p_ b2),(5,p_ b3)] [aA b3 (dv<|cu a b) 69,aA b1 (dv a) 69,aA b2 [u_ 0,i_ 0] 97] ⟨rfl,rfl,trivial⟩ rfl (bS<|aj [.ld 0,.cq<|u_<|nH<|cu a b] [(5,p_ b3),(23,b_<|(nH<|cu a b)!=0)] (o1<|qo<|λw s=>JF (cu a b) ‹_› w)<|aL (E:=(nH<|cu a b)!=0) rfl (λe3=>?_) (λe3=>?_))
   ·skip
    have p3:=e3;try simp only[cR] at p3
    refine aD<|aM<|OI [.p,.st 2] [(4,p_ b2)] [aA b3 (dv<|cu a b) 69,aA b1 (dv a) 69,aA b2 [u_ 0,i_ 20] 97] ?_
    refine eF<|aF<|Gl<|fE [.agg #[u_ 0,i_ 20]] (λaa ww rr ss=>⟨tQ (vs:=[u_ 0,i_ 20]) rr ss rfl (by kernel_rfl) (jL (i:=2) rfl rfl),trivial⟩) ?_
    show((.agg #[u_ 0,i_ 20]):Value)=(.agg #[u_<|jY<|cu a b,i_<|rJ<|cu a b])
    unfold jY rJ;(rw[if_neg (show¬(cu a b)<18446744073709551616 by omega),if_neg (show¬(cu a b)<18446744073709551616 by omega)])
   ·skip
    have p3:=e3;try simp only[cR] at p3
    refine aO<|eF<|aD<|aM<|wM [.ld 0,.cq<|u_<|nL<|cu a b,.p,.st 2] [(4,p_ b2)] [aA b3 (dv<|cu a b) 69,aA b1 (dv a) 69,aA b2 [u_<|nL<|cu a b,i_ 0] 97] [b3,b2] (λκ=>κ.call 57 [(dq<|cu a b)] (u_<|nL<|cu a b)∧True) (by kernel_rfl) ⟨(λww ss=>zS (cu a b) (by assumption) ww),trivial⟩ ?_
    refine eF<|aF<|fE [.agg #[u_<|nL<|cu a b,i_ 0]] (λaa ww rr ss=>⟨tQ (vs:=[u_<|nL<|cu a b,i_ 0]) rr ss rfl (by kernel_rfl) (jL (i:=2) rfl rfl),trivial⟩) ?_
    show((.agg #[u_<|nL<|cu a b,i_ 0]):Value)=(.agg #[u_<|jY<|cu a b,i_<|rJ<|cu a b])
    unfold jY rJ;(rw[if_pos (show(cu a b)<18446744073709551616 by omega),if_pos (show(cu a b)<18446744073709551616 by omega)];(try rw[hn2.2<|by omega]))
def kW(m v n w_:Int):Int:=if v*n*65536<w_*m*65536 then w_*m*65536-v*n*65536 else v*n*65536-w_*m*65536
theorem MV(h:a=b):((dq a):Value)=(dq b):=by rw[h]
theorem Wt(ha:0≤a∧a<bX)(hm:0≤m∧m<18446744073709551616)(hp:a*m<bX):
  (0≤nL a∧nL a<18446744073709551616)∧(0≤nH a∧nH a<18446744073709551616)∧(0≤nL a*m∧nL a*m<bX)∧(0≤nH a*m∧nH a*m<18446744073709551616)∧nL (nH a*m)=nH a*m∧nL a*m+nH a*m*18446744073709551616=a*m∧
  (nL a*m+(nL (nH a*m)*18446744073709551616+0))%340282366920938463463374607431768211456=a*m:=by
 have h1:=Ky a;have h2:=Kx ha
 have e:a=nH a*18446744073709551616+nL a:=by unfold nH nL;omega
 have h3:0≤nL a*m:=Int.mul_nonneg h1.1 hm.1
 have h4:0≤nH a*m:=Int.mul_nonneg h2.1 hm.1
 have h5:nL a*m+nH a*m*18446744073709551616=a*m:=by conv=>rhs;rw[e]
                                                    rw[Int.add_mul,Int.mul_right_comm];omega
 unfold bX at*
 have h6:nL (nH a*m)=nH a*m:=by unfold nL at*;omega
 exact⟨h1,h2,⟨h3,by omega⟩,⟨h4,by omega⟩,h6,h5,by rw[h6];omega⟩
theorem MW(ha:0≤a)(hb:1≤b):cu a b=eL a b:=by
 have h1:=Int.mul_ediv_add_emod a b
 have h2:=Int.emod_nonneg a (show b≠0 by omega)
 have h3:=Int.emod_lt_of_pos a (show 0<b by omega)
 unfold cu;split
 ·refine Int.le_antisymm (uH hb ?_)<|q8 hb ?_
  ·rw[Int.mul_sub,Int.mul_one];omega
  ·omega
 ·refine Int.le_antisymm (uH hb ?_)<|q8 hb ?_
  ·rw[show a/b+1-1=a/b by omega];omega
  ·rw[Int.mul_add,Int.mul_one];omega
variable{n:Int}
theorem MX{lm le_:Int}(hm:0≤m∧m≤4294967295)(hn:0≤n∧n≤4294967295)(hl:1≤lm∧lm≤16384)(he:1≤le_∧le_≤4294967296):
  (0≤m*n∧m*n≤18446744065119617025)∧(0≤cu (lm*65536) le_∧cu (lm*65536) le_≤1073741824)∧jY (cu (lm*65536) le_)=cu (lm*65536) le_∧IntKind.u64.wrap lm=lm∧m*n*(2*cu (lm*65536) le_+2)<bX:=by
 have h1:=uI (a:=m) (b:=n) hm hn
 have h2:=MW (a:=lm*65536) (b:=le_) (by omega) he.1
 have h3:=sG (a:=lm*65536) he.1 (by omega);have h4:=Dh (a:=lm*65536) he.1<|by omega
 rw[h2]
 have h5:=uI (a:=m*n) (b:=2*eL (lm*65536) le_+2) h1 (d:=2147483650)<|by omega
 refine⟨h1,by omega,by unfold jY;rw[if_pos<|by omega],by rw[IntKind.wrap_u64];omega,by unfold bX;omega⟩
set_option maxHeartbeats 4000000 in
set_option maxRecDepth 100000 in
theorem GX(a m:Int)(ha:0≤a∧a<bX)(hm:0≤m∧m<18446744073709551616)(hp:a*m<bX)(w:World):
  CQ Tryz.prog 38 #[(dq a),u_ m] w (dq<|a*m):=by
 obtain⟨t1,t2,t3,t4,t5,t6,t7⟩:=Wt ha hm hp
 refine aU Tryz.func38 rfl (HS.nil w) ?_
 refine dW [(0,(dq a)),(1,u_ m)] [] ⟨rfl,rfl,trivial⟩ rfl (aC<|wK [.al,.al] [1,2,4] (λb1 b2=>[(1,u_ m),(2,p_ b1),(4,p_ b2)]) (λb1 b2=>[aA b1 (dv a) 69,aA b2 [u_ 0,u_ 0,u_ 0,u_ 0] 69]) (λb1 b2=>[]) (λ_ _=>T0) (λ_ _=>by kernel_rfl) (λb1 b2=>trivial) ?_)
 intro b1 b2
 refine aC<|iI [.ld 0,.cq<|u_<|nL a,.p,.cq<|dq<|(nL a)*m,.al,.st 2] [1,2,4,5] (λb3=>[(1,u_ m),(2,p_ b1),(4,p_ b2),(5,p_ b3)]) (λb3=>[aA b1 (dv a) 69,aA b2 [u_ 0,u_ 0,u_ 0,u_ 0] 69,aA b3 (dv<|(nL a)*m) 69]) (λb3=>[b1,b3]) (λ_=>(λκ=>κ.call 57 [(dq a)] (u_<|nL a)∧κ.call 37 [u_<|nL a,u_ m] (dq<|(nL a)*m)∧True)) (λ_=>by kernel_rfl) (λb3=>⟨(λw s=>zS a ‹_› w),(λw s=>u9 (nL a) m ‹_› ‹_› w),trivial⟩) ?_
 intro b3
 refine aC<|iI [.ld 0,.cq<|u_<|nH a,.p,.cq<|dq<|(nH a)*m,.al,.st 3] [4,5,6] (λb4=>[(4,p_ b2),(5,p_ b3),(6,p_ b4)]) (λb4=>[aA b1 (dv a) 69,aA b2 [u_ 0,u_ 0,u_ 0,u_ 0] 69,aA b3 (dv<|(nL a)*m) 69,aA b4 (dv<|(nH a)*m) 69]) (λb4=>[b1,b4]) (λ_=>(λκ=>κ.call 56 [(dq a)] (u_<|nH a)∧κ.call 37 [u_<|nH a,u_ m] (dq<|(nH a)*m)∧True)) (λ_=>by kernel_rfl) (λb4=>⟨(λw s=>JF a ‹_› w),(λw s=>u9 (nH a) m ‹_› ‹_› w),trivial⟩) ?_
 intro b4
 refine eF<|aD<|yS [5] 6 (by kernel_rfl) ?_
 refine eR 1 [.ld 2,.ld 3,.cq<|u_<|nL<|(nH a)*m,.cq<|dq<|(nL<|(nH a)*m)*18446744073709551616+0,.cq<|dq<|(((nL a)*m)+((nL<|(nH a)*m)*18446744073709551616+0))%340282366920938463463374607431768211456] [0,1,2,3,4] [(4,p_ b2),(19,(dq<|(((nL a)*m)+((nL<|(nH a)*m)*18446744073709551616+0))%340282366920938463463374607431768211456))] (oc (qw<|zS ((nH a)*m)<|by omega)<|oc (qw<|Px (nL<|(nH a)*m) 0 (by omega)<|by omega)<|o1<|qw<|yd ((nL a)*m) ((nL<|(nH a)*m)*18446744073709551616+0) (by assumption)<|by omega) ?_
 refine yQ 5 rfl (by kernel_rfl) (oV 1 (vs:=(dv<|(((nL a)*m)+((nL<|(nH a)*m)*18446744073709551616+0))%340282366920938463463374607431768211456)) [aA b1 (dv a) 69,aA b2 (dv<|(((nL a)*m)+((nL<|(nH a)*m)*18446744073709551616+0))%340282366920938463463374607431768211456) 69,aA b3 (dv<|(nL a)*m) 69,aA b4 (dv<|(nH a)*m) 69] (by kernel_rfl) rfl rfl rfl rfl (by kernel_rfl) rfl rfl (by kernel_rfl) rfl ?_)
 refine cb ?_
 refine yV (by kernel_rfl) ?_
 refine eF<|aF<|fE [(dq<|(((nL a)*m)+((nL<|(nH a)*m)*18446744073709551616+0))%340282366920938463463374607431768211456)] (λ_ w r s=>⟨dS 1 r s,trivial⟩) ?_
 show((dq<|(((nL a)*m)+((nL<|(nH a)*m)*18446744073709551616+0))%340282366920938463463374607431768211456):Value)=(dq<|a*m)
 rw[t7]
set_option maxHeartbeats 4000000 in
set_option maxRecDepth 100000 in
theorem YE(m v n w_:Int)(hm:0≤m∧m≤4294967295)(hv:0≤v∧v≤16777216)(hn:0≤n∧n≤4294967295)(hw:0≤w_∧w_≤16777216)(w:World):
  CQ Tryz.prog 22 #[u_ m,u_ v,u_ n,u_ w_] w (dq<|kW m v n w_):=by
 have t1:=uI (a:=v) (b:=n) hv hn;have t2:=uI (a:=w_) (b:=m) hw hm
 refine aU Tryz.func22 rfl (HS.nil w) ?_
 refine dW [(0,u_ m),(1,u_ v),(2,u_ n),(3,u_ w_)] [] ⟨rfl,rfl,rfl,rfl,trivial⟩ rfl (aC<|dM [.al] [] (λb1=>[(0,u_ m),(1,u_ v),(2,u_ n),(3,u_ w_),(8,p_ b1)]) (λ_=>[]) (λb1=>aA b1 [u_ 0,u_ 0,u_ 0,u_ 0] 69) ?_)
 intro b1
 refine aC<|iI [.p,.p,.cq<|dq<|v*n,.cq<|dq<|(v*n)*65536,.al,.st 1] [0,3,8,9] (λb2=>[(0,u_ m),(3,u_ w_),(8,p_ b1),(9,p_ b2)]) (λb2=>[aA b1 [u_ 0,u_ 0,u_ 0,u_ 0] 69,aA b2 (dv<|(v*n)*65536) 69]) (λb2=>[b2]) (λ_=>(λκ=>κ.call 37 [u_ v,u_ n] (dq<|v*n)∧κ.call 38 [(dq<|v*n),u_ 65536] (dq<|(v*n)*65536)∧True)) (λ_=>by kernel_rfl) (λb2=>⟨(λw s=>u9 v n (by omega) (by omega) w),(λw s=>GX (v*n) 65536 (by(unfold bX at*;omega)) (by omega) (by(unfold bX at*;omega)) w),trivial⟩) ?_
 intro b2
 refine aC<|iI [.p,.p,.cq<|dq<|w_*m,.cq<|dq<|(w_*m)*65536,.al,.st 2] [8,9,10] (λb3=>[(8,p_ b1),(9,p_ b2),(10,p_ b3)]) (λb3=>[aA b1 [u_ 0,u_ 0,u_ 0,u_ 0] 69,aA b2 (dv<|(v*n)*65536) 69,aA b3 (dv<|(w_*m)*65536) 69]) (λb3=>[b3]) (λ_=>(λκ=>κ.call 37 [u_ w_,u_ m] (dq<|w_*m)∧κ.call 38 [(dq<|w_*m),u_ 65536] (dq<|(w_*m)*65536)∧True)) (λ_=>by kernel_rfl) (λb3=>⟨(λw s=>u9 w_ m (by omega) (by omega) w),(λw s=>GX (w_*m) 65536 (by(unfold bX at*;omega)) (by omega) (by(unfold bX at*;omega)) w),trivial⟩) ?_
 intro b3
 refine bS<|aj [.ld 1,.ld 2,.cq<|b_<|decide (((v*n)*65536)<((w_*m)*65536))] [(9,p_ b2),(10,p_ b3),(21,b_<|decide (((v*n)*65536)<((w_*m)*65536)))] (o1<|qw<|Cb ((v*n)*65536) ((w_*m)*65536) (by(unfold bX at*;omega))<|by(unfold bX at*;omega))<|aL (E:=decide (((v*n)*65536)<((w_*m)*65536))) rfl (λe1=>?_) (λe1=>?_)
 ·skip
  have p1:=Zg e1
  refine aC<|gJ [.ld 2,.ld 1,.cq<|dq<|(((w_*m)*65536)-((v*n)*65536))%340282366920938463463374607431768211456,.st 0] [] [] [(0,aA b1 (dv<|(((w_*m)*65536)-((v*n)*65536))%340282366920938463463374607431768211456) 69)] (o1<|qw<|CY ((w_*m)*65536) ((v*n)*65536) (by(unfold bX at*;omega))<|by(unfold bX at*;omega))<|aF<|ez 0 (dv<|(((w_*m)*65536)-((v*n)*65536))%340282366920938463463374607431768211456) ?_
  show((dq<|(((w_*m)*65536)-((v*n)*65536))%340282366920938463463374607431768211456):Value)=(dq<|kW m v n w_)
  refine MV ?_;unfold kW;split<;>omega
 ·skip
  have p1:=Zh e1
  refine aO<|aC<|gJ [.ld 1,.ld 2,.cq<|dq<|(((v*n)*65536)-((w_*m)*65536))%340282366920938463463374607431768211456,.st 0] [] [] [(0,aA b1 (dv<|(((v*n)*65536)-((w_*m)*65536))%340282366920938463463374607431768211456) 69)] (o1<|qw<|CY ((v*n)*65536) ((w_*m)*65536) (by(unfold bX at*;omega))<|by(unfold bX at*;omega))<|aF<|ez 0 (dv<|(((v*n)*65536)-((w_*m)*65536))%340282366920938463463374607431768211456) ?_
  show((dq<|(((v*n)*65536)-((w_*m)*65536))%340282366920938463463374607431768211456):Value)=(dq<|kW m v n w_)
  refine MV ?_;unfold kW;split<;>omega
set_option maxHeartbeats 4000000 in
set_option maxRecDepth 100000 in
theorem YF(m n lm le_:Int)(hm:0≤m∧m≤4294967295)(hn:0≤n∧n≤4294967295)(hl:1≤lm∧lm≤16384)(he:1≤le_∧le_≤4294967296)(w:World):
  CQ Tryz.prog 19 #[u_ m,u_ n,i_ lm,u_ le_] w (dq<|m*n*(2*cu (lm*65536) le_+2)):=by
 obtain⟨t1,t2,t3,t4,t5⟩:=MX hm hn hl he
 refine aU Tryz.func19 rfl (HS.nil w) ?_
 refine dW [(0,u_ m),(1,u_ n),(2,i_ lm),(3,u_ le_)] [] ⟨rfl,rfl,rfl,rfl,trivial⟩ rfl (aC<|dM [.al] [] (λb1=>[(0,u_ m),(1,u_ n),(2,i_ lm),(3,u_ le_),(8,p_ b1)]) (λ_=>[]) (λb1=>aA b1 [u_ 0,u_ 0,u_ 0,u_ 0] 69) ?_)
 intro b1
 refine aC<|iI [.p,.w lm,.cq<|dq<|lm*65536,.p,.cq<|.agg #[u_<|jY<|cu (lm*65536) le_,i_<|rJ<|cu (lm*65536) le_],.al,.st 1] [0,1,8,9] (λb2=>[(0,u_ m),(1,u_ n),(8,p_ b1),(9,p_ b2)]) (λb2=>[aA b1 [u_ 0,u_ 0,u_ 0,u_ 0] 69,aA b2 [u_<|jY<|cu (lm*65536) le_,i_<|rJ<|cu (lm*65536) le_] 97]) (λb2=>[b2]) (λ_=>(λκ=>(wU lm=lm)∧κ.call 37 [u_ lm,u_ 65536] (dq<|lm*65536)∧κ.call 36 [(dq<|lm*65536),u_ le_] (.agg #[u_<|jY<|cu (lm*65536) le_,i_<|rJ<|cu (lm*65536) le_])∧True)) (λ_=>by kernel_rfl) (λb2=>⟨wrap_u64 (e:=lm) (by constructor<;>omega),(λw s=>u9 lm 65536 (by omega) (by omega) w),(λw s=>QD (lm*65536) le_ (by(unfold bX at*;omega)) (by omega) w),trivial⟩) ?_
 intro b2
 refine eF<|aD<|yS [8] 9 (by kernel_rfl) ?_
 refine eR 1 [.cq<|dq<|m*n,.ld 1,.w<|2*(jY<|cu (lm*65536) le_),.w<|(2*(jY<|cu (lm*65536) le_))+2,.cq<|dq<|(m*n)*((2*(jY<|cu (lm*65536) le_))+2)] [0,1,2,3,4,5,6,7] [(22,(dq<|(m*n)*((2*(jY<|cu (lm*65536) le_))+2)))] (oc (qw<|u9 m n (by omega)<|by omega)<|oc (wo<|wrap_u64 (e:=2*(jY<|cu (lm*65536) le_)) (by constructor<;>omega))<|oc (wo<|wrap_u64 (e:=(2*(jY<|cu (lm*65536) le_))+2) (by constructor<;>omega))<|o1<|qw<|GX (m*n) ((2*(jY<|cu (lm*65536) le_))+2) (by(unfold bX at*;omega)) (by omega)<|by(rw[t3];assumption)) ?_
 refine yQ 8 rfl (by kernel_rfl) (oV 0 (vs:=(dv<|(m*n)*((2*(jY<|cu (lm*65536) le_))+2))) [aA b1 (dv<|(m*n)*((2*(jY<|cu (lm*65536) le_))+2)) 69,aA b2 [u_<|jY<|cu (lm*65536) le_,i_<|rJ<|cu (lm*65536) le_] 97] (by kernel_rfl) rfl rfl rfl rfl (by kernel_rfl) rfl rfl (by kernel_rfl) rfl ?_)
 refine cb ?_
 refine yV (by kernel_rfl) ?_
 refine eF<|aF<|fE [(dq<|(m*n)*((2*(jY<|cu (lm*65536) le_))+2))] (λ_ w r s=>⟨dS 0 r s,trivial⟩) ?_
 show((dq<|(m*n)*((2*(jY<|cu (lm*65536) le_))+2)):Value)=(dq<|m*n*(2*cu (lm*65536) le_+2))
 simp only[t3]
theorem RX(l:List Ev)(h:m≤n):aY l m≤aY l n:=by
 unfold aY;rw[←List.countP_eq_length_filter,←List.countP_eq_length_filter]
 exact List.countP_mono_left λe _ he=>by simp only[decide_eq_true_eq] at*;omega
theorem xx{l:List Ev}(h: ∀e∈l,e.vq2=false→1≤e.vq8∧e.vq8≤16384):0≤eP l f:=by
 induction l with
 |nil=>exact Int.le_refl _
 |cons e l ih=>
  have:=ih λx hx=>h x<|List.mem_cons_of_mem _ hx
  have h2:0≤tB f e:=by unfold tB;split;have:=h e (List.mem_cons_self ..) ‹_∧_›.1;omega;exact Int.le_refl _
  unfold eP at*;simp only[List.map_cons,List.sum_cons];omega
theorem MY{n1 n2:Nat}(h1:n1≤n2)(h2:n2≤evz.length)(hp: ∀e∈evz.take n2,e.vq2=false→1≤e.vq8∧e.vq8≤16384)(hb:eP (evz.take n2) (λz=>decide (z∈lv))≤16777216):
  ∀k,k≤evz.length→dp evz lv n1 ((n2:Int)-1) k=if k≤n1 then 0 else eP (evz.take<|min k n2) (λz=>decide (z∈lv))-eP (evz.take n1) (λz=>decide (z∈lv))
 |0,_=>by rw[if_pos<|Nat.zero_le _];rfl
 |k+1,hk=>by
  obtain⟨e,he⟩: ∃e,evz[k]? =some e:=⟨_,Ze<|by omega⟩
  have ih:=MY h1 h2 hp hb k<|by omega
  rw[dp,he];dsimp only
  by_cases c1:k<n1
  ·rw[if_neg<|by omega,if_pos<|by omega,ih,if_pos<|by omega]
  ·rw[if_neg (show¬k+1≤n1 by omega)]
   have ih2:dp evz lv n1 ((n2:Int)-1) k=eP (evz.take<|min k n2) (λz=>decide (z∈lv))-eP (evz.take n1) (λz=>decide (z∈lv)):=by
    rw[ih];split
    ·rw[show min k n2=n1 by omega,Int.sub_self]
    ·rfl
   rw[ih2]
   by_cases c2:k<n2
   ·have hin:e∈evz.take n2:=by rw[show evz.take n2=evz.take (k+1)++(evz.drop<|k+1).take (n2-(k+1)) by rw[←List.take_add];congr 1;omega,mK he];simp
    have hs:eP (evz.take<|k+1) (λz=>decide (z∈lv))=eP (evz.take k) (λz=>decide (z∈lv))+tB (λz=>decide (z∈lv)) e:=by rw[mK he,Dk]
    have sub: ∀j,j≤n2→ ∀x∈evz.take j,x∈evz.take n2:=λj hj x hx=>List.take_subset_take_left evz hj hx
    have m1:eP (evz.take n2) (λz=>decide (z∈lv))=eP (evz.take<|k+1) (λz=>decide (z∈lv))+eP ((evz.drop<|k+1).take (n2-(k+1))) (λz=>decide (z∈lv)):=by rw[←Fo];congr 2;omega
    have m2:=xx (l:=(evz.drop<|k+1).take (n2-(k+1))) (f:=λz=>decide (z∈lv)) λx hx=>hp x (by rw[show evz.take n2=evz.take (k+1)++(evz.drop<|k+1).take (n2-(k+1)) by rw[←List.take_add];congr 1;omega];exact List.mem_append_right _ hx)
    have m3:eP (evz.take k) (λz=>decide (z∈lv))=eP (evz.take n1) (λz=>decide (z∈lv))+eP ((evz.drop n1).take (k-n1)) (λz=>decide (z∈lv)):=by rw[←Fo];congr 2;omega
    have m4:=xx (l:=(evz.drop n1).take (k-n1)) (f:=λz=>decide (z∈lv)) λx hx=>hp x<|sub k (by omega) x (by rw[show evz.take k=evz.take n1++(evz.drop n1).take (k-n1) by rw[←List.take_add];congr 1;omega];exact List.mem_append_right _ hx)
    have m5:=xx (l:=evz.take n1) (f:=λz=>decide (z∈lv)) λx hx=>hp x<|sub n1 h1 x hx
    rw[show min (k+1) n2=k+1 by omega,show min k n2=k by omega,hs]
    unfold tB at*
    by_cases c3:e.vq2=false∧e.vq6∈lv
    ·have hv:=hp e hin c3.1
     rw[if_pos ⟨by omega,by omega,c3.1,c3.2,by omega⟩,if_pos ⟨c3.1,by simpa using c3.2⟩]
     rw[hs,if_pos ⟨c3.1,by simpa using c3.2⟩] at m1
     rw[IntKind.wrap_u64,IntKind.wrap_u64];omega
    ·rw[if_neg λh=>c3 ⟨h.2.2.1,h.2.2.2.1⟩,if_neg λh=>c3 ⟨h.1,by simpa using h.2⟩];omega
   ·rw[if_neg λh=>c2 (by have:=h.2.1;omega),show min (k+1) n2=min k n2 by omega]
theorem RY(hz: ∀z∈zl,iQ z)(h:lj zl k L): ∀x∈L,0≤x.la∧0≤x.lb∧0≤x.lc:=by
 induction h with
 |nil=>intro x hx;cases hx
 |snoc h hk hs ih=>
  rename_i k z l m
  intro x hx
  rcases hs with⟨-,hs⟩|⟨-,hs⟩
  ·rcases(hs x).1 hx with rfl|⟨h1,-⟩
   ·have:=hz z<|Zd hk;unfold iQ at this;unfold oO;simp only;omega
   ·exact ih x h1
  ·exact ih x ((hs x).1 hx).1
theorem KU{c:Int}(h:bD a b c=2)(hc:0≤c):1≤c∧c≤4294967295:=by unfold bD at h;(repeat' split at h)<;>omega
theorem RZ{t:Int}{o:ew}{xi xj:Cl}{j:Int}(hlt:c.lt=t)(htt:1≤t∧t≤65536)(hlm:1≤c.lm∧c.lm≤16384)(hN:lU d)(hR:oK c t ops 0 d 0 0 [] rs evz)(hz: ∀o∈ops,(∀z∈o.zl,iQ z)∧0≤o.tk)(hlen:ops.length≤400)
  (ho:ops[0]? =some o)(hk:o.kd=1)(hnk: ∀(j:Nat)(y:ew),0<j→ops[j]? =some y→y.kd≠1)(hF:lj o.zl o.zl.length L)(hS:oM L P lst)(hl1:1≤lst)
  (hxi:xi∈L∧xi.hp=P∧bD xi.la xi.lb xi.lc=2)(hxj:xj∈L∧xj.hp=P∧bD xj.la xj.lb xj.lc=2)(hi:xi.hi=i)(hj:xj.hi=j)(hp:sX L i p)(hq:sX L j q){a r:Nat}(har:a+r<ops.length)
  (hact: ∀k≤r,0<cJ (evz.take<|aY evz<|(a+k:Nat)+1) p∧0<cJ (evz.take<|aY evz<|(a+k:Nat)+1) q):
  (0≤dp evz p (aY evz<|(a:Nat)+1) ((aY evz ((a+r:Nat)+1):Nat)-1) evz.length∧dp evz p (aY evz<|(a:Nat)+1) ((aY evz ((a+r:Nat)+1):Nat)-1) evz.length≤16777216)∧
  (0≤dp evz q (aY evz<|(a:Nat)+1) ((aY evz ((a+r:Nat)+1):Nat)-1) evz.length∧dp evz q (aY evz<|(a:Nat)+1) ((aY evz ((a+r:Nat)+1):Nat)-1) evz.length≤16777216)∧
  ¬(xi.lc*xj.lc*(2*cu (c.lm*65536) lst+2)<kW xi.lc (dp evz p (aY evz<|(a:Nat)+1) ((aY evz ((a+r:Nat)+1):Nat)-1) evz.length) xj.lc (dp evz q (aY evz<|(a:Nat)+1) ((aY evz ((a+r:Nat)+1):Nat)-1) evz.length)):=by
 subst hi hj
 obtain⟨-,-,h3,h4,h5,h6,h7⟩:=Tm hlt htt hlm hN hR hz hlen ho hk hnk hF hS hl1 hxi hxj hp hq har hact
 have hm:=RX evz (m:=((a:Nat):Int)+1) (n:=((a+r:Nat):Int)+1)<|by omega
 have hle:=BM evz<|((a+r:Nat):Int)+1
 have key: ∀{lv:Wx},eP (evz.take<|aY evz<|(a+r:Nat)+1) (λz=>decide (z∈lv))≤16777216→dp evz lv (aY evz<|(a:Nat)+1) ((aY evz ((a+r:Nat)+1):Nat)-1) evz.length=eP (evz.take<|aY evz<|(a+r:Nat)+1) (λz=>decide (z∈lv))-eP (evz.take<|aY evz<|(a:Nat)+1) (λz=>decide (z∈lv))∧0≤dp evz lv (aY evz<|(a:Nat)+1) ((aY evz ((a+r:Nat)+1):Nat)-1) evz.length∧dp evz lv (aY evz<|(a:Nat)+1) ((aY evz ((a+r:Nat)+1):Nat)-1) evz.length≤16777216:=λ{lv}hb=>by
  have e:=MY hm hle h5 hb evz.length<|Nat.le_refl _
  have m3:eP (evz.take<|aY evz<|(a+r:Nat)+1) (λz=>decide (z∈lv))=eP (evz.take<|aY evz<|(a:Nat)+1) (λz=>decide (z∈lv))+eP ((evz.drop<|aY evz<|(a:Nat)+1).take (aY evz ((a+r:Nat)+1)-aY evz ((a:Nat)+1))) (λz=>decide (z∈lv)):=by rw[←Fo];congr 2;omega
  have m4:=xx (l:=(evz.drop<|aY evz<|(a:Nat)+1).take (aY evz ((a+r:Nat)+1)-aY evz ((a:Nat)+1))) (f:=λz=>decide (z∈lv)) λx hx=>h5 x (by rw[show evz.take (aY evz<|(a+r:Nat)+1)=evz.take (aY evz<|(a:Nat)+1)++(evz.drop<|aY evz<|(a:Nat)+1).take (aY evz ((a+r:Nat)+1)-aY evz ((a:Nat)+1)) by rw[←List.take_add];congr 1;omega];exact List.mem_append_right _ hx)
  have m5:=xx (l:=evz.take<|aY evz<|(a:Nat)+1) (f:=λz=>decide (z∈lv)) λx hx=>h5 x<|List.take_subset_take_left evz hm hx
  have e2:dp evz lv (aY evz<|(a:Nat)+1) ((aY evz ((a+r:Nat)+1):Nat)-1) evz.length=eP (evz.take<|aY evz<|(a+r:Nat)+1) (λz=>decide (z∈lv))-eP (evz.take<|aY evz<|(a:Nat)+1) (λz=>decide (z∈lv)):=by
   rw[e,Nat.min_eq_right hle];split
   ·rw[show aY evz (((a+r:Nat):Int)+1)=aY evz (((a:Nat):Int)+1) by omega,Int.sub_self]
   ·rfl
  exact⟨e2,by omega,by omega⟩
 obtain⟨k1,k2,k3⟩:=key h6
 obtain⟨g1,g2,g3⟩:=key h7
 refine⟨⟨k2,k3⟩,⟨g2,g3⟩,?_⟩
 rw[MW (by omega) hl1,Int.mul_comm c.lm]
 rw[←k1,←g1] at h3 h4
 unfold kW;split<;>omega
theorem Tv{x:Cl}(h:v=4294967296∨ ∃x∈L,x.lc=v)(hr: ∀x∈L,0≤x.la∧0≤x.lb∧0≤x.lc)(h0:v≠0)(hS:oM L P v)(hx:x∈L)(hp:x.hp=P)(h2:bD x.la x.lb x.lc=2)(hc:1≤x.lc∧x.lc≤4294967295):1≤v∧v≤4294967296:=by
 have h3:=((hS x hx).2.2 hp (by omega)).2
 rcases h with rfl|⟨y,hy,rfl⟩
 ·decide
 ·have:=(hr y hy).2.2;omega
theorem Wu{ma mb:Nat}{a b:Cl}(h:(((((decide ((ma:Int)<0))||(decide ((mb:Int)<0)))||(a.hp !=b.hp))||((bD a.la a.lb a.lc)!=2))||((bD b.la b.lb b.lc)!=2))=false):b.hp=a.hp∧bD a.la a.lb a.lc=2∧bD b.la b.lb b.lc=2:=by
 simp only[Bool.or_eq_false_iff,bne_eq_false_iff_eq] at h;exact⟨h.1.1.2.symm,h.1.2,h.2⟩
theorem Wv(h:(v==0)=false):v≠0:=by simpa using h
theorem Y3{a b c d:Nat}(h:(((((a:Int)==0)||((b:Int)==0))||((c:Int)==0))||((d:Int)==0))=false):0<c∧0<d:=by
 simp only[Bool.or_eq_false_iff,beq_eq_false_iff_ne] at h;omega
theorem Tz{w_:Int}(hm:0≤m∧m≤4294967295)(hv:0≤v∧v≤16777216)(hn:0≤n∧n≤4294967295)(hw:0≤w_∧w_≤16777216):0≤kW m v n w_∧kW m v n w_<bX:=by
 have t1:=uI (a:=v) (b:=n) hv hn;have t2:=uI (a:=w_) (b:=m) hw hm
 unfold kW bX;split<;>omega
theorem UA{lm le_:Int}(hm:0≤m∧m≤4294967295)(hn:0≤n∧n≤4294967295)(hl:1≤lm∧lm≤16384)(he:1≤le_∧le_≤4294967296):0≤m*n*(2*cu (lm*65536) le_+2)∧m*n*(2*cu (lm*65536) le_+2)<bX:=by
 obtain⟨t1,t2,-,-,t5⟩:=MX hm hn hl he
 exact⟨Int.mul_nonneg t1.1<|by omega,t5⟩
theorem YG(hz: ∀z∈zl,iQ z)(he:fw [] zl=0)(hF:lj zl zl.length L)(hS:oM L P v):fg (bQ [] zl)=[]:=by
 obtain⟨hL,-,hE⟩:=KJ hz he hF
 rw[List.take_length] at hL hE
 have:aV (bQ [] zl) (λv_=>decide ((ai v_.ra v_.rb v_.rc)>1))=[]:=List.eq_nil_iff_forall_not_mem.2 λi hi=>by
  obtain⟨c,h1,h2⟩:=zO hL.nd hi
  obtain⟨⟨r1,r2,r3⟩,-⟩:=hE.rng i c h1
  have:=(hS c<|(hE.mem c).2 (by rw[hE.own i c h1];exact h1)).1
  rw[←qS r1 r2 r3] at this
  simp only[decide_eq_true_eq] at h2;omega
 unfold fg;rw[this];rfl
set_option maxHeartbeats 4000000 in
set_option maxRecDepth 100000 in
theorem OT(t lm:Int)(al:k0)(ops:List ew)(cl:Nat)(i j:Int)(hol:ops.length≤9223372036854775807)(w:World)(r0:dR w al (V.aP nn ops))(r1:qm w ops):
  CQ Tryz.prog 5 #[.agg #[i_ t,i_ lm,vS al ops cl],i_ i,i_ j] w (b_ true):=by
 refine aU Tryz.func5 rfl (HS.nil w) ?_
 refine dW [(0,.agg #[i_ t,i_ lm,vS al ops cl]),(1,i_ i),(2,i_ j)] [] ⟨rfl,rfl,rfl,trivial⟩ rfl (aC<|dM [.al] [] (λb1=>[(1,i_ i),(2,i_ j),(3,p_ b1)]) (λ_=>[]) (λb1=>aA b1 [i_ t,i_ lm,vS al ops cl] 26) ?_)
 intro b1
 refine aC<|cV [.ld 0] [(27,.agg #[i_ t,i_ lm,vS al ops cl])]<|aG<|dH (some 28) [] (λw s h=>TX t lm al ops cl ‹_› w ((cL r0<|by simp[aN]) w s) (AE r1 s) h) ?_
 rintro⟨A'2,xs'3,c'4,b5⟩ hz1
 dsimp only at hz1
 refine aQ [(7,vS A'2 xs'3 c'4),(8,b_ b5)]<|aD<|aD ?_
 have hfl:=hz1.1
 refine aM<|aj [.ld 1,.cq<|b_<|oL t lm&&js ops 100,.o,.cl,.o,.cl] [(42,b_<|((!(oL t lm&&js ops 100))||(!b5))||(i==j))] (o1<|qo<|λw s=>TT t lm al ops cl 100 (by omega) w<|(cL r0<|by simp[aN]) w s)<|aL (E:=((!(oL t lm&&js ops 100))||(!b5))||(i==j)) rfl (λe2=>?_) (λe2=>?_)
 ·skip
  refine aC<|aj [.cq<|b_ true] [(6,b_ true)] (o1<|qw tp) ?_
  refine aF<|fE [b_ true] (λ_ w r s=>⟨cw r rfl,trivial⟩) ?_
  rfl
 ·skip
  refine az ?_
  have hmf:oL t lm=true∧js ops 100=true:=by simp_all
  obtain⟨o,hoo,hk1,hnk,hF⟩:=hz1.2<|by simp_all
  obtain⟨htt,hlm⟩:=WI hmf.1;have hof:=TU hmf.2;have htk: ∀o∈ops,0≤o.tk:=λo ho=>(r1 o ho).2.2.2.2.2;have hLr:=RY (r1 o<|Zd hoo).2.2.1 hF
  refine aM<|aj [.cq<|i_<|fp xs'3 i] [(9,i_<|fp xs'3 i)] (o1<|qo<|λw s=>xl A'2 xs'3 c'4 i (by omega) w<|(bW (i:=0) rfl) w s)<|aD ?_
  by_cases ha_:fp xs'3 i= -1
  ·skip
   refine ei [(1,i_ i),(2,i_ j),(3,p_ b1),(7,vS A'2 xs'3 c'4),(9,i_ (-1))] ⟨rfl,rfl,rfl,rfl,congrArg (λz_=>some<|i_ z_) (by exact ha_:(fp xs'3 i)= -1),trivial⟩<|aM<|jK [.cq<|i_<|fp xs'3 j] [(1,i_ i),(2,i_ j),(3,p_ b1),(7,vS A'2 xs'3 c'4),(9,i_ (-1)),(10,i_<|fp xs'3 j)] (o1<|qo<|λw s=>xl A'2 xs'3 c'4 j (by omega) w<|(bW (i:=0) rfl) w s)<|aD<|aD ?_
   by_cases hb_:fp xs'3 j= -1
   ·skip
    refine ei [(1,i_ i),(2,i_ j),(3,p_ b1),(7,vS A'2 xs'3 c'4),(9,i_ (-1)),(10,i_ (-1))] ⟨rfl,rfl,rfl,rfl,rfl,congrArg (λz_=>some<|i_ z_) (by exact hb_:(fp xs'3 j)= -1),trivial⟩<|OM [.p,.p,.p,.sk,.sk,.p,.p,.sk,.sk,.sk,.sk,.sk,.sk,.sk,.sk,.sk,.sk,.sk,.p,.p,.sk,.sk,.sk,.sk,.sk,.sk,.sk,.p,.p,.sk,.sk,.sk,.sk,.sk,.sk,.sk,.p] [0,1,2,3,4,5,6,7,8,9,10,11,12,13,14,15,16,17,18,19,20,21,22,23,24,25,26,27,28,29,30,31,32,33,34,35,36] [(1,i_ i),(2,i_ j),(3,p_ b1),(7,vS A'2 xs'3 c'4),(9,i_ (-1)),(10,i_ (-1)),(86,b_ true)]<|iw rfl (aC<|aj [.cq<|b_ true] [(6,b_ true)] (o1<|qw tp)<|aF<|fE [b_ true] (λ_ w r s=>⟨cw r rfl,trivial⟩) ?_)
    rfl
   ·skip
    obtain⟨mb,xb,hvmb,hxmb,himb⟩:=(vV xs'3 j).resolve_left λh_=>hb_ h_.1;have hlmb:=(Zf.1 hxmb).1
    refine ei [(1,i_ i),(2,i_ j),(3,p_ b1),(7,vS A'2 xs'3 c'4),(9,i_ (-1)),(10,c_ mb)] ⟨rfl,rfl,rfl,rfl,rfl,congrArg (λz_=>some<|i_ z_) (by exact hvmb:(fp xs'3 j)=(mb:Int)),trivial⟩<|OM [.p,.p,.p,.sk,.sk,.p,.p,.sk,.sk,.sk,.sk,.sk,.sk,.sk,.sk,.sk,.sk,.sk,.p,.p,.sk,.sk,.sk,.sk,.sk,.sk,.sk,.p,.p,.sk,.sk,.sk,.sk,.sk,.sk,.sk,.p] [0,1,2,3,4,5,6,7,8,9,10,11,12,13,14,15,16,17,18,19,20,21,22,23,24,25,26,27,28,29,30,31,32,33,34,35,36] [(1,i_ i),(2,i_ j),(3,p_ b1),(7,vS A'2 xs'3 c'4),(9,i_ (-1)),(10,c_ mb),(86,b_ true)]<|iw rfl (aC<|aj [.cq<|b_ true] [(6,b_ true)] (o1<|qw tp)<|aF<|fE [b_ true] (λ_ w r s=>⟨cw r rfl,trivial⟩) ?_)
    rfl
  ·skip
   obtain⟨ma,xa,hvma,hxma,hima⟩:=(vV xs'3 i).resolve_left λh_=>ha_ h_.1;have hlma:=(Zf.1 hxma).1
   refine ei [(1,i_ i),(2,i_ j),(3,p_ b1),(7,vS A'2 xs'3 c'4),(9,c_ ma)] ⟨rfl,rfl,rfl,rfl,congrArg (λz_=>some<|i_ z_) (by exact hvma:(fp xs'3 i)=(ma:Int)),trivial⟩<|aM<|jK [.cq<|i_<|fp xs'3 j] [(1,i_ i),(2,i_ j),(3,p_ b1),(7,vS A'2 xs'3 c'4),(9,c_ ma),(10,i_<|fp xs'3 j)] (o1<|qo<|λw s=>xl A'2 xs'3 c'4 j (by omega) w<|(bW (i:=0) rfl) w s)<|aD<|aD<|i5 (decide ((ma:Int)<0)) (λe3=>?_)<|λe3=>?_
   ·exact absurd e3<|by(intro h_;simp at h_;omega)
   ·skip
    refine ei [(1,i_ i),(2,i_ j),(3,p_ b1),(7,vS A'2 xs'3 c'4),(9,c_ ma),(10,i_<|fp xs'3 j)] ⟨rfl,rfl,rfl,rfl,rfl,rfl,trivial⟩ ?_
    by_cases hb_:fp xs'3 j= -1
    ·skip
     refine ei [(1,i_ i),(2,i_ j),(3,p_ b1),(7,vS A'2 xs'3 c'4),(9,c_ ma),(10,i_ (-1))] ⟨rfl,rfl,rfl,rfl,rfl,congrArg (λz_=>some<|i_ z_) (by exact hb_:(fp xs'3 j)= -1),trivial⟩<|mH [.p,.p,.p,.o,.p,.p,.cl,.p,.o,.p,.p,.ix,.p,.rd [i_ xa.hp],.p,.p,.ix,.p,.rd [i_ xa.hp],.p,.cl,.p,.o,.p,.p,.ix,.p,.rd [u_ xa.la,u_ xa.lb,u_ xa.lc],.cq<|i_<|bD xa.la xa.lb xa.lc,.p,.cl,.p,.o,.p,.p,.ix,.p,.rd [u_ xa.la,u_ xa.lb,u_ xa.lc],.cq<|i_<|bD xa.la xa.lb xa.lc,.p,.cl] [0,1,2,3,4,5,6,7,8,9,10,11,12,13,14,15,16,17,18,19,20,21,22,23,24,25,26,27,28,29,30,31,32,33,34,35,36] [(1,i_ i),(2,i_ j),(3,p_ b1),(7,vS A'2 xs'3 c'4),(9,c_ ma),(10,i_ (-1)),(86,b_<|((((decide ((ma:Int)<0))||true)||(xa.hp !=xa.hp))||((bD xa.la xa.lb xa.lc)!=2))||((bD xa.la xa.lb xa.lc)!=2))] [] (λκ=>((true&&(((decide ((ma:Int)<0))||true)==false))=true→κ.ix A'2 xs'3.length (ma:Int))∧((true&&(((decide ((ma:Int)<0))||true)==false))=true→κ.rd (((au A'2).add (ma*14)).add 1) [i_ xa.hp])∧((true&&(((decide ((ma:Int)<0))||true)==false))=true→κ.ix A'2 xs'3.length (-1:Int))∧((true&&(((decide ((ma:Int)<0))||true)==false))=true→κ.rd (((au A'2).add (0*14)).add 1) [i_ xa.hp])∧((true&&((((decide ((ma:Int)<0))||true)||(xa.hp !=xa.hp))==false))=true→κ.ix A'2 xs'3.length (ma:Int))∧((true&&((((decide ((ma:Int)<0))||true)||(xa.hp !=xa.hp))==false))=true→κ.rd (((au A'2).add (ma*14)).add 6) [u_ xa.la,u_ xa.lb,u_ xa.lc])∧((true&&((((decide ((ma:Int)<0))||true)||(xa.hp !=xa.hp))==false))=true→κ.call 15 [.agg #[u_ xa.la,u_ xa.lb,u_ xa.lc]] (i_<|bD xa.la xa.lb xa.lc))∧((true&&(((((decide ((ma:Int)<0))||true)||(xa.hp !=xa.hp))||((bD xa.la xa.lb xa.lc)!=2))==false))=true→κ.ix A'2 xs'3.length (-1:Int))∧((true&&(((((decide ((ma:Int)<0))||true)||(xa.hp !=xa.hp))||((bD xa.la xa.lb xa.lc)!=2))==false))=true→κ.rd (((au A'2).add (0*14)).add 6) [u_ xa.la,u_ xa.lb,u_ xa.lc])∧((true&&(((((decide ((ma:Int)<0))||true)||(xa.hp !=xa.hp))||((bD xa.la xa.lb xa.lc)!=2))==false))=true→κ.call 15 [.agg #[u_ xa.la,u_ xa.lb,u_ xa.lc]] (i_<|bD xa.la xa.lb xa.lc))∧True) (by kernel_rfl) (by kernel_rfl) ⟨(by intro h_;simp at h_),(by intro h_;simp at h_),(by intro h_;simp at h_),(by intro h_;simp at h_),(by intro h_;simp at h_),(by intro h_;simp at h_),(by intro h_;simp at h_),(by intro h_;simp at h_),(by intro h_;simp at h_),(by intro h_;simp at h_),trivial⟩<|aL (E:=((((decide ((ma:Int)<0))||true)||(xa.hp !=xa.hp))||((bD xa.la xa.lb xa.lc)!=2))||((bD xa.la xa.lb xa.lc)!=2)) rfl (λe4=>?_) (λe4=>?_)
     ·skip
      refine aC<|aj [.cq<|b_ true] [(6,b_ true)] (o1<|qw tp) ?_
      refine aF<|fE [b_ true] (λ_ w r s=>⟨cw r rfl,trivial⟩) ?_
      rfl
     ·exact absurd e4<|by(intro h_;simp at h_)
    ·skip
     obtain⟨mb,xb,hvmb,hxmb,himb⟩:=(vV xs'3 j).resolve_left λh_=>hb_ h_.1;have hlmb:=(Zf.1 hxmb).1
     refine ei [(1,i_ i),(2,i_ j),(3,p_ b1),(7,vS A'2 xs'3 c'4),(9,c_ ma),(10,c_ mb)] ⟨rfl,rfl,rfl,rfl,rfl,congrArg (λz_=>some<|i_ z_) (by exact hvmb:(fp xs'3 j)=(mb:Int)),trivial⟩<|mH [.p,.p,.p,.o,.p,.p,.cl,.p,.o,.p,.p,.ix,.p,.rd [i_ xa.hp],.p,.p,.ix,.p,.rd [i_ xb.hp],.p,.cl,.p,.o,.p,.p,.ix,.p,.rd [u_ xa.la,u_ xa.lb,u_ xa.lc],.cq<|i_<|bD xa.la xa.lb xa.lc,.p,.cl,.p,.o,.p,.p,.ix,.p,.rd [u_ xb.la,u_ xb.lb,u_ xb.lc],.cq<|i_<|bD xb.la xb.lb xb.lc,.p,.cl] [0,1,2,3,4,5,6,7,8,9,10,11,12,13,14,15,16,17,18,19,20,21,22,23,24,25,26,27,28,29,30,31,32,33,34,35,36] [(1,i_ i),(2,i_ j),(3,p_ b1),(7,vS A'2 xs'3 c'4),(9,c_ ma),(10,c_ mb),(86,b_<|((((decide ((ma:Int)<0))||(decide ((mb:Int)<0)))||(xa.hp !=xb.hp))||((bD xa.la xa.lb xa.lc)!=2))||((bD xb.la xb.lb xb.lc)!=2))] [] (λκ=>((true&&(((decide ((ma:Int)<0))||(decide ((mb:Int)<0)))==false))=true→κ.ix A'2 xs'3.length (ma:Int))∧((true&&(((decide ((ma:Int)<0))||(decide ((mb:Int)<0)))==false))=true→κ.rd (((au A'2).add (ma*14)).add 1) [i_ xa.hp])∧((true&&(((decide ((ma:Int)<0))||(decide ((mb:Int)<0)))==false))=true→κ.ix A'2 xs'3.length (mb:Int))∧((true&&(((decide ((ma:Int)<0))||(decide ((mb:Int)<0)))==false))=true→κ.rd (((au A'2).add (mb*14)).add 1) [i_ xb.hp])∧((true&&((((decide ((ma:Int)<0))||(decide ((mb:Int)<0)))||(xa.hp !=xb.hp))==false))=true→κ.ix A'2 xs'3.length (ma:Int))∧((true&&((((decide ((ma:Int)<0))||(decide ((mb:Int)<0)))||(xa.hp !=xb.hp))==false))=true→κ.rd (((au A'2).add (ma*14)).add 6) [u_ xa.la,u_ xa.lb,u_ xa.lc])∧((true&&((((decide ((ma:Int)<0))||(decide ((mb:Int)<0)))||(xa.hp !=xb.hp))==false))=true→κ.call 15 [.agg #[u_ xa.la,u_ xa.lb,u_ xa.lc]] (i_<|bD xa.la xa.lb xa.lc))∧((true&&(((((decide ((ma:Int)<0))||(decide ((mb:Int)<0)))||(xa.hp !=xb.hp))||((bD xa.la xa.lb xa.lc)!=2))==false))=true→κ.ix A'2 xs'3.length (mb:Int))∧((true&&(((((decide ((ma:Int)<0))||(decide ((mb:Int)<0)))||(xa.hp !=xb.hp))||((bD xa.la xa.lb xa.lc)!=2))==false))=true→κ.rd (((au A'2).add (mb*14)).add 6) [u_ xb.la,u_ xb.lb,u_ xb.lc])∧((true&&(((((decide ((ma:Int)<0))||(decide ((mb:Int)<0)))||(xa.hp !=xb.hp))||((bD xa.la xa.lb xa.lc)!=2))==false))=true→κ.call 15 [.agg #[u_ xb.la,u_ xb.lb,u_ xb.lc]] (i_<|bD xb.la xb.lb xb.lc))∧True) (by kernel_rfl) (by kernel_rfl) ⟨(λh_=>(dh fJ (by decide) (bW (i:=0) rfl)<|by omega)),(λh_=>(j8 (f:=1) (vs:=[i_ xa.hp]) fJ (bW (i:=0) rfl) hxma (by simp) rfl)),(λh_=>(dh fJ (by decide) (bW (i:=0) rfl)<|by omega)),(λh_=>(j8 (f:=1) (vs:=[i_ xb.hp]) fJ (bW (i:=0) rfl) hxmb (by simp) rfl)),(λh_=>(dh fJ (by decide) (bW (i:=0) rfl)<|by omega)),(λh_=>(j8 (f:=6) (vs:=[u_ xa.la,u_ xa.lb,u_ xa.lc]) fJ (bW (i:=0) rfl) hxma (by simp) rfl)),(λh_=>(λw s=>kD xa.la xa.lb xa.lc w)),(λh_=>(dh fJ (by decide) (bW (i:=0) rfl)<|by omega)),(λh_=>(j8 (f:=6) (vs:=[u_ xb.la,u_ xb.lb,u_ xb.lc]) fJ (bW (i:=0) rfl) hxmb (by simp) rfl)),(λh_=>(λw s=>kD xb.la xb.lb xb.lc w)),trivial⟩<|aL (E:=((((decide ((ma:Int)<0))||(decide ((mb:Int)<0)))||(xa.hp !=xb.hp))||((bD xa.la xa.lb xa.lc)!=2))||((bD xb.la xb.lb xb.lc)!=2)) rfl (λe5=>?_) (λe5=>?_)
     ·skip
      refine aC<|aj [.cq<|b_ true] [(6,b_ true)] (o1<|qw tp) ?_
      refine aF<|fE [b_ true] (λ_ w r s=>⟨cw r rfl,trivial⟩) ?_
      rfl
     ·skip
      refine aO<|aC<|eI 6 [.ix,.rd [i_ xa.hp]] [(10,c_ mb),(88,vS A'2 xs'3 c'4),(93,i_ xa.hp)] (oc (io (ma:Int)<|dh fJ (by decide) (bW (i:=0) rfl)<|by omega)<|o1<|ro (((au A'2).add (ma*14)).add 1)<|j8 (f:=1) (vs:=[i_ xa.hp]) fJ (bW (i:=0) rfl) hxma (by simp) rfl) ?_
      refine aG<|dH (some 94) [] (λw s h=>Wh A'2 xs'3 c'4 xa.hp (by omega) w ((bW (i:=0) rfl) w s) h) ?_
      rintro v7 hz6
      refine aQ [(11,u_ v7)]<|bS<|aQ [(96,b_<|v7==0)]<|aL (E:=v7==0) rfl (λe7=>?_) (λe7=>?_)
      ·skip
       refine aC<|aj [.cq<|b_ true] [(6,b_ true)] (o1<|qw tp) ?_
       refine aF<|fE [b_ true] (λ_ w r s=>⟨cw r rfl,trivial⟩) ?_
       rfl
      ·skip
       refine az ?_
       have hsn_:v7≠0:=Wv ‹_›
       have hsl_:=hz6.resolve_left hsn_
       have hnr_: ∀o,ops[0]? =some o→fw [] o.zl=0→fg (bQ [] o.zl)=[]:=λo2 h_ he_=>by rw[hoo] at h_;cases h_;exact YG (r1 o<|Zd hoo).2.2.1 he_ hF hsl_.2
       refine aM<|cV [.ld 1] [(99,.agg #[i_ t,i_ lm,vS al ops cl])]<|aG<|dH (some 100) [] (λw s h=>KB t lm al ops cl (by omega) ‹_› ‹_› ‹_› ‹_› w ((cL r0<|by simp[aN]) w s) (AE r1 s) h) ?_
       rintro⟨A'8,rs'9,a'10,B'11,ev'12,b'13⟩ hz8
       dsimp only at hz8
       refine dM [.al,.st 4] [] (λb16=>[(12,p_ b16),(13,i_ 0)]) (λ_=>[]) (λb16=>aA b16 [vS A'8 rs'9 a'10,vS B'11 ev'12 b'13] 32) ?_
       intro b16
       refine aD ?_
       obtain⟨cc,dd,hc1,hc2,hnS,hRL⟩:=hz8
       have hI:=BD (c:=cc) (by rw[hc1];exact htt) (by rw[hc2];exact hlm) hnS
       have hle:=KC hRL hI (by rw[hnS.2.2.2.2.2.2.2.2.1];decide) (by decide)<|λo ho=>⟨(r1 o ho).2.2.1,(r1 o ho).2.2.2.2.2⟩;rw[Jz hnS] at hle
       refine aM<|da [.ld 4] [(1,i_ i),(2,i_ j),(3,p_ b1),(7,vS A'2 xs'3 c'4),(9,c_ ma),(10,c_ mb),(11,u_ v7),(13,i_ 0),(14,vS B'11 ev'12 b'13)]<|aD ?_
       have hma_:=Zd hxma;have hmb_:=Zd hxmb
       have hq_:xb.hp=xa.hp∧bD xa.la xa.lb xa.lc=2∧bD xb.la xb.lb xb.lc=2:=Wu ‹_›
       have hra_:=KU hq_.2.1 (hLr xa hma_).2.2;have hrb_:=KU hq_.2.2 (hLr xb hmb_).2.2
       have hs1_:1≤v7∧v7≤4294967296:=Tv hsl_.1 hLr hsn_ hsl_.2 hma_ rfl hq_.2.1 hra_
       refine aM<|an 2 [] [(105,vS A'2 xs'3 c'4),(106,i_ i)]<|aG<|dH (some 107) [] (λw s h=>MQ A'2 xs'3 c'4 i (by omega) w ((bW (i:=2) rfl) w s) h) ?_
       rintro⟨A'17,xs'18,c'19⟩ hz9
       dsimp only at hz9
       refine aQ [(15,vS A'17 xs'18 c'19)]<|aC<|an 2 [] [(108,vS A'2 xs'3 c'4),(109,i_ j)]<|aG<|dH (some 110) [] (λw s h=>MQ A'2 xs'3 c'4 j (by omega) w ((bW (i:=3) rfl) w s) h) ?_
       rintro⟨A'21,xs'22,c'23⟩ hz10
       dsimp only at hz10
       refine aQ [(16,vS A'21 xs'22 c'23)]<|aD ?_
       have hlp_:=hz9.1;have hlq_:=hz10.1
       refine aM<|an 2 [] [(111,vS B'11 ev'12 b'13),(112,vS A'17 xs'18 c'19)]<|aG<|dH (some 113) [] (λw s h=>MP B'11 ev'12 b'13 A'17 xs'18 c'19 (by omega) (by omega) w ((bW (i:=3) rfl) w s) ((bW (i:=1) rfl) w s) h) ?_
       rintro⟨A'25,c'26⟩-
       refine da [] [(3,p_ b1),(7,vS A'2 xs'3 c'4),(9,c_ ma),(10,c_ mb),(11,u_ v7),(13,i_ 0),(14,vS B'11 ev'12 b'13),(15,vS A'17 xs'18 c'19),(16,vS A'21 xs'22 c'23),(17,vS A'25 (cD ev'12 xs'18 ev'12.length) c'26)]<|aC<|an 2 [] [(114,vS B'11 ev'12 b'13),(115,vS A'21 xs'22 c'23)]<|aG<|dH (some 116) [] (λw s h=>MP B'11 ev'12 b'13 A'21 xs'22 c'23 (by omega) (by omega) w ((bW (i:=4) rfl) w s) ((bW (i:=1) rfl) w s) h) ?_
       rintro⟨A'28,c'29⟩-
       refine aQ [(18,vS A'28 (cD ev'12 xs'22 ev'12.length) c'29)]<|aC<|aj [.ix,.rd [u_ xa.lc]] [(19,u_ xa.lc)] (oc (io (ma:Int)<|dh fJ (by decide) (bW (i:=6) rfl)<|by omega)<|o1<|ro (((au A'2).add (ma*14)).add 8)<|j8 (f:=8) (vs:=[u_ xa.lc]) fJ (bW (i:=6) rfl) hxma (by simp) rfl)<|aC<|aj [.ix,.rd [u_ xb.lc]] [(20,u_ xb.lc)] (oc (io (mb:Int)<|dh fJ (by decide) (bW (i:=6) rfl)<|by omega)<|o1<|ro (((au A'2).add (mb*14)).add 8)<|j8 (f:=8) (vs:=[u_ xb.lc]) fJ (bW (i:=6) rfl) hxmb (by simp) rfl)<|aC<|iI [.p,.p,.p,.p,.ld 7,.p,.cq<|dq<|xa.lc*xb.lc*(2*cu (lm*65536) v7+2),.al,.st 9] [3,13,14,15,16,17,18,19,20,21] (λb31=>[(3,p_ b1),(13,i_ 0),(14,vS B'11 ev'12 b'13),(15,vS A'17 xs'18 c'19),(16,vS A'21 xs'22 c'23),(17,vS A'25 (cD ev'12 xs'18 ev'12.length) c'26),(18,vS A'28 (cD ev'12 xs'22 ev'12.length) c'29),(19,u_ xa.lc),(20,u_ xb.lc),(21,p_ b31)]) (λb31=>[sI A'28 (cD ev'12 xs'22 ev'12.length) c'29,sI A'25 (cD ev'12 xs'18 ev'12.length) c'26,sI A'21 xs'22 c'23,sI A'17 xs'18 c'19,oy A'8 rs'9 a'10,gQ B'11 ev'12 b'13,dy A'2 xs'3 c'4,aA b1 [i_ t,i_ lm,vS al ops cl] 26,aA b16 [vS A'8 rs'9 a'10,vS B'11 ev'12 b'13] 32,aA b31 (dv<|xa.lc*xb.lc*(2*cu (lm*65536) v7+2)) 69]) (λb31=>[b1,b31]) (λ_=>(λκ=>κ.call 19 [u_ xa.lc,u_ xb.lc,i_ lm,u_ v7] (dq<|xa.lc*xb.lc*(2*cu (lm*65536) v7+2))∧True)) (λ_=>by kernel_rfl) (λb31=>⟨(λw s=>YF xa.lc xb.lc lm v7 (by omega) (by omega) ‹_› ‹_› w),trivial⟩) ?_
       intro b31
       refine bS<|bB [.ld 7] [(21,p_ b31),(138,c_ ops.length),(139,i_ 0)]<|aR<|fY (λ(zz:Nat)=>match zz with|k=>[(3,p_ b1),(13,i_ 0),(14,vS B'11 ev'12 b'13),(15,vS A'17 xs'18 c'19),(16,vS A'21 xs'22 c'23),(17,vS A'25 (cD ev'12 xs'18 ev'12.length) c'26),(18,vS A'28 (cD ev'12 xs'22 ev'12.length) c'29),(19,u_ xa.lc),(20,u_ xb.lc),(21,p_ b31),(138,c_ ops.length),(139,c_ k)]) (λ(zz:Nat)=>match zz with|k=>[sI A'28 (cD ev'12 xs'22 ev'12.length) c'29,sI A'25 (cD ev'12 xs'18 ev'12.length) c'26,sI A'21 xs'22 c'23,sI A'17 xs'18 c'19,oy A'8 rs'9 a'10,gQ B'11 ev'12 b'13,dy A'2 xs'3 c'4,aA b1 [i_ t,i_ lm,vS al ops cl] 26,aA b16 [vS A'8 rs'9 a'10,vS B'11 ev'12 b'13] 32,aA b31 (dv<|xa.lc*xb.lc*(2*cu (lm*65536) v7+2)) 69]) (λ(zz:Nat)=>match zz with|k=>(k≤ops.length)) (λ(zz:Nat)=>match zz with|k=>ops.length-k) (0:Nat) (by omega) ?_ ?_
       ·exact bw [0,0,0,0,0,0,0,0,0,0] ⟨rfl,rfl,rfl,rfl,rfl,rfl,rfl,rfl,rfl,rfl,rfl,rfl,trivial⟩<|by kernel_rfl
       ·rintro k hk
        have hk:k≤ops.length:=hk
        have hun:=BM ev'12<|(k:Int)+1
        refine dW [(3,p_ b1),(13,i_ 0),(14,vS B'11 ev'12 b'13),(15,vS A'17 xs'18 c'19),(16,vS A'21 xs'22 c'23),(17,vS A'25 (cD ev'12 xs'18 ev'12.length) c'26),(18,vS A'28 (cD ev'12 xs'22 ev'12.length) c'29),(19,u_ xa.lc),(20,u_ xb.lc),(21,p_ b31),(138,c_ ops.length),(139,c_ k)] [sI A'28 (cD ev'12 xs'22 ev'12.length) c'29,sI A'25 (cD ev'12 xs'18 ev'12.length) c'26,sI A'21 xs'22 c'23,sI A'17 xs'18 c'19,oy A'8 rs'9 a'10,gQ B'11 ev'12 b'13,dy A'2 xs'3 c'4,aA b1 [i_ t,i_ lm,vS al ops cl] 26,aA b16 [vS A'8 rs'9 a'10,vS B'11 ev'12 b'13] 32,aA b31 (dv<|xa.lc*xb.lc*(2*cu (lm*65536) v7+2)) 69] ⟨rfl,rfl,rfl,rfl,rfl,rfl,rfl,rfl,rfl,rfl,rfl,rfl,trivial⟩ rfl (aC<|da [] [(3,p_ b1),(13,i_ 0),(14,vS B'11 ev'12 b'13),(15,vS A'17 xs'18 c'19),(16,vS A'21 xs'22 c'23),(17,vS A'25 (cD ev'12 xs'18 ev'12.length) c'26),(18,vS A'28 (cD ev'12 xs'22 ev'12.length) c'29),(19,u_ xa.lc),(20,u_ xb.lc),(21,p_ b31),(138,c_ ops.length),(139,c_ k),(140,b_<|decide ((k:Int)<(ops.length:Int)))]<|aD<|aL (E:=decide ((k:Int)<(ops.length:Int))) rfl (λe13=>?_) (λe13=>?_))
        ·skip
         have p13:=Zg e13
         refine az<|aR<|aC<|aQ [(22,c_ k)]<|aC<|aj [.w<|(k:Int)+1,.cq<|i_ (aY ev'12 ((k:Int)+1):Int)] [(23,i_ (aY ev'12 ((k:Int)+1):Int))] (oc (wj ((k:Int)+1)<|by omega)<|o1<|qo<|λw s=>MS B'11 ev'12 b'13 ((k:Int)+1) (by omega) w<|(bW (i:=5) rfl) w s)<|aC<|aj [.ld 7,.w<|(ops.length:Int)-(k:Int)] [(150,i_<|(ops.length:Int)-(k:Int)),(151,i_ 0)] (o1<|wj ((ops.length:Int)-(k:Int))<|by omega)<|aR<|fY (λ(zz:Nat)=>match zz with|ri=>[(3,p_ b1),(13,i_ 0),(14,vS B'11 ev'12 b'13),(15,vS A'17 xs'18 c'19),(16,vS A'21 xs'22 c'23),(17,vS A'25 (cD ev'12 xs'18 ev'12.length) c'26),(18,vS A'28 (cD ev'12 xs'22 ev'12.length) c'29),(19,u_ xa.lc),(20,u_ xb.lc),(21,p_ b31),(138,c_ ops.length),(139,c_ k),(22,c_ k),(23,i_ (aY ev'12 ((k:Int)+1):Int)),(150,i_<|(ops.length:Int)-(k:Int)),(151,c_ ri)]) (λ(zz:Nat)=>match zz with|ri=>[sI A'28 (cD ev'12 xs'22 ev'12.length) c'29,sI A'25 (cD ev'12 xs'18 ev'12.length) c'26,sI A'21 xs'22 c'23,sI A'17 xs'18 c'19,oy A'8 rs'9 a'10,gQ B'11 ev'12 b'13,dy A'2 xs'3 c'4,aA b1 [i_ t,i_ lm,vS al ops cl] 26,aA b16 [vS A'8 rs'9 a'10,vS B'11 ev'12 b'13] 32,aA b31 (dv<|xa.lc*xb.lc*(2*cu (lm*65536) v7+2)) 69]) (λ(zz:Nat)=>match zz with|ri=>(k+ri≤ops.length)∧(∀q,q<ri→0<cJ (ev'12.take<|aY ev'12<|(k+q:Nat)+1) xs'18∧0<cJ (ev'12.take<|aY ev'12<|(k+q:Nat)+1) xs'22)) (λ(zz:Nat)=>match zz with|ri=>ops.length-k-ri) (0:Nat) ⟨(by omega),(by(intro q h_;omega))⟩ ?_ ?_
         ·exact bw [0,0,0,0,0,0,0,0,0,0] ⟨rfl,rfl,rfl,rfl,rfl,rfl,rfl,rfl,rfl,rfl,rfl,rfl,rfl,rfl,rfl,rfl,trivial⟩<|by kernel_rfl
         ·rintro ri ⟨hri,hac⟩
          have hun2:=BM ev'12<|(k:Int)+(ri:Int)+1
          refine dW [(3,p_ b1),(13,i_ 0),(14,vS B'11 ev'12 b'13),(15,vS A'17 xs'18 c'19),(16,vS A'21 xs'22 c'23),(17,vS A'25 (cD ev'12 xs'18 ev'12.length) c'26),(18,vS A'28 (cD ev'12 xs'22 ev'12.length) c'29),(19,u_ xa.lc),(20,u_ xb.lc),(21,p_ b31),(138,c_ ops.length),(139,c_ k),(22,c_ k),(23,i_ (aY ev'12 ((k:Int)+1):Int)),(150,i_<|(ops.length:Int)-(k:Int)),(151,c_ ri)] [sI A'28 (cD ev'12 xs'22 ev'12.length) c'29,sI A'25 (cD ev'12 xs'18 ev'12.length) c'26,sI A'21 xs'22 c'23,sI A'17 xs'18 c'19,oy A'8 rs'9 a'10,gQ B'11 ev'12 b'13,dy A'2 xs'3 c'4,aA b1 [i_ t,i_ lm,vS al ops cl] 26,aA b16 [vS A'8 rs'9 a'10,vS B'11 ev'12 b'13] 32,aA b31 (dv<|xa.lc*xb.lc*(2*cu (lm*65536) v7+2)) 69] ⟨rfl,rfl,rfl,rfl,rfl,rfl,rfl,rfl,rfl,rfl,rfl,rfl,rfl,rfl,rfl,rfl,trivial⟩ rfl (aC<|aQ [(151,c_ ri),(152,b_<|decide ((ri:Int)<((ops.length:Int)-(k:Int))))]<|aD<|aL (E:=decide ((ri:Int)<((ops.length:Int)-(k:Int)))) rfl (λe14=>?_) (λe14=>?_))
          ·skip
           have p14:=Zg e14
           refine az<|aR<|aC<|aQ [(24,c_ ri)]<|aC<|jK [.w<|(k:Int)+(ri:Int),.w<|((k:Int)+(ri:Int))+1,.cq<|i_ (aY ev'12 (((k:Int)+(ri:Int))+1):Int)] [(3,p_ b1),(13,i_ 0),(14,vS B'11 ev'12 b'13),(15,vS A'17 xs'18 c'19),(16,vS A'21 xs'22 c'23),(17,vS A'25 (cD ev'12 xs'18 ev'12.length) c'26),(18,vS A'28 (cD ev'12 xs'22 ev'12.length) c'29),(19,u_ xa.lc),(20,u_ xb.lc),(21,p_ b31),(138,c_ ops.length),(139,c_ k),(22,c_ k),(23,i_ (aY ev'12 ((k:Int)+1):Int)),(150,i_<|(ops.length:Int)-(k:Int)),(151,c_ ri),(25,i_ (aY ev'12 (((k:Int)+(ri:Int))+1):Int))] (oc (wj ((k:Int)+(ri:Int))<|by omega)<|oc (wj (((k:Int)+(ri:Int))+1)<|by omega)<|o1<|qo<|λw s=>MS B'11 ev'12 b'13 (((k:Int)+(ri:Int))+1) (by omega) w<|(bW (i:=5) rfl) w s)<|bS<|aj [.ix,.rd [c_ (cJ (ev'12.take<|aY ev'12<|(k:Int)+1) xs'18:Nat)],.o,.ix,.rd [c_ (cJ (ev'12.take<|aY ev'12<|(k:Int)+1) xs'22:Nat)],.cl,.o,.ix,.rd [c_ (cJ (ev'12.take<|aY ev'12<|((k:Int)+(ri:Int))+1) xs'18:Nat)],.cl,.o,.ix,.rd [c_ (cJ (ev'12.take<|aY ev'12<|((k:Int)+(ri:Int))+1) xs'22:Nat)],.cl] [(185,b_<|(((((cJ (ev'12.take<|aY ev'12<|(k:Int)+1) xs'18:Nat):Int)==0)||(((cJ (ev'12.take<|aY ev'12<|(k:Int)+1) xs'22:Nat):Int)==0))||(((cJ (ev'12.take<|aY ev'12<|((k:Int)+(ri:Int))+1) xs'18:Nat):Int)==0))||(((cJ (ev'12.take<|aY ev'12<|((k:Int)+(ri:Int))+1) xs'22:Nat):Int)==0))] (oc (io (aY ev'12 ((k:Int)+1):Int)<|dh dG (by decide) (bW (i:=1) rfl)<|by(rw[qV];omega))<|oc (ro ((au A'25).add ((aY ev'12<|(k:Int)+1)*1))<|dr (vs:=[c_ (cJ (ev'12.take<|aY ev'12<|(k:Int)+1) xs'18:Nat)]) dG (bW (i:=1) rfl) (xn<|by omega) (Nat.le_of_ble_eq_true rfl) rfl)<|oc (go (true&&((((cJ (ev'12.take<|aY ev'12<|(k:Int)+1) xs'18:Nat):Int)==0)==false)) λh_=>(io (aY ev'12 ((k:Int)+1):Int)<|dh dG (by decide) (bW (i:=0) rfl)<|by(rw[qV];omega)))<|oc (go (true&&((((cJ (ev'12.take<|aY ev'12<|(k:Int)+1) xs'18:Nat):Int)==0)==false)) λh_=>(ro ((au A'28).add ((aY ev'12<|(k:Int)+1)*1))<|dr (vs:=[c_ (cJ (ev'12.take<|aY ev'12<|(k:Int)+1) xs'22:Nat)]) dG (bW (i:=0) rfl) (xn<|by omega) (Nat.le_of_ble_eq_true rfl) rfl))<|oc (go (true&&(((((cJ (ev'12.take<|aY ev'12<|(k:Int)+1) xs'18:Nat):Int)==0)||(((cJ (ev'12.take<|aY ev'12<|(k:Int)+1) xs'22:Nat):Int)==0))==false)) λh_=>(io (aY ev'12 (((k:Int)+(ri:Int))+1):Int)<|dh dG (by decide) (bW (i:=1) rfl)<|by(rw[qV];omega)))<|oc (go (true&&(((((cJ (ev'12.take<|aY ev'12<|(k:Int)+1) xs'18:Nat):Int)==0)||(((cJ (ev'12.take<|aY ev'12<|(k:Int)+1) xs'22:Nat):Int)==0))==false)) λh_=>(ro ((au A'25).add ((aY ev'12<|((k:Int)+(ri:Int))+1)*1))<|dr (vs:=[c_ (cJ (ev'12.take<|aY ev'12<|((k:Int)+(ri:Int))+1) xs'18:Nat)]) dG (bW (i:=1) rfl) (xn<|by omega) (Nat.le_of_ble_eq_true rfl) rfl))<|oc (go (true&&((((((cJ (ev'12.take<|aY ev'12<|(k:Int)+1) xs'18:Nat):Int)==0)||(((cJ (ev'12.take<|aY ev'12<|(k:Int)+1) xs'22:Nat):Int)==0))||(((cJ (ev'12.take<|aY ev'12<|((k:Int)+(ri:Int))+1) xs'18:Nat):Int)==0))==false)) λh_=>(io (aY ev'12 (((k:Int)+(ri:Int))+1):Int)<|dh dG (by decide) (bW (i:=0) rfl)<|by(rw[qV];omega)))<|o1<|go (true&&((((((cJ (ev'12.take<|aY ev'12<|(k:Int)+1) xs'18:Nat):Int)==0)||(((cJ (ev'12.take<|aY ev'12<|(k:Int)+1) xs'22:Nat):Int)==0))||(((cJ (ev'12.take<|aY ev'12<|((k:Int)+(ri:Int))+1) xs'18:Nat):Int)==0))==false)) λh_=>(ro ((au A'28).add ((aY ev'12<|((k:Int)+(ri:Int))+1)*1))<|dr (vs:=[c_ (cJ (ev'12.take<|aY ev'12<|((k:Int)+(ri:Int))+1) xs'22:Nat)]) dG (bW (i:=0) rfl) (xn<|by omega) (Nat.le_of_ble_eq_true rfl) rfl))<|aL (E:=(((((cJ (ev'12.take<|aY ev'12<|(k:Int)+1) xs'18:Nat):Int)==0)||(((cJ (ev'12.take<|aY ev'12<|(k:Int)+1) xs'22:Nat):Int)==0))||(((cJ (ev'12.take<|aY ev'12<|((k:Int)+(ri:Int))+1) xs'18:Nat):Int)==0))||(((cJ (ev'12.take<|aY ev'12<|((k:Int)+(ri:Int))+1) xs'22:Nat):Int)==0)) rfl (λe15=>?_) (λe15=>?_)
           ·skip
            have p15:=e15
            refine bg<|qO<|wL rfl ((aM<|aj [.w<|(k:Int)+1] [(139,i_<|(k:Int)+1)] (o1<|wj ((k:Int)+1)<|by omega)<|bN (k+1) (by omega) (by(simp;omega)) ?_))
            exact bw [0,0,0,0,0,0,0,0,0,0] ⟨rfl,rfl,rfl,rfl,rfl,rfl,rfl,rfl,rfl,rfl,rfl,rfl,trivial⟩<|by kernel_rfl
           ·skip
            refine az ?_
            have hac2: ∀q,q<ri+1→0<cJ (ev'12.take<|aY ev'12<|(k+q:Nat)+1) xs'18∧0<cJ (ev'12.take<|aY ev'12<|(k+q:Nat)+1) xs'22:=λq hq=>by rcases Nat.lt_succ_iff_lt_or_eq.1 hq with h_|rfl;exact hac q h_;rw[Int.natCast_add];exact Y3 ‹_›
            obtain⟨hv_,hw_,hnl_⟩:=RZ hc1 htt (by rw[hc2];exact hlm) hnS hRL (λo ho=>⟨(r1 o ho).2.2.1,(r1 o ho).2.2.2.2.2⟩) (by omega) hoo hk1 hnk hF hsl_.2 hs1_.1 ⟨hma_,rfl,hq_.2.1⟩ ⟨hmb_,hq_.1,hq_.2.2⟩ hima himb hz9.2 hz10.2 (a:=k) (r:=ri) (by omega)<|λq hq=>hac2 q<|by omega
            rw[Int.natCast_add] at hv_ hw_ hnl_;rw[hc2] at hnl_;have hap_:=Tz ⟨by omega,hra_.2⟩ hv_ ⟨by omega,hrb_.2⟩ hw_;have hms_:=UA ⟨by omega,hra_.2⟩ ⟨by omega,hrb_.2⟩ hlm hs1_
            refine mH [.ld 9,.p,.p,.p,.p,.p,.w<|(aY ev'12 (((k:Int)+(ri:Int))+1):Int)-1,.cq<|u_<|dp ev'12 xs'18 (aY ev'12 ((k:Int)+1):Int) ((aY ev'12 (((k:Int)+(ri:Int))+1):Int)-1) ev'12.length,.p,.p,.p,.p,.p,.w<|(aY ev'12 (((k:Int)+(ri:Int))+1):Int)-1,.cq<|u_<|dp ev'12 xs'22 (aY ev'12 ((k:Int)+1):Int) ((aY ev'12 (((k:Int)+(ri:Int))+1):Int)-1) ev'12.length,.cq<|dq<|kW xa.lc (dp ev'12 xs'18 (aY ev'12 ((k:Int)+1):Int) ((aY ev'12 (((k:Int)+(ri:Int))+1):Int)-1) ev'12.length) xb.lc<|dp ev'12 xs'22 (aY ev'12 ((k:Int)+1):Int) ((aY ev'12 (((k:Int)+(ri:Int))+1):Int)-1) ev'12.length,.cq<|b_<|decide ((xa.lc*xb.lc*(2*cu (lm*65536) v7+2))<(kW xa.lc (dp ev'12 xs'18 (aY ev'12 ((k:Int)+1):Int) ((aY ev'12 (((k:Int)+(ri:Int))+1):Int)-1) ev'12.length) xb.lc<|dp ev'12 xs'22 (aY ev'12 ((k:Int)+1):Int) ((aY ev'12 (((k:Int)+(ri:Int))+1):Int)-1) ev'12.length))] [0,1,2,3,4,5,6,7,8,9,10,11,12,13,14,15,16] [(3,p_ b1),(13,i_ 0),(14,vS B'11 ev'12 b'13),(15,vS A'17 xs'18 c'19),(16,vS A'21 xs'22 c'23),(17,vS A'25 (cD ev'12 xs'18 ev'12.length) c'26),(18,vS A'28 (cD ev'12 xs'22 ev'12.length) c'29),(19,u_ xa.lc),(20,u_ xb.lc),(21,p_ b31),(138,c_ ops.length),(139,c_ k),(22,c_ k),(23,i_ (aY ev'12 ((k:Int)+1):Int)),(150,i_<|(ops.length:Int)-(k:Int)),(151,c_ ri),(202,b_<|decide ((xa.lc*xb.lc*(2*cu (lm*65536) v7+2))<(kW xa.lc (dp ev'12 xs'18 (aY ev'12 ((k:Int)+1):Int) ((aY ev'12 (((k:Int)+(ri:Int))+1):Int)-1) ev'12.length) xb.lc<|dp ev'12 xs'22 (aY ev'12 ((k:Int)+1):Int) ((aY ev'12 (((k:Int)+(ri:Int))+1):Int)-1) ev'12.length)))] [b31] (λκ=>(IntKind.i64.wrap ((aY ev'12 (((k:Int)+(ri:Int))+1):Int)-1)=((aY ev'12 (((k:Int)+(ri:Int))+1):Int)-1))∧κ.call 23 [vS B'11 ev'12 b'13,vS A'17 xs'18 c'19,i_ (aY ev'12 ((k:Int)+1):Int),i_<|(aY ev'12 (((k:Int)+(ri:Int))+1):Int)-1] (u_<|dp ev'12 xs'18 (aY ev'12 ((k:Int)+1):Int) ((aY ev'12 (((k:Int)+(ri:Int))+1):Int)-1) ev'12.length)∧(IntKind.i64.wrap ((aY ev'12 (((k:Int)+(ri:Int))+1):Int)-1)=((aY ev'12 (((k:Int)+(ri:Int))+1):Int)-1))∧κ.call 23 [vS B'11 ev'12 b'13,vS A'21 xs'22 c'23,i_ (aY ev'12 ((k:Int)+1):Int),i_<|(aY ev'12 (((k:Int)+(ri:Int))+1):Int)-1] (u_<|dp ev'12 xs'22 (aY ev'12 ((k:Int)+1):Int) ((aY ev'12 (((k:Int)+(ri:Int))+1):Int)-1) ev'12.length)∧κ.call 22 [u_ xa.lc,u_<|dp ev'12 xs'18 (aY ev'12 ((k:Int)+1):Int) ((aY ev'12 (((k:Int)+(ri:Int))+1):Int)-1) ev'12.length,u_ xb.lc,u_<|dp ev'12 xs'22 (aY ev'12 ((k:Int)+1):Int) ((aY ev'12 (((k:Int)+(ri:Int))+1):Int)-1) ev'12.length] (dq<|kW xa.lc (dp ev'12 xs'18 (aY ev'12 ((k:Int)+1):Int) ((aY ev'12 (((k:Int)+(ri:Int))+1):Int)-1) ev'12.length) xb.lc<|dp ev'12 xs'22 (aY ev'12 ((k:Int)+1):Int) ((aY ev'12 (((k:Int)+(ri:Int))+1):Int)-1) ev'12.length)∧κ.call 21 [(dq<|xa.lc*xb.lc*(2*cu (lm*65536) v7+2)),(dq<|kW xa.lc (dp ev'12 xs'18 (aY ev'12 ((k:Int)+1):Int) ((aY ev'12 (((k:Int)+(ri:Int))+1):Int)-1) ev'12.length) xb.lc<|dp ev'12 xs'22 (aY ev'12 ((k:Int)+1):Int) ((aY ev'12 (((k:Int)+(ri:Int))+1):Int)-1) ev'12.length)] (b_<|decide ((xa.lc*xb.lc*(2*cu (lm*65536) v7+2))<(kW xa.lc (dp ev'12 xs'18 (aY ev'12 ((k:Int)+1):Int) ((aY ev'12 (((k:Int)+(ri:Int))+1):Int)-1) ev'12.length) xb.lc<|dp ev'12 xs'22 (aY ev'12 ((k:Int)+1):Int) ((aY ev'12 (((k:Int)+(ri:Int))+1):Int)-1) ev'12.length)))∧True) (by kernel_rfl) (by kernel_rfl) ⟨nB (e:=(aY ev'12 (((k:Int)+(ri:Int))+1):Int)-1) (by constructor<;>omega),(λw s=>MR B'11 ev'12 b'13 A'17 xs'18 c'19 (aY ev'12 ((k:Int)+1):Int) ((aY ev'12 (((k:Int)+(ri:Int))+1):Int)-1) (by omega) (by omega) w ((bW (i:=5) rfl) w s)<|(bW (i:=3) rfl) w s),nB (e:=(aY ev'12 (((k:Int)+(ri:Int))+1):Int)-1) (by constructor<;>omega),(λw s=>MR B'11 ev'12 b'13 A'21 xs'22 c'23 (aY ev'12 ((k:Int)+1):Int) ((aY ev'12 (((k:Int)+(ri:Int))+1):Int)-1) (by omega) (by omega) w ((bW (i:=5) rfl) w s)<|(bW (i:=2) rfl) w s),(λw s=>YE xa.lc (dp ev'12 xs'18 (aY ev'12 ((k:Int)+1):Int) ((aY ev'12 (((k:Int)+(ri:Int))+1):Int)-1) ev'12.length) xb.lc (dp ev'12 xs'22 (aY ev'12 ((k:Int)+1):Int) ((aY ev'12 (((k:Int)+(ri:Int))+1):Int)-1) ev'12.length) (by omega) ‹_› (by omega) ‹_› w),(λw s=>Cb (xa.lc*xb.lc*(2*cu (lm*65536) v7+2)) (kW xa.lc (dp ev'12 xs'18 (aY ev'12 ((k:Int)+1):Int) ((aY ev'12 (((k:Int)+(ri:Int))+1):Int)-1) ev'12.length) xb.lc<|dp ev'12 xs'22 (aY ev'12 ((k:Int)+1):Int) ((aY ev'12 (((k:Int)+(ri:Int))+1):Int)-1) ev'12.length) ‹_› ‹_› w),trivial⟩ ?_
            refine aL (E:=decide ((xa.lc*xb.lc*(2*cu (lm*65536) v7+2))<(kW xa.lc (dp ev'12 xs'18 (aY ev'12 ((k:Int)+1):Int) ((aY ev'12 (((k:Int)+(ri:Int))+1):Int)-1) ev'12.length) xb.lc<|dp ev'12 xs'22 (aY ev'12 ((k:Int)+1):Int) ((aY ev'12 (((k:Int)+(ri:Int))+1):Int)-1) ev'12.length))) rfl (λe16=>?_) (λe16=>?_)
            ·exact absurd e16<|by(intro h_;simp only[decide_eq_true_eq] at h_;exact hnl_ h_)
            ·skip
             have p16:=Zh e16
             refine aO<|aM<|aj [.w<|(ri:Int)+1] [(151,i_<|(ri:Int)+1)] (o1<|wj ((ri:Int)+1)<|by omega)<|bN (ri+1) ⟨(by omega),hac2⟩ (by(simp;omega)) ?_
             exact bw [0,0,0,0,0,0,0,0,0,0] ⟨rfl,rfl,rfl,rfl,rfl,rfl,rfl,rfl,rfl,rfl,rfl,rfl,rfl,rfl,rfl,rfl,trivial⟩<|by kernel_rfl
          ·skip
           have p14:=Zh e14
           refine bg<|aM<|aj [.w<|(k:Int)+1] [(139,i_<|(k:Int)+1)] (o1<|wj ((k:Int)+1)<|by omega)<|bN (k+1) (by omega) (by(simp;omega)) ?_
           exact bw [0,0,0,0,0,0,0,0,0,0] ⟨rfl,rfl,rfl,rfl,rfl,rfl,rfl,rfl,rfl,rfl,rfl,rfl,trivial⟩<|by kernel_rfl
        ·skip
         have p13:=Zh e13
         refine bg<|aC<|aj [.cq<|b_ true] [(6,b_ true)] (o1<|qw tp)<|aF<|fE [b_ true] (λ_ w r s=>⟨cw r rfl,trivial⟩) ?_
         rfl
end Go.Proofs.YtobgjpigngoggaaGreat
namespace Go.Proofs.YtobgjpigngoggaaGreat
open Go V
open Go.ChangeShapes Go.WideShapes Go.ChangeAt Go.RowKit
section
variable{H:Type}{enc:TypeId×Value→H}{P:Program}{w:World}{base:Nat}{spare:Nat→Bool}{held:Bool}
variable{cs:Za}
theorem Dn{α:Type}{ea:α→Za}{ok:α→Prop}{sz fu:Nat}{t e:TypeId}{x:DataW H×List MemPlace}(ht:P.underlying t=some (.slice e))(hs:P.cellsOf e=sz)(hlen: ∀x,(ea x).length=sz)(hp:0<sz)
  (ho: ∀fu cs x,DataW.trod enc P w base spare held fu e cs=some x→ ∃y,cs=ea y∧ok y)(h:DataW.trod enc P w base spare held fu t cs=some x): ∃(A0:k0)(cap:Nat)(xs:List α),cs=[.slice A0 xs.length cap]∧dR w A0 (aP ea xs)∧(∀x∈xs,ok x)∧xs.length≤9223372036854775807:=by
 rcases Go.Deep.open_slice ht h with⟨rfl,-⟩|⟨a,len,cap,m,n,D,Pl,rfl,hb,h1,h2,h3,-,hx⟩
 ·exact⟨none,0,[],rfl,by intro j u hu;simp[aP] at hu,by simp,by simp⟩
 ·have hlm:len≤m:=by rw[h3];split<;>omega
  have key: ∀j,j≤len→ ∃xs:List α,xs.length=j∧dR w (some a) (aP ea xs)∧ ∀x∈xs,ok x:=by
   intro j
   induction j with
   |zero=>intro _;exact⟨[],rfl,by intro j u hu;simp[aP] at hu,by simp⟩
   |succ j ih=>
    intro hj
    obtain⟨xs,hxl,hxa,hxo⟩:=ih<|by omega
    obtain⟨cs',hc,htr⟩:=hx j<|by omega
    obtain⟨y,rfl,hy⟩:=ho _ _ _ htr
    refine⟨xs++[y],by simp[hxl],?_,by intro z hz;simp at hz;rcases hz with hz|rfl;exact hxo z hz;exact hy⟩
    intro i u hu
    rw[CP] at hu
    by_cases hi:i<(aP ea xs).length
    ·rw[List.getElem?_append_left hi] at hu;exact hxa i u hu
    ·rw[List.getElem?_append_right<|by omega] at hu
     have hfl:=tR hlen xs
     rw[hxl] at hfl
     rw[show aP ea [y]=ea y by simp[aP]] at hu
     obtain⟨-,-,hcell⟩:=World.cells?_some hc
     have hlt:i-(aP ea xs).length<sz:=by
      have:=(Zf.1 hu).1;rw[hlen y] at this;exact this
     have h8:=hcell (i-(aP ea xs).length) (by rw[hs];exact hlt)
     refine⟨rfl,?_⟩
     simp only[au,Option.getD_some]
     rw[Addr.add_add,hs] at h8
     rw[show j*sz+(i-(aP ea xs).length)=i by omega] at h8
     rw[h8,hu]
  obtain⟨xs,h4,h5,h6⟩:=key len<|Nat.le_refl _
  exact⟨some a,cap,xs,by rw[h4],h5,h6,by rw[h4];exact Nat.le_trans h1<|Nat.le_trans h2<|by decide⟩
def Nv(w:World)(x:ew):Prop:=dR w x.za (V.aP gv x.zl)∧dR w x.ra (V.aP f9 x.rl)∧(∀z∈x.zl,iQ z)∧(∀y∈x.rl,kq y)∧ko (fc x.op)∧0≤x.tk
theorem YH(h:cs.length=10):cs=(cs.drop 0).take 1++((cs.drop 1).take 1++((cs.drop 2).take 1++((cs.drop 3).take 6++(cs.drop 9).take 1))):=by
 match cs,h with
 |[a,b,c,d,e,f,g,h,i,j],_=>rfl
theorem Ww(fu:Nat)(cs:Za)(x:DataW H×List MemPlace)(h:DataW.trod enc Tryz.prog w base spare held fu 47 cs=some x): ∃o:ew,cs=nn o∧Nv w o:=by
 obtain⟨xs,n,-,-,hl,hlen,hf⟩:=DataW.trod_struct Tryz.underlying47 h
 have hl:cs.length=10:=hl.trans<|by kernel_rfl
 have g0:=hf 0 _ rfl;have g1:=hf 1 _ rfl;have g2:=hf 2 _ rfl;have g3:=hf 3 _ rfl;have g4:=hf 4 _ rfl
 match xs,hlen with
 |[y0,y1,y2,y3,y4],_=>
  change DataW.trod enc Tryz.prog w base spare held n 3 ((cs.drop 0).take (Tryz.prog.cellsOf 3))=some y0 at g0
  change DataW.trod enc Tryz.prog w base spare held n 38 ((cs.drop 1).take (Tryz.prog.cellsOf 38))=some y1 at g1
  change DataW.trod enc Tryz.prog w base spare held n 39 ((cs.drop 2).take (Tryz.prog.cellsOf 39))=some y2 at g2
  change DataW.trod enc Tryz.prog w base spare held n 45 ((cs.drop 3).take (Tryz.prog.cellsOf 45))=some y3 at g3
  change DataW.trod enc Tryz.prog w base spare held n 40 ((cs.drop 9).take (Tryz.prog.cellsOf 40))=some y4 at g4
  rw[show Tryz.prog.cellsOf 3=1 by kernel_rfl] at g0
  rw[show Tryz.prog.cellsOf 38=1 by kernel_rfl] at g1
  rw[show Tryz.prog.cellsOf 39=1 by kernel_rfl] at g2
  rw[show Tryz.prog.cellsOf 45=6 by kernel_rfl] at g3
  rw[show Tryz.prog.cellsOf 40=1 by kernel_rfl] at g4
  obtain⟨v0,c0,e0,f0,z0⟩:=fx<|u6 9 n 3 [.int .i64] _ _ (by kernel_rfl) g0
  obtain⟨k,rfl,-⟩:=pV f0
  obtain⟨za,zc,zl,e1,a1,o1,-⟩:=Dn (ea:=gv) (ok:=iQ) (sz:=15) Tryz.underlying38 (by kernel_rfl) tN (by decide) (λfu cs x h=>VW cs<|u6 9 fu 84 _ _ _ (by kernel_rfl) h) g1
  obtain⟨ra,rc,rl,e2,a2,o2,-⟩:=Dn (ea:=f9) (ok:=kq) (sz:=9) Tryz.underlying39 (by kernel_rfl) mJ (by decide) (λfu cs x h=>VT cs<|u6 9 fu 86 _ _ _ (by kernel_rfl) h) g2
  obtain⟨p0,c1,e3,f1,z1⟩:=fx<|u6 9 n 45 [.int .u64,.int .i64,.int .u16,.int .u16,.int .u16,.int .u16] _ _ (by kernel_rfl) g3
  obtain⟨qi,rfl,-⟩:=o6 f1
  obtain⟨p1,c2,rfl,f2,z2⟩:=fx z1
  obtain⟨qn,rfl,-⟩:=pV f2
  obtain⟨p2,c3,rfl,f3,z3⟩:=fx z2
  obtain⟨qa,rfl,r1⟩:=ng f3
  obtain⟨p3,c4,rfl,f4,z4⟩:=fx z3
  obtain⟨qb,rfl,r2⟩:=ng f4
  obtain⟨p4,c5,rfl,f5,z5⟩:=fx z4
  obtain⟨qc,rfl,r3⟩:=ng f5
  obtain⟨p5,c6,rfl,f6,z6⟩:=fx z5
  obtain⟨qd,rfl,r4⟩:=ng f6
  obtain⟨v4,c7,e4,f7,z7⟩:=fx<|u6 9 n 40 [.int .u64] _ _ (by kernel_rfl) g4
  obtain⟨tk,rfl,r5⟩:=o6 f7
  rw[u5 z0] at e0;rw[u5 z6] at e3;rw[u5 z7] at e4
  refine⟨⟨k,za,zl,zc,ra,rl,rc,⟨qi,qn,qa,qb,qc,qd⟩,tk⟩,?_,a1,a2,o1,o2,⟨r1,r2,r3,r4⟩,r5.1⟩
  rw[YH hl,e0,e1,e2,e3,e4];rfl
theorem R1{v:Value}{d:DataW H}{ps:List MemPlace}(hv: ∃cs,v= .agg cs∧cs.size=Tryz.prog.cellsOf 26)(h:DataW.Trod enc Tryz.prog w base spare held 26 v d ps):
  ∃(t lm:Int)(al:k0)(ops:List ew)(cl:Nat),v= .agg #[i_ t,i_ lm,vS al ops cl]∧dR w al (V.aP nn ops)∧qm w ops∧ops.length≤9223372036854775807:=by
 obtain⟨cs,rfl,hcs⟩:=hv
 have hcs:cs.size=3:=hcs.trans<|by kernel_rfl
 obtain⟨fu,h⟩:=h
 change DataW.trod enc Tryz.prog w base spare held fu 26 cs.toList=_ at h
 obtain⟨xs,n,-,-,hl,hlen,hf⟩:=DataW.trod_struct Tryz.underlying26 h
 have g0:=hf 0 _ rfl;have g1:=hf 1 _ rfl
 match xs,hlen with
 |[y0,y1],_=>
  change DataW.trod enc Tryz.prog w base spare held n 23 ((cs.toList.drop 0).take (Tryz.prog.cellsOf 23))=some y0 at g0
  change DataW.trod enc Tryz.prog w base spare held n 24 ((cs.toList.drop 2).take (Tryz.prog.cellsOf 24))=some y1 at g1
  rw[show Tryz.prog.cellsOf 23=2 by kernel_rfl] at g0
  rw[show Tryz.prog.cellsOf 24=1 by kernel_rfl] at g1
  obtain⟨v0,c0,e0,f0,z0⟩:=fx<|u6 9 n 23 [.int .i64,.int .i64] _ _ (by kernel_rfl) g0
  obtain⟨t,rfl,-⟩:=pV f0
  obtain⟨v1,c1,rfl,f1,z1⟩:=fx z0
  obtain⟨lm,rfl,-⟩:=pV f1
  rw[u5 z1] at e0
  obtain⟨al,cl,ops,e1,a1,o1,o2⟩:=Dn (ea:=nn) (ok:=Nv w) (sz:=10) Tryz.underlying24 (by kernel_rfl) oY (by decide) Ww g1
  refine⟨t,lm,al,ops,cl,?_,a1,o1,o2⟩
  congr 1
  apply Array.ext'
  have hl3:cs.toList.length=3:=by simpa using hcs
  generalize cs.toList=l at e0 e1 hl3
  match l,hl3 with
  |[a,b,c],_=>simp at e0 e1;obtain⟨rfl,rfl⟩:=e0;subst e1;rfl
theorem OW(t lm:Int)(al:k0)(ops:List ew)(cl:Nat)(i j:Int)(w:World)(r0:dR w al (V.aP nn ops))(r1:qm w ops)(hc:ops.length≤9223372036854775807):Calls Tryz.prog 5 #[.agg #[i_ t,i_ lm,vS al ops cl],i_ i,i_ j] w λe w'=>e= .returned (b_ true)∧Fr [] w w':=
 OT t lm al ops cl i j hc w r0 r1
end
theorem V.Fr.below{w w':World}(h:V.Fr [] w w'):Go.RowKit.Below w.heap.size w w':=⟨h.os,h.tape,h.output,h.size,λk hk=>h.block k hk (by simp)⟩
end Go.Proofs.YtobgjpigngoggaaGreat
