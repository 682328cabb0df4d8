/- The functions of the scheduler, layer by layer, proved operation by operation for all arguments, under the conditions that each theorem states: part 3. -/
import Derived.Test.YtobgjpigngoggaaGreatProg
import Derived.Shelf.SlMaps.Clone
import Derived.Ground.SlmcProg
import Derived.Laws.BitsAllLaws
import Derived.Sort.LotA
import Derived.Sort.LotB
import Derived.Sort.LotC
import Derived.Sort.LotD1
import Derived.Sort.LotD3
import Derived.Sort.LotD4
import Derived.Shelf.SortM.Plain
import Derived.Ground.SlgmProg
import Derived.Test.YtobgjpigngoggaaGreatJ2
set_option linter.unusedVariables false
set_option linter.unusedSimpArgs false
set_option maxHeartbeats 4000000
set_option maxRecDepth 100000
namespace Go.Proofs.YtobgjpigngoggaaGreat
open Go V
def kl(a b:It):Prop:=eP a.ka a.ki b.ka b.ki
instance(a b:It):Decidable (kl a b):=by unfold kl;infer_instance
variable{a b:It}
theorem HJ{c:It}(h:kl a b)(k:kl b c):kl a c:=by unfold kl eP at*;omega
theorem IX(h:kl a b): ¬kl b a:=by unfold kl eP at*;omega
theorem Sz(h: ¬kl a b)(k: ¬kl b a):a.ka=b.ka∧a.ki=b.ki:=by unfold kl eP at*;omega
def fQ(l:List It):Prop:=l.Pairwise kl
def gj(x:It):List It→List It
 |[]=>[x]
 |y::l=>if kl x y then x::y::l else y::gj x l
theorem vR(x:It): ∀l,(gj x l).length=l.length+1
 |[]=>rfl
 |y::l=>by unfold gj;split<;>simp[vR x l]
variable{x y:It}
theorem G1(h:kl x y)(R:List It): ∀L,gj x (L++y::R)=gj x L++y::R
 |[]=>by simp[gj,h]
 |z::L=>by simp only[List.cons_append,gj];split<;>simp[G1 h R L]
theorem Ft(h:kl y x)(R:List It): ∀L,fQ (L++y::R)→gj x (L++y::R)=L++y::gj x R
 |[],_=>by simp[gj,IX h]
 |z::L,hs=>by
  have hs':=List.pairwise_cons.1 hs
  have hz:kl z y:=hs'.1 y<|by simp
  have hn: ¬kl x z:=IX<|HJ hz h
  simp only[List.cons_append,gj,if_neg hn]
  rw[Ft h R L hs'.2]
theorem B8{z:It}: ∀{l:List It},z∈gj x l↔z=x∨z∈l
 |[]=>by simp[gj]
 |y::l=>by
  unfold gj;split
  ·simp
  ·simp only[List.mem_cons,B8 (l:=l)];grind
theorem HK: ∀{l:List It},fQ l→(∀y∈l,¬(y.ka=x.ka∧y.ki=x.ki))→fQ (gj x l)
 |[],_,_=>by simp[gj,fQ]
 |y::l,hs,hn=>by
  have hs':=List.pairwise_cons.1 hs
  unfold gj;split
  ·rename_i h
   refine List.pairwise_cons.2 ⟨fun z hz=>?_,hs⟩
   rcases List.mem_cons.1 hz with rfl|hz
   ·exact h
   ·exact HJ h<|hs'.1 z hz
  ·rename_i h
   refine List.pairwise_cons.2 ⟨fun z hz=>?_,HK hs'.2 fun z hz=>hn z<|by simp[hz]⟩
   rcases B8.1 hz with rfl|hz
   ·by_cases hk:kl y z
    ·exact hk
    ·exact absurd (Sz hk h)<|hn y<|by simp
   ·exact hs'.1 z hz
def gv(a i:Int)(l:List It):List It:=l.filter fun y=> !decide (y.ka=a∧y.ki=i)
variable{a i:Int}{l:List It}
theorem On(h:fQ l):fQ (gv a i l):=List.Pairwise.filter _ h
theorem xc(h: ∀y∈l,¬(y.ka=a∧y.ki=i)):gv a i l=l:=by
 unfold gv;rw[List.filter_eq_self];intro y hy;simp only[Bool.not_eq_true',decide_eq_false_iff_not];exact h y hy
variable{L R:List It}
theorem lA(h:fQ (L++x::R)):fQ L∧fQ R∧(∀y∈L,kl y x)∧(∀y∈R,kl x y)∧(∀y∈L,∀z∈R,kl y z):=by
 obtain⟨h1,h2,h3⟩:=List.pairwise_append.1 h
 obtain⟨h4,h5⟩:=List.pairwise_cons.1 h2
 exact⟨h1,h5,fun y hy=>h3 y hy x<|by simp,h4,fun y hy z hz=>h3 y hy z<|by simp[hz]⟩
theorem CJ(h:fQ (L++x::R)):gv x.ka x.ki (L++x::R)=L++R:=by
 obtain⟨_,_,h3,h4,_⟩:=lA h
 have hL: ∀y∈L,¬(y.ka=x.ka∧y.ki=x.ki):=fun y hy e=>by have:=h3 y hy;unfold kl eP at this;omega
 have hR: ∀y∈R,¬(y.ka=x.ka∧y.ki=x.ki):=fun y hy e=>by have:=h4 y hy;unfold kl eP at this;omega
 have e1:=xc hL;have e2:=xc hR
 unfold gv at*
 rw[List.filter_append,List.filter_cons,e1,e2];simp
theorem OD(h:fQ (L++x::R))(hk:eP a i x.ka x.ki):gv a i (L++x::R)=gv a i L++x::R:=by
 obtain⟨_,_,h3,h4,_⟩:=lA h
 have hR: ∀y∈x::R,¬(y.ka=a∧y.ki=i):=fun y hy e=>by
  rcases List.mem_cons.1 hy with rfl|hy
  ·unfold eP at hk;omega
  ·have:=h4 y hy;unfold kl eP at*;omega
 have e1:=xc hR
 unfold gv at*
 rw[List.filter_append,e1]
theorem Na(h:fQ (L++x::R))(hk:eP x.ka x.ki a i):gv a i (L++x::R)=L++x::gv a i R:=by
 obtain⟨_,_,h3,h4,_⟩:=lA h
 have hL: ∀y∈L,¬(y.ka=a∧y.ki=i):=fun y hy e=>by have:=h3 y hy;unfold kl eP at*;omega
 have hx: ¬(x.ka=a∧x.ki=i):=fun e=>by unfold eP at hk;omega
 have e1:=xc hL
 unfold gv at*
 rw[List.filter_append,e1,List.filter_cons,if_pos (by simp only[Bool.not_eq_true',decide_eq_false_iff_not];exact hx)]
def T.Bal:T→Prop
 | .nil=>True
 | .node _ _ _ _ _ l r=>l.hgt≤r.hgt+1∧r.hgt≤l.hgt+1∧l.Bal∧r.Bal
variable{b:Nat}{l r:T}
theorem qh:(mk b x l r).hgt=1+max l.hgt r.hgt:=rfl
theorem yt:(mk b x l r).toL=l.toL++x::r.toL:=rfl
theorem nK(h1:l.hgt≤r.hgt+1)(h2:r.hgt≤l.hgt+1)(h3:l.Bal)(h4:r.Bal):(mk b x l r).Bal:=⟨h1,h2,h3,h4⟩
theorem yT(hl:l.Right)(hr:r.Right)(bl:l.Bal)(br:r.Bal)(h1:l.hgt≤r.hgt+2)(h2:r.hgt≤l.hgt+2):
  (iu b x l r).Right∧(iu b x l r).Bal∧(iu b x l r).toL=l.toL++x::r.toL∧max l.hgt r.hgt≤(iu b x l r).hgt∧(iu b x l r).hgt≤1+max l.hgt r.hgt∧(l.hgt≤r.hgt+1→r.hgt≤l.hgt+1→(iu b x l r).hgt=1+max l.hgt r.hgt):=by
 by_cases c1:l.hgt≤r.hgt+1
 ·by_cases c2:r.hgt≤l.hgt+1
  ·rw[LL c1 c2]
   exact⟨lv hl hr,nK c1 c2 bl br,rfl,by rw[qh];omega,by rw[qh];omega,fun _ _=>rfl⟩
  ·cases r with
   |nil=>have:=hl.pos;simp only[jq] at*;omega
   |node br' y my hy ny p q=>
    obtain⟨em,eh,en,hp,hq⟩:=hr
    obtain⟨b1,b2,bp,bq⟩:=br
    by_cases c3:p.hgt>q.hgt
    ·cases p with
     |nil=>have:=hq.pos;simp only[jq] at*;omega
     |node bz z mz hz nz a c=>
      rw[Jf c1 c2 c3]
      obtain⟨em2,eh2,en2,ha,hc⟩:=hp
      obtain⟨b3,b4,ba,bc⟩:=bp
      simp only[ij,dJ] at*
      refine⟨lv (lv hl ha)<|lv hc hq,nK ?_ ?_ (nK ?_ ?_ bl ba)<|nK ?_ ?_ bc bq,?_,?_,?_,?_⟩
      all_goals(try simp only[qh,yt,T.toL,List.append_assoc,List.cons_append])<;>(try omega)
    ·rw[Je c1 c2 c3]
     simp only[ij,dJ] at*
     refine⟨lv (lv hl hp) hq,nK ?_ ?_ (nK ?_ ?_ bl bp) bq,?_,?_,?_,?_⟩
     all_goals(try simp only[qh,yt,T.toL,List.append_assoc,List.cons_append])<;>(try omega)
 ·cases l with
  |nil=>have:=hr.pos;simp only[jq] at*;omega
  |node bl' y my hy ny p q=>
   obtain⟨em,eh,en,hp,hq⟩:=hl
   obtain⟨b1,b2,bp,bq⟩:=bl
   by_cases c3:q.hgt>p.hgt
   ·cases q with
    |nil=>have:=hp.pos;simp only[jq] at*;omega
    |node bz z mz hz nz a c=>
     rw[Jd c1 c3]
     obtain⟨em2,eh2,en2,ha,hc⟩:=hq
     obtain⟨b3,b4,ba,bc⟩:=bq
     simp only[ij,dJ] at*
     refine⟨lv (lv hp ha)<|lv hc hr,nK ?_ ?_ (nK ?_ ?_ bp ba)<|nK ?_ ?_ bc br,?_,?_,?_,?_⟩
     all_goals(try simp only[qh,yt,T.toL,List.append_assoc,List.cons_append])<;>(try omega)
   ·rw[Jc c1 c3]
    simp only[ij,dJ] at*
    refine⟨lv hp<|lv hq hr,nK ?_ ?_ bp<|nK ?_ ?_ bq br,?_,?_,?_,?_⟩
    all_goals(try simp only[qh,yt,T.toL,List.append_assoc,List.cons_append])<;>(try omega)
structure iT(t z:T)(l:List It)(lo hi:Int):Prop where
 right:z.Right
 bal:z.Bal
 list:z.toL=l
 lo:t.hgt+lo≤z.hgt
 hi:z.hgt≤t.hgt+hi
variable{m it:It}{h n:Int}{z:T}
theorem Vo(ht:(T.node b x m h n l r).Right)(hb:(T.node b x m h n l r).Bal)(c:iT l z (gj it l.toL) 0 1)(hk:kl it x):iT (.node b x m h n l r) (iu b x z r) (gj it (T.node b x m h n l r).toL) 0 1:=by
 obtain⟨em,eh,en,hl,hr⟩:=ht
 obtain⟨b1,b2,bl,br⟩:=hb
 have c4:=c.lo;have c5:=c.hi
 obtain⟨k1,k2,k3,k4,k5,k6⟩:=yT (b:=b) (x:=x) c.right hr c.bal br (by omega)<|by omega
 refine⟨k1,k2,by rw[k3,c.list,T.toL,G1 hk],?_,?_⟩<;>rw[ij,eh,dJ]
 ·by_cases d1:z.hgt≤r.hgt+1
  ·have:=k6 d1 (by omega);omega
  ·omega
 ·by_cases d1:z.hgt≤r.hgt+1
  ·have:=k6 d1 (by omega);omega
  ·omega
theorem Vp(ht:(T.node b x m h n l r).Right)(hb:(T.node b x m h n l r).Bal)(hs:fQ (T.node b x m h n l r).toL)(c:iT r z (gj it r.toL) 0 1)(hk:kl x it):iT (.node b x m h n l r) (iu b x l z) (gj it (T.node b x m h n l r).toL) 0 1:=by
 obtain⟨em,eh,en,hl,hr⟩:=ht
 obtain⟨b1,b2,bl,br⟩:=hb
 have c4:=c.lo;have c5:=c.hi
 obtain⟨k1,k2,k3,k4,k5,k6⟩:=yT (b:=b) (x:=x) hl c.right bl c.bal (by omega)<|by omega
 refine⟨k1,k2,by rw[k3,c.list,T.toL,Ft hk _ _ hs],?_,?_⟩<;>rw[ij,eh,dJ]
 ·by_cases d1:z.hgt≤l.hgt+1
  ·have:=k6 (by omega) d1;omega
  ·omega
 ·by_cases d1:z.hgt≤l.hgt+1
  ·have:=k6 (by omega) d1;omega
  ·omega
variable{lst:List It}
theorem IY{b':Nat}(ht:(T.node b x m h n l r).Right)(hb:(T.node b x m h n l r).Bal)(c:iT r z lst (-1) 0):iT (.node b x m h n l r) (iu b' y l z) (l.toL++y::lst) (-1) 0:=by
 obtain⟨em,eh,en,hl,hr⟩:=ht
 obtain⟨b1,b2,bl,br⟩:=hb
 have c4:=c.lo;have c5:=c.hi
 obtain⟨k1,k2,k3,k4,k5,k6⟩:=yT (b:=b') (x:=y) hl c.right bl c.bal (by omega)<|by omega
 refine⟨k1,k2,by rw[k3,c.list],?_,?_⟩<;>rw[ij,eh,dJ]
 ·by_cases d1:l.hgt≤z.hgt+1
  ·have:=k6 d1 (by omega);omega
  ·omega
 ·by_cases d1:l.hgt≤z.hgt+1
  ·have:=k6 d1 (by omega);omega
  ·omega
theorem Oo{b':Nat}(ht:(T.node b x m h n l r).Right)(hb:(T.node b x m h n l r).Bal)(c:iT l z lst (-1) 0):iT (.node b x m h n l r) (iu b' y z r) (lst++y::r.toL) (-1) 0:=by
 obtain⟨em,eh,en,hl,hr⟩:=ht
 obtain⟨b1,b2,bl,br⟩:=hb
 have c4:=c.lo;have c5:=c.hi
 obtain⟨k1,k2,k3,k4,k5,k6⟩:=yT (b:=b') (x:=y) c.right hr c.bal br (by omega)<|by omega
 refine⟨k1,k2,by rw[k3,c.list],?_,?_⟩<;>rw[ij,eh,dJ]
 ·by_cases d1:r.hgt≤z.hgt+1
  ·have:=k6 (by omega) d1;omega
  ·omega
 ·by_cases d1:r.hgt≤z.hgt+1
  ·have:=k6 (by omega) d1;omega
  ·omega
theorem Oq:iT .nil (mk b it .nil .nil) (gj it T.nil.toL) 0 1:=⟨lv G0 G0,nK (by decide) (by decide) trivial trivial,rfl,by simp[qh,jq],by simp[qh,jq]⟩
def T.findT(a i:Int):T→T
 | .nil=> .nil
 | .node b x m h n l r=>if x.ka=a∧x.ki=i then .node b x m h n l r else if eP x.ka x.ki a i then T.findT a i r else T.findT a i l
theorem BM: ∀{t:T},fQ t.toL→t.findT a i= .nil→ ∀y∈t.toL,¬(y.ka=a∧y.ki=i)
 | .nil,_,_=>by simp[T.toL]
 | .node b x m h n l r,hs,hf=>by
   obtain⟨h1,h2,h3,h4,h5⟩:=lA (L:=l.toL) (R:=r.toL) hs
   unfold T.findT at hf
   split at hf
   ·cases hf
   ·rename_i hx
    split at hf
    ·rename_i hl
     have ih:=BM h2 hf
     intro y hy
     simp only[T.toL,List.mem_append,List.mem_cons] at hy
     rcases hy with hy|rfl|hy
     ·intro e;have:=h3 y hy;unfold kl eP at*;omega
     ·exact hx
     ·exact ih y hy
    ·rename_i hl
     have ih:=BM h1 hf
     intro y hy
     simp only[T.toL,List.mem_append,List.mem_cons] at hy
     rcases hy with hy|rfl|hy
     ·exact ih y hy
     ·exact hx
     ·intro e;have:=h4 y hy;unfold kl eP at*;omega
theorem xW: ∀{t:T}{b:Nat}{x m:It}{h n:Int}{l r:T},t.findT a i= .node b x m h n l r→(x.ka=a∧x.ki=i)∧x∈t.toL
 | .nil,_,_,_,_,_,_,_,hf=>by cases hf
 | .node b' x' m' h' n' l' r',b,x,m,h,n,l,r,hf=>by
   unfold T.findT at hf
   split at hf
   ·rename_i hx;cases hf;exact⟨hx,by simp[T.toL]⟩
   ·split at hf
    ·have:=xW hf;exact⟨this.1,by simp[T.toL,this.2]⟩
    ·have:=xW hf;exact⟨this.1,by simp[T.toL,this.2]⟩
def T.hasB(at_:Int):T→Bool
 | .nil=>false
 | .node _ _ m .. =>decide (m.va≤at_)
theorem OE(h:fQ (y::L)):gv y.ka y.ki (y::L)=L:=by simpa using CJ (L:=[]) h
theorem xt(L:List It):(gv a i L).length≤L.length:=List.length_filter_le _ _
theorem Ot(h:L.head?=some y):y∈L:=List.mem_of_mem_head? h
theorem Q1(hR:(T.node b x m h n l .nil).Right)(hB:(T.node b x m h n l .nil).Bal):iT (.node b x m h n l .nil) l (l.toL++T.nil.toL) (-1) 0:=by
 obtain⟨em,eh,en,hl,hr⟩:=hR
 have:=hl.pos
 refine⟨hl,hB.2.2.1,by simp[T.toL],?_,?_⟩<;>rw[ij,eh,dJ,jq]<;>omega
theorem Q2(hR:(T.node b x m h n l r).Right)(hB:(T.node b x m h n l r).Bal)(hS:fQ r.toL)(hy:r.toL.head?=some y)(c:iT r z (gv y.ka y.ki r.toL) (-1) 0):
  iT (.node b x m h n l r) (iu b y l z) (l.toL++r.toL) (-1) 0:=by
 have h1:=IY (b':=b) (y:=y) hR hB c
 obtain⟨L,hL⟩: ∃L,r.toL=y::L:=by cases hr:r.toL with|nil=>rw[hr] at hy;cases hy|cons z L=>rw[hr] at hy;simp at hy;subst hy;exact⟨L,rfl⟩
 rw[hL,OE<|hL▸hS] at h1
 rw[hL];exact h1
section
variable{b:Nat}{x m:It}{h n:Int}{l r z:T}{a i:Int}
theorem Ou(hS:fQ (T.node b x m h n l r).toL)(hk:x.ka=a∧x.ki=i):gv a i (T.node b x m h n l r).toL=l.toL++r.toL:=by
 obtain⟨rfl,rfl⟩:=hk;exact CJ hS
theorem Vq(hS:fQ (T.node b x m h n l r).toL)(hM: ∃y∈(T.node b x m h n l r).toL,y.ka=a∧y.ki=i)(hc:eP x.ka x.ki a i): ∃y∈r.toL,y.ka=a∧y.ki=i:=by
 obtain⟨y,hy,e1,e2⟩:=hM
 obtain⟨_,_,h3,_,_⟩:=lA (L:=l.toL) (R:=r.toL) hS
 simp only[T.toL,List.mem_append,List.mem_cons] at hy
 rcases hy with hy|rfl|hy
 ·have:=h3 y hy;unfold kl eP at*;omega
 ·unfold eP at hc;omega
 ·exact⟨y,hy,e1,e2⟩
theorem IZ(hc: ¬eP x.ka x.ki a i)(hn: ¬(x.ka=a∧x.ki=i)):eP a i x.ka x.ki:=by unfold eP at*;omega
theorem Vr(hS:fQ (T.node b x m h n l r).toL)(hM: ∃y∈(T.node b x m h n l r).toL,y.ka=a∧y.ki=i)(hc: ¬eP x.ka x.ki a i)(hn: ¬(x.ka=a∧x.ki=i)): ∃y∈l.toL,y.ka=a∧y.ki=i:=by
 obtain⟨y,hy,e1,e2⟩:=hM
 obtain⟨_,_,_,h4,_⟩:=lA (L:=l.toL) (R:=r.toL) hS
 have hk:=IZ hc hn
 simp only[T.toL,List.mem_append,List.mem_cons] at hy
 rcases hy with hy|rfl|hy
 ·exact⟨y,hy,e1,e2⟩
 ·unfold eP at hk;omega
 ·have:=h4 y hy;unfold kl eP at*;omega
theorem Vs(hR:(T.node b x m h n l r).Right)(hB:(T.node b x m h n l r).Bal)(hS:fQ (T.node b x m h n l r).toL)(c:iT r z (gv a i r.toL) (-1) 0)(hc:eP x.ka x.ki a i):iT (.node b x m h n l r) (iu b x l z) (gv a i (T.node b x m h n l r).toL) (-1) 0:=by
 have:=IY (b':=b) (y:=x) hR hB c
 rw[T.toL,Na hS hc];exact this
theorem Vu(hR:(T.node b x m h n l r).Right)(hB:(T.node b x m h n l r).Bal)(hS:fQ (T.node b x m h n l r).toL)(c:iT l z (gv a i l.toL) (-1) 0)(hn: ¬(x.ka=a∧x.ki=i))(hc: ¬eP x.ka x.ki a i):iT (.node b x m h n l r) (iu b x z r) (gv a i (T.node b x m h n l r).toL) (-1) 0:=by
 have:=Oo (b':=b) (y:=x) hR hB c
 rw[T.toL,OD hS<|IZ hc hn];exact this
end
def bt(a b:It):Prop:=eP b.va b.vi a.va a.vi∨(b.va=a.va∧b.vi=a.vi)∧eP b.ka b.ki a.ka a.ki
theorem LM{a b:It}(h:bt a b):ai a b=b:=if_pos h
theorem LN{a b:It}(h: ¬bt a b):ai a b=a:=if_neg h
theorem sN(a b:It):(bt a b∧ai a b=b)∨(¬bt a b∧ai a b=a):=by
 by_cases h:bt a b
 ·exact .inl ⟨h,LM h⟩
 ·exact .inr ⟨h,LN h⟩
theorem B9(a b:It):ai a b=ai b a:=by
 rcases sN a b with⟨h1,e1⟩|⟨h1,e1⟩<;>rcases sN b a with⟨h2,e2⟩|⟨h2,e2⟩<;>rw[e1,e2]
 ·unfold bt eP at*;omega
 ·cases a;cases b;simp only[bt,eP,It.mk.injEq] at*;omega
theorem BN(a b c:It):ai (ai a b) c=ai a (ai b c):=by
 rcases sN a b with⟨h1,e1⟩|⟨h1,e1⟩<;>rcases sN b c with⟨h2,e2⟩|⟨h2,e2⟩<;>rw[e1,e2]
 ·exact(LM (by unfold bt eP at*;omega)).symm
 ·exact e1.symm
 ·rw[e1];exact LN (by unfold bt eP at*;omega)
theorem HL(a:It):ai a a=a:=by rcases sN a a with⟨_,e⟩|⟨_,e⟩<;>exact e
def s5(o:Option It)(y:It):Option It:=match o with|none=>some y|some v=>some<|ai v y
def fq(o:Option It)(L:List It):Option It:=L.foldl s5 o
theorem Fv(a m:It): ∀L:List It,fq none L=some m→fq (some a) L=some (ai a m):=by
 have key: ∀(L:List It)(v:It),∃k,fq (some v) L=some k∧ ∀a,fq (some<|ai a v) L=some (ai a k):=by
  intro L
  induction L with
  |nil=>intro v;exact⟨v,rfl,fun a=>rfl⟩
  |cons y L ih=>
   intro v
   obtain⟨k,h1,h2⟩:=ih<|ai v y
   exact⟨k,h1,fun a=>by show fq (some<|ai (ai a v) y) L=_;rw[BN];exact h2 a⟩
 intro L h
 cases L with
 |nil=>simp[fq] at h
 |cons y L=>
  obtain⟨k,h1,h2⟩:=key L y
  have h3:fq (some y) L=some m:=h
  rw[h1] at h3;simp at h3;subst h3
  exact h2 a
theorem An(o:Option It)(L M:List It):fq o (L++M)=fq (fq o L) M:=by simp[fq]
theorem xu: ∀{t:T},t.Right→ ∀(b:Nat)(x m:It)(h n:Int)(l r:T),t= .node b x m h n l r→fq none t.toL=some m
 | .nil,_,_,_,_,_,_,_,_,e=>by cases e
 | .node b' x' m' h' n' l' r',⟨em,_,_,hl,hr⟩,b,x,m,h,n,l,r,e=>by
   cases e
   have h1:fq none (l'.toL++[x'])=some (l'.low x'):=by
    rw[An]
    cases l' with
    |nil=>rfl
    |node lb lx lm lh ln ll lr=>rw[xu hl lb lx lm lh ln ll lr rfl];show some (ai lm x')=some (ai x' lm);rw[B9]
   have h2:fq none (l'.toL++x'::r'.toL)=fq (some<|l'.low x') r'.toL:=by
    rw[←h1,←An];simp
   rw[T.toL,h2,em,cd]
   cases r' with
   |nil=>rfl
   |node rb rx rm rh rn rl rr=>exact Fv _ _ _<|xu hr rb rx rm rh rn rl rr rfl
theorem G2: ∀{L:List It}{m:It},fq none L=some m→m∈L∧ ∀y∈L,m.va≤y.va:=by
 have key: ∀(L:List It)(v m:It),fq (some v) L=some m→m∈v::L∧ ∀y∈v::L,m.va≤y.va:=by
  intro L
  induction L with
  |nil=>intro v m h;simp[fq] at h;subst h;simp
  |cons y L ih=>
   intro v m h
   obtain⟨h1,h2⟩:=ih (ai v y) m h
   have hb:ai v y=v∨ai v y=y:=by rcases sN v y with⟨_,e⟩|⟨_,e⟩<;>simp[e]
   have hle:(ai v y).va≤v.va∧(ai v y).va≤y.va:=by rcases sN v y with⟨h,e⟩|⟨h,e⟩<;>rw[e]<;>unfold bt eP at h<;>omega
   have h3:=h2 _<|List.mem_cons_self ..
   refine⟨?_,fun z hz=>?_⟩
   ·rcases List.mem_cons.1 h1 with rfl|h1
    ·rcases hb with e|e<;>rw[e]<;>simp
    ·simp[h1]
   ·rcases List.mem_cons.1 hz with rfl|hz
    ·omega
    ·rcases List.mem_cons.1 hz with rfl|hz
     ·omega
     ·exact h2 z<|by simp[hz]
 intro L m h
 cases L with
 |nil=>simp[fq] at h
 |cons y L=>exact key L y m h
def de(n:Int)(L:List It):Option It:=L.find? fun y=>decide (y.va≤n)
variable{t:T}
theorem vT(hR:t.Right)(n:Int):t.hasB n=true↔ ∃y∈t.toL,y.va≤n:=by
 cases t with
 |nil=>simp[T.hasB,T.toL]
 |node b x m h k l r=>
  have h1:=G2<|xu hR b x m h k l r rfl
  simp only[T.hasB,decide_eq_true_eq]
  exact⟨fun h=>⟨m,h1.1,h⟩,fun⟨y,hy,hn⟩=>Int.le_trans (h1.2 y hy) hn⟩
theorem BE(hR:t.Right)(h:t.hasB n=false):de n t.toL=none:=by
 unfold de;rw[List.find?_eq_none]
 intro y hy he
 have:=(vT hR n).2 ⟨y,hy,by simpa using he⟩
 rw[h] at this;cases this
variable{k:Int}
theorem Q3(hl:l.Right)(hh:l.hasB n=true):de n (T.node b x m h k l r).toL=de n l.toL:=by
 unfold de;rw[T.toL,List.find?_append]
 obtain⟨y,hy,hn⟩:=(vT hl n).1 hh
 have:(l.toL.find? fun y=>decide (y.va≤n)).isSome:=by rw[List.find?_isSome];exact⟨y,hy,by simpa using hn⟩
 obtain⟨z,hz⟩:=Option.isSome_iff_exists.1 this
 rw[hz];rfl
theorem Ov(hl:l.Right)(hh:l.hasB n=false)(hx:x.va≤n):de n (T.node b x m h k l r).toL=some x:=by
 have:=BE hl hh
 unfold de at*;rw[T.toL,List.find?_append,this];simp[hx]
theorem Q4(hl:l.Right)(hh:l.hasB n=false)(hx: ¬x.va≤n):de n (T.node b x m h k l r).toL=de n r.toL:=by
 have:=BE hl hh
 unfold de at*;rw[T.toL,List.find?_append,this,List.find?_cons_of_neg<|by simpa using hx];rfl
theorem Vv(hR:(T.node b x m h k l r).Right)(ht:(T.node b x m h k l r).hasB n=true)(hh:l.hasB n=false)(hx: ¬x.va≤n):r.hasB n=true:=by
 obtain⟨_,_,_,hl,hr⟩:=id hR
 obtain⟨y,hy,hn⟩:=(vT hR n).1 ht
 refine(vT hr n).2 ⟨y,?_,hn⟩
 simp only[T.toL,List.mem_append,List.mem_cons] at hy
 rcases hy with hy|rfl|hy
 ·have:=(vT hl n).2 ⟨y,hy,hn⟩;rw[hh] at this;cases this
 ·exact absurd hn hx
 ·exact hy
def bl(n:Int)(L:List It):List It:=L.filter fun y=>decide (y.ka≤n)
def eC(n:Int)(L:List It):Option It:=fq none<|bl n L
def ob(mt:Bool)(ov:It):Option It:=bif mt then some ov else none
variable{l r:List It}
theorem Q5(hS:fQ (l++x::r))(hx:x.ka>n):bl n (l++x::r)=bl n l:=by
 obtain⟨_,_,_,h4,_⟩:=lA hS
 unfold bl;rw[List.filter_append,List.filter_cons_of_neg<|by simpa using hx]
 have:r.filter (fun y=>decide (y.ka≤n))=[]:=by
  rw[List.filter_eq_nil_iff];intro y hy;have:=h4 y hy;unfold kl eP at this;simp;omega
 rw[this,List.append_nil]
theorem HM(hS:fQ (l++x::r))(hx: ¬x.ka>n):bl n (l++x::r)=l++x::bl n r:=by
 obtain⟨_,_,h3,_,_⟩:=lA hS
 unfold bl;rw[List.filter_append,List.filter_cons_of_pos (by simp;omega)]
 have:l.filter (fun y=>decide (y.ka≤n))=l:=by
  rw[List.filter_eq_self];intro y hy;have:=h3 y hy;unfold kl eP at this;simp;omega
 rw[this]
variable{r:T}
theorem Wq{l:T}(o:Option It)(hS:fQ (T.node b x m h k l r).toL)(hx:x.ka>n):fq o (bl n (T.node b x m h k l r).toL)=fq o (bl n l.toL):=by
 rw[T.toL,Q5 hS hx]
theorem LO(mt:Bool)(ov:It)(hS:fQ (T.node b x m h k .nil r).toL)(hx: ¬x.ka>n):fq (ob mt ov) (bl n (T.node b x m h k .nil r).toL)=fq (some<|bif mt then ai ov x else ai x x) (bl n r.toL):=by
 rw[T.toL,HM hS hx]
 cases mt
 ·show fq (s5 none x) _=_;simp only[s5,cond_false,HL]
 ·rfl
theorem LP{l:T}{lb:Nat}{lx lm:It}{lh ln:Int}{ll lr:T}(mt:Bool)(ov:It)(hl:l.Right)(el:l= .node lb lx lm lh ln ll lr)(hS:fQ (T.node b x m h k l r).toL)(hx: ¬x.ka>n):
  fq (ob mt ov) (bl n (T.node b x m h k l r).toL)=fq (some<|ai (bif mt then ai ov x else ai x x) lm) (bl n r.toL):=by
 rw[T.toL,HM hS hx,An]
 have h1:=xu hl lb lx lm lh ln ll lr el
 cases mt
 ·show fq (s5 (fq none l.toL) x) _=_
  rw[h1];simp only[s5,cond_false,HL,B9]
 ·show fq (s5 (fq (some ov) l.toL) x) _=_
  rw[Fv ov lm _ h1];simp only[s5,cond_true]
  rw[BN,B9 lm x,←BN]
structure WF(t:T):Prop where
 right:t.Right
 bal:t.Bal
 srt:fQ t.toL
theorem TA:WF .nil:=⟨trivial,trivial,by simp[T.toL,fQ]⟩
theorem WF.cnt(h:WF t):t.cnt=t.toL.length:=h.right.pos.2.2
theorem TB(h:WF t)(hN: ∀y∈t.toL,¬(y.ka=it.ka∧y.ki=it.ki))(c:iT t z (gj it t.toL) 0 1):WF z∧z.toL=gj it t.toL:=⟨⟨c.right,c.bal,by rw[c.list];exact HK h.srt hN⟩,c.list⟩
theorem TC(h:WF t)(c:iT t z (gv a i t.toL) (-1) 0):WF z∧z.toL=gv a i t.toL:=⟨⟨c.right,c.bal,by rw[c.list];exact On h.srt⟩,c.list⟩
abbrev Jb(p0)(p1:It)(p2)(p3)(p4:It)(p5)(p6):=((aA p0 [u_ p1.ka,i_ p1.ki,u_ p1.va,i_ p1.vi,.pointer<|T.ptr p2,.pointer<|T.ptr p3,u_ p4.ka,i_ p4.ki,u_ p4.va,i_ p4.vi,i_ p5,i_ p6] 361):V.aH)
theorem BC(b:Nat)(x m:It)(h n:Int)(l r:T)(a i:Int)(hc:eP x.ka x.ki a i)(w:World)(r0:(Jb b x l r m h n).holds w):
  CW 264 #[p_ b,.agg #[u_ a,i_ i]] w (i_ 1):=by
 refine aU Tryz.func264 rfl (HS.nil w) (aC<|dD [.al] [] (fun b1=>[(3,p_ b1)]) (fun b1=>aA b1 [u_ a,i_ i] 322) ?_)
 intro b1
 refine aE<|aE<|fS [.ld 0,.rd [u_ x.ka,i_ x.ki],.cq<|i_<|ia a i x.ka x.ki] (rg 0 8) [] [(12,b_<|decide ((ia a i x.ka x.ki)>0))] (oc (ro ⟨b,0,none⟩ (vs:=[u_ x.ka,i_ x.ki])<|cB r0 rfl)<|o1<|qw<|xQ a i x.ka x.ki)<|aI rfl (fun e1=>?_) (fun e1=>?_)
 ·have p1:=dZ e1
  refine aD [(4,i_ 1)]<|aF<|bK [i_ 1] ?_
  rfl
 exact absurd e1<|by simpa using(IW ..).2 hc
theorem BD(b:Nat)(x m:It)(h n:Int)(l r:T)(a i:Int)(hc: ¬eP x.ka x.ki a i)(w:World)(r0:(Jb b x l r m h n).holds w):
  CW 264 #[p_ b,.agg #[u_ a,i_ i]] w (i_ 0):=by
 refine aU Tryz.func264 rfl (HS.nil w) (aC<|dD [.al] [] (fun b1=>[(3,p_ b1)]) (fun b1=>aA b1 [u_ a,i_ i] 322) ?_)
 intro b1
 refine aE<|aE<|fS [.ld 0,.rd [u_ x.ka,i_ x.ki],.cq<|i_<|ia a i x.ka x.ki] (rg 0 8) [] [(12,b_<|decide ((ia a i x.ka x.ki)>0))] (oc (ro ⟨b,0,none⟩ (vs:=[u_ x.ka,i_ x.ki])<|cB r0 rfl)<|o1<|qw<|xQ a i x.ka x.ki)<|aI rfl (fun e1=>?_) (fun e1=>?_)
 ·exact absurd e1<|by simpa using fun h_=>hc<|(IW ..).1 h_
 have p1:=ga e1
 refine aP<|aD [(4,i_ 0)]<|aF<|bK [i_ 0] ?_
 rfl
abbrev Su(p0)(p1)(p2)(p3)(p4):=(bG 361 (T.node p0 (⟨p1,p2,p3,p4⟩:It) (cd (⟨p1,p2,p3,p4⟩:It) T.nil T.nil) (dJ T.nil T.nil) (da T.nil T.nil) T.nil T.nil):V.aH)
abbrev iH(p0)(p1)(p2):=(aA p0 [u_ p1,i_ p2] 322:V.aH)
theorem Md(t:T)(bk bv:Nat)(ka ki va vi:Int)(ih: ∀(t':T)(bk' bv':Nat)(ka' ki' va' vi':Int),SizeOf.sizeOf t'<SizeOf.sizeOf t→ ∀(hR:t'.Right)(hB:t'.Bal)(hS:fQ t'.toL)(hN: ∀y∈t'.toL,¬(y.ka=ka'∧y.ki=ki'))(hC:t'.cnt≤800)(w:World)(hs:HI w [bG 361 t',iH bk' ka' ki',iH bv' va' vi']),Calls Tryz.prog 246 #[.pointer<|T.ptr t',.agg #[u_ ka',i_ ki'],.func (.func 247) #[] #[p_ bk',p_ bv']] w fun e w'=> ∃zz,e= .returned ((fun(zt:T)=>(.pointer<|T.ptr zt)) zz)∧(fun(zt:T)=>iT t' zt (gj (⟨ka',ki',va',vi'⟩:It) t'.toL) 0 1) zz∧Turn [bG 361 t',iH bk' ka' ki',iH bv' va' vi'] ((fun(zt:T)=>[iH bk' ka' ki',iH bv' va' vi',bG 361 zt]) zz) w w')(hR:t.Right)(hB:t.Bal)(hS:fQ t.toL)(hN: ∀y∈t.toL,¬(y.ka=ka∧y.ki=ki))(hC:t.cnt≤800)(w:World)(hs:HS w (aL [bG 361 t,iH bk ka ki,iH bv va vi]) [bG 361 t,iH bk ka ki,iH bv va vi] w):
  CV 246 #[.pointer<|T.ptr t,.agg #[u_ ka,i_ ki],.func (.func 247) #[] #[p_ bk,p_ bv]] w [bG 361 t,iH bk ka ki,iH bv va vi] (fun(zt:T)=>(.pointer<|T.ptr zt)) (fun zt=>iT t zt (gj (⟨ka,ki,va,vi⟩:It) t.toL) 0 1) fun zt=>[iH bk ka ki,iH bv va vi,bG 361 zt]:=by
 refine aU Tryz.func246 rfl hs (aC<|dD [.al] [] (fun b1=>[(4,p_ b1)]) (fun b1=>aA b1 [u_ ka,i_ ki] 322) ?_)
 intro b1
 refine aE<|aE ?_
 rcases t with _|⟨b2,x3,m4,h5,n6,l7,r8⟩
 ·refine Ai [.sk,.sk,.sk,.sk,.sk,.sk,.sk] (rg 0 11) [] [(0,n_),(18,b_ true)] T0 trivial<|dX<|aC<|bA 2 [] [(19,.func (.func 247) #[] #[p_ bk,p_ bv]),(20,n_)]<|aG<|dx (some 21) [n_,p_ bk,p_ bv] Tryz.func247 rfl (aD []<|aC<|dS [.ld 1,.ld 2,.al] [] (fun b9=>[(5,p_ b9)]) (fun b9=>[(0,bG 361 T.nil)]) (fun b9=>aA b9 [u_ ka,i_ ki,u_ va,i_ vi,n_,n_,u_ 0,i_ 0,u_ 0,i_ 0,i_ 0,i_ 0] 361) ?_)
  intro b9
  refine aC<|cP [.p] [(11,p_ b9)]<|M6 [bG 361 T.nil,iH bk ka ki,iH bv va vi,iH b1 ka ki,aA b9 [u_ ka,i_ ki,u_ va,i_ vi,n_,n_,u_ 0,i_ 0,u_ 0,i_ 0,i_ 0,i_ 0] 361,bG 361 T.nil] rfl (aG<|bM (some 12) [4,0,3] (tN b9 (⟨ka,ki,va,vi⟩:It) (⟨0,0,0,0⟩:It) 0 0 T.nil T.nil (AT ‹_› (by omega))<|AT ‹_› (by omega)) ?_)
  rintro⟨⟩-
  refine dP<|aD [(4,p_ b9)]<|aF<|dO [p_ b9]<|jB [aA b9 [u_<|(⟨ka,ki,va,vi⟩:It).ka,i_<|(⟨ka,ki,va,vi⟩:It).ki,u_<|(⟨ka,ki,va,vi⟩:It).va,i_<|(⟨ka,ki,va,vi⟩:It).vi,.pointer<|T.ptr T.nil,.pointer<|T.ptr T.nil,u_<|(cd (⟨ka,ki,va,vi⟩:It) T.nil T.nil).ka,i_<|(cd (⟨ka,ki,va,vi⟩:It) T.nil T.nil).ki,u_<|(cd (⟨ka,ki,va,vi⟩:It) T.nil T.nil).va,i_<|(cd (⟨ka,ki,va,vi⟩:It) T.nil T.nil).vi,i_<|dJ T.nil T.nil,i_<|da T.nil T.nil] 361,bG 361 T.nil,bG 361 T.nil,iH bk ka ki,iH bv va vi] (sd [5])<|ak [(6,p_ b9)]<|aF<|eH [0,0,0] [Su b9 ka ki va vi] rfl (fun w hs=>mQ hs) (bJ [1,1,0] [p_ b9] ((T.node b9 (⟨ka,ki,va,vi⟩:It) (cd (⟨ka,ki,va,vi⟩:It) T.nil T.nil) (dJ T.nil T.nil) (da T.nil T.nil) T.nil T.nil)) ?_ ?_)
  ·rfl
  exact Oq
 obtain⟨hR_m,hR_h,hR_n,hR_l,hR_r⟩:=id hR;obtain⟨hB_1,hB_2,hB_l,hB_r⟩:=id hB
 have hS_:=lA (L:=T.toL l7) (x:=x3) (R:=T.toL r8) hS;have hR_1:=hR_l.pos;have hR_2:=hR_r.pos
 have hN_l: ∀y∈T.toL l7,¬(y.ka=ka∧y.ki=ki):=fun y hy=>hN y (by simp[T.toL,hy]);have hN_r: ∀y∈T.toL r8,¬(y.ka=ka∧y.ki=ki):=fun y hy=>hN y (by simp[T.toL,hy]);have hN_x: ¬(x3.ka=ka∧x3.ki=ki):=hN x3<|by simp[T.toL]
 simp only[ij,pI,dJ,da] at hR_h hR_n hC
 refine eH [0] [aA b2 [u_ x3.ka,i_ x3.ki,u_ x3.va,i_ x3.vi,.pointer<|T.ptr l7,.pointer<|T.ptr r8,u_ m4.ka,i_ m4.ki,u_ m4.va,i_ m4.vi,i_ h5,i_ n6] 361,bG 361 l7,bG 361 r8] rfl (fun w hs=>oO hs) (kD [.ld 0,.ld 5,.eq] [0,1,2,3,4,5,6,7,8,9,10] [(0,p_ b2),(4,p_ b1),(18,b_<|(x3.ka==ka)&&(x3.ki==ki))]<|aI rfl (fun e2=>?_) (fun e2=>?_))
 ·exact absurd e2 (by simp;exact fun h1 h2=>hN_x ⟨h1,h2⟩)
 refine au ?_
 by_cases hc:eP x3.ka x3.ki ka ki
 ·refine aM<|az [.ld 5,.cq<|i_ 1] [(7,i_ 1)] (o1<|qo<|fun w s=>BC b2 x3 m4 h5 n6 l7 r8 ka ki ‹_› w (s.mem (i:=0) rfl))<|aE<|bL [10,14] 15<|cL 3 [.ld 0,.ld 5] [0,1,2,3,4,5,6,7,8,9,11,12] [(26,i_ 1),(32,.pointer<|T.ptr r8),(33,.agg #[u_ ka,i_ ki]),(34,.func (.func 247) #[] #[p_ bk,p_ bv]),(37,q_ b2 4)]<|an 10 rfl (bM (some 35) [2,2,2] (ih r8 bk bv ka ki va vi (by(simp;omega)) ‹_› ‹_› hS_.2.1 ‹_› (by omega)) ?_)
  rintro zt10 hz3
  obtain⟨hz31,hz32,hz33,hz34,hz35⟩:=id hz3;have hz36:=T.Right.pos hz31
  rw[hz33,vR] at hz36
  refine cD<|cL 1 [] [13] [(35,.pointer<|T.ptr zt10),(38,q_ b2 5)]<|an 14 rfl (dN 3 [.pointer<|T.ptr zt10] rfl (cb<|aC<|cP [.p] [(39,p_ b2)]<|aG<|bM (some 40) [3,3,2] (vF b2 x3 m4 h5 n6 l7 zt10 ‹_› ‹_› (by omega) (by omega)) ?_))
  rintro zt11 hz4
  refine ak [(6,.pointer<|T.ptr zt11)]<|aF<|bJ [1,1,0] [.pointer<|T.ptr zt11] (zt11) ?_ ?_
  ·rfl
  (subst_vars;exact Vp hR hB hS ‹_› hc)
 refine aM<|az [.ld 5,.cq<|i_ 0] [(7,i_ 0)] (o1<|qo<|fun w s=>BD b2 x3 m4 h5 n6 l7 r8 ka ki ‹_› w (s.mem (i:=0) rfl))<|aE<|bL [10,14] 15<|cL 3 [.ld 0,.ld 5] [0,1,2,3,4,5,6,7,8,9,11,12] [(26,i_ 0),(32,.pointer<|T.ptr l7),(33,.agg #[u_ ka,i_ ki]),(34,.func (.func 247) #[] #[p_ bk,p_ bv]),(37,q_ b2 4)]<|an 10 rfl (bM (some 35) [1,2,2] (ih l7 bk bv ka ki va vi (by(simp;omega)) ‹_› ‹_› hS_.1 ‹_› (by omega)) ?_)
 rintro zt12 hz5
 obtain⟨hz51,hz52,hz53,hz54,hz55⟩:=id hz5;have hz56:=T.Right.pos hz51
 rw[hz53,vR] at hz56
 refine cD<|cL 1 [] [13] [(35,.pointer<|T.ptr zt12),(38,q_ b2 4)]<|an 14 rfl (dN 3 [.pointer<|T.ptr zt12] rfl (cb<|aC<|cP [.p] [(39,p_ b2)]<|aG<|bM (some 40) [3,2,2] (vF b2 x3 m4 h5 n6 zt12 r8 ‹_› ‹_› (by omega) (by omega)) ?_))
 rintro zt13 hz6
 refine ak [(6,.pointer<|T.ptr zt13)]<|aF<|bJ [1,1,0] [.pointer<|T.ptr zt13] (zt13) ?_ ?_
 ·rfl
 (subst_vars;exact Vo hR hB ‹_› (by have:=hN_x;show eP ka ki _ _;unfold eP at*;omega))
theorem Fo(t:T)(bk bv:Nat)(ka ki va vi:Int)(hR:t.Right)(hB:t.Bal)(hS:fQ t.toL)(hN: ∀y∈t.toL,¬(y.ka=ka∧y.ki=ki))(hC:t.cnt≤800)(w:World)(hs:HS w (aL [bG 361 t,iH bk ka ki,iH bv va vi]) [bG 361 t,iH bk ka ki,iH bv va vi] w):
  Calls Tryz.prog 246 #[.pointer<|T.ptr t,.agg #[u_ ka,i_ ki],.func (.func 247) #[] #[p_ bk,p_ bv]] w fun e w'=> ∃zz,e= .returned ((fun(zt:T)=>(.pointer<|T.ptr zt)) zz)∧(fun(zt:T)=>iT t zt (gj (⟨ka,ki,va,vi⟩:It) t.toL) 0 1) zz∧Turn [bG 361 t,iH bk ka ki,iH bv va vi] ((fun(zt:T)=>[iH bk ka ki,iH bv va vi,bG 361 zt]) zz) w w':=
 Md t bk bv ka ki va vi (fun t' bk' bv' ka' ki' va' vi' hlt_ g0_ g1_ g2_ g3_ g4_ w_ y_=>Fo t' bk' bv' ka' ki' va' vi' g0_ g1_ g2_ g3_ g4_ w_ y_) hR hB hS hN hC w hs
termination_by SizeOf.sizeOf t
decreasing_by exact hlt_
theorem GX(bt:Nat)(t:T)(a i:Int)(w:World)(r0:(aA bt [.pointer<|T.ptr t] 251).holds w)(r1:(bG 361 t).holds w):
  CW 245 #[p_ bt,.agg #[u_ a,i_ i]] w (.pointer<|T.ptr<|T.findT a i t):=by
 refine aU Tryz.func245 rfl (HS.nil w) (aC<|dD [.al] [] (fun b1=>[(3,p_ b1)]) (fun b1=>aA b1 [u_ a,i_ i] 322) ?_)
 intro b1
 refine bW [.rd [.pointer<|T.ptr t]] [(5,.pointer<|T.ptr t)] (o1<|ro ⟨bt,0,none⟩ (vs:=[.pointer<|T.ptr t])<|cB r0 rfl)<|aE<|aO<|eA (σ:=T) [] (fun u=>[(5,.pointer<|T.ptr u)]) [] (fun u=>[]) (fun u=>((bG 361 u).holds w)∧(T.findT a i u=T.findT a i t)) (fun u=>SizeOf.sizeOf u) (t:T) ⟨r1,(by rfl)⟩ ?_ ?_
 ·exact bB [0]
 rintro u ⟨hu,hf⟩
 refine aE<|aE ?_
 rcases u with _|⟨b2,x3,m4,h5,n6,l7,r8⟩
 ·refine Ai [.sk,.sk,.sk,.sk,.sk,.sk,.sk] (rg 0 11) [] [(5,n_),(20,b_ false)] T0 trivial ?_
  refine bY ?_
  refine bR ?_
  refine aE ?_
  refine bX [(4,n_)] ?_
  refine aF ?_
  refine bK [n_] ?_
  refine congrArg Value.pointer ?_;rw[←hf];rfl
 refine fS [.rd [u_ x3.ka,i_ x3.ki],.ld 0,.eq] (rg 0 11) [] [(5,p_ b2),(13,p_ b2),(14,p_ b2),(15,p_ b2),(16,p_ b2),(17,.agg #[u_ x3.ka,i_ x3.ki]),(18,.agg #[u_ a,i_ i]),(19,b_ (!((x3.ka==a)&&(x3.ki==i)))),(20,b_ (!((x3.ka==a)&&(x3.ki==i))))] (o1<|ro ⟨b2,0,none⟩ (vs:=[u_ x3.ka,i_ x3.ki])<|cB hu.1 rfl)<|aI rfl (fun e1=>?_) (fun e1=>?_)
 ·refine aP<|aO ?_
  by_cases hc:eP x3.ka x3.ki a i
  ·refine fS [.ld 0,.cq<|i_ 1,.rd [.pointer<|T.ptr r8]] (rg 0 9) [] [(5,.pointer<|T.ptr r8)] (oc (qo<|fun w s=>BC b2 x3 m4 h5 n6 l7 r8 a i ‹_› w (bV s hu.1))<|o1<|ro ⟨b2,5,none⟩ (vs:=[.pointer<|T.ptr r8])<|cB hu.1 rfl)<|bC (r8) ⟨hu.2.2,(by rw[←hf];(conv=>rhs;unfold T.findT);(rw[if_neg (by intro he_;simp_all),if_pos hc]))⟩ (by(simp;omega)) ?_
   exact bB [0]
  refine fS [.ld 0,.cq<|i_ 0,.rd [.pointer<|T.ptr l7]] (rg 0 9) [] [(5,.pointer<|T.ptr l7)] (oc (qo<|fun w s=>BD b2 x3 m4 h5 n6 l7 r8 a i ‹_› w (bV s hu.1))<|o1<|ro ⟨b2,4,none⟩ (vs:=[.pointer<|T.ptr l7])<|cB hu.1 rfl)<|bC (l7) ⟨hu.2.1,(by rw[←hf];(conv=>rhs;unfold T.findT);(rw[if_neg (by intro he_;simp_all),if_neg hc]))⟩ (by(simp;omega)) ?_
  exact bB [0]
 refine bR ?_
 refine aE ?_
 refine bX [(4,p_ b2)] ?_
 refine aF ?_
 refine bK [p_ b2] ?_
 refine congrArg Value.pointer ?_;rw[←hf];(unfold T.findT;rw[if_pos<|by simp_all];rfl)
theorem GY(t:T)(n:Int)(w:World)(r0:(bG 361 t).holds w):
  CW 268 #[.pointer<|T.ptr t,u_ n] w (b_<|T.hasB n t):=by
 refine aU Tryz.func268 rfl (HS.nil w) (aD []<|aC<|cP [.p] [(5,.pointer<|T.ptr t)] ?_)
 rcases t with _|⟨b1,x2,m3,h4,n5,l6,r7⟩
 ·refine bF [.sk,.sk,.sk,.sk,.sk,.sk,.sk,.sk] [(4,b_ false)]<|aF<|bK [b_ false] ?_
  rfl
 refine az [.rd [u_ m3.va]] [(4,b_<|decide (m3.va≤n))] (o1<|ro ⟨b1,8,none⟩ (vs:=[u_ m3.va])<|cB r0.1 rfl)<|aF<|bK [b_<|decide (m3.va≤n)] ?_
 rfl
theorem OC(bt:Nat)(t:T)(w:World)(r0:(aA bt [.pointer<|T.ptr t] 251).holds w)(r1:(bG 361 t).holds w):
  CW 249 #[p_ bt] w (i_<|T.cnt t):=by
 refine aU Tryz.func249 rfl (HS.nil w) (aD []<|aE<|aD [(4,b_ false)]<|bY<|aP<|bW [.rd [.pointer<|T.ptr t],.cq<|i_<|T.cnt t] [(2,i_<|T.cnt t)] (oc (ro ⟨bt,0,none⟩ (vs:=[.pointer<|T.ptr t])<|cB r0 rfl)<|o1<|qo<|fun w s=>BK t w<|bV s r1)<|aF<|bK [i_<|T.cnt t] ?_)
 rfl
abbrev Sv(p0)(p1:It)(p2)(p3)(p4:It)(p5)(p6):=([aA p0 [u_ p1.ka,i_ p1.ki,u_ p1.va,i_ p1.vi,.pointer<|T.ptr p2,.pointer<|T.ptr p3,u_ p4.ka,i_ p4.ki,u_ p4.va,i_ p4.vi,i_ p5,i_ p6] 361,bG 361 p2,bG 361 p3]:List V.aH)
theorem NI(b:Nat)(x m:It)(h n:Int)(l r:T)(ih: ∀(t':T)(ka' ki':Int),SizeOf.sizeOf t'<SizeOf.sizeOf (T.node b x m h n l r)→ ∀(hR:t'.Right)(hB:t'.Bal)(hS:fQ t'.toL)(hM: ∃y∈t'.toL,y.ka=ka'∧y.ki=ki')(hC:t'.cnt≤800)(w:World)(hs:HI w [bG 361 t']),Calls Tryz.prog 246 #[.pointer<|T.ptr t',.agg #[u_ ka',i_ ki'],.func (.func 263) #[] #[]] w fun e w'=> ∃zz,e= .returned ((fun(zt:T)=>(.pointer<|T.ptr zt)) zz)∧(fun(zt:T)=>iT t' zt (gv ka' ki' t'.toL) (-1) 0) zz∧Turn [bG 361 t'] ((fun(zt:T)=>[bG 361 zt]) zz) w w')(hR:(T.node b x m h n l r).Right)(hB:(T.node b x m h n l r).Bal)(hS:fQ (T.node b x m h n l r).toL)(hC:(T.node b x m h n l r).cnt≤800)(w:World)(hs:HS w (aL [bG 361<|T.node b x m h n l r]) [bG 361<|T.node b x m h n l r] w):
  CV 263 #[p_ b] w [bG 361<|T.node b x m h n l r] (fun(zt:T)=>(.pointer<|T.ptr zt)) (fun zt=>iT (T.node b x m h n l r) zt (l.toL++r.toL) (-1) 0) fun zt=>[bG 361 zt]:=by
 obtain⟨hR_m,hR_h,hR_n,hR_l,hR_r⟩:=id hR;obtain⟨hB_1,hB_2,hB_l,hB_r⟩:=id hB;have hS_:=lA (L:=T.toL l) (x:=x) (R:=T.toL r) hS;have hR_1:=hR_l.pos;have hR_2:=hR_r.pos;simp only[ij,pI,dJ,da] at hR_h hR_n hC
 refine aU Tryz.func263 rfl hs (aD []<|cS<|bA 4 [] [(7,q_ b 5)]<|eH [0] (Sv b x l r m h n) rfl (fun w hs=>oO hs) (cP [.ld 0] [(8,.pointer<|T.ptr r)] ?_))
 rcases r with _|⟨b1,x2,m3,h4,n5,l6,r7⟩
 ·refine ak [(9,b_ true)]<|dX<|aC<|bF [.ld 0] [(2,.pointer<|T.ptr l)]<|aF<|bJ [1] [.pointer<|T.ptr l] (l) ?_ ?_
  ·rfl
  exact Q1 hR hB
 refine ak [(9,b_ false)]<|bY<|aP<|aC<|bF [.ld 0] [(3,p_ b1)]<|aE<|aO<|fm (fun(zz:T)=>match zz with|u=>[(0,p_ b),(3,.pointer<|T.ptr u)]) (fun(zz:T)=>match zz with|u=>[aA b [u_ x.ka,i_ x.ki,u_ x.va,i_ x.vi,.pointer<|T.ptr l,p_ b1,u_ m.ka,i_ m.ki,u_ m.va,i_ m.vi,i_ h,i_ n] 361,bG 361 l,bG 361<|T.node b1 x2 m3 h4 n5 l6 r7]) (fun(zz:T)=>match zz with|u=>(∀w,(bG 361<|T.node b1 x2 m3 h4 n5 l6 r7).holds w→(bG 361 u).holds w)∧(u.toL.head?=(T.toL<|T.node b1 x2 m3 h4 n5 l6 r7).head?)∧(u≠ .nil)) (fun(zz:T)=>match zz with|u=>SizeOf.sizeOf u) ((T.node b1 x2 m3 h4 n5 l6 r7):T) ⟨(fun _ h=>h),(by rfl),(by simp)⟩ ?_ ?_
 ·exact bB [0,0,0]
 rintro u ⟨hv,hhd,hu⟩
 refine cS<|cP [.p] [(20,.pointer<|T.ptr u)] ?_
 rcases u with _|⟨b8,x9,m10,h11,n12,l13,r14⟩
 ·exact absurd rfl hu
 refine dm 4 [.rd [.pointer<|T.ptr l13]] [(3,p_ b8),(24,.pointer<|T.ptr l13)] (o1<|ro ⟨b8,4,none⟩ (vs:=[.pointer<|T.ptr l13])<|fJ (fun w s=>(hv _<|s.mem (i:=2) rfl).1) rfl) ?_
 rcases l13 with _|⟨b15,x16,m17,h18,n19,l20,r21⟩
 ·refine ak [(25,b_ false)]<|bY<|bR<|aC<|gA [.rd [u_ x9.ka,i_ x9.ki,u_ x9.va,i_ x9.vi],.st 0] [] [] [(0,aA b [u_ x9.ka,i_ x9.ki,u_ x9.va,i_ x9.vi,.pointer<|T.ptr l,p_ b1,u_ m.ka,i_ m.ki,u_ m.va,i_ m.vi,i_ h,i_ n] 361)] (o1<|ro ⟨b8,0,none⟩ (vs:=[u_ x9.ka,i_ x9.ki,u_ x9.va,i_ x9.vi])<|fJ (fun w s=>(hv _<|s.mem (i:=2) rfl).1) rfl)<|aE<|bL [11,15] 16<|cO 3 [.ld 0,.rd [u_ x9.ka,i_ x9.ki]] [0,1,2,3,4,5,6,7,8,9,10,12,13] [(43,p_ b1),(48,.agg #[u_ x9.ka,i_ x9.ki]),(51,q_ b 4)] (o1<|ro ⟨b8,0,none⟩ (vs:=[u_ x9.ka,i_ x9.ki])<|fJ (fun w s=>(hv _<|s.mem (i:=2) rfl).1) rfl)<|an 11 rfl (bM (some 49) [2] (ih (T.node b1 x2 m3 h4 n5 l6 r7) x9.ka x9.ki (by(simp;omega)) ‹_› ‹_› hS_.2.1 ⟨_,Ot<|hhd.symm.trans<|by simp[T.toL],rfl,rfl⟩ (by omega)) ?_)
  rintro zt22 hz1
  obtain⟨hz11,hz12,hz13,hz14,hz15⟩:=id hz1;have hz16:=T.Right.pos hz11
  rw[hz13] at hz16;have hz17:=xt (a:=x9.ka) (i:=x9.ki)<|T.toL<|T.node b1 x2 m3 h4 n5 l6 r7
  refine cD<|cL 1 [] [14] [(49,.pointer<|T.ptr zt22),(52,q_ b 5)]<|an 15 rfl (dN 1 [.pointer<|T.ptr zt22] rfl (cb<|aC<|cP [.p] [(53,p_ b)]<|aG<|bM (some 54) [1,1,0] (vF b x9 m h n l zt22 ‹_› ‹_› (by omega) (by omega)) ?_))
  rintro zt23 hz2
  refine ak [(2,.pointer<|T.ptr zt23)]<|aF<|bJ [0] [.pointer<|T.ptr zt23] (zt23) ?_ ?_
  ·rfl
  (subst_vars;exact Q2 hR hB hS_.2.1 (hhd.symm.trans<|by simp[T.toL]) ‹_›)
 refine ak [(25,b_ true)]<|dX<|aP<|aO<|aM<|az [.rd [p_ b15]] [(3,p_ b15)] (o1<|ro ⟨b8,4,none⟩ (vs:=[p_ b15])<|fJ (fun w s=>(hv _<|s.mem (i:=2) rfl).1) rfl)<|bC ((T.node b15 x16 m17 h18 n19 l20 r21)) ⟨(fun w hw=>(hv w hw).2.1),(by rw[←hhd];simp only[T.toL];simp),(by simp)⟩ (by(simp;omega)) ?_
 exact bB [0,0,0]
theorem NA(t:T)(ka ki:Int)(ih: ∀(t':T)(ka' ki':Int),SizeOf.sizeOf t'<SizeOf.sizeOf t→ ∀(hR:t'.Right)(hB:t'.Bal)(hS:fQ t'.toL)(hM: ∃y∈t'.toL,y.ka=ka'∧y.ki=ki')(hC:t'.cnt≤800)(w:World)(hs:HI w [bG 361 t']),Calls Tryz.prog 246 #[.pointer<|T.ptr t',.agg #[u_ ka',i_ ki'],.func (.func 263) #[] #[]] w fun e w'=> ∃zz,e= .returned ((fun(zt:T)=>(.pointer<|T.ptr zt)) zz)∧(fun(zt:T)=>iT t' zt (gv ka' ki' t'.toL) (-1) 0) zz∧Turn [bG 361 t'] ((fun(zt:T)=>[bG 361 zt]) zz) w w')(hR:t.Right)(hB:t.Bal)(hS:fQ t.toL)(hM: ∃y∈t.toL,y.ka=ka∧y.ki=ki)(hC:t.cnt≤800)(w:World)(hs:HS w (aL [bG 361 t]) [bG 361 t] w):
  CV 246 #[.pointer<|T.ptr t,.agg #[u_ ka,i_ ki],.func (.func 263) #[] #[]] w [bG 361 t] (fun(zt:T)=>(.pointer<|T.ptr zt)) (fun zt=>iT t zt (gv ka ki t.toL) (-1) 0) fun zt=>[bG 361 zt]:=by
 refine aU Tryz.func246 rfl hs (aC<|dD [.al] [] (fun b1=>[(4,p_ b1)]) (fun b1=>aA b1 [u_ ka,i_ ki] 322) ?_)
 intro b1
 refine aE<|aE ?_
 rcases t with _|⟨b2,x3,m4,h5,n6,l7,r8⟩
 ·exact absurd hM<|by simp[T.toL]
 obtain⟨hR_m,hR_h,hR_n,hR_l,hR_r⟩:=id hR;obtain⟨hB_1,hB_2,hB_l,hB_r⟩:=id hB
 have hS_:=lA (L:=T.toL l7) (x:=x3) (R:=T.toL r8) hS;have hR_1:=hR_l.pos;have hR_2:=hR_r.pos
 have hC0:=hC;simp only[ij,pI,dJ,da] at hR_h hR_n hC
 refine eH [0] [aA b2 [u_ x3.ka,i_ x3.ki,u_ x3.va,i_ x3.vi,.pointer<|T.ptr l7,.pointer<|T.ptr r8,u_ m4.ka,i_ m4.ki,u_ m4.va,i_ m4.vi,i_ h5,i_ n6] 361,bG 361 l7,bG 361 r8] rfl (fun w hs=>oO hs) (kD [.ld 0,.ld 3,.eq] [0,1,2,3,4,5,6,7,8,9,10] [(0,p_ b2),(4,p_ b1),(18,b_<|(x3.ka==ka)&&(x3.ki==ki))]<|aI rfl (fun e1=>?_) (fun e1=>?_))
 ·have p1:=e1;try simp only[bQ] at p1
  refine aC<|bA 2 [] [(19,.func (.func 263) #[] #[]),(20,p_ b2)]<|vC [0,0,0] (fun _:Unit=>True) (fun _=>[bG 361<|T.node b2 x3 m4 h5 n6 l7 r8]) (fun _=>[bG 361<|T.node b2 x3 m4 h5 n6 l7 r8,aA b1 [u_ ka,i_ ki] 322]) rfl (fun w hs=>mQ hs) (fun _=>rfl) (fun _ _=>?_)
  refine aG<|bM (some 21) [0] (NI b2 x3 m4 h5 n6 l7 r8 ih ‹_› ‹_› ‹_› ‹_›) ?_
  rintro zt9 hz2
  obtain⟨hz21,hz22,hz23,hz24,hz25⟩:=id hz2;have hz26:=T.Right.pos hz21
  rw[hz23] at hz26
  refine ak [(6,.pointer<|T.ptr zt9)]<|aF<|bJ [0] [.pointer<|T.ptr zt9] (zt9) ?_ ?_
  ·rfl
  (rw[Ou hS ‹_›];assumption)
 refine au ?_
 by_cases hc:eP x3.ka x3.ki ka ki
 ·refine aM<|az [.ld 3,.cq<|i_ 1] [(7,i_ 1)] (o1<|qo<|fun w s=>BC b2 x3 m4 h5 n6 l7 r8 ka ki ‹_› w (s.mem (i:=0) rfl))<|aE<|bL [10,14] 15<|cL 3 [.ld 0,.ld 3] [0,1,2,3,4,5,6,7,8,9,11,12] [(26,i_ 1),(32,.pointer<|T.ptr r8),(33,.agg #[u_ ka,i_ ki]),(34,.func (.func 263) #[] #[]),(37,q_ b2 4)]<|an 10 rfl (bM (some 35) [2] (ih r8 ka ki (by(simp;omega)) ‹_› ‹_› hS_.2.1 (Vq hS hM hc) (by omega)) ?_)
  rintro zt10 hz3
  obtain⟨hz31,hz32,hz33,hz34,hz35⟩:=id hz3;have hz36:=T.Right.pos hz31
  rw[hz33] at hz36;have hz37:=xt (a:=ka) (i:=ki)<|T.toL r8
  refine cD<|cL 1 [] [13] [(35,.pointer<|T.ptr zt10),(38,q_ b2 5)]<|an 14 rfl (dN 1 [.pointer<|T.ptr zt10] rfl (cb<|aC<|cP [.p] [(39,p_ b2)]<|aG<|bM (some 40) [1,1,0] (vF b2 x3 m4 h5 n6 l7 zt10 ‹_› ‹_› (by omega) (by omega)) ?_))
  rintro zt11 hz4
  refine ak [(6,.pointer<|T.ptr zt11)]<|aF<|bJ [0] [.pointer<|T.ptr zt11] (zt11) ?_ ?_
  ·rfl
  (subst_vars;exact Vs hR hB hS ‹_› hc)
 refine aM<|az [.ld 3,.cq<|i_ 0] [(7,i_ 0)] (o1<|qo<|fun w s=>BD b2 x3 m4 h5 n6 l7 r8 ka ki ‹_› w (s.mem (i:=0) rfl))<|aE<|bL [10,14] 15<|cL 3 [.ld 0,.ld 3] [0,1,2,3,4,5,6,7,8,9,11,12] [(26,i_ 0),(32,.pointer<|T.ptr l7),(33,.agg #[u_ ka,i_ ki]),(34,.func (.func 263) #[] #[]),(37,q_ b2 4)]<|an 10 rfl (bM (some 35) [1] (ih l7 ka ki (by(simp;omega)) ‹_› ‹_› hS_.1 (by exact Vr hS hM hc (by intro he_;simp_all)) (by omega)) ?_)
 rintro zt12 hz5
 obtain⟨hz51,hz52,hz53,hz54,hz55⟩:=id hz5;have hz56:=T.Right.pos hz51
 rw[hz53] at hz56;have hz57:=xt (a:=ka) (i:=ki)<|T.toL l7
 refine cD<|cL 1 [] [13] [(35,.pointer<|T.ptr zt12),(38,q_ b2 4)]<|an 14 rfl (dN 1 [.pointer<|T.ptr zt12] rfl (cb<|aC<|cP [.p] [(39,p_ b2)]<|aG<|bM (some 40) [1,0,0] (vF b2 x3 m4 h5 n6 zt12 r8 ‹_› ‹_› (by omega) (by omega)) ?_))
 rintro zt13 hz6
 refine ak [(6,.pointer<|T.ptr zt13)]<|aF<|bJ [0] [.pointer<|T.ptr zt13] (zt13) ?_ ?_
 ·rfl
 (subst_vars;exact Vu hR hB hS ‹_› (by intro he_;simp_all) hc)
theorem GZ(t:T)(ka ki:Int)(hR:t.Right)(hB:t.Bal)(hS:fQ t.toL)(hM: ∃y∈t.toL,y.ka=ka∧y.ki=ki)(hC:t.cnt≤800)(w:World)(hs:HS w (aL [bG 361 t]) [bG 361 t] w):
  Calls Tryz.prog 246 #[.pointer<|T.ptr t,.agg #[u_ ka,i_ ki],.func (.func 263) #[] #[]] w fun e w'=> ∃zz,e= .returned ((fun(zt:T)=>(.pointer<|T.ptr zt)) zz)∧(fun(zt:T)=>iT t zt (gv ka ki t.toL) (-1) 0) zz∧Turn [bG 361 t] ((fun(zt:T)=>[bG 361 zt]) zz) w w':=
 NA t ka ki (fun t' ka' ki' hlt_ g0_ g1_ g2_ g3_ g4_ w_ y_=>GZ t' ka' ki' g0_ g1_ g2_ g3_ g4_ w_ y_) hR hB hS hM hC w hs
termination_by SizeOf.sizeOf t
decreasing_by exact hlt_
abbrev uC(p0)(p1):=([aA p0 [.pointer<|T.ptr p1] 251,bG 361 p1]:List V.aH)
theorem xU(bt:Nat)(t:T)(ka ki va vi:Int)(hW:WF t)(hN: ∀y∈t.toL,¬(y.ka=ka∧y.ki=ki))(hC:t.toL.length≤800)(w:World)(hs:HI w (uC bt t)):
  CV 203 #[p_ bt,.agg #[u_ ka,i_ ki],.agg #[u_ va,i_ vi]] w (uC bt t) (fun(zt:T)=>(i_ 0)) (fun zt=>WF zt∧T.toL zt=gj (⟨ka,ki,va,vi⟩:It) t.toL) fun zt=>(uC bt zt):=by
 have hR:=hW.right;have hB:=hW.bal;have hS:=hW.srt;have hCn:=hW.cnt
 refine aU Tryz.func203 rfl hs (aC<|fz [.al,.al] [] (fun b1 b2=>[(4,p_ b1),(5,p_ b2)]) (fun b1 b2=>[aA b1 [u_ ka,i_ ki] 322,aA b2 [u_ va,i_ vi] 322]) ?_)
 intro b1 b2
 refine aE<|aO<|aD [(7,b_ false)]<|bY<|aC<|dm 3 [.ld 2,.cq<|.pointer<|T.ptr<|T.findT ka ki t] [(13,.pointer<|T.ptr<|T.findT ka ki t)] (o1<|qo<|fun w s=>GX bt t ka ki w (s.mem (i:=0) rfl)<|s.mem (i:=1) rfl) ?_
 rcases hq10:T.findT ka ki t with _|⟨b3,x4,m5,h6,n7,l8,r9⟩
 ·refine ak [(10,b_ false)]<|bY<|aP<|aE<|bL [7,10] 11<|cL 4 [.ld 0,.ld 2] (rg 0 7) [(15,p_ bt),(19,.pointer<|T.ptr t),(20,.agg #[u_ ka,i_ ki]),(21,.func (.func 247) #[] #[p_ b1,p_ b2])]<|an 7 rfl (bM (some 22) [1,1,1] (Fo t b1 b2 ka ki va vi ‹_› ‹_› ‹_› ‹_› (by omega)) ?_)
  rintro zt11 hz1
  obtain⟨hz11,hz12,hz13,hz14,hz15⟩:=id hz1;have hz16:=T.Right.pos hz11
  rw[hz13,vR] at hz16
  refine cD<|cL 1 [] [8,9] [(22,.pointer<|T.ptr zt11),(24,p_ bt)]<|an 10 rfl (dN 3 [.pointer<|T.ptr zt11] rfl (cb<|aD [(6,i_ 0)]<|aF<|bJ [3,2] [i_ 0] (zt11) ?_ ?_))
  ·rfl
  exact TB hW hN ‹_›
 exact absurd (xW hq10).1 (hN _ (xW hq10).2)
theorem BL(bt:Nat)(t:T)(ka ki:Int)(hW:WF t)(hM: ∃y∈t.toL,y.ka=ka∧y.ki=ki)(hC:t.toL.length≤800)(w:World)(hs:HI w (uC bt t)):
  CV 244 #[p_ bt,.agg #[u_ ka,i_ ki]] w (uC bt t) (fun(zt:T)=>(i_ 0)) (fun zt=>WF zt∧T.toL zt=gv ka ki t.toL) fun zt=>(uC bt zt):=by
 have hR:=hW.right;have hB:=hW.bal;have hS:=hW.srt;have hCn:=hW.cnt
 refine aU Tryz.func244 rfl hs (aC<|dD [.al] [] (fun b1=>[(3,p_ b1)]) (fun b1=>aA b1 [u_ ka,i_ ki] 322) ?_)
 intro b1
 refine aE<|aO<|aD [(5,b_ false)]<|bY<|aC<|dm 3 [.ld 2,.cq<|.pointer<|T.ptr<|T.findT ka ki t] [(11,.pointer<|T.ptr<|T.findT ka ki t)] (o1<|qo<|fun w s=>GX bt t ka ki w (s.mem (i:=0) rfl)<|s.mem (i:=1) rfl) ?_
 rcases hq9:T.findT ka ki t with _|⟨b2,x3,m4,h5,n6,l7,r8⟩
 ·obtain⟨y,hy,he⟩:=hM;exact absurd he<|BM hS hq9 y hy
 refine ak [(8,b_ false)]<|bY<|aP<|aE<|bL [6,9] 10<|cL 4 [.ld 0,.ld 2] (rg 0 6) [(13,p_ bt),(17,.pointer<|T.ptr t),(18,.agg #[u_ ka,i_ ki])]<|an 6 rfl (bM (some 19) [1] (GZ t ka ki ‹_› ‹_› ‹_› ‹_› (by omega)) ?_)
 rintro zt10 hz1
 obtain⟨hz11,hz12,hz13,hz14,hz15⟩:=id hz1;have hz16:=T.Right.pos hz11
 rw[hz13] at hz16;have hz17:=xt (a:=ka) (i:=ki)<|T.toL t
 refine cD<|cL 1 [] [7,8] [(19,.pointer<|T.ptr zt10),(21,p_ bt)]<|an 9 rfl (dN 1 [.pointer<|T.ptr zt10] rfl (cb<|aD [(4,i_ 0)]<|aF<|bJ [1,0] [i_ 0] (zt10) ?_ ?_))
 ·rfl
 exact TC hW ‹_›
theorem Fp(bt:Nat)(t:T)(hW:WF t)(w:World)(r0:(aA bt [.pointer<|T.ptr t] 251).holds w)(r1:(bG 361 t).holds w):
  CW 204 #[p_ bt] w (.tuple #[.agg #[u_<|(t.toL.head?.getD default).ka,i_<|(t.toL.head?.getD default).ki,u_<|(t.toL.head?.getD default).va,i_<|(t.toL.head?.getD default).vi],b_<|t.toL.head?.isSome]):=by
 have hR:=hW.right;have hB:=hW.bal;have hS:=hW.srt;have hCn:=hW.cnt
 refine aU Tryz.func204 rfl (HS.nil w) (aC<|dD [.al] [] (fun b1=>[(2,p_ b1)]) (fun b1=>aA b1 [u_ 0,i_ 0,u_ 0,i_ 0] 324) ?_)
 intro b1
 refine aE<|bW [.cq<|i_<|T.cnt t] [(7,b_<|(T.cnt t)==0)] (o1<|qo<|fun w s=>OC bt t w (bV s r0)<|bV s r1)<|aI rfl (fun e1=>?_) (fun e1=>?_)
 ·refine aC (bU [.st 0] [(3,b_ false)] []<|aF<|oJ 0 [u_ 0,i_ 0,u_ 0,i_ 0] (b_ false) ?_)
  (rw[show t.toL=[] from by have:=hR.pos;simp at*;exact List.eq_nil_of_length_eq_zero<|by omega];rfl)
 refine aP<|bW [.rd [.pointer<|T.ptr t]] [(4,.pointer<|T.ptr t)] (o1<|ro ⟨bt,0,none⟩ (vs:=[.pointer<|T.ptr t])<|cB r0 rfl)<|aE<|aO ?_
 have hne:t≠ .nil:=by rintro rfl;simp[T.cnt] at*
 refine eA (σ:=T) [] (fun u=>[(4,.pointer<|T.ptr u)]) [] (fun u=>[]) (fun u=>((bG 361 u).holds w)∧(u.toL.head?=t.toL.head?)∧(u≠ .nil)) (fun u=>SizeOf.sizeOf u) (t:T) ⟨r1,(by rfl),hne⟩ ?_ ?_
 ·exact bB [0]
 rintro u ⟨hu,hhd,hun⟩
 refine cS<|cP [.p] [(13,.pointer<|T.ptr u)] ?_
 rcases u with _|⟨b2,x3,m4,h5,n6,l7,r8⟩
 ·exact absurd rfl hun
 refine dm 4 [.rd [.pointer<|T.ptr l7]] [(4,p_ b2),(17,.pointer<|T.ptr l7)] (o1<|ro ⟨b2,4,none⟩ (vs:=[.pointer<|T.ptr l7])<|cB hu.1 rfl) ?_
 rcases l7 with _|⟨b9,x10,m11,h12,n13,l14,r15⟩
 ·refine ak [(18,b_ false)] (bY<|bR<|aC<|gA [.rd [u_ x3.ka,i_ x3.ki,u_ x3.va,i_ x3.vi],.st 0] [] [(3,b_ true)] [(0,aA b1 [u_ x3.ka,i_ x3.ki,u_ x3.va,i_ x3.vi] 324)] (o1<|ro ⟨b2,0,none⟩ (vs:=[u_ x3.ka,i_ x3.ki,u_ x3.va,i_ x3.vi])<|cB hu.1 rfl)<|aF<|oJ 0 [u_ x3.ka,i_ x3.ki,u_ x3.va,i_ x3.vi] (b_ true) ?_)
  (rw[←hhd];rfl)
 refine ak [(18,b_ true)]<|dX<|aP<|aO<|aM<|az [.rd [p_ b9]] [(4,p_ b9)] (o1<|ro ⟨b2,4,none⟩ (vs:=[p_ b9])<|cB hu.1 rfl)<|bC ((T.node b9 x10 m11 h12 n13 l14 r15)) ⟨hu.2.1,(by rw[←hhd];simp[T.toL]),(by simp)⟩ (by(simp;omega)) ?_
 exact bB [0]
theorem N9(bt:Nat)(t:T)(n:Int)(hW:WF t)(w:World)(r0:(aA bt [.pointer<|T.ptr t] 251).holds w)(r1:(bG 361 t).holds w):
  CW 252 #[p_ bt,u_ n] w (.tuple #[.agg #[u_<|((de n t.toL).getD default).ka,i_<|((de n t.toL).getD default).ki,u_<|((de n t.toL).getD default).va,i_<|((de n t.toL).getD default).vi],b_<|(de n t.toL).isSome]):=by
 have hR:=hW.right;have hB:=hW.bal;have hS:=hW.srt;have hCn:=hW.cnt
 refine aU Tryz.func252 rfl (HS.nil w) (aC<|dD [.al] [] (fun b1=>[(4,p_ b1)]) (fun b1=>aA b1 [u_ 0,i_ 0,u_ 0,i_ 0] 324) ?_)
 intro b1
 refine aE<|bW [.rd [.pointer<|T.ptr t],.cq<|b_<|T.hasB n t] [(17,b_ (!(T.hasB n t)))] (oc (ro ⟨bt,0,none⟩ (vs:=[.pointer<|T.ptr t])<|cB r0 rfl)<|o1<|qo<|fun w s=>GY t n w<|bV s r1)<|aI rfl (fun e1=>?_) (fun e1=>?_)
 ·refine aC (bU [.st 0] [(5,b_ false)] []<|aF<|oJ 0 [u_ 0,i_ 0,u_ 0,i_ 0] (b_ false) ?_)
  (rw[BE hR<|by simp_all];rfl)
 refine aP<|bW [.rd [.pointer<|T.ptr t]] [(6,.pointer<|T.ptr t)] (o1<|ro ⟨bt,0,none⟩ (vs:=[.pointer<|T.ptr t])<|cB r0 rfl)<|aO ?_
 have hE_:=e1
 refine eA (σ:=T) [] (fun u=>[(6,.pointer<|T.ptr u)]) [] (fun u=>[]) (fun u=>((bG 361 u).holds w)∧u.Right∧(de n u.toL=de n t.toL)∧(u.hasB n=true)) (fun u=>SizeOf.sizeOf u) (t:T) ⟨r1,hR,(by rfl),(by simpa using hE_)⟩ ?_ ?_
 ·exact bB [0]
 rintro u ⟨hu,hRu,hf,hb⟩
 refine aO<|aO<|aC<|cP [.p] [(29,.pointer<|T.ptr u)] ?_
 rcases u with _|⟨b2,x3,m4,h5,n6,l7,r8⟩
 ·simp[T.hasB] at hb
 obtain⟨_,_,_,hRu_l,hRu_r⟩:=id hRu
 refine az [.rd [.pointer<|T.ptr l7],.cq<|b_<|T.hasB n l7] [(6,p_ b2),(28,b_<|T.hasB n l7)] (oc (ro ⟨b2,4,none⟩ (vs:=[.pointer<|T.ptr l7])<|cB hu.1 rfl)<|o1<|qo<|fun w s=>GY l7 n w<|bV s hu.2.1)<|aI rfl (fun e2=>?_) (fun e2=>?_)
 ·have p2:=e2
  refine aM<|az [.rd [.pointer<|T.ptr l7]] [(6,.pointer<|T.ptr l7)] (o1<|ro ⟨b2,4,none⟩ (vs:=[.pointer<|T.ptr l7])<|cB hu.1 rfl)<|bC (l7) ⟨hu.2.1,hRu_l,(by rw[←hf];exact(Q3 hRu_l ‹_›).symm),‹_›⟩ (by(simp;omega)) ?_
  exact bB [0]
 refine bW [.rd [u_ x3.va]] [(41,b_<|decide (x3.va≤n))] (o1<|ro ⟨b2,2,none⟩ (vs:=[u_ x3.va])<|cB hu.1 rfl)<|aI rfl (fun e3=>?_) (fun e3=>?_)
 ·have p3:=dZ e3
  refine aC (gA [.rd [u_ x3.ka,i_ x3.ki,u_ x3.va,i_ x3.vi],.st 0] [] [(5,b_ true)] [(0,aA b1 [u_ x3.ka,i_ x3.ki,u_ x3.va,i_ x3.vi] 324)] (o1<|ro ⟨b2,0,none⟩ (vs:=[u_ x3.ka,i_ x3.ki,u_ x3.va,i_ x3.vi])<|cB hu.1 rfl)<|aF<|oJ 0 [u_ x3.ka,i_ x3.ki,u_ x3.va,i_ x3.vi] (b_ true) ?_)
  (rw[←hf,Ov hRu_l ‹_› (by simp_all)];rfl)
 have p3:=ga e3
 refine aM<|az [.rd [.pointer<|T.ptr r8]] [(6,.pointer<|T.ptr r8)] (o1<|ro ⟨b2,5,none⟩ (vs:=[.pointer<|T.ptr r8])<|cB hu.1 rfl)<|bC (r8) ⟨hu.2.2,hRu_r,(by rw[←hf];exact(Q4 hRu_l ‹_› (by simp_all)).symm),(Vv hRu hb ‹_› (by simp_all))⟩ (by(simp;omega)) ?_
 exact bB [0]
theorem Fq(bt:Nat)(t:T)(n:Int)(hW:WF t)(w:World)(r0:(aA bt [.pointer<|T.ptr t] 251).holds w)(r1:(bG 361 t).holds w):
  CW 222 #[p_ bt,u_ n] w (.tuple #[.agg #[u_<|((eC n t.toL).getD default).ka,i_<|((eC n t.toL).getD default).ki,u_<|((eC n t.toL).getD default).va,i_<|((eC n t.toL).getD default).vi],b_<|(eC n t.toL).isSome]):=by
 have hR:=hW.right;have hB:=hW.bal;have hS:=hW.srt;have hCn:=hW.cnt
 refine aU Tryz.func222 rfl (HS.nil w) (aC<|dD [.al] [] (fun b1=>[(4,p_ b1)]) (fun b1=>aA b1 [u_ 0,i_ 0,u_ 0,i_ 0] 324) ?_)
 intro b1
 refine aC<|dD [.al] [] (fun b2=>[(6,p_ b2)]) (fun b2=>aA b2 [u_ 0,i_ 0,u_ 0,i_ 0] 324) ?_
 intro b2
 refine aC<|dS [.al,.st 2] [] (fun b3=>[(7,p_ b3)]) (fun b3=>[]) (fun b3=>aA b3 [b_ false] 4) ?_
 intro b3
 refine aD [(8,.func (.func 257) #[] #[p_ b3,p_ b2])]<|aE<|aD [(13,b_ false)]<|bY<|au<|bW [.rd [.pointer<|T.ptr t]] [(9,.pointer<|T.ptr t)] (o1<|ro ⟨bt,0,none⟩ (vs:=[.pointer<|T.ptr t])<|cB r0 rfl)<|aO<|bj 1 (aA b2 [u_<|(default:It).ka,i_<|(default:It).ki,u_<|(default:It).va,i_<|(default:It).vi] 324) rfl (iD<|cc (congrArg u_ (by rfl:0=(default:It).ka))<|cc (congrArg i_ (by rfl:0=(default:It).ki))<|cc (congrArg u_ (by rfl:0=(default:It).va))<|cc (congrArg i_ (by rfl:0=(default:It).vi)) rfl) (eA (σ:=T×Bool×It) [] (fun(u,mt,ov)=>[(9,.pointer<|T.ptr u)]) [1,1] (fun(u,mt,ov)=>[aA b3 [b_ mt] 4,aA b2 [u_ ov.ka,i_ ov.ki,u_ ov.va,i_ ov.vi] 324]) (fun(u,mt,ov)=>((bG 361 u).holds w)∧u.Right∧(fQ u.toL)∧(fq (ob mt ov) (bl n u.toL)=eC n t.toL)∧(mt=false→ov=default)) (fun(u,mt,ov)=>SizeOf.sizeOf u) (t,false,(default:It)) ⟨r1,hR,hS,(by rfl),(fun _=>rfl)⟩ ?_ ?_)
 ·exact bB [2,1,0]
 rintro⟨u,mt,ov⟩ ⟨hu,hRu,hSu,hf,hm⟩
 refine cS<|cP [.p] [(19,.pointer<|T.ptr u)] ?_
 rcases u with _|⟨b4,x5,m6,h7,n8,l9,r10⟩
 ·refine ak [(9,n_),(20,b_ false)] ?_
  refine bY ?_
  refine bR ?_
  refine aE ?_
  refine j6 [2] 4 [aA b3 [b_ mt] 4,aA b2 [u_ ov.ka,i_ ov.ki,u_ ov.va,i_ ov.vi] 324] ?_
  refine gq 2 [.ld 1,.ld 0] [0,1] [(4,p_ b1),(58,.agg #[u_ ov.ka,i_ ov.ki,u_ ov.va,i_ ov.vi]),(59,b_ mt)] (sd [2]) ?_
  refine fk 2 rfl (dN 2 [u_ ov.ka,i_ ov.ki,u_ ov.va,i_ ov.vi] rfl ?_)
  refine ff (sd [2]) ?_
  refine gq 0 [] [3] [(4,p_ b1),(5,b_ mt)] (sd [2]) ?_
  refine jP ?_
  refine aF ?_
  refine oJ 2 [u_ ov.ka,i_ ov.ki,u_ ov.va,i_ ov.vi] (b_ mt) ?_
  have hf':ob mt ov=eC n t.toL:=hf;rw[←hf'];cases mt with|true=>rfl|false=>rw[hm rfl];rfl
 obtain⟨_,_,_,hRu_l,hRu_r⟩:=id hRu
 refine ak [(9,p_ b4),(20,b_ true)]<|dX<|aP<|aO<|aE<|bW [.rd [u_ x5.ka]] [(28,b_<|decide (x5.ka>n))] (o1<|ro ⟨b4,0,none⟩ (vs:=[u_ x5.ka])<|cB hu.1 rfl)<|aI rfl (fun e1=>?_) (fun e1=>?_)
 ·have p1:=dZ e1
  refine bW [.rd [.pointer<|T.ptr l9]] [(9,.pointer<|T.ptr l9)] (o1<|ro ⟨b4,4,none⟩ (vs:=[.pointer<|T.ptr l9])<|cB hu.1 rfl)<|bR<|bC (l9,mt,ov) ⟨hu.2.1,hRu_l,((lA hSu).1),(by rw[←hf];(rw[Wq _ hSu ‹_›];done)),hm⟩ (by(simp;omega)) ?_
  exact bB [0,0,0]
 have p1:=ga e1
 refine aP<|aC<|dm 5 [.rd [u_ x5.ka,i_ x5.ki,u_ x5.va,i_ x5.vi]] [(34,.func (.func 257) #[] #[p_ b3,p_ b2]),(38,.agg #[u_ x5.ka,i_ x5.ki,u_ x5.va,i_ x5.vi])] (o1<|ro ⟨b4,0,none⟩ (vs:=[u_ x5.ka,i_ x5.ki,u_ x5.va,i_ x5.vi])<|cB hu.1 rfl)<|aG<|dx (some 39) [.agg #[u_ x5.ka,i_ x5.ki,u_ x5.va,i_ x5.vi],p_ b3,p_ b2] Tryz.func257 rfl (aC<|dD [.al] [] (fun b11=>[(3,p_ b11)]) (fun b11=>aA b11 [u_ x5.ka,i_ x5.ki,u_ x5.va,i_ x5.vi] 324) ?_)
 intro b11
 refine cS<|bF [.ld 0] [(5,b_ (!mt))]<|fx (!mt) (fun e2=>?_)<|fun e2=>?_
 ·refine aM<|bU [.ld 3,.st 1] [] [(1,aA b2 [u_ x5.ka,i_ x5.ki,u_ x5.va,i_ x5.vi] 324)]<|aE<|aM<|bU [.st 0] [(2,p_ b2),(3,p_ b11)] [(0,aA b3 [b_ true] 4)]<|aM<|gA [.ld 1,.ld 3,.cq<|.agg #[u_<|(ai x5 x5).ka,i_<|(ai x5 x5).ki,u_<|(ai x5 x5).va,i_<|(ai x5 x5).vi],.st 1] [] [] [(1,aA b2 [u_<|(ai x5 x5).ka,i_<|(ai x5 x5).ki,u_<|(ai x5 x5).va,i_<|(ai x5 x5).vi] 324)] (o1<|qw<|rX x5 x5)<|vB [] (fun _ w r s=>trivial)<|nk (by kernel_rfl)<|jB [aA b3 [b_ true] 4,aA b2 [u_<|(ai x5 x5).ka,i_<|(ai x5 x5).ki,u_<|(ai x5 x5).va,i_<|(ai x5 x5).vi] 324,aA b1 [u_ 0,i_ 0,u_ 0,i_ 0] 324] (sd [3])<|dP<|aE<|aE<|aM<|az [.rd [.pointer<|T.ptr l9]] [(4,p_ b1),(6,p_ b2),(7,p_ b3),(8,.func (.func 257) #[] #[p_ b3,p_ b2]),(9,p_ b4),(10,.pointer<|T.ptr l9)] (o1<|ro ⟨b4,4,none⟩ (vs:=[.pointer<|T.ptr l9])<|cB hu.1 rfl)<|aE<|aM<|cP [.p] [(45,.pointer<|T.ptr l9)] ?_
  rcases l9 with _|⟨b12,x13,m14,h15,n16,l17,r18⟩
  ·refine ak [(10,n_),(46,b_ false)]<|bY<|aP<|aM<|az [.rd [.pointer<|T.ptr r10]] [(9,.pointer<|T.ptr r10)] (o1<|ro ⟨b4,5,none⟩ (vs:=[.pointer<|T.ptr r10])<|cB hu.1 rfl)<|bC (r10,true,ai x5 x5) ⟨hu.2.2,hRu_r,((lA hSu).2.1),(by rw[←hf];(rw[LO _ _ hSu ‹_›];simp_all[ob];done)),(by(intro h_;cases h_))⟩ (by(simp;done)) ?_
   exact bB [0,0,0]
  refine ak [(10,p_ b12),(46,b_ true)]<|dX<|aM<|dm 5 [.rd [u_ m14.ka,i_ m14.ki,u_ m14.va,i_ m14.vi]] [(47,.func (.func 257) #[] #[p_ b3,p_ b2]),(51,.agg #[u_ m14.ka,i_ m14.ki,u_ m14.va,i_ m14.vi])] (o1<|ro ⟨b12,6,none⟩ (vs:=[u_ m14.ka,i_ m14.ki,u_ m14.va,i_ m14.vi])<|cB hu.2.1.1 rfl)<|aG<|dx (some 52) [.agg #[u_ m14.ka,i_ m14.ki,u_ m14.va,i_ m14.vi],p_ b3,p_ b2] Tryz.func257 rfl (aC<|dS [.al] [] (fun b19=>[(1,p_ b3),(3,p_ b19)]) (fun _=>[]) (fun b19=>aA b19 [u_ m14.ka,i_ m14.ki,u_ m14.va,i_ m14.vi] 324) ?_)
  intro b19
  refine aE<|aE<|aM<|bF [.ld 0] [(5,b_ false)]<|bY<|au<|aM<|bU [.st 0] [] []<|aM<|gA [.ld 1,.ld 3,.cq<|.agg #[u_<|(ai (ai x5 x5) m14).ka,i_<|(ai (ai x5 x5) m14).ki,u_<|(ai (ai x5 x5) m14).va,i_<|(ai (ai x5 x5) m14).vi],.st 1] [] [] [(1,aA b2 [u_<|(ai (ai x5 x5) m14).ka,i_<|(ai (ai x5 x5) m14).ki,u_<|(ai (ai x5 x5) m14).va,i_<|(ai (ai x5 x5) m14).vi] 324)] (o1<|qw<|rX (ai x5 x5) m14)<|vB [] (fun _ w r s=>trivial)<|nk (by kernel_rfl)<|jB [aA b3 [b_ true] 4,aA b2 [u_<|(ai (ai x5 x5) m14).ka,i_<|(ai (ai x5 x5) m14).ki,u_<|(ai (ai x5 x5) m14).va,i_<|(ai (ai x5 x5) m14).vi] 324,aA b1 [u_ 0,i_ 0,u_ 0,i_ 0] 324] (sd [3])<|dP<|aM<|az [.rd [.pointer<|T.ptr r10]] [(1,u_ n),(9,.pointer<|T.ptr r10)] (o1<|ro ⟨b4,5,none⟩ (vs:=[.pointer<|T.ptr r10])<|cB hu.1 rfl)<|bC (r10,true,ai (ai x5 x5) m14) ⟨(by exact hu.2.2),(by exact hRu_r),(by exact(lA hSu).2.1),(by rw[←hf];(rw[LP _ _ hRu_l rfl hSu (by assumption)];simp_all[ob];done)),(by(intro h_;cases h_))⟩ (by(simp;omega)) ?_
  exact bB [0,0,0]
 refine au<|aM<|bU [.st 0] [] [(0,aA b3 [b_ true] 4)]<|aM<|gA [.ld 1,.ld 3,.cq<|.agg #[u_<|(ai ov x5).ka,i_<|(ai ov x5).ki,u_<|(ai ov x5).va,i_<|(ai ov x5).vi],.st 1] [] [] [(1,aA b2 [u_<|(ai ov x5).ka,i_<|(ai ov x5).ki,u_<|(ai ov x5).va,i_<|(ai ov x5).vi] 324)] (o1<|qw<|rX ov x5)<|vB [] (fun _ w r s=>trivial)<|nk (by kernel_rfl)<|jB [aA b3 [b_ true] 4,aA b2 [u_<|(ai ov x5).ka,i_<|(ai ov x5).ki,u_<|(ai ov x5).va,i_<|(ai ov x5).vi] 324,aA b1 [u_ 0,i_ 0,u_ 0,i_ 0] 324] (sd [3])<|dP<|aE<|aE<|aM<|az [.rd [.pointer<|T.ptr l9]] [(4,p_ b1),(6,p_ b2),(7,p_ b3),(8,.func (.func 257) #[] #[p_ b3,p_ b2]),(9,p_ b4),(10,.pointer<|T.ptr l9)] (o1<|ro ⟨b4,4,none⟩ (vs:=[.pointer<|T.ptr l9])<|cB hu.1 rfl)<|aE<|aM<|cP [.p] [(45,.pointer<|T.ptr l9)] ?_
 rcases l9 with _|⟨b20,x21,m22,h23,n24,l25,r26⟩
 ·refine ak [(10,n_),(46,b_ false)]<|bY<|aP<|aM<|az [.rd [.pointer<|T.ptr r10]] [(9,.pointer<|T.ptr r10)] (o1<|ro ⟨b4,5,none⟩ (vs:=[.pointer<|T.ptr r10])<|cB hu.1 rfl)<|bC (r10,true,ai ov x5) ⟨hu.2.2,hRu_r,((lA hSu).2.1),(by rw[←hf];(rw[LO _ _ hSu ‹_›];simp_all[ob];done)),(by(intro h_;cases h_))⟩ (by(simp;done)) ?_
  exact bB [0,0,0]
 refine ak [(10,p_ b20),(46,b_ true)]<|dX<|aM<|dm 5 [.rd [u_ m22.ka,i_ m22.ki,u_ m22.va,i_ m22.vi]] [(47,.func (.func 257) #[] #[p_ b3,p_ b2]),(51,.agg #[u_ m22.ka,i_ m22.ki,u_ m22.va,i_ m22.vi])] (o1<|ro ⟨b20,6,none⟩ (vs:=[u_ m22.ka,i_ m22.ki,u_ m22.va,i_ m22.vi])<|cB hu.2.1.1 rfl)<|aG<|dx (some 52) [.agg #[u_ m22.ka,i_ m22.ki,u_ m22.va,i_ m22.vi],p_ b3,p_ b2] Tryz.func257 rfl (aC<|dS [.al] [] (fun b27=>[(1,p_ b3),(2,p_ b2),(3,p_ b27)]) (fun _=>[]) (fun b27=>aA b27 [u_ m22.ka,i_ m22.ki,u_ m22.va,i_ m22.vi] 324) ?_)
 intro b27
 refine aE<|aE<|aM<|bF [.ld 0] [(5,b_ false)]<|bY<|au<|aM<|bU [.st 0] [] []<|aM<|gA [.ld 1,.ld 3,.cq<|.agg #[u_<|(ai (ai ov x5) m22).ka,i_<|(ai (ai ov x5) m22).ki,u_<|(ai (ai ov x5) m22).va,i_<|(ai (ai ov x5) m22).vi],.st 1] [] [] [(1,aA b2 [u_<|(ai (ai ov x5) m22).ka,i_<|(ai (ai ov x5) m22).ki,u_<|(ai (ai ov x5) m22).va,i_<|(ai (ai ov x5) m22).vi] 324)] (o1<|qw<|rX (ai ov x5) m22)<|vB [] (fun _ w r s=>trivial)<|nk (by kernel_rfl)<|jB [aA b3 [b_ true] 4,aA b2 [u_<|(ai (ai ov x5) m22).ka,i_<|(ai (ai ov x5) m22).ki,u_<|(ai (ai ov x5) m22).va,i_<|(ai (ai ov x5) m22).vi] 324,aA b1 [u_ 0,i_ 0,u_ 0,i_ 0] 324] (sd [3])<|dP<|aM<|az [.rd [.pointer<|T.ptr r10]] [(1,u_ n),(9,.pointer<|T.ptr r10)] (o1<|ro ⟨b4,5,none⟩ (vs:=[.pointer<|T.ptr r10])<|cB hu.1 rfl)<|bC (r10,true,ai (ai ov x5) m22) ⟨(by exact hu.2.2),(by exact hRu_r),(by exact(lA hSu).2.1),(by rw[←hf];(rw[LP _ _ hRu_l rfl hSu (by assumption)];simp_all[ob];done)),(by(intro h_;cases h_))⟩ (by(simp;omega)) ?_
 exact bB [0,0,0]
theorem HG:
  CS 88 #[] [] (fun(bt:Nat)=>(p_ bt)) (fun _=>True) fun bt=>[aA bt [.pointer<|T.ptr T.nil] 251,bG 361 T.nil]:=by
 intro w hs
 refine aU Tryz.func88 rfl hs (eo [] [] trivial rfl (aD []<|aC<|dD [.al] [] (fun b1=>[(0,p_ b1)]) (fun b1=>aA b1 [n_] 251) ?_))
 intro b1
 refine aF<|M6 [aA b1 [n_] 251,bG 361 T.nil] rfl (bJ [0,0] [p_ b1] (b1) ?_ ?_)
 ·rfl
 trivial
structure d6(t:T)(kv:List (Int×It)):Prop where
 wf:WF t
 mem: ∀y,y∈t.toL↔aB kv y.ki=some y
 own: ∀k y,aB kv k=some y→y.ki=k∧y.vi=k
 nd:(kv.map (·.1)).Nodup
 len:t.toL.length=kv.length
theorem Bh:d6 .nil []:=⟨TA,fun y=>by simp[T.toL,aB],fun k y h=>by simp[aB] at h,by simp,rfl⟩
variable{kv:bm It}
theorem vJ(h:aB kv k≠none): ∃y,aB kv k=some y:=by
 cases e:aB kv k with
 |none=>exact absurd e h
 |some y=>exact⟨y,rfl⟩
theorem OL(hS:fQ L)(hx:x∈L):(gv x.ka x.ki L).length+1=L.length:=by
 obtain⟨A,B,rfl⟩:=List.append_of_mem hx
 rw[CJ hS];simp;omega
theorem Bj(h:d6 t kv)(hk:aB kv k≠none): ∃y∈t.toL,y.ka=((aB kv k).getD default).ka∧y.ki=((aB kv k).getD default).ki:=by
 obtain⟨y,e⟩:=vJ hk
 have:=h.own k y e
 exact⟨y,(h.mem y).2 (by rw[this.1];exact e),by rw[e];rfl,by rw[e];rfl⟩
theorem Bl(h:d6 t kv)(hk:aB kv k≠none)(hz:WF z∧z.toL=gv ((aB kv k).getD default).ka ((aB kv k).getD default).ki t.toL):d6 z (aY kv k):=by
 obtain⟨hW,e⟩:=hz
 obtain⟨x,ex⟩:=vJ hk
 have ox:=h.own k x ex
 rw[ex] at e;simp only[Option.getD_some] at e
 have hx:x∈t.toL:=(h.mem x).2 (by rw[ox.1];exact ex)
 refine⟨hW,fun y=>?_,fun q y hq=>?_,lJ h.nd k,?_⟩
 ·rw[e,gx h.nd]
  unfold gv;rw[List.mem_filter,h.mem y]
  by_cases e2:k=y.ki
  ·rw[if_pos e2];subst e2
   constructor
   ·rintro⟨h1,h2⟩;rw[ex] at h1;cases h1;simp at h2
   ·intro h1;cases h1
  ·rw[if_neg e2]
   constructor
   ·exact fun h1=>h1.1
   ·intro h1;refine⟨h1,?_⟩
    simp;right;intro h3;exact e2<|by rw[h3,ox.1]
 ·rw[gx h.nd] at hq;split at hq
  ·cases hq
  ·exact h.own q y hq
 ·have h1:=OL h.wf.srt hx;have h2:=yI hk;have h3:=h.len
  rw[e];omega
theorem yB(h:d6 t kv)(hk:aB kv k=none): ∀y∈t.toL,¬(y.ka=a∧y.ki=k):=by
 rintro y hy ⟨_,e⟩
 have:=(h.mem y).1 hy;rw[e,hk] at this;cases this
theorem yC{b:Int}(h:d6 t kv)(hk:aB kv k=none)(hz:WF z∧z.toL=gj ⟨a,k,b,k⟩ t.toL):d6 z (aK kv k ⟨a,k,b,k⟩):=by
 obtain⟨hW,e⟩:=hz
 refine⟨hW,fun y=>?_,fun q y hq=>?_,mN h.nd _ _,?_⟩
 ·rw[e,B8,iW,h.mem y]
  by_cases e2:k=y.ki
  ·rw[if_pos e2];subst e2
   constructor
   ·rintro(h1|h1)
    ·rw[←h1]
    ·rw[hk] at h1;cases h1
   ·intro h1;left;simpa using h1.symm
  ·rw[if_neg e2]
   constructor
   ·rintro(h1|h1)
    ·exact absurd (by rw[h1]) e2
    ·exact h1
   ·exact .inr
 ·rw[iW] at hq;split at hq
  ·cases hq;exact⟨by assumption,by assumption⟩
  ·exact h.own q y hq
 ·rw[e,vR,Au _ hk,h.len]
theorem OM{kv':bm It}(h:d6 t kv)(hg: ∀k,aB kv' k=aB kv k)(hn:(kv'.map (·.1)).Nodup)(hl:kv'.length=kv.length):d6 t kv':=
 ⟨h.wf,fun y=>by rw[hg];exact h.mem y,fun k y hk=>h.own k y (by rw[←hg];exact hk),hn,by rw[hl];exact h.len⟩
theorem CP(h:aB kv k=none):aY kv k=kv:=by
 induction kv with
 |nil=>rfl
 |cons p kv ih=>
  simp only[aB] at h;simp only[aY]
  by_cases e:p.1=k
  ·rw[if_pos e] at h;cases h
  ·rw[if_neg e] at h;rw[if_neg e,ih h]
theorem vE(hn:(kv.map (·.1)).Nodup)(k:Int):aB (aY kv k) k=none:=by rw[gx hn,if_pos rfl]
theorem PT{b:Int}(hkv:(kv.map (·.1)).Nodup)(hk:aB kv k≠none)(h:d6 t (aY kv k))(hz:WF z∧z.toL=gj ⟨a,k,b,k⟩ t.toL):d6 z (aK kv k ⟨a,k,b,k⟩):=by
 have h1:=yC h (vE hkv k) hz
 refine OM h1 (fun q=>?_) (mN hkv _ _) ?_
 ·rw[iW,iW];split
  ·rfl
  ·rw[gx hkv,if_neg ‹_›]
 ·rw[F8 _ hk,Au _<|vE hkv k];have:=yI hk;omega
theorem Il(kv:bm It)(k:Int):(aY kv k).length≤kv.length:=by
 by_cases h:aB kv k=none
 ·rw[CP h];exact Nat.le_refl _
 ·have:=yI h;omega
def pd:Int:=9223372036854775808
def ns(L:List It):Int:=if L=[] then pd else bD (L.head?.getD default).ka pd
def iZ(L:List It):Int:=if L=[] then pd else bD ((eC 18446744073709551615 L).getD default).va pd
theorem BF(h:d6 t kv):(kv.length:Int)=0↔t.toL=[]:=by
 have:=h.len;rw[←List.length_eq_zero_iff];omega
theorem nB:jd Tryz.prog 3 (fun k:Int=>i_ k):=xi<|by kernel_rfl
abbrev uL(p0)(p1)(p2):=(aA p0 [p_ p1,.map<|some p2] 190:V.aH)
abbrev zH(p0):=(aA p0 [.pointer<|T.ptr T.nil] 251:V.aH)
abbrev zI(p0):=(bP (fun k:Int=>i_ k) (fun y:It=>(.agg #[u_ y.ka,i_ y.ki,u_ y.va,i_ y.vi])) p0 ([]:bm It):V.aH)
theorem UC:
  CS 60 #[] [] (fun((be,bt,mb):Nat×Nat×Nat)=>(p_ be)) (fun _=>True) fun(be,bt,mb)=>[uL be bt mb,zH bt,bG 361 T.nil,zI mb]:=by
 intro w hs
 refine aU Tryz.func60 rfl hs (aD []<|aC<|aG<|bM (some 1) [] HG ?_)
 rintro bt1-
 refine aG<|mw (fun k:Int=>i_ k) (fun y:It=>(.agg #[u_ y.ka,i_ y.ki,u_ y.va,i_ y.vi])) 2 (by kernel_rfl) rfl (fun m2=>[zH bt1,bG 361 T.nil,zI m2]) (fun _=>rfl) ?_
 intro m2
 refine dS [.al] [] (fun b3=>[(0,p_ b3)]) (fun _=>[]) (fun b3=>uL b3 bt1 m2) ?_
 intro b3
 refine aF<|bJ [3,0,0,0] [p_ b3] (b3,bt1,m2) ?_ ?_
 ·rfl
 trivial
abbrev qt(p0)(p1):=(aA p0 [.pointer<|T.ptr p1] 251:V.aH)
abbrev zJ(p0)(p1):=(bP (fun k:Int=>i_ k) (fun y:It=>(.agg #[u_ y.ka,i_ y.ki,u_ y.va,i_ y.vi])) p0 p1:V.aH)
theorem F3(be bt mb:Nat)(t:T)(kv:bm It)(ci:Int)(hd:aB kv ci=none)(w:World)(r0:(uL be bt mb).holds w)(r1:(qt bt t).holds w)(r2:(bG 361 t).holds w)(r3:(zJ mb kv).holds w):
  CW 202 #[p_ be,i_ ci] w (i_ 6):=by
 refine aU Tryz.func202 rfl (HS.nil w) (aD []<|aE<|aD [(8,b_ false)]<|bY<|aP<|aC<|dm 5 [.rd [.map<|some mb]] [(13,.map<|some mb),(14,i_ ci)] (o1<|ro ⟨be,1,none⟩ (vs:=[.map<|some mb])<|cB r0 rfl)<|aG<|cC (some 15) _ (uq 3 324 ci (default:It) (fun w s=>bV s r3) nB)<|dS [.al,.st 0] [] (fun b1=>[(5,p_ b1),(6,b_<|(aB kv ci).isSome)]) (fun b1=>[]) (fun b1=>aA b1 [u_<|((aB kv ci).getD (default:It)).ka,i_<|((aB kv ci).getD (default:It)).ki,u_<|((aB kv ci).getD (default:It)).va,i_<|((aB kv ci).getD (default:It)).vi] 324) ?_)
 intro b1
 refine aE<|aD [(19,b_ (!((aB kv ci).isSome)))]<|aI rfl (fun e1=>?_) (fun e1=>?_)
 ·refine aD [(4,i_ 6)]<|aF<|bK [i_ 6] ?_
  rfl
 exact absurd e1<|by simp[hd]
abbrev zK(p0)(p1)(p2):=(bP (fun k:Int=>i_ k) (fun y:It=>(.agg #[u_ y.ka,i_ y.ki,u_ y.va,i_ y.vi])) p0 (aY p1 p2):V.aH)
theorem GA(be bt mb:Nat)(t:T)(kv:bm It)(ci:Int)(hE:d6 t kv)(hd:aB kv ci≠none)(hC:kv.length≤700):
  CS 202 #[p_ be,i_ ci] [uL be bt mb,qt bt t,bG 361 t,zJ mb kv] (fun(zt:T)=>(i_ 0)) (fun zt=>d6 zt<|aY kv ci) fun zt=>[uL be bt mb,qt bt zt,bG 361 zt,zK mb kv ci]:=by
 intro w hs
 have hW:=hE.wf;have hl_:=hE.len
 refine aU Tryz.func202 rfl hs (aD []<|aE<|aD [(8,b_ false)]<|bY<|aP<|aC<|bA 5 [.ld 0] [(13,.map<|some mb),(14,i_ ci)]<|aG<|cC (some 15) _ (oM (kt:=3) (et:=324) (enck:=(fun k:Int=>i_ k)) (encv:=(fun y:It=>(.agg #[u_ y.ka,i_ y.ki,u_ y.va,i_ y.vi]))) (b:=mb) (kv:=kv) (k:=ci) (d0:=(default:It)) (fun w s=>s.mem (i:=3) rfl) rfl rfl rfl (by kernel_rfl) nB (by kernel_rfl) rfl)<|dS [.al,.st 4] [] (fun b1=>[(5,p_ b1),(6,b_<|(aB kv ci).isSome)]) (fun b1=>[]) (fun b1=>aA b1 [u_<|((aB kv ci).getD (default:It)).ka,i_<|((aB kv ci).getD (default:It)).ki,u_<|((aB kv ci).getD (default:It)).va,i_<|((aB kv ci).getD (default:It)).vi] 324) ?_)
 intro b1
 refine aE<|aD [(19,b_ (!((aB kv ci).isSome)))]<|aI rfl (fun e1=>?_) (fun e1=>?_)
 ·exact absurd e1<|by(obtain⟨y,hy⟩:=vJ hd;simp[hy])
 refine aP<|aC<|bA 5 [.ld 0] [(23,.map<|some mb),(24,i_ ci)]<|aG<|vD (kt:=3) (et:=324) (enck:=(fun k:Int=>i_ k)) (encv:=(fun y:It=>(.agg #[u_ y.ka,i_ y.ki,u_ y.va,i_ y.vi]))) (kv:=kv) (k:=ci) 3 [uL be bt mb,qt bt t,bG 361 t,zK mb kv ci,aA b1 [u_<|((aB kv ci).getD (default:It)).ka,i_<|((aB kv ci).getD (default:It)).ki,u_<|((aB kv ci).getD (default:It)).va,i_<|((aB kv ci).getD (default:It)).vi] 324] (by kernel_rfl) rfl rfl rfl (by kernel_rfl) nB rfl rfl (dP<|aE<|bL [6] 8<|cL 2 [.ld 0,.ld 4] (rg 0 6) [(28,p_ bt),(30,.agg #[u_<|((aB kv ci).getD (default:It)).ka,i_<|((aB kv ci).getD (default:It)).ki])]<|an 6 rfl (bM (some 31) [1,1] (BL bt t (((aB kv ci).getD (default:It)).ka) (((aB kv ci).getD (default:It)).ki) ‹_› (Bj hE ‹_›) (by omega)) ?_))
 rintro zt2 hz2
 obtain⟨hz2W,hz2L⟩:=id hz2
 refine cD<|cL 0 [] [7] [(4,i_ 0)]<|dj<|aF<|bJ [2,0,0,0] [i_ 0] (zt2) ?_ ?_
 ·rfl
 exact Bl hE hd ⟨by assumption,by assumption⟩
abbrev uM(p0)(p1)(p2):=(aA p0 [p_ p1,.map<|some p2] 192:V.aH)
theorem UD:
  CS 61 #[] [] (fun((be,bt,mb):Nat×Nat×Nat)=>(p_ be)) (fun _=>True) fun(be,bt,mb)=>[uM be bt mb,zH bt,bG 361 T.nil,zI mb]:=by
 intro w hs
 refine aU Tryz.func61 rfl hs (aD []<|aC<|aG<|bM (some 1) [] HG ?_)
 rintro bt1-
 refine aG<|mw (fun k:Int=>i_ k) (fun y:It=>(.agg #[u_ y.ka,i_ y.ki,u_ y.va,i_ y.vi])) 2 (by kernel_rfl) rfl (fun m2=>[zH bt1,bG 361 T.nil,zI m2]) (fun _=>rfl) ?_
 intro m2
 refine dS [.al] [] (fun b3=>[(0,p_ b3)]) (fun _=>[]) (fun b3=>uM b3 bt1 m2) ?_
 intro b3
 refine aF<|bJ [3,0,0,0] [p_ b3] (b3,bt1,m2) ?_ ?_
 ·rfl
 trivial
theorem NJ(be bt mb:Nat)(t:T)(kv:bm It)(ci:Int)(hd:aB kv ci=none)(w:World)(r0:(uM be bt mb).holds w)(r1:(qt bt t).holds w)(r2:(bG 361 t).holds w)(r3:(zJ mb kv).holds w):
  CW 217 #[p_ be,i_ ci] w (i_ 6):=by
 refine aU Tryz.func217 rfl (HS.nil w) (aD []<|aE<|aD [(8,b_ false)]<|bY<|aP<|aC<|dm 5 [.rd [.map<|some mb]] [(13,.map<|some mb),(14,i_ ci)] (o1<|ro ⟨be,1,none⟩ (vs:=[.map<|some mb])<|cB r0 rfl)<|aG<|cC (some 15) _ (uq 3 324 ci (default:It) (fun w s=>bV s r3) nB)<|dS [.al,.st 0] [] (fun b1=>[(5,p_ b1),(6,b_<|(aB kv ci).isSome)]) (fun b1=>[]) (fun b1=>aA b1 [u_<|((aB kv ci).getD (default:It)).ka,i_<|((aB kv ci).getD (default:It)).ki,u_<|((aB kv ci).getD (default:It)).va,i_<|((aB kv ci).getD (default:It)).vi] 324) ?_)
 intro b1
 refine aE<|aD [(19,b_ (!((aB kv ci).isSome)))]<|aI rfl (fun e1=>?_) (fun e1=>?_)
 ·refine aD [(4,i_ 6)]<|aF<|bK [i_ 6] ?_
  rfl
 exact absurd e1<|by simp[hd]
theorem Nc(be bt mb:Nat)(t:T)(kv:bm It)(ci:Int)(hE:d6 t kv)(hd:aB kv ci≠none)(hC:kv.length≤700):
  CS 217 #[p_ be,i_ ci] [uM be bt mb,qt bt t,bG 361 t,zJ mb kv] (fun(zt:T)=>(i_ 0)) (fun zt=>d6 zt<|aY kv ci) fun zt=>[uM be bt mb,qt bt zt,bG 361 zt,zK mb kv ci]:=by
 intro w hs
 have hW:=hE.wf;have hl_:=hE.len
 refine aU Tryz.func217 rfl hs (aD []<|aE<|aD [(8,b_ false)]<|bY<|aP<|aC<|bA 5 [.ld 0] [(13,.map<|some mb),(14,i_ ci)]<|aG<|cC (some 15) _ (oM (kt:=3) (et:=324) (enck:=(fun k:Int=>i_ k)) (encv:=(fun y:It=>(.agg #[u_ y.ka,i_ y.ki,u_ y.va,i_ y.vi]))) (b:=mb) (kv:=kv) (k:=ci) (d0:=(default:It)) (fun w s=>s.mem (i:=3) rfl) rfl rfl rfl (by kernel_rfl) nB (by kernel_rfl) rfl)<|dS [.al,.st 4] [] (fun b1=>[(5,p_ b1),(6,b_<|(aB kv ci).isSome)]) (fun b1=>[]) (fun b1=>aA b1 [u_<|((aB kv ci).getD (default:It)).ka,i_<|((aB kv ci).getD (default:It)).ki,u_<|((aB kv ci).getD (default:It)).va,i_<|((aB kv ci).getD (default:It)).vi] 324) ?_)
 intro b1
 refine aE<|aD [(19,b_ (!((aB kv ci).isSome)))]<|aI rfl (fun e1=>?_) (fun e1=>?_)
 ·exact absurd e1<|by(obtain⟨y,hy⟩:=vJ hd;simp[hy])
 refine aP<|aC<|bA 5 [.ld 0] [(23,.map<|some mb),(24,i_ ci)]<|aG<|vD (kt:=3) (et:=324) (enck:=(fun k:Int=>i_ k)) (encv:=(fun y:It=>(.agg #[u_ y.ka,i_ y.ki,u_ y.va,i_ y.vi]))) (kv:=kv) (k:=ci) 3 [uM be bt mb,qt bt t,bG 361 t,zK mb kv ci,aA b1 [u_<|((aB kv ci).getD (default:It)).ka,i_<|((aB kv ci).getD (default:It)).ki,u_<|((aB kv ci).getD (default:It)).va,i_<|((aB kv ci).getD (default:It)).vi] 324] (by kernel_rfl) rfl rfl rfl (by kernel_rfl) nB rfl rfl (dP<|aE<|bL [6] 8<|cL 2 [.ld 0,.ld 4] (rg 0 6) [(28,p_ bt),(30,.agg #[u_<|((aB kv ci).getD (default:It)).ka,i_<|((aB kv ci).getD (default:It)).ki])]<|an 6 rfl (bM (some 31) [1,1] (BL bt t (((aB kv ci).getD (default:It)).ka) (((aB kv ci).getD (default:It)).ki) ‹_› (Bj hE ‹_›) (by omega)) ?_))
 rintro zt2 hz2
 obtain⟨hz2W,hz2L⟩:=id hz2
 refine cD<|cL 0 [] [7] [(4,i_ 0)]<|dj<|aF<|bJ [2,0,0,0] [i_ 0] (zt2) ?_ ?_
 ·rfl
 exact Bl hE hd ⟨by assumption,by assumption⟩
abbrev uN(p0)(p1):=(aA p0 [.pointer<|T.ptr p1] 251:V.aH)
abbrev wI(p0)(p1):=(bP (fun k:Int=>i_ k) (fun y:It=>(.agg #[u_ y.ka,i_ y.ki,u_ y.va,i_ y.vi])) p0 p1:V.aH)
theorem UE(be bt mb:Nat)(t:T)(kv:bm It)(w:World)(r0:(aA be [p_ bt,.map<|some mb] 190).holds w)(r1:(uN bt t).holds w)(r2:(bG 361 t).holds w)(r3:(wI mb kv).holds w):
  CW 221 #[p_ be] w (i_ (kv.length:Int)):=by
 refine aU Tryz.func221 rfl (HS.nil w) (aD []<|aE<|aD [(4,b_ false)]<|bY<|aP<|aC<|dm 4 [.rd [.map<|some mb]] [(8,.map<|some mb)] (o1<|ro ⟨be,1,none⟩ (vs:=[.map<|some mb])<|cB r0 rfl)<|aG<|cC (some 9) (i_ (kv.length:Int)) (tR (kt:=3) (et:=324) (enck:=(fun k:Int=>i_ k)) (encv:=(fun y:It=>(.agg #[u_ y.ka,i_ y.ki,u_ y.va,i_ y.vi]))) (b:=mb) (kv:=kv) (fun w s=>bV s r3) rfl rfl (by kernel_rfl))<|ak [(2,i_ (kv.length:Int))]<|aF<|bK [i_ (kv.length:Int)] ?_)
 rfl
theorem UF(be bt mb:Nat)(t:T)(kv:bm It)(ci a b:Int)(hE:d6 t kv)(hC:kv.length≤700):
  CS 147 #[p_ be,i_ ci,u_ a,u_ b] [aA be [p_ bt,.map<|some mb] 190,aA bt [.pointer<|T.ptr t] 251,bG 361 t,bP (fun k:Int=>i_ k) (fun y:It=>(.agg #[u_ y.ka,i_ y.ki,u_ y.va,i_ y.vi])) mb kv] (fun(zt:T)=>(i_ 0)) (fun zt=>d6 zt<|aK (aY kv ci) ci ⟨a,ci,b,ci⟩) fun zt=>[aA be [p_ bt,.map<|some mb] 190,aA bt [.pointer<|T.ptr zt] 251,bG 361 zt,bP (fun k:Int=>i_ k) (fun y:It=>(.agg #[u_ y.ka,i_ y.ki,u_ y.va,i_ y.vi])) mb<|aK (aY kv ci) ci ⟨a,ci,b,ci⟩]:=by
 intro w hs
 have hW:=hE.wf;have hl_:=hE.len
 have hdl:=Il kv ci
 refine aU Tryz.func147 rfl hs (aD []<|aE<|aD [(11,b_ false)]<|bY<|au ?_)
 by_cases hd:aB kv ci=none
 ·refine aM<|az [.cq<|i_ 6] [] (o1<|qo<|fun w s=>F3 be bt mb t kv ci ‹_› w (s.mem (i:=0) rfl) (s.mem (i:=1) rfl) (s.mem (i:=2) rfl) (s.mem (i:=3) rfl))<|aC<|dS [.al,.st 4] [] (fun b1=>[(9,p_ b1)]) (fun b1=>[]) (fun b1=>aA b1 [u_ a,i_ ci,u_ b,i_ ci] 324) ?_
  intro b1
  refine aE<|bL [6] 7<|cL 1 [.ld 0,.ld 4] (rg 0 6) [(25,.map<|some mb),(26,i_ ci),(27,.agg #[u_ a,i_ ci,u_ b,i_ ci])]<|an 6 rfl (gB 3 324 3 ci (⟨a,ci,b,ci⟩:It) rfl nB (cb<|aE<|bL [8] 10<|cL 2 [.ld 0,.ld 4,.ld 4] (rg 0 8) [(31,p_ bt),(33,.agg #[u_ a,i_ ci]),(35,.agg #[u_ b,i_ ci])]<|an 8 rfl (bM (some 36) [1,1] (xU bt t a ci b ci ‹_› (yB hE ‹_›) (by omega)) ?_)))
  rintro zt2 hz1
  obtain⟨hz1W,hz1L⟩:=id hz1
  refine cD<|cL 0 [] [9] [(8,i_ 0)]<|dj<|aF ?_
  rw[show aK kv ci (⟨a,ci,b,ci⟩:It)=(aK (aY kv ci) ci ⟨a,ci,b,ci⟩) from by(rw[CP hd])]
  refine bJ [2,0,0,0] [i_ 0] (zt2) ?_ ?_
  ·rfl
  (rw[CP hd];exact yC hE hd ⟨by assumption,by assumption⟩)
 refine aM<|bA 2 [] [(12,p_ be),(13,i_ ci)]<|aG<|bM (some 14) [0,0,0,0] (GA be bt mb t kv ci ‹_› ‹_› ‹_›) ?_
 rintro zt3 hz2
 have hz2W:=hz2.wf;have hz2l:=hz2.len
 refine dP<|aC<|dS [.al,.st 4] [] (fun b4=>[(9,p_ b4)]) (fun b4=>[]) (fun b4=>aA b4 [u_ a,i_ ci,u_ b,i_ ci] 324) ?_
 intro b4
 refine aE<|bL [6] 7<|cL 1 [.ld 0,.ld 4] (rg 0 6) [(25,.map<|some mb),(26,i_ ci),(27,.agg #[u_ a,i_ ci,u_ b,i_ ci])]<|an 6 rfl (gB 3 324 3 ci (⟨a,ci,b,ci⟩:It) rfl nB (cb<|aE<|bL [8] 10<|cL 2 [.ld 0,.ld 4,.ld 4] (rg 0 8) [(31,p_ bt),(33,.agg #[u_ a,i_ ci]),(35,.agg #[u_ b,i_ ci])]<|an 8 rfl (bM (some 36) [1,1] (xU bt zt3 a ci b ci ‹_› (yB ‹_› (vE hE.nd _)) (by omega)) ?_)))
 rintro zt5 hz3
 obtain⟨hz3W,hz3L⟩:=id hz3
 refine cD<|cL 0 [] [9] [(8,i_ 0)]<|dj<|aF ?_
 rw[show aK (aY kv ci) ci (⟨a,ci,b,ci⟩:It)=(aK (aY kv ci) ci ⟨a,ci,b,ci⟩) from by rfl]
 refine bJ [2,0,0,0] [i_ 0] (zt5) ?_ ?_
 ·rfl
 exact yC ‹_› (vE hE.nd _) ⟨by assumption,by assumption⟩
theorem Qy(be bt mb:Nat)(t:T)(kv:bm It)(n:Int)(hE:d6 t kv)(w:World)(r0:(aA be [p_ bt,.map<|some mb] 190).holds w)(r1:(aA bt [.pointer<|T.ptr t] 251).holds w)(r2:(bG 361 t).holds w)(r3:(bP (fun k:Int=>i_ k) (fun y:It=>(.agg #[u_ y.ka,i_ y.ki,u_ y.va,i_ y.vi])) mb kv).holds w):
  CW 209 #[p_ be,u_ n] w (.tuple #[i_<|((eC (bD n 9223372036854775807) t.toL).getD default).ki,b_<|(eC (bD n 9223372036854775807) t.toL).isSome]):=by
 have hW:=hE.wf;have hl_:=hE.len
 refine aU Tryz.func209 rfl (HS.nil w) (aE<|bX []<|aE<|aE<|bX [(9,b_ false)]<|bY<|aP<|(aE<|aM<|iE [.p,.p,.p,.rd [p_ bt],.p,.p,.cq<|.tuple #[.agg #[u_<|((eC (bD n 9223372036854775807) t.toL).getD default).ka,i_<|((eC (bD n 9223372036854775807) t.toL).getD default).ki,u_<|((eC (bD n 9223372036854775807) t.toL).getD default).va,i_<|((eC (bD n 9223372036854775807) t.toL).getD default).vi],b_<|(eC (bD n 9223372036854775807) t.toL).isSome],.p,.p,.p,.al,.st 0] [] (fun b1=>[(6,p_ b1),(7,b_<|(eC (bD n 9223372036854775807) t.toL).isSome)]) (fun b1=>[]) (fun b1=>aA b1 [u_<|((eC (bD n 9223372036854775807) t.toL).getD default).ka,i_<|((eC (bD n 9223372036854775807) t.toL).getD default).ki,u_<|((eC (bD n 9223372036854775807) t.toL).getD default).va,i_<|((eC (bD n 9223372036854775807) t.toL).getD default).vi] 324) (fun b1=>oc (ro ⟨be,0,none⟩ (vs:=[p_ bt])<|cB r0 rfl)<|o1<|qo<|fun w s=>Fq bt t (bD n 9223372036854775807) (by assumption) w (bV s r1)<|bV s r2) ?_))
 intro b1
 refine aC<|bF [.ld 0] [(4,i_<|((eC (bD n 9223372036854775807) t.toL).getD default).ki),(5,b_<|(eC (bD n 9223372036854775807) t.toL).isSome)]<|aF<|bK [i_<|((eC (bD n 9223372036854775807) t.toL).getD default).ki,b_<|(eC (bD n 9223372036854775807) t.toL).isSome] ?_
 rfl
abbrev zL(p0)(p1)(p2):=(aA p0 [p_ p1,.map<|some p2] 192:V.aH)
theorem KF(be bt mb:Nat)(t:T)(kv:bm It)(w:World)(r0:(zL be bt mb).holds w)(r1:(uN bt t).holds w)(r2:(bG 361 t).holds w)(r3:(wI mb kv).holds w):
  CW 218 #[p_ be] w (i_ (kv.length:Int)):=by
 refine aU Tryz.func218 rfl (HS.nil w) (aD []<|aE<|aD [(4,b_ false)]<|bY<|aP<|aC<|dm 4 [.rd [.map<|some mb]] [(8,.map<|some mb)] (o1<|ro ⟨be,1,none⟩ (vs:=[.map<|some mb])<|cB r0 rfl)<|aG<|cC (some 9) (i_ (kv.length:Int)) (tR (kt:=3) (et:=324) (enck:=(fun k:Int=>i_ k)) (encv:=(fun y:It=>(.agg #[u_ y.ka,i_ y.ki,u_ y.va,i_ y.vi]))) (b:=mb) (kv:=kv) (fun w s=>bV s r3) rfl rfl (by kernel_rfl))<|ak [(2,i_ (kv.length:Int))]<|aF<|bK [i_ (kv.length:Int)] ?_)
 rfl
theorem UG(be bt mb:Nat)(t:T)(kv:bm It)(ci a b:Int)(hE:d6 t kv)(hC:kv.length≤700):
  CS 207 #[p_ be,i_ ci,u_ a,u_ b] [zL be bt mb,uN bt t,bG 361 t,wI mb kv] (fun(zt:T)=>(i_ 0)) (fun zt=>d6 zt<|aK kv ci ⟨a,ci,b,ci⟩) fun zt=>[zL be bt mb,uN bt zt,bG 361 zt,bP (fun k:Int=>i_ k) (fun y:It=>(.agg #[u_ y.ka,i_ y.ki,u_ y.va,i_ y.vi])) mb<|aK kv ci ⟨a,ci,b,ci⟩]:=by
 intro w hs
 have hW:=hE.wf;have hl_:=hE.len
 have hdl:=Il kv ci
 refine aU Tryz.func207 rfl hs (aD []<|aE<|aD [(13,b_ false)]<|bY<|au ?_)
 by_cases hd:aB kv ci=none
 ·refine aM<|dS [.al,.st 4] [] (fun b1=>[(9,p_ b1)]) (fun b1=>[]) (fun b1=>aA b1 [u_ a,i_ ci,u_ b,i_ ci] 324) ?_
  intro b1
  refine cS<|bA 5 [.ld 0] [(25,.map<|some mb),(26,i_ ci)]<|aG<|cC (some 27) _ (oM (kt:=3) (et:=324) (enck:=(fun k:Int=>i_ k)) (encv:=(fun y:It=>(.agg #[u_ y.ka,i_ y.ki,u_ y.va,i_ y.vi]))) (b:=mb) (kv:=kv) (k:=ci) (d0:=(default:It)) (fun w s=>s.mem (i:=3) rfl) rfl rfl rfl (by kernel_rfl) nB (by kernel_rfl) rfl)<|dS [.al,.st 5] [] (fun b2=>[(10,p_ b2),(11,b_<|(aB kv ci).isSome)]) (fun b2=>[]) (fun b2=>aA b2 [u_<|((aB kv ci).getD (default:It)).ka,i_<|((aB kv ci).getD (default:It)).ki,u_<|((aB kv ci).getD (default:It)).va,i_<|((aB kv ci).getD (default:It)).vi] 324) ?_
  intro b2
  refine aD [(30,b_<|(aB kv ci).isSome)]<|aI rfl (fun e1=>?_) (fun e1=>?_)
  ·exact absurd e1<|by simp[hd]
  refine au<|bL [6] 7<|cL 1 [.ld 0,.ld 4] (rg 0 6) [(41,.map<|some mb),(42,i_ ci),(43,.agg #[u_ a,i_ ci,u_ b,i_ ci])]<|an 6 rfl (gB 3 324 3 ci (⟨a,ci,b,ci⟩:It) rfl nB (cb<|aE<|bL [8] 10<|cL 2 [.ld 0,.ld 4,.ld 4] (rg 0 8) [(47,p_ bt),(49,.agg #[u_ a,i_ ci]),(51,.agg #[u_ b,i_ ci])]<|an 8 rfl (bM (some 52) [1,1] (xU bt t a ci b ci ‹_› (yB hE ‹_›) (by omega)) ?_)))
  rintro zt3 hz2
  obtain⟨hz2W,hz2L⟩:=id hz2
  refine cD<|cL 0 [] [9] [(8,i_ 0)]<|dj<|aF ?_
  rw[show aK kv ci (⟨a,ci,b,ci⟩:It)=(aK kv ci ⟨a,ci,b,ci⟩) from by rfl]
  refine bJ [2,0,0,0] [i_ 0] (zt3) ?_ ?_
  ·rfl
  (exact yC hE (by simp_all) ⟨by assumption,by assumption⟩)
 refine aM<|dS [.al,.st 4] [] (fun b4=>[(9,p_ b4)]) (fun b4=>[]) (fun b4=>aA b4 [u_ a,i_ ci,u_ b,i_ ci] 324) ?_
 intro b4
 refine cS<|bA 5 [.ld 0] [(25,.map<|some mb),(26,i_ ci)]<|aG<|cC (some 27) _ (oM (kt:=3) (et:=324) (enck:=(fun k:Int=>i_ k)) (encv:=(fun y:It=>(.agg #[u_ y.ka,i_ y.ki,u_ y.va,i_ y.vi]))) (b:=mb) (kv:=kv) (k:=ci) (d0:=(default:It)) (fun w s=>s.mem (i:=3) rfl) rfl rfl rfl (by kernel_rfl) nB (by kernel_rfl) rfl)<|dS [.al,.st 5] [] (fun b5=>[(10,p_ b5),(11,b_<|(aB kv ci).isSome)]) (fun b5=>[]) (fun b5=>aA b5 [u_<|((aB kv ci).getD (default:It)).ka,i_<|((aB kv ci).getD (default:It)).ki,u_<|((aB kv ci).getD (default:It)).va,i_<|((aB kv ci).getD (default:It)).vi] 324) ?_
 intro b5
 refine aD [(30,b_<|(aB kv ci).isSome)]<|aI rfl (fun e3=>?_) (fun e3=>?_)
 ·refine bL [6] 7<|cL 1 [.ld 0,.ld 5] (rg 0 6) [(34,p_ bt),(36,.agg #[u_<|((aB kv ci).getD (default:It)).ka,i_<|((aB kv ci).getD (default:It)).ki])]<|an 6 rfl (bM (some 37) [1,1] (BL bt t (((aB kv ci).getD (default:It)).ka) (((aB kv ci).getD (default:It)).ki) ‹_› (Bj hE ‹_›) (by omega)) ?_)
  rintro zt6 hz4
  obtain⟨hz4W,hz4L⟩:=id hz4
  refine cb<|aE ?_
  have hE2:=Bl hE hd ‹_›;have hE2l:=hE2.len;have hE2W:=hE2.wf
  refine bL [6] 7<|cL 1 [.ld 2,.ld 4] (rg 0 6) [(41,.map<|some mb),(42,i_ ci),(43,.agg #[u_ a,i_ ci,u_ b,i_ ci])]<|an 6 rfl (gB 3 324 3 ci (⟨a,ci,b,ci⟩:It) rfl nB (cb<|aE<|bL [8] 10<|cL 2 [.ld 2,.ld 4,.ld 4] (rg 0 8) [(47,p_ bt),(49,.agg #[u_ a,i_ ci]),(51,.agg #[u_ b,i_ ci])]<|an 8 rfl (bM (some 52) [0,0] (xU bt zt6 a ci b ci ‹_› (yB hE2<|vE hE.nd _) (by omega)) ?_)))
  rintro zt7 hz5
  obtain⟨hz5W,hz5L⟩:=id hz5
  refine cD<|cL 0 [] [9] [(8,i_ 0)]<|dj<|aF ?_
  rw[show aK kv ci (⟨a,ci,b,ci⟩:It)=(aK kv ci ⟨a,ci,b,ci⟩) from by rfl]
  refine bJ [2,0,0,0] [i_ 0] (zt7) ?_ ?_
  ·rfl
  exact PT hE.nd hd hE2 ⟨by assumption,by assumption⟩
 exact absurd e3<|by(obtain⟨y,hy⟩:=vJ hd;simp[hy])
theorem Qz(be bt mb:Nat)(t:T)(kv:bm It)(n:Int)(hE:d6 t kv)(w:World)(r0:(aA be [p_ bt,.map<|some mb] 192).holds w)(r1:(aA bt [.pointer<|T.ptr t] 251).holds w)(r2:(bG 361 t).holds w)(r3:(bP (fun k:Int=>i_ k) (fun y:It=>(.agg #[u_ y.ka,i_ y.ki,u_ y.va,i_ y.vi])) mb kv).holds w):
  CW 210 #[p_ be,u_ n] w (.tuple #[i_<|((de (bD n 9223372036854775807) t.toL).getD default).ki,b_<|(de (bD n 9223372036854775807) t.toL).isSome]):=by
 have hW:=hE.wf;have hl_:=hE.len
 refine aU Tryz.func210 rfl (HS.nil w) (aE<|bX []<|aE<|aE<|bX [(9,b_ false)]<|bY<|aP<|(aE<|aM<|iE [.p,.p,.p,.rd [p_ bt],.p,.p,.cq<|.tuple #[.agg #[u_<|((de (bD n 9223372036854775807) t.toL).getD default).ka,i_<|((de (bD n 9223372036854775807) t.toL).getD default).ki,u_<|((de (bD n 9223372036854775807) t.toL).getD default).va,i_<|((de (bD n 9223372036854775807) t.toL).getD default).vi],b_<|(de (bD n 9223372036854775807) t.toL).isSome],.p,.p,.p,.al,.st 0] [] (fun b1=>[(6,p_ b1),(7,b_<|(de (bD n 9223372036854775807) t.toL).isSome)]) (fun b1=>[]) (fun b1=>aA b1 [u_<|((de (bD n 9223372036854775807) t.toL).getD default).ka,i_<|((de (bD n 9223372036854775807) t.toL).getD default).ki,u_<|((de (bD n 9223372036854775807) t.toL).getD default).va,i_<|((de (bD n 9223372036854775807) t.toL).getD default).vi] 324) (fun b1=>oc (ro ⟨be,0,none⟩ (vs:=[p_ bt])<|cB r0 rfl)<|o1<|qo<|fun w s=>N9 bt t (bD n 9223372036854775807) (by assumption) w (bV s r1)<|bV s r2) ?_))
 intro b1
 refine aC<|bF [.ld 0] [(4,i_<|((de (bD n 9223372036854775807) t.toL).getD default).ki),(5,b_<|(de (bD n 9223372036854775807) t.toL).isSome)]<|aF<|bK [i_<|((de (bD n 9223372036854775807) t.toL).getD default).ki,b_<|(de (bD n 9223372036854775807) t.toL).isSome] ?_
 rfl
theorem RA(be bt mb:Nat)(t:T)(kv:bm It)(hE:d6 t kv)(w:World)(r0:(aA be [p_ bt,.map<|some mb] 190).holds w)(r1:(uN bt t).holds w)(r2:(bG 361 t).holds w)(r3:(wI mb kv).holds w):
  CW 163 #[p_ be] w (u_<|ns t.toL):=by
 have hW:=hE.wf;have hl_:=hE.len
 have hem:=BF hE
 refine aU Tryz.func163 rfl (HS.nil w) (aD []<|aE<|bW [.cq<|i_ (kv.length:Int)] [(7,b_<|(kv.length:Int)==0)] (o1<|qo<|fun w s=>UE be bt mb t kv w (bV s r0) (bV s r1) (bV s r2)<|bV s r3)<|aI rfl (fun e1=>?_) (fun e1=>?_))
 ·have p1:=e1;try simp only[bQ] at p1
  refine aD [(2,u_ 9223372036854775808)]<|aF<|bK [u_ 9223372036854775808] ?_
  refine congrArg (Value.int .u64) ?_;(unfold ns);by_cases he:t.toL=[]<;>first|(rw[if_pos he];rfl)|(exfalso;exact he<|hem.1 ‹_›)
 have p1:=e1;try simp only[bQ] at p1
 refine au<|aM<|iE [.rd [p_ bt],.cq<|.tuple #[.agg #[u_<|(t.toL.head?.getD default).ka,i_<|(t.toL.head?.getD default).ki,u_<|(t.toL.head?.getD default).va,i_<|(t.toL.head?.getD default).vi],b_<|t.toL.head?.isSome],.al,.st 0] [] (fun b1=>[(3,p_ b1)]) (fun b1=>[]) (fun b1=>aA b1 [u_<|(t.toL.head?.getD default).ka,i_<|(t.toL.head?.getD default).ki,u_<|(t.toL.head?.getD default).va,i_<|(t.toL.head?.getD default).vi] 324) (fun b1=>oc (ro ⟨be,0,none⟩ (vs:=[p_ bt])<|cB r0 rfl)<|o1<|qo<|fun w s=>Fp bt t (by assumption) w (bV s r1)<|bV s r2) ?_
 intro b1
 refine aC<|bF [.ld 0] [(2,u_<|bD ((t.toL.head?.getD default).ka) 9223372036854775808)]<|aF<|bK [u_<|bD ((t.toL.head?.getD default).ka) 9223372036854775808] ?_
 refine congrArg (Value.int .u64) ?_;(unfold ns);by_cases he:t.toL=[]<;>first|(rw[if_neg he];rfl)|(exfalso;have h_:=hem.2 he;omega)
theorem UH(be bt mb:Nat)(t:T)(kv:bm It)(hE:d6 t kv)(w:World)(r0:(aA be [p_ bt,.map<|some mb] 192).holds w)(r1:(aA bt [.pointer<|T.ptr t] 251).holds w)(r2:(bG 361 t).holds w)(r3:(bP (fun k:Int=>i_ k) (fun y:It=>(.agg #[u_ y.ka,i_ y.ki,u_ y.va,i_ y.vi])) mb kv).holds w):
  CW 164 #[p_ be] w (u_<|iZ t.toL):=by
 have hW:=hE.wf;have hl_:=hE.len
 have hem:=BF hE
 refine aU Tryz.func164 rfl (HS.nil w) (aD []<|aE<|bW [.cq<|i_ (kv.length:Int)] [(7,b_<|(kv.length:Int)==0)] (o1<|qo<|fun w s=>KF be bt mb t kv w (bV s r0) (bV s r1) (bV s r2)<|bV s r3)<|aI rfl (fun e1=>?_) (fun e1=>?_))
 ·have p1:=e1;try simp only[bQ] at p1
  refine aD [(2,u_ 9223372036854775808)]<|aF<|bK [u_ 9223372036854775808] ?_
  refine congrArg (Value.int .u64) ?_;(unfold iZ);by_cases he:t.toL=[]<;>first|(rw[if_pos he];rfl)|(exfalso;exact he<|hem.1 ‹_›)
 have p1:=e1;try simp only[bQ] at p1
 refine au<|aM<|iE [.rd [p_ bt],.cq<|.tuple #[.agg #[u_<|((eC 18446744073709551615 t.toL).getD default).ka,i_<|((eC 18446744073709551615 t.toL).getD default).ki,u_<|((eC 18446744073709551615 t.toL).getD default).va,i_<|((eC 18446744073709551615 t.toL).getD default).vi],b_<|(eC 18446744073709551615 t.toL).isSome],.al,.st 0] [] (fun b1=>[(3,p_ b1)]) (fun b1=>[]) (fun b1=>aA b1 [u_<|((eC 18446744073709551615 t.toL).getD default).ka,i_<|((eC 18446744073709551615 t.toL).getD default).ki,u_<|((eC 18446744073709551615 t.toL).getD default).va,i_<|((eC 18446744073709551615 t.toL).getD default).vi] 324) (fun b1=>oc (ro ⟨be,0,none⟩ (vs:=[p_ bt])<|cB r0 rfl)<|o1<|qo<|fun w s=>Fq bt t 18446744073709551615 (by assumption) w (bV s r1)<|bV s r2) ?_
 intro b1
 refine aC<|bF [.ld 0] [(2,u_<|bD (((eC 18446744073709551615 t.toL).getD default).va) 9223372036854775808)]<|aF<|bK [u_<|bD (((eC 18446744073709551615 t.toL).getD default).va) 9223372036854775808] ?_
 refine congrArg (Value.int .u64) ?_;(unfold iZ);by_cases he:t.toL=[]<;>first|(rw[if_neg he];rfl)|(exfalso;have h_:=hem.2 he;omega)
theorem UI(be bt mb:Nat)(t:T)(kv:bm It)(hE:d6 t kv)(w:World)(r0:(zL be bt mb).holds w)(r1:(uN bt t).holds w)(r2:(bG 361 t).holds w)(r3:(wI mb kv).holds w):
  CW 148 #[p_ be] w (.tuple #[u_<|(t.toL.head?.getD default).ka,b_<|t.toL.head?.isSome]):=by
 have hW:=hE.wf;have hl_:=hE.len
 have hem:=BF hE
 refine aU Tryz.func148 rfl (HS.nil w) (aE<|bX []<|aE<|aE<|bX [(7,b_ false)]<|bY<|aP<|(aE<|aM<|iE [.rd [p_ bt],.cq<|.tuple #[.agg #[u_<|(t.toL.head?.getD default).ka,i_<|(t.toL.head?.getD default).ki,u_<|(t.toL.head?.getD default).va,i_<|(t.toL.head?.getD default).vi],b_<|t.toL.head?.isSome],.al,.st 0] [] (fun b1=>[(4,p_ b1),(5,b_<|t.toL.head?.isSome)]) (fun b1=>[]) (fun b1=>aA b1 [u_<|(t.toL.head?.getD default).ka,i_<|(t.toL.head?.getD default).ki,u_<|(t.toL.head?.getD default).va,i_<|(t.toL.head?.getD default).vi] 324) (fun b1=>oc (ro ⟨be,0,none⟩ (vs:=[p_ bt])<|cB r0 rfl)<|o1<|qo<|fun w s=>Fp bt t (by assumption) w (bV s r1)<|bV s r2) ?_))
 intro b1
 refine aC<|bF [.ld 0] [(2,u_<|(t.toL.head?.getD default).ka),(3,b_<|t.toL.head?.isSome)]<|aF<|bK [u_<|(t.toL.head?.getD default).ka,b_<|t.toL.head?.isSome] ?_
 rfl
structure Hd where
 ha:Int
 hb:Int
 hc:Int
 hd:Int
 deriving Inhabited,DecidableEq
structure Rl where
 ma:Int
 mb:Int
 mc:Int
 md:Int
 wa:Int
 wb:Int
 wc:Int
 wd:Int
 cl:Int
 deriving Inhabited,DecidableEq
def fV(x:Rl):List Value:=[(w_ x.ma),(w_ x.mb),(w_ x.mc),(w_ x.md),(w_ x.wa),(w_ x.wb),(w_ x.wc),(w_ x.wd),(i_ x.cl)]
theorem lq(x:Rl):(fV x).length=9:=rfl
theorem OY(x:Rl):(fV x).all Value.oneCell'=true:=rfl
def rN(v m:Int):Int:=((v.toNat&&&m.toNat:Nat):Int)
theorem qT{v m:Int}(hv:0≤v∧v<65536)(hm:0≤m∧m<65536):af .and .u16 v m=rN v m:=by
 obtain⟨a,rfl⟩:=Int.eq_ofNat_of_zero_le hv.1
 obtain⟨b,rfl⟩:=Int.eq_ofNat_of_zero_le hm.1
 have h:=Nat.and_le_left (n:=a) (m:=b)
 have e:(BitVec.ofInt IntKind.u16.bits (a:Int)&&&BitVec.ofInt IntKind.u16.bits (b:Int)).toNat=a&&&b:=by
  rw[BitVec.toNat_and,BitVec.toNat_ofInt,BitVec.toNat_ofInt]
  have h1:((a:Int)%(2^IntKind.u16.bits:Nat)).toNat=a:=by simp[IntKind.bits];omega
  have h2:((b:Int)%(2^IntKind.u16.bits:Nat)).toNat=b:=by simp[IntKind.bits];omega
  rw[h1,h2]
 unfold af;simp only[e];unfold rN;rw[P1<|by omega];rfl
theorem GQ(w:World):
  CW 65 #[] w (.agg #[w_ 65535,w_ 65535,w_ 65535,w_ 65535]):=by
 refine aU Tryz.func65 rfl (HS.nil w) (aC<|dD [.al] [] (fun b1=>[(0,p_ b1)]) (fun b1=>aA b1 [w_ 0,w_ 0,w_ 0,w_ 0] 43) ?_)
 intro b1
 refine aC<|bU [.st 0] [] [(0,aA b1 [w_ 65535,w_ 65535,w_ 65535,w_ 65535] 43)]<|aF<|eY 0 [w_ 65535,w_ 65535,w_ 65535,w_ 65535] ?_
 rfl
abbrev IA(p0)(p1)(p2)(p3)(p4):=(aA p0 [w_ p1,w_ p2,w_ p3,w_ p4] 43:V.aH)
abbrev Px(p0):=(aA p0 [w_ 0,w_ 0,w_ 0,w_ 0] 43:V.aH)
abbrev Py(p0)(p1)(p2)(p3)(p4)(p5)(p6)(p7)(p8):=(aA p0 [w_<|af .and .u16 p1 p2,w_<|af .and .u16 p3 p4,w_<|af .and .u16 p5 p6,w_<|af .and .u16 p7 p8] 43:V.aH)
theorem BI(x0 x1 x2 x3 y0 y1 y2 y3:Int)(w:World):
  CW 64 #[.agg #[w_ x0,w_ x1,w_ x2,w_ x3],.agg #[w_ y0,w_ y1,w_ y2,w_ y3]] w (.agg #[w_<|af .and .u16 x0 y0,w_<|af .and .u16 x1 y1,w_<|af .and .u16 x2 y2,w_<|af .and .u16 x3 y3]):=by
 refine aU Tryz.func64 rfl (HS.nil w) (aE ?_)
 refine aM<|nj [.al,.al,.al] [2,3,4] (fun b1 b2 b3=>[(2,p_ b1),(3,p_ b2),(4,p_ b3)]) (fun b1 b2 b3=>[IA b1 x0 x1 x2 x3,IA b2 y0 y1 y2 y3,Px b3]) (fun b1 b2 b3=>[]) (fun _ _ _=>T0) (fun _ _ _=>by kernel_rfl) (fun b1 b2 b3=>trivial) ?_
 intro b1 b2 b3
 refine aE ?_
 refine aE ?_
 refine bX [(6,i_ 0)] ?_
 refine aO ?_
 refine jm 400 ?_
 refine dK (m:=399) ?_
 refine aE ?_
 refine bX [(7,b_ true)] ?_
 refine aE ?_
 refine dX ?_
 refine aP ?_
 refine aE ?_
 refine aO ?_
 refine aE ?_
 refine bX [(5,i_ 0)] ?_
 refine bL [8] 9 ?_
 refine cL 1 [.ld 0,.ld 1] (rg 0 8) [(15,w_<|af .and .u16 x0 y0),(16,p_ b1)] ?_
 refine an 8 rfl (dN 0 [w_<|af .and .u16 x0 y0] rfl ?_)
 refine cD ?_
 refine dj ?_
 refine bX [(2,p_ b1),(3,p_ b2),(4,p_ b3),(6,i_ 1)] ?_
 refine dK (m:=398) ?_
 refine aE ?_
 refine bX [(7,b_ true)] ?_
 refine aE ?_
 refine dX ?_
 refine aP ?_
 refine aE ?_
 refine aO ?_
 refine aE ?_
 refine bX [(5,i_ 1)] ?_
 refine bL [8] 9 ?_
 refine cL 1 [.ld 0,.ld 1] (rg 0 8) [(15,w_<|af .and .u16 x1 y1),(16,q_ b1 1)] ?_
 refine an 8 rfl (dN 0 [w_<|af .and .u16 x1 y1] rfl ?_)
 refine cD ?_
 refine dj ?_
 refine bX [(6,i_ 2)] ?_
 refine dK (m:=397) ?_
 refine aE ?_
 refine bX [(7,b_ true)] ?_
 refine aE ?_
 refine dX ?_
 refine aP ?_
 refine aE ?_
 refine aO ?_
 refine aE ?_
 refine bX [(5,i_ 2)] ?_
 refine bL [8] 9 ?_
 refine cL 1 [.ld 0,.ld 1] (rg 0 8) [(15,w_<|af .and .u16 x2 y2),(16,q_ b1 2)] ?_
 refine an 8 rfl (dN 0 [w_<|af .and .u16 x2 y2] rfl ?_)
 refine cD ?_
 refine dj ?_
 refine bX [(6,i_ 3)] ?_
 refine dK (m:=396) ?_
 refine aE ?_
 refine bX [(7,b_ true)] ?_
 refine aE ?_
 refine dX ?_
 refine aP ?_
 refine aE ?_
 refine aO ?_
 refine aE ?_
 refine bX [(5,i_ 3)] ?_
 refine bL [8] 9 ?_
 refine cL 1 [.ld 0,.ld 1] (rg 0 8) [(15,w_<|af .and .u16 x3 y3),(16,q_ b1 3)] ?_
 refine an 8 rfl (dN 0 [w_<|af .and .u16 x3 y3] rfl ?_)
 refine cD ?_
 refine dj ?_
 refine bX [(6,i_ 4)] ?_
 refine dK (m:=395) ?_
 refine aE ?_
 refine bX [(7,b_ false)] ?_
 refine aE ?_
 refine bY ?_
 refine bR ?_
 refine aE ?_
 refine aM<|bU [.ld 0,.st 2] [] [(2,Py b3 x0 y0 x1 y1 x2 y2 x3 y3)] ?_
 refine aF ?_
 refine eY 2 [w_<|af .and .u16 x0 y0,w_<|af .and .u16 x1 y1,w_<|af .and .u16 x2 y2,w_<|af .and .u16 x3 y3] ?_
 rfl
def k7(x:Hd):Prop:=(0≤x.ha∧x.ha≤65535)∧(0≤x.hb∧x.hb≤65535)∧(0≤x.hc∧x.hc≤65535)∧(0≤x.hd∧x.hd≤65535)
def kg(x:Rl):Prop:=(0≤x.ma∧x.ma≤65535)∧(0≤x.mb∧x.mb≤65535)∧(0≤x.mc∧x.mc≤65535)∧(0≤x.md∧x.md≤65535)∧(0≤x.wa∧x.wa≤65535)∧(0≤x.wb∧x.wb≤65535)∧(0≤x.wc∧x.wc≤65535)∧(0≤x.wd∧x.wd≤65535)∧((-9223372036854775808)≤x.cl∧x.cl≤9223372036854775807)
def Ls:List FK:=[.int .u16,.int .u16,.int .u16,.int .u16,.int .u16,.int .u16,.int .u16,.int .u16,.int .i64]
theorem Ui(cs:cn)(h:nT Ls cs): ∃x,cs=fV x∧kg x:=by
 unfold Ls at h
 obtain⟨v0,cs0,rfl,h0,g0⟩:=fp h
 obtain⟨a0,rfl,r0⟩:=nG h0
 obtain⟨v1,cs1,rfl,h1,g1⟩:=fp g0
 obtain⟨a1,rfl,r1⟩:=nG h1
 obtain⟨v2,cs2,rfl,h2,g2⟩:=fp g1
 obtain⟨a2,rfl,r2⟩:=nG h2
 obtain⟨v3,cs3,rfl,h3,g3⟩:=fp g2
 obtain⟨a3,rfl,r3⟩:=nG h3
 obtain⟨v4,cs4,rfl,h4,g4⟩:=fp g3
 obtain⟨a4,rfl,r4⟩:=nG h4
 obtain⟨v5,cs5,rfl,h5,g5⟩:=fp g4
 obtain⟨a5,rfl,r5⟩:=nG h5
 obtain⟨v6,cs6,rfl,h6,g6⟩:=fp g5
 obtain⟨a6,rfl,r6⟩:=nG h6
 obtain⟨v7,cs7,rfl,h7,g7⟩:=fp g6
 obtain⟨a7,rfl,r7⟩:=nG h7
 obtain⟨v8,cs8,rfl,h8,g8⟩:=fp g7
 obtain⟨a8,rfl,r8⟩:=oW h8
 obtain rfl:=tP g8
 exact⟨⟨a0,a1,a2,a3,a4,a5,a6,a7,a8⟩,rfl,r0,r1,r2,r3,r4,r5,r6,r7,r8⟩
def mt(r:Rl)(h:Hd):Bool:=rN h.ha r.ma==r.wa&&rN h.hb r.mb==r.wb&&rN h.hc r.mc==r.wc&&rN h.hd r.md==r.wd
theorem NN(r:Rl)(h:Hd)(hr:kg r)(hh:k7 h)(w:World):
  CW 110 #[.agg #[w_ r.ma,w_ r.mb,w_ r.mc,w_ r.md,w_ r.wa,w_ r.wb,w_ r.wc,w_ r.wd,i_ r.cl],.agg #[w_ h.ha,w_ h.hb,w_ h.hc,w_ h.hd]] w (b_<|mt r h):=by
 obtain⟨hr1,hr2,hr3,hr4,hr5,hr6,hr7,hr8,hr9⟩:=hr;obtain⟨hh1,hh2,hh3,hh4⟩:=hh
 refine aU Tryz.func110 rfl (HS.nil w) (aC<|fz [.al,.al] [] (fun b1 b2=>[(2,p_ b1),(3,p_ b2)]) (fun b1 b2=>[aA b1 [w_ r.ma,w_ r.mb,w_ r.mc,w_ r.md,w_ r.wa,w_ r.wb,w_ r.wc,w_ r.wd,i_ r.cl] 86,aA b2 [w_ h.ha,w_ h.hb,w_ h.hc,w_ h.hd] 43]) ?_)
 intro b1 b2
 refine aE<|fS [.ld 1,.ld 0,.cq<|.agg #[w_<|af .and .u16 h.ha r.ma,w_<|af .and .u16 h.hb r.mb,w_<|af .and .u16 h.hc r.mc,w_<|af .and .u16 h.hd r.md],.ld 0,.eq] (rg 0 8) [] [(4,b_<|((af .and .u16 h.ha r.ma)==r.wa)&&(((af .and .u16 h.hb r.mb)==r.wb)&&(((af .and .u16 h.hc r.mc)==r.wc)&&((af .and .u16 h.hd r.md)==r.wd))))] (o1<|qw<|BI h.ha h.hb h.hc h.hd r.ma r.mb r.mc r.md)<|aF<|bK [b_<|((af .and .u16 h.ha r.ma)==r.wa)&&(((af .and .u16 h.hb r.mb)==r.wb)&&(((af .and .u16 h.hc r.mc)==r.wc)&&((af .and .u16 h.hd r.md)==r.wd)))] ?_
 refine congrArg Value.bool ?_;rw[qT (by omega)<|by omega,qT (by omega)<|by omega,qT (by omega)<|by omega,qT (by omega)<|by omega];(unfold mt;simp[Bool.and_assoc])
end Go.Proofs.YtobgjpigngoggaaGreat
namespace Go.Proofs.YtobgjpigngoggaaGreat
open Go V
def iI(x:Int):List Value:=[(i_ x)]
theorem xm(x:Int):(iI x).length=1:=rfl
theorem Gw(x:Int):(iI x).all Value.oneCell'=true:=rfl
theorem Nr(p:Addr)(l:List Rl)(cl:Nat)(hl:l.length≤100000)(w:World)(r0:dR w (some p) (V.aQ fV l))(hs:HI w []):
  CV 63 #[.slice (some p) l.length cl] w [] (fun((al',cl'):(bn)×Nat)=>(.slice al' l.length cl')) (fun _=>True) fun(al',cl')=>[sl al' (l.length) cl' 86 9<|V.aQ fV l]:=by
 refine aU Tryz.func63 rfl hs (aD []<|aE<|aD [(4,b_ false)]<|bY<|aP<|(aC<|aG<|eB 5 (e:=86) [] (by kernel_rfl) rfl (fun _=>by kernel_rfl) _ (fun _=>rfl) ?_))
 intro b1
 refine cP [.p] [(5,.slice (some ⟨b1,0,none⟩) 0 0),(6,.slice (some p) l.length cl)]<|aG<|xO 0 (b:=b1) 0 9 [sl (some ⟨b1,0,none⟩) (([]:List Rl).length) 0 86 9<|V.aQ fV ([]:List Rl)] rfl rfl (by decide) rfl (gn fV ([]:List Rl) l 0 7 (.agg #[w_ 0,w_ 0,w_ 0,w_ 0,w_ 0,w_ 0,w_ 0,w_ 0,i_ 0]) 24 lq OY (bg r0<|by simp[aL]) (by simp;omega) ?_)
 intro A3 c3
 refine ak [(2,.slice A3 l.length c3)]<|aF<|bJ [0] [.slice A3 l.length c3] (A3,c3) ?_ ?_
 ·rfl
 trivial
theorem Ns(l:List Rl)(cl:Nat)(w:World):
  CW 63 #[.slice none l.length cl] w e_:=by
 refine aU Tryz.func63 rfl (HS.nil w) (aD []<|aE<|aD [(4,b_ true)]<|dX<|aD [(2,e_)]<|aF<|bK [e_] ?_)
 rfl
theorem Fh(al:bn)(l:List Rl)(cl:Nat)(hl:l.length≤100000)(w:World)(r0:dR w al (V.aQ fV l))(hs:HI w []):
  CV 63 #[.slice al l.length cl] w [] (fun((al',cl'):(bn)×Nat)=>(.slice al' l.length cl')) (fun _=>True) fun(al',cl')=>[sl al' (l.length) cl' 86 9<|V.aQ fV l]:=by
 cases al with
 |some p=>exact Nr p l cl hl w r0 hs
 |none=>
  have hn:l=[]:=by
   cases l with
   |nil=>rfl
   |cons x xs=>have h:=(r0 0 _ rfl).1;simp at h
  subst hn
  exact Calls.mono (Ns [] cl w) fun e w' h=>⟨(none,0),h.1,trivial,⟨h.2,by intro it hi;simp at hi;subst hi;exact zQ _ _ _,by simp[aL,sl,fU],by simp[aL,sl,fU]⟩⟩end Go.Proofs.YtobgjpigngoggaaGreat
namespace Go.Proofs.YtobgjpigngoggaaGreat
open Go V
def i9(h:Hd):Value:= .agg #[(w_ h.ha),(w_ h.hb),(w_ h.hc),(w_ h.hd)]
theorem vp:jd Tryz.prog 43 i9:=Np (by kernel_rfl)
 (fun a b=>by
  have e:jh Tryz.prog 10000 43 (i9 a) (i9 b)=some ((a.ha==b.ha)&&((a.hb==b.hb)&&((a.hc==b.hc)&&(a.hd==b.hd)))):=by
   cases a;cases b;kernel_rfl
  rw[e];refine congrArg some ?_;cases a;cases b;rw[Bool.eq_iff_iff];simp)
 (fun a em=>by cases em<;>kernel_rfl) (fun a=>by
  have e:Instr.sameBits 10000 (i9 a) (i9 a)=((a.ha==a.ha)&&((a.hb==a.hb)&&((a.hc==a.hc)&&((a.hd==a.hd)&&true)))):=by kernel_rfl
  rw[e];simp)
def Rl.want(r:Rl):Hd:=⟨r.wa,r.wb,r.wc,r.wd⟩
def Rl.wh(r:Rl):Bool:=r.ma==65535&&r.mb==65535&&r.mc==65535&&r.md==65535
def Rl.good(r:Rl):Bool:=decide (1≤r.cl)&&decide (r.cl≤65536)&&mt r r.want
def cz(l:List Rl):Nat→List (Hd×Int)
 |0=>[]
 |k+1=>match l[k]? with
  |some r=>if r.wh&& !(aB (cz l k) r.want).isSome then aK (cz l k) r.want k else cz l k
  |none=>cz l k
def bI(l:List Rl):Nat→List Int
 |0=>[]
 |k+1=>match l[k]? with
  |some r=>if r.wh then bI l k else bI l k++[(k:Int)]
  |none=>bI l k
variable{r:Rl}
theorem JR(h:kg r):(((decide (r.cl<1))||(decide (r.cl>65536)))||(!(((af .and .u16 r.wa r.ma)==r.wa)&&(((af .and .u16 r.wb r.mb)==r.wb)&&(((af .and .u16 r.wc r.mc)==r.wc)&&((af .and .u16 r.wd r.md)==r.wd))))))= !r.good:=by
 obtain⟨h1,h2,h3,h4,h5,h6,h7,h8,h9⟩:=h
 rw[qT (by omega)<|by omega,qT (by omega)<|by omega,qT (by omega)<|by omega,qT (by omega)<|by omega]
 have e1:decide (r.cl<1)= !decide (1≤r.cl):=by rw[Bool.eq_iff_iff];simp
 have e2:decide (r.cl>65536)= !decide (r.cl≤65536):=by rw[Bool.eq_iff_iff];simp
 unfold Rl.good mt Rl.want;rw[e1,e2];simp only[Bool.not_and,Bool.and_assoc];simp[Bool.and_assoc,Bool.or_assoc]
theorem zX(r:Rl):(!((r.ma==65535)&&((r.mb==65535)&&((r.mc==65535)&&(r.md==65535)))))= !r.wh:=by unfold Rl.wh;simp[Bool.and_assoc]
variable{l:List Rl}{k:Nat}
theorem JS(hr:l[k]? =some r)(h1:(!((r.ma==65535)&&((r.mb==65535)&&((r.mc==65535)&&(r.md==65535)))))=false)(h2:(!(aB (cz l k) (⟨r.wa,r.wb,r.wc,r.wd⟩:Hd)).isSome)=true):aK (cz l k) (⟨r.wa,r.wb,r.wc,r.wd⟩:Hd) (k:Int)=cz l (k+1):=by
 rw[zX] at h1;have:r.wh=true:=by simpa using h1
 rw[cz];simp only[hr];rw[if_pos (by rw[this];simpa[Rl.want] using h2)];rfl
theorem yM(hr:l[k]? =some r)(h:(!((r.ma==65535)&&((r.mb==65535)&&((r.mc==65535)&&(r.md==65535)))))=true∨(!(aB (cz l k) (⟨r.wa,r.wb,r.wc,r.wd⟩:Hd)).isSome)=false):cz l k=cz l (k+1):=by
 rw[zX] at h
 rw[cz];simp only[hr];rw[if_neg];rcases h with h|h
 ·simp at h;simp[h]
 ·have:(!(aB (cz l k) r.want).isSome)=false:=h
  rw[this];simp
theorem xn(hr:l[k]? =some r)(h1:(!((r.ma==65535)&&((r.mb==65535)&&((r.mc==65535)&&(r.md==65535)))))=true):bI l k++[(k:Int)]=bI l (k+1):=by
 rw[zX] at h1;simp at h1;rw[bI];simp[hr,h1]
theorem qS(hr:l[k]? =some r)(h1:(!((r.ma==65535)&&((r.mb==65535)&&((r.mc==65535)&&(r.md==65535)))))=false):bI l k=bI l (k+1):=by
 rw[zX] at h1;simp at h1;rw[bI];simp[hr,h1]
theorem xo(l:List Rl): ∀k,(bI l k).length≤k
 |0=>by simp[bI]
 |k+1=>by have:=xo l k;unfold bI;split;(split;omega;simp;omega);omega
theorem xZ{α:Type}{l:List α}{x:α}(h:l[k]? =some x):l.take (k+1)=l.take k++[x]:=by rw[List.take_add_one,h];rfl
theorem Rj(hn: ∀y∈l.take k,y.good=true)(hb: ¬ ∀x∈l,x.good=true):k<l.length:=by
 rcases Nat.lt_or_ge k l.length with h|h
 ·exact h
 ·rw[List.take_of_length_le h] at hn;exact absurd hn hb
theorem Cm(h:kg r)(e:(((decide (r.cl<1))||(decide (r.cl>65536)))||(!(((af .and .u16 r.wa r.ma)==r.wa)&&(((af .and .u16 r.wb r.mb)==r.wb)&&(((af .and .u16 r.wc r.mc)==r.wc)&&((af .and .u16 r.wd r.md)==r.wd))))))=false):r.good=true:=by
 rw[JR h] at e;simpa using e
theorem Uj(al:bn)(l:List Rl)(cl:Nat)(hl:l.length≤32)(hg: ∀x∈l,x.good=true)(hR: ∀x∈l,kg x)(w:World)(r0:dR w al (V.aQ fV l))(hs:HI w []):
  CV 43 #[.slice al l.length cl] w [] (fun((bt,ar,cr,mb,am,cm):Nat×(bn)×Nat×Nat×(bn)×Nat)=>(.tuple #[p_ bt,i_ 0])) (fun _=>True) fun(bt,ar,cr,mb,am,cm)=>[aA bt [.slice ar l.length cr,.map<|some mb,.slice am ((bI l l.length).length) cm] 150,sl ar (l.length) cr 86 9<|V.aQ fV l,bP i9 (fun x:Int=>i_ x) mb<|cz l l.length,sl am ((bI l l.length).length) cm 3 1<|V.aQ iI<|bI l l.length]:=by
 refine aU Tryz.func43 rfl hs (aD []<|aE<|aD [(11,b_<|decide ((l.length:Int)>32))]<|aI (E:=decide ((l.length:Int)>32)) rfl (fun e1=>?_) (fun e1=>?_))
 ·exact absurd e1 (by simp;omega)
 have p1:=ga e1
 refine aP<|aC<|cP [.p] [(12,.slice al l.length cl)]<|aG<|dG (some 13) [] (fun w s h=>Fh al l cl (by omega) w ((bg r0<|by simp[aL]) w s) h) ?_
 rintro⟨al'1,cl'2⟩-
 refine aG<|mw i9 (fun x:Int=>i_ x) 14 (by kernel_rfl) rfl (fun m4=>[sl al'1 (l.length) cl'2 86 9<|V.aQ fV l,bP i9 (fun x:Int=>i_ x) m4 ([]:List (Hd×Int))]) (fun _=>rfl) ?_
 intro m4
 refine dS [.al] [] (fun b5=>[(4,p_ b5)]) (fun _=>[]) (fun b5=>aA b5 [.slice al'1 l.length cl'2,.map<|some m4,e_] 150) ?_
 intro b5
 refine aE<|aD [(17,.slice al l.length cl),(18,i_ (l.length:Int)),(19,i_ 0)]<|aO<|gC 3 1 [sl al'1 (l.length) cl'2 86 9<|V.aQ fV l,bP i9 (fun x:Int=>i_ x) m4<|cz l 0,aA b5 [.slice al'1 l.length cl'2,.map<|some m4,.slice none ((bI l 0).length) 0] 150,sl none ((bI l 0).length) 0 3 1<|V.aQ iI<|bI l 0] rfl (fm (fun((k,am,cm,bt,ar,cr,mb):Nat×(bn)×Nat×Nat×(bn)×Nat×Nat)=>[(17,.slice al l.length cl),(18,i_ (l.length:Int)),(19,i_ (k:Int)),(4,p_ bt)]) (fun((k,am,cm,bt,ar,cr,mb):Nat×(bn)×Nat×Nat×(bn)×Nat×Nat)=>[aA bt [.slice ar l.length cr,.map<|some mb,.slice am ((bI l k).length) cm] 150,sl ar (l.length) cr 86 9<|V.aQ fV l,bP i9 (fun x:Int=>i_ x) mb<|cz l k,sl am ((bI l k).length) cm 3 1<|V.aQ iI<|bI l k]) (fun((k,am,cm,bt,ar,cr,mb):Nat×(bn)×Nat×Nat×(bn)×Nat×Nat)=>(k≤l.length)) (fun((k,am,cm,bt,ar,cr,mb):Nat×(bn)×Nat×Nat×(bn)×Nat×Nat)=>l.length-k) (0,none,0,b5,al'1,cl'2,m4) (by omega) ?_ ?_)
 ·exact cQ [2,0,0,0] ⟨rfl,rfl,rfl,rfl,trivial⟩<|by kernel_rfl
 rintro⟨k,am,cm,bt,ar,cr,mb⟩ hk
 have hk:k≤l.length:=hk
 have hm:=xo l k
 refine eo [(17,.slice al l.length cl),(18,i_ (l.length:Int)),(19,i_ (k:Int)),(4,p_ bt)] [aA bt [.slice ar l.length cr,.map<|some mb,.slice am ((bI l k).length) cm] 150,sl ar (l.length) cr 86 9<|V.aQ fV l,bP i9 (fun x:Int=>i_ x) mb<|cz l k,sl am ((bI l k).length) cm 3 1<|V.aQ iI<|bI l k] ⟨rfl,rfl,rfl,rfl,trivial⟩ rfl (aD [(17,.slice al l.length cl),(18,i_ (l.length:Int)),(19,i_ (k:Int)),(4,p_ bt),(20,b_<|decide ((k:Int)<(l.length:Int)))]<|aE<|aI (E:=decide ((k:Int)<(l.length:Int))) rfl (fun e3=>?_) (fun e3=>?_))
 ·have p3:=dZ e3
  refine au<|aO<|aC<|dm 2 [.ix] [(21,i_ (k:Int)),(22,.pointer<|some<|(aZ al).add (k*9))] (o1<|io (k:Int)<|dh lq (by decide) (bg r0<|by simp[aL])<|by omega) ?_
  obtain⟨x7,hx7⟩: ∃x,(l)[k]? =some x:=⟨_,dA<|by omega⟩
  refine jN [.rd [w_ x7.ma,w_ x7.mb,w_ x7.mc,w_ x7.md,w_ x7.wa,w_ x7.wb,w_ x7.wc,w_ x7.wd,i_ x7.cl],.al,.p,.st 4] [17,18,19,4,6,5] (fun b8=>[(17,.slice al l.length cl),(18,i_ (l.length:Int)),(19,i_ (k:Int)),(4,p_ bt),(6,p_ b8),(5,i_ (k:Int))]) (fun b8=>[aA bt [.slice ar l.length cr,.map<|some mb,.slice am ((bI l k).length) cm] 150,sl ar (l.length) cr 86 9<|V.aQ fV l,bP i9 (fun x:Int=>i_ x) mb<|cz l k,sl am ((bI l k).length) cm 3 1<|V.aQ iI<|bI l k,aA b8 [w_ x7.ma,w_ x7.mb,w_ x7.mc,w_ x7.md,w_ x7.wa,w_ x7.wb,w_ x7.wc,w_ x7.wd,i_ x7.cl] 86]) (fun b8=>[b8]) (fun _=>(fun κ=>κ.rd ((aZ al).add (k*9)) [w_ x7.ma,w_ x7.mb,w_ x7.mc,w_ x7.md,w_ x7.wa,w_ x7.wb,w_ x7.wc,w_ x7.wd,i_ x7.cl]∧True)) (fun _=>by kernel_rfl) (fun b8=>⟨dY (vs:=[w_ x7.ma,w_ x7.mb,w_ x7.mc,w_ x7.md,w_ x7.wa,w_ x7.wb,w_ x7.wc,w_ x7.wd,i_ x7.cl]) lq (bg r0<|by simp[aL]) hx7 (Nat.le_of_ble_eq_true rfl) rfl,trivial⟩) ?_
  intro b8
  refine aE<|aE<|qP [.p,.ld 4,.p,.p,.o,.p,.ld 4,.p,.cl,.p,.o,.p,.ld 4,.p,.ld 4,.cq<|.agg #[w_<|af .and .u16 x7.wa x7.ma,w_<|af .and .u16 x7.wb x7.mb,w_<|af .and .u16 x7.wc x7.mc,w_<|af .and .u16 x7.wd x7.md],.p,.ld 4,.eq,.cl] [0,1,2,3,4,5,6,7,8,9,10,11,12,13,14,15,16,17] [(17,.slice al l.length cl),(18,i_ (l.length:Int)),(19,i_ (k:Int)),(4,p_ bt),(6,p_ b8),(5,i_ (k:Int)),(41,b_<|((decide (x7.cl<1))||(decide (x7.cl>65536)))||(!(((af .and .u16 x7.wa x7.ma)==x7.wa)&&(((af .and .u16 x7.wb x7.mb)==x7.wb)&&(((af .and .u16 x7.wc x7.mc)==x7.wc)&&((af .and .u16 x7.wd x7.md)==x7.wd))))))] [b8,b8,b8,b8,b8] (fun κ=>((true&&(((decide (x7.cl<1))||(decide (x7.cl>65536)))==false))=true→κ.call 64 [.agg #[w_ x7.wa,w_ x7.wb,w_ x7.wc,w_ x7.wd],.agg #[w_ x7.ma,w_ x7.mb,w_ x7.mc,w_ x7.md]] (.agg #[w_<|af .and .u16 x7.wa x7.ma,w_<|af .and .u16 x7.wb x7.mb,w_<|af .and .u16 x7.wc x7.mc,w_<|af .and .u16 x7.wd x7.md]))∧True) (by kernel_rfl) (by kernel_rfl) ⟨(fun h_=>(fun w s=>BI x7.wa x7.wb x7.wc x7.wd x7.ma x7.mb x7.mc x7.md w)),trivial⟩<|(aI (E:=((decide (x7.cl<1))||(decide (x7.cl>65536)))||(!(((af .and .u16 x7.wa x7.ma)==x7.wa)&&(((af .and .u16 x7.wb x7.mb)==x7.wb)&&(((af .and .u16 x7.wc x7.mc)==x7.wc)&&((af .and .u16 x7.wd x7.md)==x7.wd)))))) rfl (fun e4=>?_) (fun e4=>?_))
  ·exact absurd e4 (by rw[JR<|hR _<|cT ‹_›,hg _<|cT ‹_›];decide)
  refine au<|bL [] 12<|cL 6 [.ld 0,.ld 4] (rg 0 6) [(6,p_ b8),(5,i_ (k:Int)),(46,.map<|some mb),(48,.agg #[w_ x7.wa,w_ x7.wb,w_ x7.wc,w_ x7.wd])]<|kQ 6 (some 49) (.tuple #[i_<|(aB (cz l k) (⟨x7.wa,x7.wb,x7.wc,x7.wd⟩:Hd)).getD 0,b_<|(aB (cz l k) (⟨x7.wa,x7.wb,x7.wc,x7.wd⟩:Hd)).isSome]) rfl (by kernel_rfl) (by kernel_rfl) (uq 43 3 (⟨x7.wa,x7.wb,x7.wc,x7.wd⟩:Hd) 0 (qM 2 rfl) vp) (cL 0 [] (rg 7 5) [(8,b_<|(aB (cz l k) (⟨x7.wa,x7.wb,x7.wc,x7.wd⟩:Hd)).isSome)]<|dj<|aO<|aE<|qP [.p,.ld 4,.cq<|.agg #[w_ 65535,w_ 65535,w_ 65535,w_ 65535],.eq,.p] (rg 0 5) [(17,.slice al l.length cl),(18,i_ (l.length:Int)),(19,i_ (k:Int)),(4,p_ bt),(6,p_ b8),(5,i_ (k:Int)),(8,b_<|(aB (cz l k) (⟨x7.wa,x7.wb,x7.wc,x7.wd⟩:Hd)).isSome),(52,b_ (!((x7.ma==65535)&&((x7.mb==65535)&&((x7.mc==65535)&&(x7.md==65535))))))] [b8] (fun κ=>κ.call 65 [] (.agg #[w_ 65535,w_ 65535,w_ 65535,w_ 65535])∧True) (by kernel_rfl) (by kernel_rfl) ⟨(fun w s=>GQ w),trivial⟩<|aI (E:= !((x7.ma==65535)&&((x7.mb==65535)&&((x7.mc==65535)&&(x7.md==65535))))) rfl (fun e5=>?_) (fun e5=>?_))
  ·refine aM<|bA 6 [.ld 0] [(57,p_ bt),(61,.slice am ((bI l k).length) cm),(62,i_ (k:Int))]<|aG<|eB 63 (e:=3) [i_ (k:Int)] (by kernel_rfl) rfl (fun _=>by kernel_rfl) (fun b9=>[aA bt [.slice ar l.length cr,.map<|some mb,.slice am ((bI l k).length) cm] 150,sl ar (l.length) cr 86 9<|V.aQ fV l,bP i9 (fun x:Int=>i_ x) mb<|cz l k,sl am ((bI l k).length) cm 3 1<|V.aQ iI<|bI l k,aA b8 [w_ x7.ma,w_ x7.mb,w_ x7.mc,w_ x7.md,w_ x7.wa,w_ x7.wb,w_ x7.wc,w_ x7.wd,i_ x7.cl] 86,aA b9 [i_ (k:Int)] 3]) (fun _=>rfl) ?_
   intro b9
   refine aG<|jj (enc:=iI) (xs:=(bI l k)) ([(k:Int)]) 3 64 (e:=3) (z:=(i_ 0)) (sz:=1) (by_:=8) (by kernel_rfl) rfl rfl rfl (by kernel_rfl) (by kernel_rfl) (by rfl) (by decide) xm Gw rfl (eV (i:=5) rfl) (by simp;omega) (fun A10 c10=>[aA bt [.slice ar l.length cr,.map<|some mb,.slice am ((bI l k).length) cm] 150,sl ar (l.length) cr 86 9<|V.aQ fV l,bP i9 (fun x:Int=>i_ x) mb<|cz l k,sl A10 (((bI l k)++([(k:Int)])).length) c10 3 1<|V.aQ iI<|(bI l k)++([(k:Int)]),aA b8 [w_ x7.ma,w_ x7.mb,w_ x7.mc,w_ x7.md,w_ x7.wa,w_ x7.wb,w_ x7.wc,w_ x7.wd,i_ x7.cl] 86,aA b9 [i_ (k:Int)] 3]) (fun _ _=>rfl) ?_
   intro A10 c10
   refine bU [.st 0] [] [(0,aA bt [.slice ar l.length cr,.map<|some mb,.slice A10 (((bI l k)++([(k:Int)])).length) c10] 150)]<|aM<|az [.w<|(k:Int)+1] [(19,i_<|(k:Int)+1)] (o1<|wj ((k:Int)+1)<|by omega)<|(bj 0 (aA bt [.slice ar l.length cr,.map<|some mb,.slice A10 ((bI l<|k+1).length) c10] 150) rfl (iD<|cc rfl (cc rfl (cc (congrArg (fun z_:bT=>Value.slice A10 z_.length c10) (xn ‹_› ‹_›:(bI l k)++([(k:Int)])=(bI l<|k+1))) rfl))) ?_)
   rw[show(cz l k)=(cz l<|k+1) from by exact yM ‹_› (.inl ‹_›)]
   refine bj 3 (sl A10 ((bI l<|k+1).length) c10 3 1<|V.aQ iI<|bI l<|k+1) rfl (cw (xn ‹_› ‹_›:(bI l k)++([(k:Int)])=(bI l<|k+1))) (bC (k+1,A10,c10,bt,ar,cr,mb) (by omega) (by(simp;omega)) ?_)
   exact cQ [0,0,0,0] ⟨rfl,rfl,rfl,rfl,trivial⟩<|by kernel_rfl
  refine aD [(67,b_ (!((aB (cz l k) (⟨x7.wa,x7.wb,x7.wc,x7.wd⟩:Hd)).isSome)))]<|aI (E:= !((aB (cz l k) (⟨x7.wa,x7.wb,x7.wc,x7.wd⟩:Hd)).isSome)) rfl (fun e6=>?_) (fun e6=>?_)
  ·refine bL [7] 8<|cL 1 [.ld 0,.ld 4] (rg 0 7) [(73,.map<|some mb),(75,.agg #[w_ x7.wa,w_ x7.wb,w_ x7.wc,w_ x7.wd]),(76,i_ (k:Int))]<|an 7 rfl (gB 43 3 2 (⟨x7.wa,x7.wb,x7.wc,x7.wd⟩:Hd) (k:Int) rfl vp (cb<|aM<|az [.w<|(k:Int)+1] [(19,i_<|(k:Int)+1)] (o1<|wj ((k:Int)+1)<|by omega)<|(bj 0 (aA bt [.slice ar l.length cr,.map<|some mb,.slice am ((bI l<|k+1).length) cm] 150) rfl (iD<|cc rfl (cc rfl (cc (congrArg (fun z_:bT=>Value.slice am z_.length cm) (qS ‹_› ‹_›:(bI l k)=(bI l<|k+1))) rfl))) ?_)))
   rw[show aK (cz l k) (⟨x7.wa,x7.wb,x7.wc,x7.wd⟩:Hd) (k:Int)=(cz l<|k+1) from by exact JS ‹_› ‹_› ‹_›]
   refine bj 3 (sl am ((bI l<|k+1).length) cm 3 1<|V.aQ iI<|bI l<|k+1) rfl (cw (qS ‹_› ‹_›:(bI l k)=(bI l<|k+1))) (bC (k+1,am,cm,bt,ar,cr,mb) (by omega) (by(simp;omega)) ?_)
   exact cQ [0,0,0,0] ⟨rfl,rfl,rfl,rfl,trivial⟩<|by kernel_rfl
  refine aP<|aM<|az [.w<|(k:Int)+1] [(19,i_<|(k:Int)+1)] (o1<|wj ((k:Int)+1)<|by omega)<|bj 0 (aA bt [.slice ar l.length cr,.map<|some mb,.slice am ((bI l<|k+1).length) cm] 150) rfl (iD<|cc rfl (cc rfl (cc (congrArg (fun z_:bT=>Value.slice am z_.length cm) (qS ‹_› ‹_›:(bI l k)=(bI l<|k+1))) rfl))) ?_
  rw[show(cz l k)=(cz l<|k+1) from by exact yM ‹_› (.inr ‹_›)]
  refine bj 3 (sl am ((bI l<|k+1).length) cm 3 1<|V.aQ iI<|bI l<|k+1) rfl (cw (qS ‹_› ‹_›:(bI l k)=(bI l<|k+1))) (bC (k+1,am,cm,bt,ar,cr,mb) (by omega) (by(simp;omega)) ?_)
  exact cQ [0,0,0,0] ⟨rfl,rfl,rfl,rfl,trivial⟩<|by kernel_rfl
 have p3:=ga e3
 refine bR<|aD [(2,p_ bt),(3,i_ 0)]<|aF<|bj 0 (aA bt [.slice ar l.length cr,.map<|some mb,.slice am ((bI l l.length).length) cm] 150) rfl (iD<|cc rfl (cc rfl (cc (congrArg (fun z_:bT=>Value.slice am z_.length cm) (by(rw[show k=l.length from by omega]):(bI l k)=(bI l l.length))) rfl))) ?_
 rw[show(cz l k)=(cz l l.length) from by(rw[show k=l.length from by omega])]
 refine bj 3 (sl am ((bI l l.length).length) cm 3 1<|V.aQ iI<|bI l l.length) rfl (cw (by(rw[show k=l.length from by omega]):(bI l k)=(bI l l.length))) (cN [0,0,0,0] [p_ bt,i_ 0] (fun _ w r s=>⟨dM r rfl,dM r rfl,trivial⟩) (bt,ar,cr,mb,am,cm) ?_ ?_<|by kernel_rfl)
 ·rfl
 trivial
theorem Rk(al:bn)(l:List Rl)(cl:Nat)(hl:l.length≤32)(hb: ¬ ∀x∈l,x.good=true)(hR: ∀x∈l,kg x)(w:World)(r0:dR w al (V.aQ fV l)):
  CW 43 #[.slice al l.length cl] w (.tuple #[n_,i_ 1]):=by
 refine aU Tryz.func43 rfl (HS.nil w) (aD []<|aE<|aD [(11,b_<|decide ((l.length:Int)>32))]<|aI (E:=decide ((l.length:Int)>32)) rfl (fun e1=>?_) (fun e1=>?_))
 ·exact absurd e1 (by simp;omega)
 have p1:=ga e1
 refine aP<|aC<|cP [.p] [(12,.slice al l.length cl)]<|aG<|dG (some 13) [] (fun w s h=>Fh al l cl (by omega) w ((bg r0<|by simp[aL]) w s) h) ?_
 rintro⟨al'1,cl'2⟩-
 refine aG<|mw i9 (fun x:Int=>i_ x) 14 (by kernel_rfl) rfl (fun m4=>[sl al'1 (l.length) cl'2 86 9<|V.aQ fV l,bP i9 (fun x:Int=>i_ x) m4 ([]:List (Hd×Int))]) (fun _=>rfl) ?_
 intro m4
 refine dS [.al] [] (fun b5=>[(4,p_ b5)]) (fun _=>[]) (fun b5=>aA b5 [.slice al'1 l.length cl'2,.map<|some m4,e_] 150) ?_
 intro b5
 refine aE<|aD [(17,.slice al l.length cl),(18,i_ (l.length:Int)),(19,i_ 0)]<|aO<|gC 3 1 [sl al'1 (l.length) cl'2 86 9<|V.aQ fV l,bP i9 (fun x:Int=>i_ x) m4<|cz l 0,aA b5 [.slice al'1 l.length cl'2,.map<|some m4,.slice none ((bI l 0).length) 0] 150,sl none ((bI l 0).length) 0 3 1<|V.aQ iI<|bI l 0] rfl (fm (fun((k,am,cm,bt,ar,cr,mb):Nat×(bn)×Nat×Nat×(bn)×Nat×Nat)=>[(17,.slice al l.length cl),(18,i_ (l.length:Int)),(19,i_ (k:Int)),(4,p_ bt)]) (fun((k,am,cm,bt,ar,cr,mb):Nat×(bn)×Nat×Nat×(bn)×Nat×Nat)=>[aA bt [.slice ar l.length cr,.map<|some mb,.slice am ((bI l k).length) cm] 150,sl ar (l.length) cr 86 9<|V.aQ fV l,bP i9 (fun x:Int=>i_ x) mb<|cz l k,sl am ((bI l k).length) cm 3 1<|V.aQ iI<|bI l k]) (fun((k,am,cm,bt,ar,cr,mb):Nat×(bn)×Nat×Nat×(bn)×Nat×Nat)=>(k≤l.length)∧(∀y∈l.take k,y.good=true)) (fun((k,am,cm,bt,ar,cr,mb):Nat×(bn)×Nat×Nat×(bn)×Nat×Nat)=>l.length-k) (0,none,0,b5,al'1,cl'2,m4) ⟨(by omega),(by simp)⟩ ?_ ?_)
 ·exact cQ [2,0,0,0] ⟨rfl,rfl,rfl,rfl,trivial⟩<|by kernel_rfl
 rintro⟨k,am,cm,bt,ar,cr,mb⟩ ⟨hk,hn⟩
 have hm:=xo l k
 refine eo [(17,.slice al l.length cl),(18,i_ (l.length:Int)),(19,i_ (k:Int)),(4,p_ bt)] [aA bt [.slice ar l.length cr,.map<|some mb,.slice am ((bI l k).length) cm] 150,sl ar (l.length) cr 86 9<|V.aQ fV l,bP i9 (fun x:Int=>i_ x) mb<|cz l k,sl am ((bI l k).length) cm 3 1<|V.aQ iI<|bI l k] ⟨rfl,rfl,rfl,rfl,trivial⟩ rfl (aD [(17,.slice al l.length cl),(18,i_ (l.length:Int)),(19,i_ (k:Int)),(4,p_ bt),(20,b_<|decide ((k:Int)<(l.length:Int)))]<|aE<|aI (E:=decide ((k:Int)<(l.length:Int))) rfl (fun e3=>?_) (fun e3=>?_))
 ·have p3:=dZ e3
  refine au<|aO<|aC<|dm 2 [.ix] [(21,i_ (k:Int)),(22,.pointer<|some<|(aZ al).add (k*9))] (o1<|io (k:Int)<|dh lq (by decide) (bg r0<|by simp[aL])<|by omega) ?_
  obtain⟨x7,hx7⟩: ∃x,(l)[k]? =some x:=⟨_,dA<|by omega⟩
  refine jN [.rd [w_ x7.ma,w_ x7.mb,w_ x7.mc,w_ x7.md,w_ x7.wa,w_ x7.wb,w_ x7.wc,w_ x7.wd,i_ x7.cl],.al,.p,.st 4] [17,18,19,4,6,5] (fun b8=>[(17,.slice al l.length cl),(18,i_ (l.length:Int)),(19,i_ (k:Int)),(4,p_ bt),(6,p_ b8),(5,i_ (k:Int))]) (fun b8=>[aA bt [.slice ar l.length cr,.map<|some mb,.slice am ((bI l k).length) cm] 150,sl ar (l.length) cr 86 9<|V.aQ fV l,bP i9 (fun x:Int=>i_ x) mb<|cz l k,sl am ((bI l k).length) cm 3 1<|V.aQ iI<|bI l k,aA b8 [w_ x7.ma,w_ x7.mb,w_ x7.mc,w_ x7.md,w_ x7.wa,w_ x7.wb,w_ x7.wc,w_ x7.wd,i_ x7.cl] 86]) (fun b8=>[b8]) (fun _=>(fun κ=>κ.rd ((aZ al).add (k*9)) [w_ x7.ma,w_ x7.mb,w_ x7.mc,w_ x7.md,w_ x7.wa,w_ x7.wb,w_ x7.wc,w_ x7.wd,i_ x7.cl]∧True)) (fun _=>by kernel_rfl) (fun b8=>⟨dY (vs:=[w_ x7.ma,w_ x7.mb,w_ x7.mc,w_ x7.md,w_ x7.wa,w_ x7.wb,w_ x7.wc,w_ x7.wd,i_ x7.cl]) lq (bg r0<|by simp[aL]) hx7 (Nat.le_of_ble_eq_true rfl) rfl,trivial⟩) ?_
  intro b8
  refine aE<|aE<|qP [.p,.ld 4,.p,.p,.o,.p,.ld 4,.p,.cl,.p,.o,.p,.ld 4,.p,.ld 4,.cq<|.agg #[w_<|af .and .u16 x7.wa x7.ma,w_<|af .and .u16 x7.wb x7.mb,w_<|af .and .u16 x7.wc x7.mc,w_<|af .and .u16 x7.wd x7.md],.p,.ld 4,.eq,.cl] [0,1,2,3,4,5,6,7,8,9,10,11,12,13,14,15,16,17] [(17,.slice al l.length cl),(18,i_ (l.length:Int)),(19,i_ (k:Int)),(4,p_ bt),(6,p_ b8),(5,i_ (k:Int)),(41,b_<|((decide (x7.cl<1))||(decide (x7.cl>65536)))||(!(((af .and .u16 x7.wa x7.ma)==x7.wa)&&(((af .and .u16 x7.wb x7.mb)==x7.wb)&&(((af .and .u16 x7.wc x7.mc)==x7.wc)&&((af .and .u16 x7.wd x7.md)==x7.wd))))))] [b8,b8,b8,b8,b8] (fun κ=>((true&&(((decide (x7.cl<1))||(decide (x7.cl>65536)))==false))=true→κ.call 64 [.agg #[w_ x7.wa,w_ x7.wb,w_ x7.wc,w_ x7.wd],.agg #[w_ x7.ma,w_ x7.mb,w_ x7.mc,w_ x7.md]] (.agg #[w_<|af .and .u16 x7.wa x7.ma,w_<|af .and .u16 x7.wb x7.mb,w_<|af .and .u16 x7.wc x7.mc,w_<|af .and .u16 x7.wd x7.md]))∧True) (by kernel_rfl) (by kernel_rfl) ⟨(fun h_=>(fun w s=>BI x7.wa x7.wb x7.wc x7.wd x7.ma x7.mb x7.mc x7.md w)),trivial⟩<|(aI (E:=((decide (x7.cl<1))||(decide (x7.cl>65536)))||(!(((af .and .u16 x7.wa x7.ma)==x7.wa)&&(((af .and .u16 x7.wb x7.mb)==x7.wb)&&(((af .and .u16 x7.wc x7.mc)==x7.wc)&&((af .and .u16 x7.wd x7.md)==x7.wd)))))) rfl (fun e4=>?_) (fun e4=>?_))
  ·refine aD [(2,n_),(3,i_ 1)]<|aF<|gX [n_,i_ 1] (fun _ w r s=>⟨dM r rfl,dM r rfl,trivial⟩) ?_
   rfl
  refine au<|bL [] 12<|cL 6 [.ld 0,.ld 4] (rg 0 6) [(6,p_ b8),(5,i_ (k:Int)),(46,.map<|some mb),(48,.agg #[w_ x7.wa,w_ x7.wb,w_ x7.wc,w_ x7.wd])]<|kQ 6 (some 49) (.tuple #[i_<|(aB (cz l k) (⟨x7.wa,x7.wb,x7.wc,x7.wd⟩:Hd)).getD 0,b_<|(aB (cz l k) (⟨x7.wa,x7.wb,x7.wc,x7.wd⟩:Hd)).isSome]) rfl (by kernel_rfl) (by kernel_rfl) (uq 43 3 (⟨x7.wa,x7.wb,x7.wc,x7.wd⟩:Hd) 0 (qM 2 rfl) vp) (cL 0 [] (rg 7 5) [(8,b_<|(aB (cz l k) (⟨x7.wa,x7.wb,x7.wc,x7.wd⟩:Hd)).isSome)]<|dj<|aO<|aE<|qP [.p,.ld 4,.cq<|.agg #[w_ 65535,w_ 65535,w_ 65535,w_ 65535],.eq,.p] (rg 0 5) [(17,.slice al l.length cl),(18,i_ (l.length:Int)),(19,i_ (k:Int)),(4,p_ bt),(6,p_ b8),(5,i_ (k:Int)),(8,b_<|(aB (cz l k) (⟨x7.wa,x7.wb,x7.wc,x7.wd⟩:Hd)).isSome),(52,b_ (!((x7.ma==65535)&&((x7.mb==65535)&&((x7.mc==65535)&&(x7.md==65535))))))] [b8] (fun κ=>κ.call 65 [] (.agg #[w_ 65535,w_ 65535,w_ 65535,w_ 65535])∧True) (by kernel_rfl) (by kernel_rfl) ⟨(fun w s=>GQ w),trivial⟩<|aI (E:= !((x7.ma==65535)&&((x7.mb==65535)&&((x7.mc==65535)&&(x7.md==65535))))) rfl (fun e5=>?_) (fun e5=>?_))
  ·refine aM<|bA 6 [.ld 0] [(57,p_ bt),(61,.slice am ((bI l k).length) cm),(62,i_ (k:Int))]<|aG<|eB 63 (e:=3) [i_ (k:Int)] (by kernel_rfl) rfl (fun _=>by kernel_rfl) (fun b9=>[aA bt [.slice ar l.length cr,.map<|some mb,.slice am ((bI l k).length) cm] 150,sl ar (l.length) cr 86 9<|V.aQ fV l,bP i9 (fun x:Int=>i_ x) mb<|cz l k,sl am ((bI l k).length) cm 3 1<|V.aQ iI<|bI l k,aA b8 [w_ x7.ma,w_ x7.mb,w_ x7.mc,w_ x7.md,w_ x7.wa,w_ x7.wb,w_ x7.wc,w_ x7.wd,i_ x7.cl] 86,aA b9 [i_ (k:Int)] 3]) (fun _=>rfl) ?_
   intro b9
   refine aG<|jj (enc:=iI) (xs:=(bI l k)) ([(k:Int)]) 3 64 (e:=3) (z:=(i_ 0)) (sz:=1) (by_:=8) (by kernel_rfl) rfl rfl rfl (by kernel_rfl) (by kernel_rfl) (by rfl) (by decide) xm Gw rfl (eV (i:=5) rfl) (by simp;omega) (fun A10 c10=>[aA bt [.slice ar l.length cr,.map<|some mb,.slice am ((bI l k).length) cm] 150,sl ar (l.length) cr 86 9<|V.aQ fV l,bP i9 (fun x:Int=>i_ x) mb<|cz l k,sl A10 (((bI l k)++([(k:Int)])).length) c10 3 1<|V.aQ iI<|(bI l k)++([(k:Int)]),aA b8 [w_ x7.ma,w_ x7.mb,w_ x7.mc,w_ x7.md,w_ x7.wa,w_ x7.wb,w_ x7.wc,w_ x7.wd,i_ x7.cl] 86,aA b9 [i_ (k:Int)] 3]) (fun _ _=>rfl) ?_
   intro A10 c10
   refine bU [.st 0] [] [(0,aA bt [.slice ar l.length cr,.map<|some mb,.slice A10 (((bI l k)++([(k:Int)])).length) c10] 150)]<|aM<|az [.w<|(k:Int)+1] [(19,i_<|(k:Int)+1)] (o1<|wj ((k:Int)+1)<|by omega)<|(bj 0 (aA bt [.slice ar l.length cr,.map<|some mb,.slice A10 ((bI l<|k+1).length) c10] 150) rfl (iD<|cc rfl (cc rfl (cc (congrArg (fun z_:bT=>Value.slice A10 z_.length c10) (xn ‹_› ‹_›:(bI l k)++([(k:Int)])=(bI l<|k+1))) rfl))) ?_)
   rw[show(cz l k)=(cz l<|k+1) from by exact yM ‹_› (.inl ‹_›)]
   refine bj 3 (sl A10 ((bI l<|k+1).length) c10 3 1<|V.aQ iI<|bI l<|k+1) rfl (cw (xn ‹_› ‹_›:(bI l k)++([(k:Int)])=(bI l<|k+1))) (bC (k+1,A10,c10,bt,ar,cr,mb) ⟨(by omega),(by rw[xZ ‹_›];intro y hy;rcases List.mem_append.1 hy with hy|hy;exact hn y hy;(simp at hy;subst hy;exact Cm (hR _<|cT ‹_›) ‹_›))⟩ (by(simp;omega)) ?_)
   exact cQ [0,0,0,0] ⟨rfl,rfl,rfl,rfl,trivial⟩<|by kernel_rfl
  refine aD [(67,b_ (!((aB (cz l k) (⟨x7.wa,x7.wb,x7.wc,x7.wd⟩:Hd)).isSome)))]<|aI (E:= !((aB (cz l k) (⟨x7.wa,x7.wb,x7.wc,x7.wd⟩:Hd)).isSome)) rfl (fun e6=>?_) (fun e6=>?_)
  ·refine bL [7] 8<|cL 1 [.ld 0,.ld 4] (rg 0 7) [(73,.map<|some mb),(75,.agg #[w_ x7.wa,w_ x7.wb,w_ x7.wc,w_ x7.wd]),(76,i_ (k:Int))]<|an 7 rfl (gB 43 3 2 (⟨x7.wa,x7.wb,x7.wc,x7.wd⟩:Hd) (k:Int) rfl vp (cb<|aM<|az [.w<|(k:Int)+1] [(19,i_<|(k:Int)+1)] (o1<|wj ((k:Int)+1)<|by omega)<|(bj 0 (aA bt [.slice ar l.length cr,.map<|some mb,.slice am ((bI l<|k+1).length) cm] 150) rfl (iD<|cc rfl (cc rfl (cc (congrArg (fun z_:bT=>Value.slice am z_.length cm) (qS ‹_› ‹_›:(bI l k)=(bI l<|k+1))) rfl))) ?_)))
   rw[show aK (cz l k) (⟨x7.wa,x7.wb,x7.wc,x7.wd⟩:Hd) (k:Int)=(cz l<|k+1) from by exact JS ‹_› ‹_› ‹_›]
   refine bj 3 (sl am ((bI l<|k+1).length) cm 3 1<|V.aQ iI<|bI l<|k+1) rfl (cw (qS ‹_› ‹_›:(bI l k)=(bI l<|k+1))) (bC (k+1,am,cm,bt,ar,cr,mb) ⟨(by omega),(by rw[xZ ‹_›];intro y hy;rcases List.mem_append.1 hy with hy|hy;exact hn y hy;(simp at hy;subst hy;exact Cm (hR _<|cT ‹_›) ‹_›))⟩ (by(simp;omega)) ?_)
   exact cQ [0,0,0,0] ⟨rfl,rfl,rfl,rfl,trivial⟩<|by kernel_rfl
  refine aP<|aM<|az [.w<|(k:Int)+1] [(19,i_<|(k:Int)+1)] (o1<|wj ((k:Int)+1)<|by omega)<|bj 0 (aA bt [.slice ar l.length cr,.map<|some mb,.slice am ((bI l<|k+1).length) cm] 150) rfl (iD<|cc rfl (cc rfl (cc (congrArg (fun z_:bT=>Value.slice am z_.length cm) (qS ‹_› ‹_›:(bI l k)=(bI l<|k+1))) rfl))) ?_
  rw[show(cz l k)=(cz l<|k+1) from by exact yM ‹_› (.inr ‹_›)]
  refine bj 3 (sl am ((bI l<|k+1).length) cm 3 1<|V.aQ iI<|bI l<|k+1) rfl (cw (qS ‹_› ‹_›:(bI l k)=(bI l<|k+1))) (bC (k+1,am,cm,bt,ar,cr,mb) ⟨(by omega),(by rw[xZ ‹_›];intro y hy;rcases List.mem_append.1 hy with hy|hy;exact hn y hy;(simp at hy;subst hy;exact Cm (hR _<|cT ‹_›) ‹_›))⟩ (by(simp;omega)) ?_)
  exact cQ [0,0,0,0] ⟨rfl,rfl,rfl,rfl,trivial⟩<|by kernel_rfl
 exact absurd e3 (by simp;exact Rj hn hb)
theorem Pz(al:bn)(l:List Rl)(cl:Nat)(hl:32<l.length)(w:World)(r0:dR w al (V.aQ fV l)):
  CW 43 #[.slice al l.length cl] w (.tuple #[n_,i_ 2]):=by
 refine aU Tryz.func43 rfl (HS.nil w) (aD []<|aE<|aD [(11,b_<|decide ((l.length:Int)>32))]<|aI rfl (fun e1=>?_) (fun e1=>?_))
 ·have p1:=dZ e1
  refine aD [(2,n_),(3,i_ 2)]<|aF<|bK [n_,i_ 2] ?_
  rfl
 exact absurd e1 (by simp;omega)
def ef(l:List Rl)(h:Hd):Int:=match l.find? (fun r=>mt r h) with|some r=>r.cl|none=>0
variable{h:Hd}
theorem Rm{x:Rl}(hx:l[k]? =some x)(hn: ∀y∈l.take k,mt y h=false)(e:mt x h=true):x.cl=ef l h:=by
 unfold ef
 have:l.find? (fun r=>mt r h)=some x:=by
  rw[←List.take_append_drop k l,List.find?_append,List.find?_eq_none.2 (by intro y hy;simp[hn y hy])]
  have hk:=(dT.1 hx)
  obtain⟨hk1,hk2⟩:=hk
  rw[List.drop_eq_getElem_cons hk1,hk2];simp[e]
 rw[this]
theorem Ro(hn: ∀y∈l.take k,mt y h=false)(e:l.length≤k):0=ef l h:=by
 rw[List.take_of_length_le e] at hn;unfold ef
 rw[List.find?_eq_none.2 (by intro y hy;simp[hn y hy])]
theorem IB(l:List Rl): ∀(n j:Nat)(x:Int),(bI l n)[j]? =some x→ ∃(i:Nat)(r:Rl),x=(i:Int)∧i<n∧l[i]? =some r∧r.wh=false
 |0,j,x,h=>by simp[bI] at h
 |n+1,j,x,h=>by
  rw[bI] at h
  have up:(bI l n)[j]? =some x→ ∃(i:Nat)(r:Rl),x=(i:Int)∧i<n+1∧l[i]? =some r∧r.wh=false:=fun h=>by
   obtain⟨i,r,h1,h2,h3⟩:=IB l n j x h;exact⟨i,r,h1,by omega,h3⟩
  cases hl:l[n]? with
  |none=>rw[hl] at h;exact up h
  |some r=>
   rw[hl] at h;simp only at h
   cases hw:r.wh with
   |true=>rw[hw] at h;exact up h
   |false=>
    rw[hw] at h;simp only[Bool.false_eq_true,if_false,List.getElem?_append] at h
    split at h
    ·exact up h
    ·simp only[List.getElem?_cons,List.getElem?_nil] at h
     split at h
     ·simp at h;exact⟨n,r,h.symm,by omega,hl,hw⟩
     ·simp at h
theorem fN{κ β:Type}[DecidableEq κ]: ∀(kv:List (κ×β))(k h:κ)(v:β),aB (aK kv k v) h=if k=h then some v else aB kv h
 |[],k,h,v=>by simp only[aK,aB]
 |p::kv,k,h,v=>by
  simp only[aK]
  by_cases e:p.1=k
  ·rw[if_pos e];simp only[aB];subst e;by_cases e2:p.1=h<;>simp[e2]
  ·rw[if_neg e];simp only[aB];rw[fN kv k h v]
   by_cases e2:p.1=h
   ·rw[if_pos e2,if_neg (by intro h3;exact e<|e2.trans h3.symm),if_pos e2]
   ·rw[if_neg e2,if_neg e2]
theorem DC(l:List Rl)(h:Hd): ∀n,match aB (cz l n) h with
  |some v=> ∃(i:Nat)(r:Rl),v=(i:Int)∧i<n∧l[i]? =some r∧r.wh=true∧r.want=h∧ ∀(j:Nat)s,j<i→l[j]? =some s→s.wh=true→s.want≠h
  |none=> ∀(j:Nat)s,j<n→l[j]? =some s→s.wh=true→s.want≠h
 |0=>by simp only[cz,aB];intro j s hj;omega
 |n+1=>by
  have ih:=DC l h n
  have keep:(match aB (cz l n) h with
    |some v=> ∃(i:Nat)(r:Rl),v=(i:Int)∧i<n∧l[i]? =some r∧r.wh=true∧r.want=h∧ ∀(j:Nat)s,j<i→l[j]? =some s→s.wh=true→s.want≠h
    |none=> ∀(j:Nat)s,j<n→l[j]? =some s→s.wh=true→s.want≠h)→(aB (cz l n) h=none→ ∀s,l[n]? =some s→s.wh=true→s.want≠h)→(match aB (cz l n) h with
    |some v=> ∃(i:Nat)(r:Rl),v=(i:Int)∧i<n+1∧l[i]? =some r∧r.wh=true∧r.want=h∧ ∀(j:Nat)s,j<i→l[j]? =some s→s.wh=true→s.want≠h
    |none=> ∀(j:Nat)s,j<n+1→l[j]? =some s→s.wh=true→s.want≠h):=by
   intro a b
   cases hm:aB (cz l n) h with
   |some v=>rw[hm] at a;obtain⟨i,r,h1,h2,h3⟩:=a;exact⟨i,r,h1,by omega,h3⟩
   |none=>
    rw[hm] at a;intro j s hj hs hw
    rcases Nat.lt_or_ge j n with g|g
    ·exact a j s g hs hw
    ·have:j=n:=by omega
     subst this;exact b hm s hs hw
  rw[cz]
  cases hl:l[n]? with
  |none=>exact keep ih (by intro _ s hs;rw[hl] at hs;cases hs)
  |some r=>
   simp only[]
   by_cases hc:(r.wh&& !(aB (cz l n) r.want).isSome)=true
   ·rw[if_pos hc]
    simp at hc
    rw[fN]
    by_cases e:r.want=h
    ·rw[if_pos e];refine⟨n,r,rfl,by omega,hl,hc.1,e,fun j s hj hs hw=>?_⟩
     rw[e] at hc;rw[hc.2] at ih;exact ih j s hj hs hw
    ·rw[if_neg e];exact keep ih (by intro _ s hs hw;rw[hl] at hs;cases hs;exact e)
   ·rw[if_neg hc]
    refine keep ih (by intro hm s hs hw e;rw[hl] at hs;cases hs;apply hc;rw[e,hm,hw];rfl)
def tH(l:List Rl)(h:Hd)(ms:List Int):Prop:= ∀y∈ms,∀s,l[y.toNat]? =some s→mt s h=false
variable{ms:bT}{i:Nat}
theorem QA(hn:tH l h ms)(hr:l[i]? =some r)(e:mt r h=false):tH l h (ms++[(i:Int)]):=by
 intro y hy s hs
 rcases List.mem_append.1 hy with hy|hy
 ·exact hn y hy s hs
 ·simp at hy;subst hy;simp only[Int.toNat_natCast] at hs;rw[hr] at hs;cases hs;exact e
theorem IC(l:List Rl): ∀n,(∀y∈bI l n,y<(n:Int))∧(bI l n).Pairwise (· < ·)
 |0=>⟨by intro y hy;simp[bI] at hy,by simp[bI]⟩
 |n+1=>by
  have ih:=IC l n
  have up:(∀y∈bI l n,y<((n+1:Nat):Int))∧(bI l n).Pairwise (· < ·):=⟨fun y hy=>by have:=ih.1 y hy;omega,ih.2⟩
  rw[bI];split
  ·split
   ·exact up
   ·refine⟨fun y hy=>?_,?_⟩
    ·rcases List.mem_append.1 hy with hy|hy
     ·exact up.1 y hy
     ·simp at hy;omega
    ·rw[List.pairwise_append];refine⟨ih.2,by simp,fun a ha b hb=>?_⟩
     simp at hb;subst hb;exact ih.1 a ha
  ·exact up
theorem BX(l:List Rl)(hl:l[i]? =some r)(hw:r.wh=false): ∀n,i<n→(i:Int)∈bI l n
 |0,h=>by omega
 |n+1,h=>by
  rw[bI]
  rcases Nat.lt_or_ge i n with g|g
  ·have:=BX l hl hw n g
   split
   ·split
    ·exact this
    ·exact List.mem_append_left _ this
   ·exact this
  ·have e:i=n:=by omega
   subst e;rw[hl];simp only[hw,Bool.false_eq_true,if_false];exact List.mem_append_right _<|by simp
variable{j:Nat}
theorem F9(hk:(bI l l.length)[k]? =some (i:Int))(hj:j<i)(hl:l[j]? =some r)(hw:r.wh=false):(j:Int)∈(bI l l.length).take k:=by
 have hm:=BX l hl hw l.length (dT.1 hl).1
 obtain⟨q,hq⟩:=List.mem_iff_getElem?.1 hm
 obtain⟨hk1,hk2⟩:=dT.1 hk
 obtain⟨hq1,hq2⟩:=dT.1 hq
 rcases Nat.lt_trichotomy q k with g|g|g
 ·exact List.mem_iff_getElem?.2 ⟨q,by rw[List.getElem?_take,if_pos g,hq]⟩
 ·subst g;rw[hk] at hq;simp at hq;omega
 ·have:=List.pairwise_iff_getElem.1 (IC l l.length).2 k q hk1 hq1 g
  rw[hk2,hq2] at this;omega
theorem yN{x:Int}(h:0≤x∧x<65536):rN x 65535=x:=by
 obtain⟨a,rfl⟩:=Int.eq_ofNat_of_zero_le h.1
 unfold rN;have e:(65535:Int).toNat=2^16-1:=by decide
 rw[e,Int.toNat_natCast,Nat.and_two_pow_sub_one_eq_mod,Nat.mod_eq_of_lt<|by omega]
theorem Lj(hh:k7 h)(hw:r.wh=true):mt r h=true↔r.want=h:=by
 obtain⟨h1,h2,h3,h4⟩:=hh
 unfold Rl.wh at hw;simp at hw;obtain⟨⟨⟨e1,e2⟩,e3⟩,e4⟩:=hw
 unfold mt;rw[e1,e2,e3,e4,yN<|by omega,yN<|by omega,yN<|by omega,yN<|by omega]
 unfold Rl.want;cases h;simp;constructor
 ·rintro⟨⟨⟨a,b⟩,c⟩,d⟩;exact⟨a.symm,b.symm,c.symm,d.symm⟩
 ·rintro⟨a,b,c,d⟩;exact⟨⟨⟨a.symm,b.symm⟩,c.symm⟩,d.symm⟩
theorem ID(hr:l[i]? =some r)(hg: ∀x∈l,x.good=true)(hm:mt r h=true)(hb: ∀(j:Nat)s,j<i→l[j]? =some s→mt s h=false):r.cl=ef l h∧ ¬ef l h=0:=by
 have e:r.cl=ef l h:=Rm hr (fun y hy=>by
  obtain⟨j,hj⟩:=List.mem_iff_getElem?.1 hy
  rw[List.getElem?_take] at hj;split at hj
  ·exact hb j y ‹_› hj
  ·cases hj) hm
 refine⟨e,?_⟩;rw[←e];have:=hg r<|cT hr;unfold Rl.good at this;simp at this;omega
theorem DD(p:(aB (cz l l.length) h).isSome=true): ∃(i:Nat)(r:Rl),(aB (cz l l.length) h).getD 0=(i:Int)∧l[i]? =some r∧r.wh=true∧r.want=h∧ ∀(j:Nat)s,j<i→l[j]? =some s→s.wh=true→s.want≠h:=by
 have e:=DC l h l.length
 cases hm:aB (cz l l.length) h with
 |none=>rw[hm] at p;cases p
 |some v=>rw[hm] at e;obtain⟨i,r,h1,h2,h3⟩:=e;exact⟨i,r,by simpa using h1,h3⟩
theorem JU(p:aB (cz l l.length) h=none): ∀(j:Nat)s,l[j]? =some s→s.wh=true→s.want≠h:=by
 have e:=DC l h l.length
 rw[p] at e;intro j s hs;exact e j s (dT.1 hs).1 hs
theorem BY(hh:k7 h)(h1: ∀(j:Nat)s,j<i→l[j]? =some s→s.wh=true→s.want≠h)(h2: ∀(j:Nat)s,j<i→l[j]? =some s→s.wh=false→mt s h=false): ∀(j:Nat)s,j<i→l[j]? =some s→mt s h=false:=by
 intro j s hj hs
 cases hw:s.wh with
 |false=>exact h2 j s hj hs hw
 |true=>
  cases hm:mt s h with
  |false=>rfl
  |true=>exact absurd ((Lj hh hw).1 hm)<|h1 j s hj hs hw
theorem DF(hn:tH l h ms){s:Rl}(hj:(j:Int)∈ms)(hs:l[j]? =some s):mt s h=false:=hn _ hj s<|by simpa using hs
theorem QB{x:Rl}(hR: ∀x∈l,kg x)(hh:k7 h)(hg: ∀x∈l,x.good=true)(hn:tH l h ((bI l l.length).take k))
  (hk:(bI l l.length)[k]? =some (i:Int))(hx:l[i]? =some x)(p:(aB (cz l l.length) h).isSome=true→(i:Int)≤(aB (cz l l.length) h).getD 0)(hm:mt x h=true):x.cl=ef l h∧ ¬ef l h=0:=by
 refine ID hx hg hm<|BY hh (fun j s hj hs hw=>?_)<|fun j s hj hs hw=>DF hn (F9 hk hj hs hw) hs
 cases hp:(aB (cz l l.length) h).isSome with
 |true=>obtain⟨q,r,h1,h2,h3,h4,h5⟩:=DD hp;have:=p hp;exact h5 j s (by omega) hs hw
 |false=>exact JU (by simpa using hp) j s hs hw
theorem JV(hn:tH l h (bI l l.length)){s:Rl}(hs:l[j]? =some s)(hw:s.wh=false):mt s h=false:=
 DF hn (BX l hs hw l.length (dT.1 hs).1) hs
theorem Rq(hR: ∀x∈l,kg x)(hh:k7 h)(hg: ∀x∈l,x.good=true)(hn:tH l h (bI l l.length))(p:aB (cz l l.length) h=none):0=ef l h∧ef l h=0:=by
 have:0=ef l h:=Ro (k:=l.length) (fun y hy=>by
  obtain⟨j,hj⟩:=List.mem_iff_getElem?.1<|List.mem_of_mem_take hy
  exact BY (i:=l.length) hh (fun j s _ hs hw=>JU p j s hs hw) (fun j s _ hs hw=>JV hn hs hw) j y (dT.1 hj).1 hj)<|Nat.le_refl _
 exact⟨this,this.symm⟩
theorem Lt{q:Nat}(hh:k7 h)(hg: ∀x∈l,x.good=true)(h2:l[q]? =some r)(h3:r.wh=true)(h4:r.want=h)(h5: ∀(j:Nat)s,j<q→l[j]? =some s→s.wh=true→s.want≠h)
 (hb: ∀(j:Nat)s,j<q→l[j]? =some s→s.wh=false→mt s h=false):r.cl=ef l h∧ ¬ef l h=0:=ID h2 hg ((Lj hh h3).2 h4)<|BY hh h5 hb
def mg(c:Int):Int:=if c=0 then 31 else 0
variable{x:Int}
theorem Eb{c:Int}(h:x=c∧ ¬c=0):((.tuple #[(i_ x),(i_ 0)]):Value)=(.tuple #[(i_ c),(i_<|mg c)]):=by unfold mg;rw[if_neg h.2,h.1]
theorem Rr{c:Int}(h:0=c∧c=0):((.tuple #[(i_ 0),(i_ 31)]):Value)=(.tuple #[(i_ c),(i_<|mg c)]):=by unfold mg;rw[if_pos h.2,h.2]
abbrev vZ(p0)(p1:List Rl)(p2):=(.slice p0 ((bI p1 p1.length).length) p2:Value)
abbrev QC(p0)(p1):=((.tuple #[i_<|ef p0 p1,i_<|mg<|ef p0 p1]):Value)
theorem Rt(bt:Nat)(ar:bn)(l:List Rl)(cr mb:Nat)(am:bn)(cm:Nat)(h:Hd)(hl:l.length≤32)(hR: ∀x∈l,kg x)(hh:k7 h)(hg: ∀x∈l,x.good=true)(w:World)(r0:(aA bt [.slice ar l.length cr,.map<|some mb,vZ am l cm] 150).holds w)(r1:(bP i9 (fun x:Int=>i_ x) mb<|cz l l.length).holds w)(r2:dR w ar (V.aQ fV l))(r3:dR w am (V.aQ iI<|bI l l.length)):
  CW 75 #[p_ bt,.agg #[w_ h.ha,w_ h.hb,w_ h.hc,w_ h.hd]] w (QC l h):=by
 refine aU Tryz.func75 rfl (HS.nil w) (aE ?_)
 refine aM<|dD [.al] [] (fun b1=>[(3,p_ b1)]) (fun b1=>aA b1 [w_ h.ha,w_ h.hb,w_ h.hc,w_ h.hd] 43) ?_
 intro b1
 refine aE<|aD [(11,b_ false)]<|bY<|au<|bL [] 11<|cO 6 [.rd [.map<|some mb],.ld 0] (rg 0 5) [(16,.map<|some mb),(17,.agg #[w_ h.ha,w_ h.hb,w_ h.hc,w_ h.hd])] (o1<|ro ⟨bt,1,none⟩ (vs:=[.map<|some mb])<|cB r0 rfl)<|kQ 5 (some 18) (.tuple #[i_<|(aB (cz l l.length) h).getD 0,b_<|(aB (cz l l.length) h).isSome]) rfl (by kernel_rfl) (by kernel_rfl) (oM (kt:=43) (et:=3) (enck:=i9) (encv:=(fun x:Int=>i_ x)) (b:=mb) (kv:=(cz l l.length)) (k:=h) (d0:=0) (fun w s=>bV s r1) rfl rfl rfl (by kernel_rfl) vp (by kernel_rfl) rfl) (cL 0 [] (rg 6 5) [(3,p_ b1),(6,i_<|(aB (cz l l.length) h).getD 0),(7,b_<|(aB (cz l l.length) h).isSome)]<|dj<|aE<|bW [.rd [vZ am l cm]] [(24,vZ am l cm),(25,i_ ((bI l l.length).length:Int)),(26,i_ 0)] (o1<|ro ⟨bt,2,none⟩ (vs:=[vZ am l cm])<|cB r0 rfl)<|aO<|fm (fun(zz:Nat)=>match zz with|k=>[(0,p_ bt),(3,p_ b1),(6,i_<|(aB (cz l l.length) h).getD 0),(7,b_<|(aB (cz l l.length) h).isSome),(24,vZ am l cm),(25,i_ ((bI l l.length).length:Int)),(26,i_ (k:Int))]) (fun(zz:Nat)=>match zz with|k=>[aA b1 [w_ h.ha,w_ h.hb,w_ h.hc,w_ h.hd] 43]) (fun(zz:Nat)=>match zz with|k=>(k≤(bI l l.length).length)∧(tH l h<|(bI l l.length).take k)) (fun(zz:Nat)=>match zz with|k=>(bI l l.length).length-k) (0:Nat) ⟨(by omega),(by intro y hy;simp at hy)⟩ ?_ ?_)
 ·exact bB [0]
 rintro k ⟨hk,hn⟩
 have hm:=xo l l.length
 refine aD [(27,b_<|decide ((k:Int)<((bI l l.length).length:Int)))]<|aE<|aI rfl (fun e1=>?_) (fun e1=>?_)
 ·have p1:=dZ e1
  refine au<|aO<|aC<|ic [.ix] [(28,.pointer<|some<|(aZ am).add (k*1))] (o1<|io (k:Int)<|dh xm (by decide) (bg r3<|by simp[aL])<|by omega) ?_
  obtain⟨x2,hx2⟩: ∃x,((bI l l.length))[k]? =some x:=⟨_,dA<|by omega⟩
  refine az [.rd [i_ x2]] [(9,i_ x2)] (o1<|ro ((aZ am).add (k*1))<|dY (vs:=[i_ x2]) xm (bg r3<|by simp[aL]) hx2 (Nat.le_of_ble_eq_true rfl) rfl)<|aE<|aE ?_
  obtain⟨i3,ri3,hxi3,hli3,hri3,hwi3⟩:=IB l l.length k x2 ‹_›
  subst hxi3
  refine aM<|bF [.o,.cl] [(9,i_ (i3:Int)),(35,b_<|((aB (cz l l.length) h).isSome)&&(decide (((aB (cz l l.length) h).getD 0)<(i3:Int))))]<|aI rfl (fun e2=>?_) (fun e2=>?_)
  ·have p2:=e2;try simp only[bQ] at p2
   refine bR<|ni<|nh rfl (aE<|aD [(55,b_ (!((aB (cz l l.length) h).isSome)))]<|aI rfl (fun e3=>?_) (fun e3=>?_))
   ·have p3:=e3;try simp only[bQ] at p3
    refine aD [(4,i_ 0),(5,i_ 31)] (aF<|bK [i_ 0,i_ 31] ?_)
    (exfalso;simp_all;done)
   have p3:=e3;try simp only[bQ] at p3
   refine au ?_
   obtain⟨q4,rq4,hvq4,hlq4,hwq4,heq4,hmq4⟩:=DD (l:=l) (h:=h) ‹_›
   have hiq4:=(dT.1 hlq4).1
   rw[hvq4]
   refine aM<|az [.rd [.slice ar l.length cr],.ix,.rd [i_ rq4.cl]] [(4,i_ rq4.cl),(5,i_ 0)] (oc (ro ⟨bt,0,none⟩ (vs:=[.slice ar l.length cr])<|cB r0 rfl)<|oc (io (q4:Int)<|dh lq (by decide) (bg r2<|by simp[aL])<|by omega)<|o1<|ro (((aZ ar).add (q4*9)).add 8)<|kR (f:=8) (vs:=[i_ rq4.cl]) lq (bg r2<|by simp[aL]) hlq4 (by simp) rfl)<|aF<|bK [i_ rq4.cl,i_ 0] ?_
   exact Eb<|Lt hh hg ‹_› ‹_› ‹_› ‹_› (fun j s hj hs hw=>DF hn (F9 ‹_› (by omega) hs hw) hs)
  have p2:=e2;try simp only[bQ] at p2
  refine au<|fS [.rd [.slice ar l.length cr],.ix,.rd [w_ ri3.ma,w_ ri3.mb,w_ ri3.mc,w_ ri3.md,w_ ri3.wa,w_ ri3.wb,w_ ri3.wc,w_ ri3.wd,i_ ri3.cl],.ld 0,.cq<|b_<|mt ri3 h] (rg 0 9) [] [(44,b_<|mt ri3 h)] (oc (ro ⟨bt,0,none⟩ (vs:=[.slice ar l.length cr])<|cB r0 rfl)<|oc (io (i3:Int)<|dh lq (by decide) (bg r2<|by simp[aL])<|by omega)<|oc (ro ((aZ ar).add (i3*9))<|dY (vs:=[w_ ri3.ma,w_ ri3.mb,w_ ri3.mc,w_ ri3.md,w_ ri3.wa,w_ ri3.wb,w_ ri3.wc,w_ ri3.wd,i_ ri3.cl]) lq (bg r2<|by simp[aL]) hri3 (Nat.le_of_ble_eq_true rfl) rfl)<|o1<|qo<|fun w s=>NN ri3 h (hR _<|cT ‹_›) ‹_› w)<|aI rfl (fun e4=>?_) (fun e4=>?_)
  ·have p4:=e4;try simp only[bQ] at p4
   refine bW [.rd [.slice ar l.length cr],.ix,.rd [i_ ri3.cl]] [(4,i_ ri3.cl),(5,i_ 0)] (oc (ro ⟨bt,0,none⟩ (vs:=[.slice ar l.length cr])<|cB r0 rfl)<|oc (io (i3:Int)<|dh lq (by decide) (bg r2<|by simp[aL])<|by omega)<|o1<|ro (((aZ ar).add (i3*9)).add 8)<|kR (f:=8) (vs:=[i_ ri3.cl]) lq (bg r2<|by simp[aL]) hri3 (by simp) rfl)<|aF<|bK [i_ ri3.cl,i_ 0] ?_
   exact Eb<|QB hR hh hg hn ‹_› ‹_› (by simp_all) ‹_›
  have p4:=e4;try simp only[bQ] at p4
  refine aP<|aM<|az [.w<|(k:Int)+1] [(26,i_<|(k:Int)+1)] (o1<|wj ((k:Int)+1)<|by omega)<|bC (k+1) ⟨(by omega),(by(rw[xZ<|by(assumption)];exact QA hn ‹_› ‹_›))⟩ (by(simp;omega)) ?_
  exact bB [0]
 have p1:=ga e1
 refine bR<|aE<|aD [(55,b_ (!((aB (cz l l.length) h).isSome)))]<|aI rfl (fun e5=>?_) (fun e5=>?_)
 ·have p5:=e5;try simp only[bQ] at p5
  refine aD [(4,i_ 0),(5,i_ 31)]<|aF<|bK [i_ 0,i_ 31] ?_
  exact Rr<|Rq hR hh hg (by rw[List.take_of_length_le<|by omega] at hn;exact hn)<|by simp_all
 have p5:=e5;try simp only[bQ] at p5
 refine au ?_
 obtain⟨q5,rq5,hvq5,hlq5,hwq5,heq5,hmq5⟩:=DD (l:=l) (h:=h) ‹_›
 have hiq5:=(dT.1 hlq5).1
 rw[hvq5]
 refine aM<|az [.rd [.slice ar l.length cr],.ix,.rd [i_ rq5.cl]] [(4,i_ rq5.cl),(5,i_ 0)] (oc (ro ⟨bt,0,none⟩ (vs:=[.slice ar l.length cr])<|cB r0 rfl)<|oc (io (q5:Int)<|dh lq (by decide) (bg r2<|by simp[aL])<|by omega)<|o1<|ro (((aZ ar).add (q5*9)).add 8)<|kR (f:=8) (vs:=[i_ rq5.cl]) lq (bg r2<|by simp[aL]) hlq5 (by simp) rfl)<|aF<|bK [i_ rq5.cl,i_ 0] ?_
 exact Eb<|Lt hh hg ‹_› ‹_› ‹_› ‹_› (fun j s hj hs hw=>JV (by rw[List.take_of_length_le<|by omega] at hn;exact hn) hs hw)
def hY(x:Int):List Value:=[(u_ x)]
theorem ie(x:Int):(hY x).length=1:=rfl
theorem nA(x:Int):(hY x).all Value.oneCell'=true:=rfl
structure SR where
 sp:Int
 sb:Int
 sr:Int
 sw:Int
 sg:Int
 deriving Inhabited,DecidableEq
def XE(cv:List (Int×SL))(ci a:Int)(zc:List (Int×SL)):Prop:= ∃A c,zc=aK cv ci ⟨A,c,((aB cv ci).getD aj).sx++[a]⟩
def di:SR:=⟨0,0,0,0,0⟩
theorem iG:jd Tryz.prog 3 (fun k:Int=>i_ k):=xi<|by kernel_rfl
abbrev DL(p0):=(bP (fun k:Int=>i_ k) kA p0 ([]:bm SL):V.aH)
abbrev tw(p0)(p1)(p2):=(aA p0 [.map<|some p1,.map<|some p2] 157:V.aH)
abbrev J5(p0):=(bP (fun k:Int=>i_ k) (fun y:SR=>(.agg #[u_ y.sp,u_ y.sb,u_ y.sr,u_ y.sw,u_ y.sg])) p0 ([]:bm SR):V.aH)
abbrev qf:=(ep 40 hY ([]:bm SL):V.aH)
theorem V3:
  CS 44 #[] [] (fun((bs,mc,mr):Nat×Nat×Nat)=>(p_ bs)) (fun _=>True) fun(bs,mc,mr)=>[tw bs mc mr,DL mc,qf,J5 mr]:=by
 intro w hs
 refine aU Tryz.func44 rfl hs (aE<|M7 40 hY [qf] rfl (bX []<|aE<|M7 40 hY [qf,qf] rfl (aM<|aG<|mw (fun k:Int=>i_ k) kA 1 (by kernel_rfl) rfl (fun m1=>[qf,qf,DL m1]) (fun _=>rfl) ?_)))
 intro m1
 refine aG<|mw (fun k:Int=>i_ k) (fun y:SR=>(.agg #[u_ y.sp,u_ y.sb,u_ y.sr,u_ y.sw,u_ y.sg])) 2 (by kernel_rfl) rfl (fun m2=>[qf,qf,DL m1,J5 m2]) (fun _=>rfl) ?_
 intro m2
 refine dS [.al] [] (fun b3=>[(0,p_ b3)]) (fun _=>[]) (fun b3=>tw b3 m1 m2) ?_
 intro b3
 refine aF<|bJ [4,2,0,1] [p_ b3] (b3,m1,m2) ?_ ?_
 ·rfl
 trivial
abbrev DN(p0)(p1)(p2)(p3)(p4)(p5):=([(13,i_ p0),(22,.slice p1 (((((aB p2 p0).getD aj).sx)++([p3])).length) p4),(12,.map<|some p5)]:aT)
abbrev yq(p0)(p1):=(bP (fun k:Int=>i_ k) (fun y:SR=>(.agg #[u_ y.sp,u_ y.sb,u_ y.sr,u_ y.sw,u_ y.sg])) p0 p1:V.aH)
abbrev mC(p0)(p1)(p2)(p3)(p4):=(ep 40 hY (aK p0 p1 ⟨p2,p3,(((aB p0 p1).getD aj).sx)++([p4])⟩):V.aH)
abbrev nI(p0)(p1):=([ep 40 hY<|aY p0 p1,sl (((aB p0 p1).getD aj).sa) ((((aB p0 p1).getD aj).sx).length) (((aB p0 p1).getD aj).sc) 40 1<|V.aQ hY<|((aB p0 p1).getD aj).sx]:List V.aH)
theorem SO(bs mc mr:Nat)(cv:bm SL)(rv:bm SR)(ci a:Int)(hl:((aB cv ci).getD aj).sx.length≤100000):
  CS 77 #[p_ bs,i_ ci,u_ a] [tw bs mc mr,bP (fun k:Int=>i_ k) kA mc cv,ep 40 hY cv,yq mr rv] (fun(zc:(bm SL))=>(i_ 0)) (fun zc=>XE cv ci a zc) fun zc=>[tw bs mc mr,bP (fun k:Int=>i_ k) kA mc zc,ep 40 hY zc,yq mr rv]:=by
 intro w hs
 refine aU Tryz.func77 rfl hs (aD []<|aE<|aD [(8,b_ false)]<|bY<|au<|MQ (fun((A2,c2):bn×Nat)=>[]) (fun((A2,c2):bn×Nat)=>[mC cv ci A2 c2 a,tw bs mc mr,bP (fun k:Int=>i_ k) kA mc<|aK cv ci ⟨A2,c2,(((aB cv ci).getD aj).sx)++([a])⟩,yq mr rv]) (fun _=>True) ?_<|fun zz_ _=>?_)
 ·refine bL [12,13,14] 15<|cL 6 [] [0,1,2,4,5,6,7,9,11] [(11,p_ bs),(13,i_ ci),(16,p_ bs),(18,i_ ci),(20,u_ a)]<|M3 3 8 12 rfl rfl rfl (by kernel_rfl) ?_ ?_ ?_
  ·refine cC (some 12) (.map<|some mc) (mR rfl rfl (by kernel_rfl) (ky (i:=0) rfl rfl))<|eU (.refl _)<|rW 8 12 rfl rfl (by kernel_rfl) ?_ ?_
   ·refine cC (some 17) (.map<|some mc) (mR rfl rfl (by kernel_rfl) (ky (i:=0) rfl rfl))<|eU (.refl _)<|rW 10 12 rfl rfl (by kernel_rfl) ?_ ?_
    ·refine cC (some 19) _ (kS (kt:=3) (et:=233) (enck:=(fun k:Int=>i_ k)) (encv:=kA) (b:=mc) (kv:=cv) (k:=ci) (d0:=aj) (fun w s=>s.mem (i:=1) rfl) rfl rfl rfl (by kernel_rfl) iG (by kernel_rfl) rfl)<|eU (.refl _)<|an 12 rfl (eB 21 (e:=40) [u_ a] (by kernel_rfl) rfl (fun _=>by kernel_rfl) _ (fun _=>rfl) ?_)
     intro b1
     refine cD<|an 13 rfl (eH [2] (nI cv ci) rfl (fun w hs=>nC cv ci hs) (gn hY (((aB cv ci).getD aj).sx) ([a]) 1 22 (u_ 0) 8 ie nA (eV (i:=5) rfl) (by simp;omega) ?_))
     intro A2 c2
     refine cD<|an 14 rfl (gB 3 233 3 ci ⟨A2,c2,(((aB cv ci).getD aj).sx)++([a])⟩ rfl iG (eH [0,0] [mC cv ci A2 c2 a] rfl (fun w hs=>nD cv ci A2 c2 ((((aB cv ci).getD aj).sx)++([a])) hs) (cb ?_)))
     exact jR (A2,c2) trivial<|lk (show V.sub _ [] from trivial)<|sd [4]
    refine eB 21 (e:=40) [u_ a] (by kernel_rfl) rfl (fun _=>by kernel_rfl) _ (fun _=>rfl) ?_
    intro b3
    refine cD<|kQ 10 (some 19) (.slice (((aB cv ci).getD aj).sa) (((aB cv ci).getD aj).sx.length)<|((aB cv ci).getD aj).sc) rfl (by kernel_rfl) (by kernel_rfl) (kS (kt:=3) (et:=233) (enck:=(fun k:Int=>i_ k)) (encv:=kA) (b:=mc) (kv:=cv) (k:=ci) (d0:=aj) (fun w s=>s.mem (i:=1) rfl) rfl rfl rfl (by kernel_rfl) iG (by kernel_rfl) rfl) (an 13 rfl (eH [2] (nI cv ci) rfl (fun w hs=>nC cv ci hs) (gn hY (((aB cv ci).getD aj).sx) ([a]) 1 22 (u_ 0) 8 ie nA (eV (i:=5) rfl) (by simp;omega) ?_)))
    intro A4 c4
    refine cD<|an 14 rfl (gB 3 233 3 ci ⟨A4,c4,(((aB cv ci).getD aj).sx)++([a])⟩ rfl iG (eH [0,0] [mC cv ci A4 c4 a] rfl (fun w hs=>nD cv ci A4 c4 ((((aB cv ci).getD aj).sx)++([a])) hs) (cb ?_)))
    exact jR (A4,c4) trivial<|lk (show V.sub _ [] from trivial)<|sd [4]
   refine eB 21 (e:=40) [u_ a] (by kernel_rfl) rfl (fun _=>by kernel_rfl) _ (fun _=>rfl) ?_
   intro b5
   refine cD<|cL 3 [.ld 0] [8] [(21,.slice (some ⟨b5,0,none⟩) 1 1),(17,.map<|some mc)]<|kQ 10 (some 19) (.slice (((aB cv ci).getD aj).sa) (((aB cv ci).getD aj).sx.length)<|((aB cv ci).getD aj).sc) rfl (by kernel_rfl) (by kernel_rfl) (kS (kt:=3) (et:=233) (enck:=(fun k:Int=>i_ k)) (encv:=kA) (b:=mc) (kv:=cv) (k:=ci) (d0:=aj) (fun w s=>s.mem (i:=1) rfl) rfl rfl rfl (by kernel_rfl) iG (by kernel_rfl) rfl) (an 13 rfl (eH [2] (nI cv ci) rfl (fun w hs=>nC cv ci hs) (gn hY (((aB cv ci).getD aj).sx) ([a]) 1 22 (u_ 0) 8 ie nA (eV (i:=5) rfl) (by simp;omega) ?_)))
   intro A6 c6
   refine cD<|an 14 rfl (gB 3 233 3 ci ⟨A6,c6,(((aB cv ci).getD aj).sx)++([a])⟩ rfl iG (eH [0,0] [mC cv ci A6 c6 a] rfl (fun w hs=>nD cv ci A6 c6 ((((aB cv ci).getD aj).sx)++([a])) hs) (cb ?_)))
   exact jR (A6,c6) trivial<|lk (show V.sub _ [] from trivial)<|sd [4]
  ·refine cC (some 17) (.map<|some mc) (mR rfl rfl (by kernel_rfl) (ky (i:=0) rfl rfl))<|eU (.refl _)<|M3 3 10 12 rfl rfl rfl (by kernel_rfl) ?_ ?_ ?_
   ·refine cC (some 12) (.map<|some mc) (mR rfl rfl (by kernel_rfl) (ky (i:=0) rfl rfl))<|eU (.refl _)<|rW 10 12 rfl rfl (by kernel_rfl) ?_ ?_
    ·refine cC (some 19) _ (kS (kt:=3) (et:=233) (enck:=(fun k:Int=>i_ k)) (encv:=kA) (b:=mc) (kv:=cv) (k:=ci) (d0:=aj) (fun w s=>s.mem (i:=1) rfl) rfl rfl rfl (by kernel_rfl) iG (by kernel_rfl) rfl)<|eU (.refl _)<|an 12 rfl (eB 21 (e:=40) [u_ a] (by kernel_rfl) rfl (fun _=>by kernel_rfl) _ (fun _=>rfl) ?_)
     intro b7
     refine cD<|an 13 rfl (eH [2] (nI cv ci) rfl (fun w hs=>nC cv ci hs) (gn hY (((aB cv ci).getD aj).sx) ([a]) 1 22 (u_ 0) 8 ie nA (eV (i:=5) rfl) (by simp;omega) ?_))
     intro A8 c8
     refine cD<|an 14 rfl (gB 3 233 3 ci ⟨A8,c8,(((aB cv ci).getD aj).sx)++([a])⟩ rfl iG (eH [0,0] [mC cv ci A8 c8 a] rfl (fun w hs=>nD cv ci A8 c8 ((((aB cv ci).getD aj).sx)++([a])) hs) (cb ?_)))
     exact jR (A8,c8) trivial<|lk (show V.sub _ [] from trivial)<|sd [4]
    refine eB 21 (e:=40) [u_ a] (by kernel_rfl) rfl (fun _=>by kernel_rfl) _ (fun _=>rfl) ?_
    intro b9
    refine cD<|kQ 10 (some 19) (.slice (((aB cv ci).getD aj).sa) (((aB cv ci).getD aj).sx.length)<|((aB cv ci).getD aj).sc) rfl (by kernel_rfl) (by kernel_rfl) (kS (kt:=3) (et:=233) (enck:=(fun k:Int=>i_ k)) (encv:=kA) (b:=mc) (kv:=cv) (k:=ci) (d0:=aj) (fun w s=>s.mem (i:=1) rfl) rfl rfl rfl (by kernel_rfl) iG (by kernel_rfl) rfl) (an 13 rfl (eH [2] (nI cv ci) rfl (fun w hs=>nC cv ci hs) (gn hY (((aB cv ci).getD aj).sx) ([a]) 1 22 (u_ 0) 8 ie nA (eV (i:=5) rfl) (by simp;omega) ?_)))
    intro A10 c10
    refine cD<|an 14 rfl (gB 3 233 3 ci ⟨A10,c10,(((aB cv ci).getD aj).sx)++([a])⟩ rfl iG (eH [0,0] [mC cv ci A10 c10 a] rfl (fun w hs=>nD cv ci A10 c10 ((((aB cv ci).getD aj).sx)++([a])) hs) (cb ?_)))
    exact jR (A10,c10) trivial<|lk (show V.sub _ [] from trivial)<|sd [4]
   ·refine cC (some 19) _ (kS (kt:=3) (et:=233) (enck:=(fun k:Int=>i_ k)) (encv:=kA) (b:=mc) (kv:=cv) (k:=ci) (d0:=aj) (fun w s=>s.mem (i:=1) rfl) rfl rfl rfl (by kernel_rfl) iG (by kernel_rfl) rfl)<|eU (.refl _)<|rW 3 12 rfl rfl (by kernel_rfl) ?_ ?_
    ·refine cC (some 12) (.map<|some mc) (mR rfl rfl (by kernel_rfl) (ky (i:=0) rfl rfl))<|eU (.refl _)<|an 12 rfl (eB 21 (e:=40) [u_ a] (by kernel_rfl) rfl (fun _=>by kernel_rfl) _ (fun _=>rfl) ?_)
     intro b11
     refine cD<|an 13 rfl (eH [2] (nI cv ci) rfl (fun w hs=>nC cv ci hs) (gn hY (((aB cv ci).getD aj).sx) ([a]) 1 22 (u_ 0) 8 ie nA (eV (i:=5) rfl) (by simp;omega) ?_))
     intro A12 c12
     refine cD<|an 14 rfl (gB 3 233 3 ci ⟨A12,c12,(((aB cv ci).getD aj).sx)++([a])⟩ rfl iG (eH [0,0] [mC cv ci A12 c12 a] rfl (fun w hs=>nD cv ci A12 c12 ((((aB cv ci).getD aj).sx)++([a])) hs) (cb ?_)))
     exact jR (A12,c12) trivial<|lk (show V.sub _ [] from trivial)<|sd [4]
    refine eB 21 (e:=40) [u_ a] (by kernel_rfl) rfl (fun _=>by kernel_rfl) _ (fun _=>rfl) ?_
    intro b13
    refine cD<|rW 3 13 rfl rfl (by kernel_rfl) ?_ ?_
    ·refine cC (some 12) (.map<|some mc) (mR rfl rfl (by kernel_rfl) (ky (i:=0) rfl rfl))<|eU (.refl _)<|an 13 rfl (eH [2] (nI cv ci) rfl (fun w hs=>nC cv ci hs) (gn hY (((aB cv ci).getD aj).sx) ([a]) 1 22 (u_ 0) 8 ie nA (eV (i:=5) rfl) (by simp;omega) ?_))
     intro A14 c14
     refine cD<|an 14 rfl (gB 3 233 3 ci ⟨A14,c14,(((aB cv ci).getD aj).sx)++([a])⟩ rfl iG (eH [0,0] [mC cv ci A14 c14 a] rfl (fun w hs=>nD cv ci A14 c14 ((((aB cv ci).getD aj).sx)++([a])) hs) (cb ?_)))
     exact jR (A14,c14) trivial<|lk (show V.sub _ [] from trivial)<|sd [4]
    refine eH [2] (nI cv ci) rfl (fun w hs=>nC cv ci hs) (gn hY (((aB cv ci).getD aj).sx) ([a]) 1 22 (u_ 0) 8 ie nA (eV (i:=5) rfl) (by simp;omega) ?_)
    intro A15 c15
    refine cD<|vA 1 [.ld 2] [3] (DN ci A15 cv a c15 mc)<|an 14 rfl (gB 3 233 3 ci ⟨A15,c15,(((aB cv ci).getD aj).sx)++([a])⟩ rfl iG (eH [0,0] [mC cv ci A15 c15 a] rfl (fun w hs=>nD cv ci A15 c15 ((((aB cv ci).getD aj).sx)++([a])) hs) (cb ?_)))
    exact jR (A15,c15) trivial<|lk (show V.sub _ [] from trivial)<|sd [4]
   refine eB 21 (e:=40) [u_ a] (by kernel_rfl) rfl (fun _=>by kernel_rfl) _ (fun _=>rfl) ?_
   intro b16
   refine cD<|kQ 10 (some 19) (.slice (((aB cv ci).getD aj).sa) (((aB cv ci).getD aj).sx.length)<|((aB cv ci).getD aj).sc) rfl (by kernel_rfl) (by kernel_rfl) (kS (kt:=3) (et:=233) (enck:=(fun k:Int=>i_ k)) (encv:=kA) (b:=mc) (kv:=cv) (k:=ci) (d0:=aj) (fun w s=>s.mem (i:=1) rfl) rfl rfl rfl (by kernel_rfl) iG (by kernel_rfl) rfl) (rW 3 13 rfl rfl (by kernel_rfl) ?_ ?_)
   ·refine cC (some 12) (.map<|some mc) (mR rfl rfl (by kernel_rfl) (ky (i:=0) rfl rfl))<|eU (.refl _)<|an 13 rfl (eH [2] (nI cv ci) rfl (fun w hs=>nC cv ci hs) (gn hY (((aB cv ci).getD aj).sx) ([a]) 1 22 (u_ 0) 8 ie nA (eV (i:=5) rfl) (by simp;omega) ?_))
    intro A17 c17
    refine cD<|an 14 rfl (gB 3 233 3 ci ⟨A17,c17,(((aB cv ci).getD aj).sx)++([a])⟩ rfl iG (eH [0,0] [mC cv ci A17 c17 a] rfl (fun w hs=>nD cv ci A17 c17 ((((aB cv ci).getD aj).sx)++([a])) hs) (cb ?_)))
    exact jR (A17,c17) trivial<|lk (show V.sub _ [] from trivial)<|sd [4]
   refine eH [2] (nI cv ci) rfl (fun w hs=>nC cv ci hs) (gn hY (((aB cv ci).getD aj).sx) ([a]) 1 22 (u_ 0) 8 ie nA (eV (i:=5) rfl) (by simp;omega) ?_)
   intro A18 c18
   refine cD<|vA 1 [.ld 2] [3] (DN ci A18 cv a c18 mc)<|an 14 rfl (gB 3 233 3 ci ⟨A18,c18,(((aB cv ci).getD aj).sx)++([a])⟩ rfl iG (eH [0,0] [mC cv ci A18 c18 a] rfl (fun w hs=>nD cv ci A18 c18 ((((aB cv ci).getD aj).sx)++([a])) hs) (cb ?_)))
   exact jR (A18,c18) trivial<|lk (show V.sub _ [] from trivial)<|sd [4]
  refine eB 21 (e:=40) [u_ a] (by kernel_rfl) rfl (fun _=>by kernel_rfl) _ (fun _=>rfl) ?_
  intro b19
  refine cD<|cL 4 [.ld 0] [8] [(21,.slice (some ⟨b19,0,none⟩) 1 1),(17,.map<|some mc)]<|kQ 10 (some 19) (.slice (((aB cv ci).getD aj).sa) (((aB cv ci).getD aj).sx.length)<|((aB cv ci).getD aj).sc) rfl (by kernel_rfl) (by kernel_rfl) (kS (kt:=3) (et:=233) (enck:=(fun k:Int=>i_ k)) (encv:=kA) (b:=mc) (kv:=cv) (k:=ci) (d0:=aj) (fun w s=>s.mem (i:=1) rfl) rfl rfl rfl (by kernel_rfl) iG (by kernel_rfl) rfl) (rW 3 13 rfl rfl (by kernel_rfl) ?_ ?_)
  ·refine cC (some 12) (.map<|some mc) (mR rfl rfl (by kernel_rfl) (ky (i:=0) rfl rfl))<|eU (.refl _)<|an 13 rfl (eH [2] (nI cv ci) rfl (fun w hs=>nC cv ci hs) (gn hY (((aB cv ci).getD aj).sx) ([a]) 1 22 (u_ 0) 8 ie nA (eV (i:=5) rfl) (by simp;omega) ?_))
   intro A20 c20
   refine cD<|an 14 rfl (gB 3 233 3 ci ⟨A20,c20,(((aB cv ci).getD aj).sx)++([a])⟩ rfl iG (eH [0,0] [mC cv ci A20 c20 a] rfl (fun w hs=>nD cv ci A20 c20 ((((aB cv ci).getD aj).sx)++([a])) hs) (cb ?_)))
   exact jR (A20,c20) trivial<|lk (show V.sub _ [] from trivial)<|sd [4]
  refine eH [2] (nI cv ci) rfl (fun w hs=>nC cv ci hs) (gn hY (((aB cv ci).getD aj).sx) ([a]) 1 22 (u_ 0) 8 ie nA (eV (i:=5) rfl) (by simp;omega) ?_)
  intro A21 c21
  refine cD<|vA 1 [.ld 2] [3] (DN ci A21 cv a c21 mc)<|an 14 rfl (gB 3 233 3 ci ⟨A21,c21,(((aB cv ci).getD aj).sx)++([a])⟩ rfl iG (eH [0,0] [mC cv ci A21 c21 a] rfl (fun w hs=>nD cv ci A21 c21 ((((aB cv ci).getD aj).sx)++([a])) hs) (cb ?_)))
  exact jR (A21,c21) trivial<|lk (show V.sub _ [] from trivial)<|sd [4]
 obtain⟨A2,c2⟩:=zz_
 refine eo [] [mC cv ci A2 c2 a,tw bs mc mr,bP (fun k:Int=>i_ k) kA mc<|aK cv ci ⟨A2,c2,(((aB cv ci).getD aj).sx)++([a])⟩,yq mr rv] trivial rfl (aD [(6,i_ 0)]<|aF<|bJ [1,1,0,0] [i_ 0] (aK cv ci ⟨A2,c2,(((aB cv ci).getD aj).sx)++([a])⟩) ?_ ?_)
 ·rfl
 exact⟨_,_,rfl⟩
def nV(cv:List (Int×SL))(ci dn nb:Int):Int:=match((aB cv ci).getD aj).sx with
 |[]=>6
 |x::_=>if nb<1 then 26 else if dn<x then 27 else 0
variable{cv:bm SL}{ci dn nb:Int}
theorem O7(h:(((aB cv ci).getD aj).sx.length:Int)=0):nV cv ci dn nb=6:=by
 unfold nV;cases e:((aB cv ci).getD aj).sx with
 |nil=>rfl
 |cons x xs=>rw[e] at h;simp at h;omega
theorem yP(h:((aB cv ci).getD aj).sx[0]? =some x):nV cv ci dn nb=if nb<1 then 26 else if dn<x then 27 else 0:=by
 unfold nV;cases e:((aB cv ci).getD aj).sx with
 |nil=>rw[e] at h;simp at h
 |cons y xs=>rw[e] at h;simp at h;subst h;rfl
theorem B2(h:nV cv ci dn nb=0):1≤((aB cv ci).getD aj).sx.length:=by
 unfold nV at h;cases e:((aB cv ci).getD aj).sx with
 |nil=>rw[e] at h;simp at h
 |cons y xs=>simp
theorem N3(h: ¬(((aB cv ci).getD aj).sx.length:Int)=0)(h2:nb<1):nV cv ci dn nb=26:=by
 unfold nV;cases e:((aB cv ci).getD aj).sx with
 |nil=>rw[e] at h;simp at h
 |cons y xs=>simp only;rw[if_pos h2]
def wY(s:SL):SL:=⟨i7 s.sa s.sc 1 1,s.sc-1,s.sx.drop 1⟩
def wt(r:SR)(x dn nb:Int)(rl:Bool):SR:=⟨IntKind.u64.wrap<|r.sp+1,IntKind.u64.wrap<|r.sb+IntKind.u64.wrap nb,if rl then IntKind.u64.wrap (r.sr+1) else r.sr,IntKind.u64.wrap<|r.sw+IntKind.u64.wrap (dn-x),cX r.sg<|IntKind.u64.wrap<|dn-x⟩
theorem IJ{l:bT}(h:l[0]? =some x):l.headD 0=x:=by cases l<;>simp_all
theorem N5(bs mc mr:Nat)(cv:bm SL)(rv:bm SR)(ci dn nb:Int)(rl:Bool)(hw: ¬nV cv ci dn nb=0)(w:World)(r0:(aA bs [.map<|some mc,.map<|some mr] 157).holds w)(r1:(bP (fun k:Int=>i_ k) kA mc cv).holds w)(r2:(ep 40 hY cv).holds w)(r3:(bP (fun k:Int=>i_ k) (fun y:SR=>(.agg #[u_ y.sp,u_ y.sb,u_ y.sr,u_ y.sw,u_ y.sg])) mr rv).holds w):
  CW 116 #[p_ bs,i_ ci,u_ dn,i_ nb,b_ rl] w (i_<|nV cv ci dn nb):=by
 refine aU Tryz.func116 rfl (HS.nil w) (aD []<|aE<|aD [(14,b_ false)]<|bY<|aP<|aC<|dm 5 [.rd [.map<|some mc]] [(18,.map<|some mc),(19,i_ ci)] (o1<|ro ⟨bs,0,none⟩ (vs:=[.map<|some mc])<|cB r0 rfl)<|aG<|cC (some 20) _ (qL 3 233 ci aj (fun w s=>bV s r1) iG)<|ak [(11,.slice (((aB cv ci).getD aj).sa) (((aB cv ci).getD aj).sx.length)<|((aB cv ci).getD aj).sc)]<|aE<|aO<|aD [(21,b_<|(((aB cv ci).getD aj).sx.length:Int)==0)]<|aI rfl (fun e1=>?_) (fun e1=>?_))
 ·have p1:=e1;try simp only[bQ] at p1
  refine aE ?_
  refine bX [(10,i_ 6)] ?_
  refine aF ?_
  refine bK [i_ 6] ?_
  refine congrArg (Value.int .i64) ?_;exact(O7 ‹_›).symm
 have p1:=e1;try simp only[bQ] at p1
 refine aD [(25,b_<|decide (nb<1))]<|aI rfl (fun e2=>?_) (fun e2=>?_)
 ·have p2:=dZ e2
  refine aE ?_
  refine bX [(10,i_ 26)] ?_
  refine aF ?_
  refine bK [i_ 26] ?_
  refine congrArg (Value.int .i64) ?_;exact(N3 ‹_› ‹_›).symm
 have p2:=ga e2
 refine aC<|dm 3 [.ix] [(29,u_ dn),(31,.pointer<|some<|(aZ<|((aB cv ci).getD aj).sa).add (0*1))] (o1<|io (0:Int)<|dh ie (by decide) (bg (sR<|vm r2 ci)<|by simp[aL])<|by(simp;omega)) ?_
 obtain⟨x1,hx1⟩: ∃x,(((aB cv ci).getD aj).sx)[0]? =some x:=⟨_,dA<|by omega⟩
 refine az [.rd [u_ x1]] [(28,b_<|decide (dn<x1))] (o1<|ro ((aZ<|((aB cv ci).getD aj).sa).add (0*1))<|dY (vs:=[u_ x1]) ie (bg (sR<|vm r2 ci)<|by simp[aL]) hx1 (Nat.le_of_ble_eq_true rfl) rfl)<|aI rfl (fun e3=>?_) (fun e3=>?_)
 ·have p3:=dZ e3
  refine aE ?_
  refine bX [(10,i_ 27)] ?_
  refine aF ?_
  refine bK [i_ 27] ?_
  refine congrArg (Value.int .i64) ?_;(rw[yP ‹_›];(rw[if_neg<|by omega,if_pos<|by omega];done))
 exact absurd e3<|by(intro h_;apply hw;rw[yP ‹_›,if_neg<|by omega,if_neg (by simp at h_;omega)])
theorem SQ(bs mc mr:Nat)(cv:bm SL)(rv:bm SR)(ci dn nb:Int)(rl:Bool)(hw:nV cv ci dn nb=0):
  CS 116 #[p_ bs,i_ ci,u_ dn,i_ nb,b_ rl] [aA bs [.map<|some mc,.map<|some mr] 157,bP (fun k:Int=>i_ k) kA mc cv,ep 40 hY cv,bP (fun k:Int=>i_ k) (fun y:SR=>(.agg #[u_ y.sp,u_ y.sb,u_ y.sr,u_ y.sw,u_ y.sg])) mr rv] (fun(zz:Unit)=>(i_ 0)) (fun _=>True) fun _=>[aA bs [.map<|some mc,.map<|some mr] 157,bP (fun k:Int=>i_ k) kA mc<|aK cv ci<|wY<|(aB cv ci).getD aj,ep 40 hY<|aK cv ci<|wY<|(aB cv ci).getD aj,bP (fun k:Int=>i_ k) (fun y:SR=>(.agg #[u_ y.sp,u_ y.sb,u_ y.sr,u_ y.sw,u_ y.sg])) mr<|aK rv ci<|wt ((aB rv ci).getD di) (((aB cv ci).getD aj).sx.headD 0) dn nb rl]:=by
 intro w hs
 have hpos:=B2 hw
 refine aU Tryz.func116 rfl hs (aD []<|aE<|aD [(14,b_ false)]<|bY<|aP<|(aC<|bA 5 [.ld 0] [(18,.map<|some mc),(19,i_ ci)]<|aG<|cC (some 20) _ (kS (kt:=3) (et:=233) (enck:=(fun k:Int=>i_ k)) (encv:=kA) (b:=mc) (kv:=cv) (k:=ci) (d0:=aj) (fun w s=>s.mem (i:=1) rfl) rfl rfl rfl (by kernel_rfl) iG (by kernel_rfl) rfl)<|ak [(11,.slice (((aB cv ci).getD aj).sa) (((aB cv ci).getD aj).sx.length)<|((aB cv ci).getD aj).sc)]<|aE<|aO<|aD [(21,b_<|(((aB cv ci).getD aj).sx.length:Int)==0)]<|aI rfl (fun e1=>?_) (fun e1=>?_)))
 ·exact absurd e1<|by(intro h_;have h2_:=B2 hw;rw[beq_iff_eq] at h_;omega)
 refine aD [(25,b_<|decide (nb<1))]<|aI rfl (fun e2=>?_) (fun e2=>?_)
 ·exact absurd e2<|by(intro h_;have h2_:=B2 hw;obtain⟨x_,hx_⟩: ∃x,((aB cv ci).getD aj).sx[0]? =some x:=⟨_,dA h2_⟩;rw[yP hx_,if_pos<|by simpa using h_] at hw;omega)
 have p2:=ga e2
 refine aC<|dm 3 [.ix] [(29,u_ dn),(31,.pointer<|some<|(aZ<|((aB cv ci).getD aj).sa).add (0*1))] (o1<|io (0:Int)<|dh ie (by decide) (o7 2 rfl ci)<|by(simp;omega)) ?_
 obtain⟨x1,hx1⟩: ∃x,(((aB cv ci).getD aj).sx)[0]? =some x:=⟨_,dA<|by omega⟩
 refine az [.rd [u_ x1]] [(28,b_<|decide (dn<x1))] (o1<|ro ((aZ<|((aB cv ci).getD aj).sa).add (0*1))<|dY (vs:=[u_ x1]) ie (o7 2 rfl ci) hx1 (Nat.le_of_ble_eq_true rfl) rfl)<|aI rfl (fun e3=>?_) (fun e3=>?_)
 ·exact absurd e3<|by(intro h_;rw[yP ‹_›,if_neg<|by omega,if_pos<|by simpa using h_] at hw;omega)
 have p3:=ga e3
 refine aP<|aC<|bA 5 [.ld 0] [(37,.map<|some mr),(38,i_ ci)]<|aG<|cC (some 39) _ (kS (kt:=3) (et:=289) (enck:=(fun k:Int=>i_ k)) (encv:=(fun y:SR=>(.agg #[u_ y.sp,u_ y.sb,u_ y.sr,u_ y.sw,u_ y.sg]))) (b:=mr) (kv:=rv) (k:=ci) (d0:=di) (fun w s=>s.mem (i:=3) rfl) rfl rfl rfl (by kernel_rfl) iG (by kernel_rfl) rfl)<|dS [.al,.st 4] [] (fun b2=>[(12,p_ b2)]) (fun b2=>[]) (fun b2=>aA b2 [u_<|((aB rv ci).getD di).sp,u_<|((aB rv ci).getD di).sb,u_<|((aB rv ci).getD di).sr,u_<|((aB rv ci).getD di).sw,u_<|((aB rv ci).getD di).sg] 289) ?_
 intro b2
 refine aC<|bU [.ld 4,.st 4] [] [(4,aA b2 [u_<|wU<|(((aB rv ci).getD di).sp)+1,u_<|((aB rv ci).getD di).sb,u_<|((aB rv ci).getD di).sr,u_<|((aB rv ci).getD di).sw,u_<|((aB rv ci).getD di).sg] 289)]<|aC<|bU [.ld 4,.st 4] [] [(4,aA b2 [u_<|wU<|(((aB rv ci).getD di).sp)+1,u_<|wU<|(((aB rv ci).getD di).sb)+(wU<|nb),u_<|((aB rv ci).getD di).sr,u_<|((aB rv ci).getD di).sw,u_<|((aB rv ci).getD di).sg] 289)]<|aE<|aD [(50,b_ rl)]<|fx rl (fun e4=>?_)<|fun e4=>?_
 ·refine aM<|bU [.ld 4,.st 4] [] [(4,aA b2 [u_<|wU<|(((aB rv ci).getD di).sp)+1,u_<|wU<|(((aB rv ci).getD di).sb)+(wU<|nb),u_<|wU<|(((aB rv ci).getD di).sr)+1,u_<|((aB rv ci).getD di).sw,u_<|((aB rv ci).getD di).sg] 289)]<|aE<|bL [9] 10<|cO 1 [.ld 4,.ix,.rd [u_ x1]] (rg 0 9) [(62,u_<|wU<|(((aB rv ci).getD di).sw)+(wU<|dn-x1)),(63,q_ b2 3)] (oc (io (0:Int)<|dh ie (by decide) (o7 2 rfl ci)<|by(simp;omega))<|o1<|ro ((aZ<|((aB cv ci).getD aj).sa).add (0*1))<|dY (vs:=[u_ x1]) ie (o7 2 rfl ci) hx1 (Nat.le_of_ble_eq_true rfl) rfl) ?_
  refine an 9 rfl (dN 4 [u_<|wU<|(((aB rv ci).getD di).sw)+(wU<|dn-x1)] rfl (cb<|aE<|bL [9] 10 ?_))
  refine cO 1 [.ld 4,.ix,.rd [u_ x1]] (rg 0 9) [(11,.slice (((aB cv ci).getD aj).sa) (((aB cv ci).getD aj).sx.length)<|((aB cv ci).getD aj).sc),(12,p_ b2),(71,u_<|cX (((aB rv ci).getD di).sg)<|wU<|dn-x1),(72,q_ b2 4)] (oc (io (0:Int)<|dh ie (by decide) (o7 2 rfl ci)<|by(simp;omega))<|o1<|ro ((aZ<|((aB cv ci).getD aj).sa).add (0*1))<|dY (vs:=[u_ x1]) ie (o7 2 rfl ci) hx1 (Nat.le_of_ble_eq_true rfl) rfl)<|an 9 rfl (dN 4 [u_<|cX (((aB rv ci).getD di).sg)<|wU<|dn-x1] rfl ?_)
  refine cb<|aE<|bL [6] 7<|cL 1 [.ld 0,.ld 4] (rg 0 6) [(76,.map<|some mr),(77,i_ ci),(78,.agg #[u_<|wU<|(((aB rv ci).getD di).sp)+1,u_<|wU<|(((aB rv ci).getD di).sb)+(wU<|nb),u_<|wU<|(((aB rv ci).getD di).sr)+1,u_<|wU<|(((aB rv ci).getD di).sw)+(wU<|dn-x1),u_<|cX (((aB rv ci).getD di).sg)<|wU<|dn-x1])] ?_
  refine an 6 rfl (gB 3 289 3 ci (⟨wU<|(((aB rv ci).getD di).sp)+1,wU<|(((aB rv ci).getD di).sb)+(wU<|nb),wU<|(((aB rv ci).getD di).sr)+1,wU<|(((aB rv ci).getD di).sw)+(wU<|dn-x1),cX (((aB rv ci).getD di).sg)<|wU<|dn-x1⟩:SR) rfl iG ?_)
  refine cb<|aE<|bL [7] 8<|cL 2 [.ld 0] (rg 0 6) [(82,.map<|some mc),(83,i_ ci),(84,.slice (((aB cv ci).getD aj).sa) (((aB cv ci).getD aj).sx.length)<|((aB cv ci).getD aj).sc)]<|kQ 6 (some 85) (.slice (i7 (((aB cv ci).getD aj).sa) (((aB cv ci).getD aj).sc) 1 1) (((((aB cv ci).getD aj).sx).drop 1).length)<|((aB cv ci).getD aj).sc-1) rfl (by kernel_rfl) (by kernel_rfl) (Bo (e:=40) (xs:=(((aB cv ci).getD aj).sx)) (sz:=1) 1 rfl rfl rfl (by kernel_rfl) (by kernel_rfl) (by omega) (Hv 2 rfl ci)) ?_
  refine an 7 rfl (gB 3 233 1 ci ⟨i7 (((aB cv ci).getD aj).sa) (((aB cv ci).getD aj).sc) 1 1,(((aB cv ci).getD aj).sc-1),((((aB cv ci).getD aj).sx).drop 1)⟩ rfl iG ?_)
  refine eH [2] [ep 40 hY<|aK cv ci ⟨i7 (((aB cv ci).getD aj).sa) (((aB cv ci).getD aj).sc) 1 1,(((aB cv ci).getD aj).sc-1),((((aB cv ci).getD aj).sx).drop 1)⟩] rfl (fun w hs=>JC (fun _=>rfl) cv ci (by omega) hs) ?_
  refine cb<|aD [(10,i_ 0)]<|aF ?_
  rw[show aK cv ci ⟨i7 (((aB cv ci).getD aj).sa) (((aB cv ci).getD aj).sc) 1 1,(((aB cv ci).getD aj).sc-1),((((aB cv ci).getD aj).sx).drop 1)⟩=(aK cv ci<|wY<|(aB cv ci).getD aj) from by rfl]
  rw[show aK rv ci (⟨IntKind.u64.wrap<|(((aB rv ci).getD di).sp)+1,IntKind.u64.wrap<|(((aB rv ci).getD di).sb)+(IntKind.u64.wrap<|nb),IntKind.u64.wrap<|(((aB rv ci).getD di).sr)+1,IntKind.u64.wrap<|(((aB rv ci).getD di).sw)+(IntKind.u64.wrap<|dn-x1),cX (((aB rv ci).getD di).sg)<|IntKind.u64.wrap<|dn-x1⟩:SR)=(aK rv ci<|wt ((aB rv ci).getD di) (((aB cv ci).getD aj).sx.headD 0) dn nb rl) from by(unfold wt;rw[IJ ‹_›];simp_all;done)]
  refine bJ [1,1,0,0] [i_ 0] () ?_ ?_
  ·rfl
  trivial
 refine au<|bL [9] 10<|cO 1 [.ld 4,.ix,.rd [u_ x1]] (rg 0 9) [(62,u_<|wU<|(((aB rv ci).getD di).sw)+(wU<|dn-x1)),(63,q_ b2 3)] (oc (io (0:Int)<|dh ie (by decide) (o7 2 rfl ci)<|by(simp;omega))<|o1<|ro ((aZ<|((aB cv ci).getD aj).sa).add (0*1))<|dY (vs:=[u_ x1]) ie (o7 2 rfl ci) hx1 (Nat.le_of_ble_eq_true rfl) rfl)<|an 9 rfl (dN 4 [u_<|wU<|(((aB rv ci).getD di).sw)+(wU<|dn-x1)] rfl (cb<|aE<|bL [9] 10 ?_))
 refine cO 1 [.ld 4,.ix,.rd [u_ x1]] (rg 0 9) [(11,.slice (((aB cv ci).getD aj).sa) (((aB cv ci).getD aj).sx.length)<|((aB cv ci).getD aj).sc),(12,p_ b2),(71,u_<|cX (((aB rv ci).getD di).sg)<|wU<|dn-x1),(72,q_ b2 4)] (oc (io (0:Int)<|dh ie (by decide) (o7 2 rfl ci)<|by(simp;omega))<|o1<|ro ((aZ<|((aB cv ci).getD aj).sa).add (0*1))<|dY (vs:=[u_ x1]) ie (o7 2 rfl ci) hx1 (Nat.le_of_ble_eq_true rfl) rfl)<|an 9 rfl (dN 4 [u_<|cX (((aB rv ci).getD di).sg)<|wU<|dn-x1] rfl (cD ?_))
 refine dj<|aE<|bL [6] 7<|cL 1 [.ld 0,.ld 4] (rg 0 6) [(76,.map<|some mr),(77,i_ ci),(78,.agg #[u_<|wU<|(((aB rv ci).getD di).sp)+1,u_<|wU<|(((aB rv ci).getD di).sb)+(wU<|nb),u_<|((aB rv ci).getD di).sr,u_<|wU<|(((aB rv ci).getD di).sw)+(wU<|dn-x1),u_<|cX (((aB rv ci).getD di).sg)<|wU<|dn-x1])] ?_
 refine an 6 rfl (gB 3 289 3 ci (⟨wU<|(((aB rv ci).getD di).sp)+1,wU<|(((aB rv ci).getD di).sb)+(wU<|nb),((aB rv ci).getD di).sr,wU<|(((aB rv ci).getD di).sw)+(wU<|dn-x1),cX (((aB rv ci).getD di).sg)<|wU<|dn-x1⟩:SR) rfl iG (cD ?_))
 refine dj<|aE<|bL [7] 8<|cL 2 [.ld 0] (rg 0 6) [(82,.map<|some mc),(83,i_ ci),(84,.slice (((aB cv ci).getD aj).sa) (((aB cv ci).getD aj).sx.length)<|((aB cv ci).getD aj).sc)]<|kQ 6 (some 85) (.slice (i7 (((aB cv ci).getD aj).sa) (((aB cv ci).getD aj).sc) 1 1) (((((aB cv ci).getD aj).sx).drop 1).length)<|((aB cv ci).getD aj).sc-1) rfl (by kernel_rfl) (by kernel_rfl) (Bo (e:=40) (xs:=(((aB cv ci).getD aj).sx)) (sz:=1) 1 rfl rfl rfl (by kernel_rfl) (by kernel_rfl) (by omega) (Hv 2 rfl ci)) ?_
 refine an 7 rfl (gB 3 233 1 ci ⟨i7 (((aB cv ci).getD aj).sa) (((aB cv ci).getD aj).sc) 1 1,(((aB cv ci).getD aj).sc-1),((((aB cv ci).getD aj).sx).drop 1)⟩ rfl iG ?_)
 refine eH [2] [ep 40 hY<|aK cv ci ⟨i7 (((aB cv ci).getD aj).sa) (((aB cv ci).getD aj).sc) 1 1,(((aB cv ci).getD aj).sc-1),((((aB cv ci).getD aj).sx).drop 1)⟩] rfl (fun w hs=>JC (fun _=>rfl) cv ci (by omega) hs) ?_
 refine cb<|aD [(10,i_ 0)]<|aF ?_
 rw[show aK cv ci ⟨i7 (((aB cv ci).getD aj).sa) (((aB cv ci).getD aj).sc) 1 1,(((aB cv ci).getD aj).sc-1),((((aB cv ci).getD aj).sx).drop 1)⟩=(aK cv ci<|wY<|(aB cv ci).getD aj) from by rfl]
 rw[show aK rv ci (⟨IntKind.u64.wrap<|(((aB rv ci).getD di).sp)+1,IntKind.u64.wrap<|(((aB rv ci).getD di).sb)+(IntKind.u64.wrap<|nb),((aB rv ci).getD di).sr,IntKind.u64.wrap<|(((aB rv ci).getD di).sw)+(IntKind.u64.wrap<|dn-x1),cX (((aB rv ci).getD di).sg)<|IntKind.u64.wrap<|dn-x1⟩:SR)=(aK rv ci<|wt ((aB rv ci).getD di) (((aB cv ci).getD aj).sx.headD 0) dn nb rl) from by(unfold wt;rw[IJ ‹_›];simp_all;done)]
 refine bJ [1,1,0,0] [i_ 0] () ?_ ?_
 ·rfl
 trivial
end Go.Proofs.YtobgjpigngoggaaGreat
namespace Go.Proofs.YtobgjpigngoggaaGreat
open Go V
open Go.RowKit Go.Maps Go.Shelf
def Tryz.cloneA_ren:Go.Shelf.Ren:=⟨fun|5=>131|7=>168|n=>n,fun|23=>183|25=>3|3=>62|4=>4|20=>20|n=>n,fun|n=>n⟩
theorem Tryz.cloneA:Go.Proofs.SlLaysW.n5 Tryz.prog Tryz.cloneA_ren:={
 mixed:=by kernel_rfl,
 f5:=⟨Tryz.f131.name,by decide,Tryz.func131.trans<|congrArg some<|by kernel_rfl⟩,
 f7:=Tryz.func168.trans<|congrArg some<|by kernel_rfl,
 t4:=Tryz.underlying4,
 a4:=Tryz.isAgg4,
 z4:=Tryz.sizeOf4,
 v4:=Tryz.zeroValue4,
 t20:=Tryz.underlying20,
 a20:=Tryz.isAgg20,
 z20:=Tryz.sizeOf20,
 v20:=Tryz.zeroValue20,
 t23:=Tryz.underlying183,
 a23:=Tryz.isAgg183,
 z23:=Tryz.sizeOf183,
 v23:=Tryz.zeroValue183}
theorem Nj(mb:Nat)(kv:bm Cl)(w:World)(r0:(cU mb kv).holds w)(hs:HI w []):
  CV 131 #[.map<|some mb] w [] (fun(mc:Nat)=>(.map<|some mc)) (fun _=>True) fun mc=>[cU mc kv]:=by
 obtain⟨⟨es,clock,hp,hr⟩,hk⟩:=id r0
 refine(AnyW.maps_Clone Tryz.cloneA mb es clock w hp).mono ?_
 rintro e w' ⟨rfl,rfl⟩
 refine⟨w.heap.size,rfl,trivial,⟨Fr.alloc _ _ _,?_,by simp[aL,bP],by simp[aL,bP]⟩⟩
 intro it hi;simp only[List.mem_singleton] at hi;subst hi
 exact⟨⟨es,clock,(MapKept.heap_alloc w _).1,hr⟩,hk⟩
set_option maxHeartbeats 4000000 in
set_option maxRecDepth 100000 in
theorem Ix(bt mb:Nat)(kv:bm Cl)(w:World)(r0:(aA bt [.map<|some mb] 185).holds w)(r1:(cU mb kv).holds w)(hs:HI w []):
  CV 91 #[p_ bt] w [] (fun((bc,mc):Nat×Nat)=>(p_ bc)) (fun _=>True) fun(bc,mc)=>[aA bc [.map<|some mc] 185,cU mc kv]:=by
 refine aU Tryz.func91 rfl hs (eo [(0,p_ bt)] [] (by exact⟨rfl,trivial⟩) rfl (aE<|bX []<|aE<|aE<|bX [(4,b_ false)]<|pG rfl (au<|aM<|dm 4 [.rd [.map<|some mb]] [(8,.map<|some mb)] (o1<|ro ⟨bt,0,none⟩ (vs:=[.map<|some mb])<|cB r0 rfl)<|aG<|dG (some 9) [] (fun w s h=>Nj mb kv w (bV s r1) h) ?_)))
 rintro mc1-
 refine dS [.al] [] (fun b2=>[(2,p_ b2)]) (fun _=>[]) (fun b2=>aA b2 [.map<|some mc1] 185) ?_
 intro b2
 refine aF<|cN [1,0] [p_ b2] (fun _ w r s=>⟨dM r rfl,trivial⟩) (b2,mc1) ?_ ?_<|by kernel_rfl
 ·rfl
 ·trivial
end Go.Proofs.YtobgjpigngoggaaGreat
namespace Go.Proofs.YtobgjpigngoggaaGreat
open Go V
def nH(v:Int):Int:=v/18446744073709551616
def nL(v:Int):Int:=v%18446744073709551616
def iS:Int:=340282366920938463463374607431768211456
theorem J7(x y:Nat):(x&&&y)/9223372036854775808=(x/9223372036854775808)&&&(y/9223372036854775808):=by
 have:=Nat.shiftRight_and_distrib (a:=x) (b:=y) (i:=63)
 simpa[Nat.shiftRight_eq_div_pow] using this
theorem LI(x y:Nat):(x|||y)/9223372036854775808=(x/9223372036854775808)|||(y/9223372036854775808):=by
 have:=Nat.shiftRight_or_distrib (a:=x) (b:=y) (i:=63)
 simpa[Nat.shiftRight_eq_div_pow] using this
theorem Oh(a b s c:Nat)(ha:a<18446744073709551616)(hb:b<18446744073709551616)(hc:c≤1)(hs:s=(a+b+c)%18446744073709551616):
  ((a&&&b)|||((a|||b)&&&(18446744073709551615-s)))/9223372036854775808=(a+b+c)/18446744073709551616:=by
 have hs2:s<18446744073709551616:=by rw[hs];omega
 rw[LI,J7,J7,LI]
 have e:(18446744073709551615-s)/9223372036854775808=1-s/9223372036854775808:=by omega
 rw[e]
 have hA:a/9223372036854775808=0∨a/9223372036854775808=1:=by omega
 have hB:b/9223372036854775808=0∨b/9223372036854775808=1:=by omega
 have hS:s/9223372036854775808=0∨s/9223372036854775808=1:=by omega
 rcases hA with hA|hA<;>rcases hB with hB|hB<;>rcases hS with hS|hS<;>rw[hA,hB,hS]<;>simp<;>omega
variable{a b c:Int}
theorem Oi{s:Int}(ha:0≤a∧a<18446744073709551616)(hb:0≤b∧b<18446744073709551616)(hc:0≤c∧c≤1)(hs:s=(a+b+c)%18446744073709551616):
  af .or .u64 (af .and .u64 a b) (af .andNot .u64 (af .or .u64 a b) s)/9223372036854775808=(a+b+c)/18446744073709551616:=by
 obtain⟨A,rfl⟩:=Int.eq_ofNat_of_zero_le ha.1
 obtain⟨B,rfl⟩:=Int.eq_ofNat_of_zero_le hb.1
 obtain⟨C,rfl⟩:=Int.eq_ofNat_of_zero_le hc.1
 obtain⟨T,rfl⟩:=Int.eq_ofNat_of_zero_le (show 0≤s by omega)
 have h1:af .and .u64 (A:Int) (B:Int)=((A&&&B:Nat):Int):=u64_and_nat A B (by omega)<|by omega
 have h2:af .or .u64 (A:Int) (B:Int)=((A|||B:Nat):Int):=u64_or_nat A B (by omega)<|by omega
 have hl:A|||B<2^64:=Nat.or_lt_two_pow (by omega)<|by omega
 have h3:af .andNot .u64 ((A|||B:Nat):Int) (T:Int)=(((A|||B)&&&(18446744073709551615-T):Nat):Int):=u64_andNot_nat (A|||B) T (by omega)<|by omega
 have hl2:A&&&B<2^64:=Nat.and_lt_two_pow _<|by omega
 have hl3:(A|||B)&&&(18446744073709551615-T)<2^64:=Nat.and_lt_two_pow _<|by omega
 have h4:af .or .u64 ((A&&&B:Nat):Int) (((A|||B)&&&(18446744073709551615-T):Nat):Int)=(((A&&&B)|||((A|||B)&&&(18446744073709551615-T)):Nat):Int):=u64_or_nat _ _ (by omega)<|by omega
 rw[h1,h2,h3,h4]
 have:=Oh A B T C (by omega) (by omega) (by omega)<|by omega
 omega
variable{x:Int}
theorem t1(h:0≤x∧x<18446744073709551616):af .and .u64 x 4294967295=x%4294967296:=by
 obtain⟨A,rfl⟩:=Int.eq_ofNat_of_zero_le h.1
 have h1:af .and .u64 (A:Int) ((4294967295:Nat):Int)=((A&&&4294967295:Nat):Int):=u64_and_nat A 4294967295 (by omega)<|by omega
 have h2:=Nat.and_two_pow_sub_one_eq_mod A 32
 show af .and .u64 (A:Int) ((4294967295:Nat):Int)=_
 rw[h1,show(4294967295:Nat)=2^32-1 by decide,h2];omega
variable{y:Int}
theorem S0(p:Nat)(hp:p<64)(hx:0≤x∧x<18446744073709551616)(hy:0≤y∧y<(2:Int)^p)(hm:x%(2:Int)^p=0):af .or .u64 x y=x+y:=by
 obtain⟨A,rfl⟩:=Int.eq_ofNat_of_zero_le hx.1
 obtain⟨B,rfl⟩:=Int.eq_ofNat_of_zero_le hy.1
 have h2:(2:Int)^p=((2^p:Nat):Int):=by simp
 rw[h2] at hm hy
 have hB:B<2^p:=by omega
 have hp2:2^p<2^64:=Nat.pow_lt_pow_right (by decide) hp
 have hA:A%2^p=0:=by omega
 obtain⟨q,hq⟩:=Nat.dvd_of_mod_eq_zero hA
 have h1:af .or .u64 (A:Int) (B:Int)=((A|||B:Nat):Int):=u64_or_nat A B (by omega)<|by omega
 rw[h1,hq,←Nat.two_pow_add_eq_or_of_lt hB];simp
theorem Vi(a b:Int)(ha:0≤a∧a<18446744073709551616)(hb:0≤b∧b<18446744073709551616):
  a*b=(a/4294967296)*(b/4294967296)*18446744073709551616+((a/4294967296)*(b%4294967296)+(a%4294967296)*(b/4294967296))*4294967296+(a%4294967296)*(b%4294967296):=by
 have e1:=Int.mul_ediv_add_emod a 4294967296
 have e2:=Int.mul_ediv_add_emod b 4294967296
 generalize a/4294967296=ah at*;generalize a%4294967296=al at*
 generalize b/4294967296=bh at*;generalize b%4294967296=bl at*
 subst e1;subst e2
 simp only[Int.mul_add,Int.add_mul]
 have c1:4294967296*ah*(4294967296*bh)=ah*bh*18446744073709551616:=by
  rw[Int.mul_assoc,Int.mul_left_comm ah,←Int.mul_assoc,Int.mul_comm];rfl
 have c2:al*(4294967296*bh)=al*bh*4294967296:=by rw[Int.mul_left_comm,Int.mul_comm]
 have c3:4294967296*ah*bl=ah*bl*4294967296:=by rw[Int.mul_assoc,Int.mul_comm]
 rw[c1,c2,c3];omega
theorem yR(hx:0≤x∧x<4294967296)(hy:0≤y∧y<4294967296):0≤x*y∧x*y≤18446744065119617025:=by
 refine⟨Int.mul_nonneg hx.1 hy.1,?_⟩
 have h1:=Int.mul_le_mul_of_nonneg_left (show y≤4294967295 by omega) hx.1
 have h2:=Int.mul_le_mul_of_nonneg_right (show x≤4294967295 by omega) (show(0:Int)≤4294967295 by decide)
 omega
def tC(a b:Int):Int:=if a<b then-1 else if a=b then 0 else 1
theorem ER{v:Int}(h:0≤v∧v<iS):0≤nH v∧nH v<18446744073709551616:=by unfold nH;unfold iS at h;omega
theorem ES(v:Int):0≤nL v∧nL v<18446744073709551616:=by unfold nL;omega
def FC(a b c:Int):Int:=if a<b+c then 1 else 0
theorem Vj{r p:Int}(hr:0≤r)(hp:0≤p):af .or .u64 (IntKind.u64.wrap<|r*4294967296) (p%4294967296)=(r%4294967296)*4294967296+p%4294967296:=by
 rw[IntKind.wrap_u64,S0 32 (by decide) (by omega) (by omega)<|by omega];omega
theorem Xr(a b c:Int):0≤FC a b c∧FC a b c≤1:=by unfold FC;split<;>omega
theorem QU(v:Int)(hv:0≤v∧v<18446744073709551616)(w:World):
  CW 235 #[u_ v] w (.agg #[u_<|nH v,u_<|nL v]):=by
 refine aU Tryz.func235 rfl (HS.nil w) (aC<|dD [.al] [] (fun b1=>[(2,p_ b1)]) (fun b1=>aA b1 [u_ 0,u_ 0] 213) ?_)
 intro b1
 refine aC<|bU [.st 0] [] [(0,aA b1 [u_ 0,u_ v] 213)]<|aF<|eY 0 [u_ 0,u_ v] ?_
 show((.agg #[u_ 0,u_ v]):Value)=(.agg #[u_<|nH v,u_<|nL v])
 unfold nH nL;rw[Int.ediv_eq_zero_of_lt hv.1 hv.2,Int.emod_eq_of_lt hv.1 hv.2]
theorem LJ(a b c:Int):mJ a b c=(a+b+c)%18446744073709551616:=by unfold mJ;rw[IntKind.wrap_u64,IntKind.wrap_u64];omega
theorem LK(ha:0≤a∧a<18446744073709551616)(hb:0≤b∧b<18446744073709551616)(hc:0≤c∧c≤1):je a b c=(a+b+c)/18446744073709551616:=
 Oi ha hb hc (LJ a b c)
theorem B5(a b:Int)(ha:0≤a∧a<iS)(hb:0≤b∧b<iS)(w:World):
  CW 243 #[.agg #[u_<|nH a,u_<|nL a],.agg #[u_<|nH b,u_<|nL b]] w (.tuple #[.agg #[u_<|nH<|(a+b)%340282366920938463463374607431768211456,u_<|nL<|(a+b)%340282366920938463463374607431768211456],b_<|decide (a+b≥340282366920938463463374607431768211456)]):=by
 have a1:=ER ha;have b1:=ER hb;have a2:=ES a;have b2:=ES b
 have h:=wX ⟨nH a,nL a⟩ ⟨nH b,nL b⟩ w
 have c0:=LK a2 b2 (c:=0)<|by omega
 have c1:=LK a1 b1 (c:=(nL a+nL b+0)/18446744073709551616)<|by omega
 simp only[gf,tB,c0,c1,LJ] at h
 rw[show(nH a+nH b+(nL a+nL b+0)/18446744073709551616)%18446744073709551616=nH ((a+b)%340282366920938463463374607431768211456) by unfold nH nL;unfold iS at*;omega,show(nL a+nL b+0)%18446744073709551616=nL ((a+b)%340282366920938463463374607431768211456) by unfold nL;omega,show((nH a+nH b+(nL a+nL b+0)/18446744073709551616)/18446744073709551616 !=0)=decide (a+b≥340282366920938463463374607431768211456) by rw[Bool.eq_iff_iff];simp;unfold nH nL;unfold iS at*;omega] at h
 exact h
theorem Oj(a b:Int)(ha:0≤a∧a<iS)(hb:0≤b∧b<iS)(w:World):
  CW 229 #[.agg #[u_<|nH a,u_<|nL a],.agg #[u_<|nH b,u_<|nL b]] w (i_<|tC a b):=by
 have h:=Ec ⟨nH a,nL a⟩ ⟨nH b,nL b⟩ w
 rw[show n0 ⟨nH a,nL a⟩ ⟨nH b,nL b⟩=tC a b by unfold n0 tC nH nL;unfold iS at*;dsimp only;(repeat' split)<;>omega] at h
 exact h
theorem xr(a b:Int)(ha:0≤a∧a<18446744073709551616)(hb:0≤b∧b<18446744073709551616)(w:World):
  CW 205 #[u_ a,u_ b] w (.agg #[u_<|nH<|a*b,u_<|nL<|a*b]):=by
 have e0:=Vi a b ha hb
 have p1:=yR (x:=a%4294967296) (y:=b%4294967296) (by omega) (by omega);have p2:=yR (x:=a/4294967296) (y:=b%4294967296) (by omega) (by omega);have p3:=yR (x:=a%4294967296) (y:=b/4294967296) (by omega) (by omega);have p4:=yR (x:=a/4294967296) (y:=b/4294967296) (by omega)<|by omega
 have h:=rG a b w
 have l:oC a b=a%4294967296*(b%4294967296):=by unfold oC;rw[t1 ha,t1 hb,wrap_u64<|by omega]
 have d:mh a b=a/4294967296*(b%4294967296)+oC a b/4294967296:=by unfold mh;rw[t1 hb,wrap_u64 (e:=a/4294967296*(b%4294967296))<|by omega,wrap_u64<|by omega]
 have r:pw a b=a%4294967296*(b/4294967296)+mh a b%4294967296:=by unfold pw;rw[t1 ha,t1 (x:=mh a b)<|by omega,wrap_u64 (e:=a%4294967296*(b/4294967296))<|by omega,wrap_u64<|by omega]
 rw[show aJ a b=⟨nH<|a*b,nL<|a*b⟩ by
  unfold aJ;rw[t1 (x:=oC a b)<|by omega,Vj (by omega)<|by omega,wrap_u64 (e:=a/4294967296*(b/4294967296))<|by omega,wrap_u64 (e:=_+mh a b/4294967296)<|by omega,wrap_u64<|by omega,e0]
  unfold nH nL;rw[Nm.mk.injEq];omega] at h
 exact h
def sv(a b c t:Int):Int:=if aV a b c=0 then 0 else a*bD t b+c*(t-bD t b)
theorem Ik(ha:0≤a)(hb:0≤b)(hc:0≤c)(h:aV a b c≠0):a≤4294967295∧c≤4294967295∧b≤1048576:=by
 unfold aV at h;split at h
 ·omega
 ·split at h
  ·omega
  ·omega
theorem EZ{p q:Int}(hx:0≤x∧x≤p)(hy:0≤y∧y≤q):0≤x*y∧x*y≤p*q:=
 ⟨Int.mul_nonneg hx.1 hy.1,Int.le_trans (Int.mul_le_mul_of_nonneg_left hy.2 hx.1)<|Int.mul_le_mul_of_nonneg_right hx.2<|Int.le_trans hy.1 hy.2⟩
variable{t:Int}
theorem yA(ha:0≤a)(hb:0≤b)(hc:0≤c)(ht:0≤t∧t<18446744073709551616)(h:aV a b c≠0):
  (0≤bD t b∧bD t b≤t)∧(0≤a*bD t b∧a*bD t b≤4503599626321920)∧0≤c*(t-bD t b)∧c*(t-bD t b)≤79228162495817593515539431425:=by
 obtain⟨h1,h2,h3⟩:=Ik ha hb hc h
 have e:0≤bD t b∧bD t b≤t∧bD t b≤1048576:=by rw[y7];omega
 have p1:=EZ (x:=a) (y:=bD t b) (p:=4294967295) (q:=1048576) ⟨ha,h1⟩ ⟨e.1,e.2.2⟩
 have p2:=EZ (x:=c) (y:=t-bD t b) (p:=4294967295) (q:=18446744073709551615) ⟨hc,h2⟩<|by omega
 exact⟨⟨e.1,e.2.1⟩,⟨p1.1,by omega⟩,p2.1,by omega⟩
theorem zG(ha:0≤a)(hb:0≤b)(hc:0≤c)(ht:0≤t∧t<18446744073709551616):0≤sv a b c t∧sv a b c t≤79228162495822097115165753345:=by
 unfold sv;split
 ·omega
 ·have:=yA ha hb hc ht ‹_›;omega
theorem PS(a b c t:Int)(ha:0≤a∧a<18446744073709551616)(hb:0≤b∧b<18446744073709551616)(hc:0≤c∧c<18446744073709551616)(ht:0≤t∧t<18446744073709551616)(w:World):
  CW 233 #[.agg #[u_ a,u_ b,u_ c],u_ t] w (.agg #[u_<|nH<|sv a b c t,u_<|nL<|sv a b c t]):=by
 refine aU Tryz.func233 rfl (HS.nil w) (aC<|fz [.al,.al] [] (fun b1 b2=>[(2,p_ b1),(4,p_ b2)]) (fun b1 b2=>[aA b1 [u_ a,u_ b,u_ c] 60,aA b2 [u_ 0,u_ 0] 213]) ?_)
 intro b1 b2
 refine aE<|bW [.ld 0,.cq<|b_<|aV a b c !=0] [(10,b_ (!(aV a b c !=0)))] (o1<|qw<|rY a b c)<|aI rfl (fun e1=>?_) (fun e1=>?_)
 ·refine aC<|bU [.st 1] [] []<|aF<|eY 1 [u_ 0,u_ 0] ?_
  show((.agg #[u_ 0,u_ 0]):Value)=(.agg #[u_<|nH<|sv a b c t,u_<|nL<|sv a b c t])
  unfold sv;(rw[if_pos<|by simp_all];rfl)
 refine aP<|aC<|bF [.ld 0] [(5,u_<|bD t b)]<|aE<|j6 [14,15] 17 [aA b1 [u_ a,u_ b,u_ c] 60,aA b2 [u_ 0,u_ 0] 213]<|qQ 3 [.ld 0,.cq<|.agg #[u_<|nH<|a*(bD t b),u_<|nL<|a*(bD t b)],.ld 0,.w<|t-(bD t b),.cq<|.agg #[u_<|nH<|c*(t-(bD t b)),u_<|nL<|c*(t-(bD t b))],.cq<|.tuple #[.agg #[u_<|nH<|((a*(bD t b))+(c*(t-(bD t b))))%340282366920938463463374607431768211456,u_<|nL<|((a*(bD t b))+(c*(t-(bD t b))))%340282366920938463463374607431768211456],b_<|decide ((a*(bD t b))+(c*(t-(bD t b)))≥340282366920938463463374607431768211456)]] (rg 0 14) [(4,p_ b2),(28,.agg #[u_<|nH<|((a*(bD t b))+(c*(t-(bD t b))))%340282366920938463463374607431768211456,u_<|nL<|((a*(bD t b))+(c*(t-(bD t b))))%340282366920938463463374607431768211456]),(29,b_<|decide ((a*(bD t b))+(c*(t-(bD t b)))≥340282366920938463463374607431768211456))] (.refl _) (oc (qo<|fun w s=>xr a (bD t b) ‹_› (by(have h_:=y7 t b;omega)) w)<|oc (wo<|wrap_u64 (e:=t-(bD t b))<|by(have h_:=y7 t b;constructor<;>omega))<|oc (qo<|fun w s=>xr c (t-(bD t b)) ‹_› (by(have h_:=y7 t b;omega)) w)<|o1<|qw<|B5 (a*(bD t b)) (c*(t-(bD t b))) (by(have h_:=yA ha.1 hb.1 hc.1 ht (by simp_all);unfold iS;omega))<|by(have h_:=yA ha.1 hb.1 hc.1 ht (by simp_all);unfold iS;omega)) ?_
 refine fk 14 rfl (mL 6 [u_ 0,u_ 0] (by kernel_rfl) rfl (by kernel_rfl) (fun b3=>[aA b1 [u_ a,u_ b,u_ c] 60,aA b2 [u_ 0,u_ 0] 213,aA b3 [u_ 0,u_ 0] 213]) (fun _=>rfl) ?_)
 intro b3
 refine ff (sd [2])<|fk 15 rfl (dN 2 [u_<|nH<|((a*(bD t b))+(c*(t-(bD t b))))%340282366920938463463374607431768211456,u_<|nL<|((a*(bD t b))+(c*(t-(bD t b))))%340282366920938463463374607431768211456] rfl (ff (sd [2])<|gq 0 [] [16] [(4,p_ b2),(6,p_ b3)] (sd [2])<|jP<|aC<|bU [.ld 2,.st 1] [(4,p_ b2)] [(1,aA b2 [u_<|nH<|((a*(bD t b))+(c*(t-(bD t b))))%340282366920938463463374607431768211456,u_<|nL<|((a*(bD t b))+(c*(t-(bD t b))))%340282366920938463463374607431768211456] 213)]<|aF<|eY 1 [u_<|nH<|((a*(bD t b))+(c*(t-(bD t b))))%340282366920938463463374607431768211456,u_<|nL<|((a*(bD t b))+(c*(t-(bD t b))))%340282366920938463463374607431768211456] ?_))
 show((.agg #[u_<|nH<|((a*(bD t b))+(c*(t-(bD t b))))%340282366920938463463374607431768211456,u_<|nL<|((a*(bD t b))+(c*(t-(bD t b))))%340282366920938463463374607431768211456]):Value)=(.agg #[u_<|nH<|sv a b c t,u_<|nL<|sv a b c t])
 unfold sv;((have h0_:aV a b c≠0:=by simp_all);rw[if_neg h0_];have h_:=yA ha.1 hb.1 hc.1 ht h0_;rw[Int.emod_eq_of_lt (by omega)<|by omega])
def lX(x:Cv):Prop:=(0≤x.ka∧x.ka≤18446744073709551615)∧(0≤x.kb∧x.kb≤18446744073709551615)∧(0≤x.kc∧x.kc≤18446744073709551615)
theorem jC{α:Type}{l:List α}{k:Nat}{x:α}(hx:l[k]? =some x):l.take (k+1)=l.take k++[x]:=by rw[List.take_add_one,hx];rfl
def xG(t:Int)(v:Cv):Int:=sv v.ka v.kb v.kc t
def dc(l:List Cv)(t:Int):Int:=(l.map<|xG t).sum
theorem IK(l:List Cv)(x:Cv)(t:Int):dc (l++[x]) t=dc l t+xG t x:=by unfold dc;simp[List.sum_append]
def ou(st:Bool)(v:Cv):Int:=if aV v.ka v.kb v.kc=0 then 0 else if st&&decide (v.ka>v.kc) then v.ka else v.kc
def dI(st:Bool)(l:List Cv):Int:=(l.map<|ou st).sum
theorem HA(st:Bool)(l:List Cv)(x:Cv):dI st (l++[x])=dI st l+ou st x:=by unfold dI;simp[List.sum_append]
variable{v:Cv}
theorem lR(h:lX v):(0≤v.ka∧v.ka<18446744073709551616)∧(0≤v.kb∧v.kb<18446744073709551616)∧0≤v.kc∧v.kc<18446744073709551616:=by unfold lX at h;omega
theorem Eg{f:Cv→Int}{C:Int}: ∀{l:List Cv},(∀v∈l,0≤f v∧f v≤C)→0≤(l.map f).sum∧(l.map f).sum≤l.length*C
 |[],_=>by simp
 |v::l,h=>by
  have h1:=h v (by simp);have h2:=Eg (l:=l) fun x hx=>h x<|by simp[hx]
  simp only[List.map_cons,List.sum_cons,List.length_cons];rw[Int.natCast_add,Int.add_mul];omega
variable{l:List Cv}
theorem uA(h: ∀v∈l,lX v)(ht:0≤t∧t<18446744073709551616)(hl:l.length≤1000):0≤dc l t∧dc l t≤79228162495822097115165753345000:=by
 obtain⟨h1,h2⟩:=Eg (f:=xG t) (C:=79228162495822097115165753345) (l:=l) fun v hv=>by obtain⟨q1,q2,q3⟩:=lR<|h v hv;exact zG q1.1 q2.1 q3.1 ht
 unfold dc;omega
variable{st:Bool}
theorem DO(h:lX v):0≤ou st v∧ou st v≤4294967295:=by
 obtain⟨q1,q2,q3⟩:=lR h
 unfold ou;split
 ·omega
 ·have:=Ik q1.1 q2.1 q3.1 ‹_›;split<;>omega
theorem tZ(h: ∀v∈l,lX v)(hl:l.length≤1000):0≤dI st l∧dI st l≤4294967295000:=by
 obtain⟨h1,h2⟩:=Eg (f:=ou st) (C:=4294967295) (l:=l) fun v hv=>DO<|h v hv
 unfold dI;omega
theorem Wh(h:aV v.ka v.kb v.kc=0):ou st v=0:=by unfold ou;rw[if_pos h]
theorem Wi(h: ¬aV v.ka v.kb v.kc=0):ou false v=v.kc:=by unfold ou;rw[if_neg h];rfl
theorem qg(h: ∀v∈l,lX v)(k:Nat): ∀v∈l.take k,lX v:=fun v hv=>h v<|List.mem_of_mem_take hv
theorem O8(a b c t:Int)(bt:Nat)(ha:0≤a∧a<18446744073709551616)(hb:0≤b∧b<18446744073709551616)(hc:0≤c∧c<18446744073709551616)(ht:0≤t∧t<18446744073709551616)(w:World)(r0:(aA bt [u_ t] 40).holds w):
  CW 232 #[.agg #[u_ a,u_ b,u_ c],p_ bt] w (.agg #[u_<|nH<|sv a b c t,u_<|nL<|sv a b c t]):=by
 refine aU Tryz.func232 rfl (HS.nil w) (aC<|fz [.al,.al] [] (fun b1 b2=>[(2,p_ b1),(3,p_ b2)]) (fun b1 b2=>[aA b1 [u_ a,u_ b,u_ c] 60,aA b2 [u_ 0,u_ 0] 213]) ?_)
 intro b1 b2
 refine aC<|gA [.ld 0,.rd [u_ t],.cq<|.agg #[u_<|nH<|sv a b c t,u_<|nL<|sv a b c t],.st 1] [] [] [(1,aA b2 [u_<|nH<|sv a b c t,u_<|nL<|sv a b c t] 213)] (oc (ro ⟨bt,0,none⟩ (vs:=[u_ t])<|cB r0 rfl)<|o1<|qo<|fun w s=>PS a b c t ‹_› ‹_› ‹_› ‹_› w)<|aF<|eY 1 [u_<|nH<|sv a b c t,u_<|nL<|sv a b c t] ?_
 rfl
theorem O9(a b c:Int)(ha:0≤a∧a<18446744073709551616)(hb:0≤b∧b<18446744073709551616)(hc:0≤c∧c<18446744073709551616)(w:World):
  CW 234 #[.agg #[u_ a,u_ b,u_ c]] w (.agg #[u_<|nH c,u_<|nL c]):=by
 refine aU Tryz.func234 rfl (HS.nil w) (aC<|fz [.al,.al] [] (fun b1 b2=>[(1,p_ b1),(2,p_ b2)]) (fun b1 b2=>[aA b1 [u_ a,u_ b,u_ c] 60,aA b2 [u_ 0,u_ 0] 213]) ?_)
 intro b1 b2
 refine aC<|gA [.ld 0,.cq<|.agg #[u_<|nH c,u_<|nL c],.st 1] [] [] [(1,aA b2 [u_<|nH c,u_<|nL c] 213)] (o1<|qo<|fun w s=>QU c ‹_› w)<|aF<|eY 1 [u_<|nH c,u_<|nL c] ?_
 rfl
theorem QN(al:bn)(l:List Cv)(cl:Nat)(t:Int)(hl:l.length≤1000)(hR: ∀v∈l,lX v)(ht:0≤t∧t<18446744073709551616)(w:World)(r0:dR w al (V.aQ cZ l)):
  CW 181 #[vS al l cl,u_ t] w (.agg #[u_<|nH<|dc l t,u_<|nL<|dc l t]):=by
 refine aU Tryz.func181 rfl (HS.nil w) (aC<|fz [.al,.al] [] (fun b1 b2=>[(3,p_ b1),(4,p_ b2)]) (fun b1 b2=>[aA b1 [u_ t] 40,aA b2 [u_ 0,u_ 0] 213]) ?_)
 intro b1 b2
 refine aC<|bA 2 [] [(5,vS al l cl),(6,.func (.func 232) #[] #[p_ b1])]<|aG<|dx (some 7) [vS al l cl,.func (.func 232) #[] #[p_ b1]] Tryz.func231 rfl (aC<|dD [.al] [] (fun b3=>[(4,p_ b3)]) (fun b3=>aA b3 [u_ 0,u_ 0] 213) ?_)
 intro b3
 refine aC<|dD [.al] [] (fun b4=>[(5,p_ b4)]) (fun b4=>aA b4 [u_ 0,u_ 0] 213) ?_
 intro b4
 refine aE<|aD [(8,vS al l cl),(9,c_ l.length),(10,i_ 0)]<|aO<|bj 3 (aA b4 [u_<|nH<|dc (l.take 0) t,u_<|nL<|dc (l.take 0) t] 213) rfl (iD<|cc (congrArg u_ (by(simp[dc,dI,nH,nL]):0=(nH<|dc (l.take 0) t)))<|cc (congrArg u_ (by(simp[dc,dI,nH,nL]):0=(nL<|dc (l.take 0) t))) rfl) (eA (σ:=Nat) [] (fun k=>[(10,c_ k)]) [3] (fun k=>[aA b4 [u_<|nH<|dc (l.take k) t,u_<|nL<|dc (l.take k) t] 213]) (fun k=>(k≤l.length)) (fun k=>l.length-k) (0:Nat) (by omega) ?_ ?_)
 ·exact bB [3,0,0,0]
 rintro k hk
 have hk:k≤l.length:=hk
 have hq:=uA (qg hR k) ht (by simp;omega)
 refine aD [(11,b_<|decide ((k:Int)<(l.length:Int)))]<|aE<|aI rfl (fun e1=>?_) (fun e1=>?_)
 ·have p1:=dZ e1
  refine au<|aO<|aC<|ic [.ix] [(12,.pointer<|some<|(aZ al).add (k*3))] (o1<|io (k:Int)<|dh kG (by decide) (bg r0<|by simp[aL])<|by omega) ?_
  obtain⟨x5,hx5⟩: ∃x,(l)[k]? =some x:=⟨_,dA<|by omega⟩
  refine iE [.rd<|cZ x5,.al,.st 4] [] (fun b6=>[(7,p_ b6)]) (fun b6=>[]) (fun b6=>aA b6 (cZ x5) 60) (fun b6=>o1<|ro ((aZ al).add (k*3))<|dY (vs:=(cZ x5)) kG (bg r0<|by simp[aL]) hx5 (Nat.le_of_ble_eq_true rfl) rfl) ?_
  intro b6
  refine bW [.ld 4,.cq<|b_<|aV x5.ka x5.kb x5.kc !=0] [(15,b_<|aV x5.ka x5.kb x5.kc !=0)] (o1<|qw<|rY x5.ka x5.kb x5.kc)<|aI rfl (fun e2=>?_) (fun e2=>?_)
  ·refine bL [8] 9<|cO 1 [.ld 0,.ld 4,.cq<|.agg #[u_<|nH<|sv x5.ka x5.kb x5.kc t,u_<|nL<|sv x5.ka x5.kb x5.kc t],.cq<|.tuple #[.agg #[u_<|nH<|((dc (l.take k) t)+(sv x5.ka x5.kb x5.kc t))%340282366920938463463374607431768211456,u_<|nL<|((dc (l.take k) t)+(sv x5.ka x5.kb x5.kc t))%340282366920938463463374607431768211456],b_<|decide ((dc (l.take k) t)+(sv x5.ka x5.kb x5.kc t)≥340282366920938463463374607431768211456)]] (rg 0 8) [(22,.agg #[u_<|nH<|((dc (l.take k) t)+(sv x5.ka x5.kb x5.kc t))%340282366920938463463374607431768211456,u_<|nL<|((dc (l.take k) t)+(sv x5.ka x5.kb x5.kc t))%340282366920938463463374607431768211456])] (oc (qo<|fun w s=>O8 x5.ka x5.kb x5.kc t b1 (by(obtain⟨q1_,q2_,q3_⟩:=lR<|hR _<|cT ‹_›;exact q1_)) (by(obtain⟨q1_,q2_,q3_⟩:=lR<|hR _<|cT ‹_›;exact q2_)) (by(obtain⟨q1_,q2_,q3_⟩:=lR<|hR _<|cT ‹_›;exact q3_)) ‹_› w (s.mem (i:=1) rfl))<|o1<|qo<|fun w s=>B5 (dc (l.take k) t) (sv x5.ka x5.kb x5.kc t) (by(have h_:=uA (qg hR k) ht (by simp;omega);unfold iS;omega)) (by(obtain⟨q1_,q2_,q3_⟩:=lR<|hR _<|cT ‹_›;(have h1_:=zG q1_.1 q2_.1 q3_.1 ht;unfold iS;omega))) w)<|an 8 rfl (pF 0 (vs:=[u_<|nH<|((dc (l.take k) t)+(sv x5.ka x5.kb x5.kc t))%340282366920938463463374607431768211456,u_<|nL<|((dc (l.take k) t)+(sv x5.ka x5.kb x5.kc t))%340282366920938463463374607431768211456]) [aA b4 [u_<|nH<|((dc (l.take k) t)+(sv x5.ka x5.kb x5.kc t))%340282366920938463463374607431768211456,u_<|nL<|((dc (l.take k) t)+(sv x5.ka x5.kb x5.kc t))%340282366920938463463374607431768211456] 213,aA b1 [u_ t] 40,aA b2 [u_ 0,u_ 0] 213,aA b3 [u_ 0,u_ 0] 213,aA b6 (cZ x5) 60] (by kernel_rfl) rfl rfl rfl rfl (by kernel_rfl) rfl rfl (by kernel_rfl) rfl (cb<|aM<|az [.w<|(k:Int)+1] [(1,.func (.func 232) #[] #[p_ b1]),(4,p_ b3),(5,p_ b4),(8,vS al l cl),(9,c_ l.length),(10,i_<|(k:Int)+1)] (o1<|wj ((k:Int)+1)<|by omega)<|?_))
   have hv7:(((dc (l.take k) t)+(sv x5.ka x5.kb x5.kc t))%340282366920938463463374607431768211456)=(dc (l.take<|k+1) t):=by(rw[jC ‹_›,IK];obtain⟨q1_,q2_,q3_⟩:=lR<|hR _<|cT ‹_›;have h1_:=zG q1_.1 q2_.1 q3_.1 ht;have h2_:=uA (qg hR k) ht (by simp;omega);(unfold xG;exact Int.emod_eq_of_lt (by omega)<|by omega))
   refine bj 0 (aA b4 [u_<|nH<|dc (l.take<|k+1) t,u_<|nL<|dc (l.take<|k+1) t] 213) rfl (iD<|cc (congrArg u_ (by rw[hv7]:(nH<|((dc (l.take k) t)+(sv x5.ka x5.kb x5.kc t))%340282366920938463463374607431768211456)=(nH<|dc (l.take<|k+1) t)))<|cc (congrArg u_ (by rw[hv7]:(nL<|((dc (l.take k) t)+(sv x5.ka x5.kb x5.kc t))%340282366920938463463374607431768211456)=(nL<|dc (l.take<|k+1) t))) rfl) (bC (k+1) (by omega) (by omega) ?_)
   exact bB [0,0,0,0]
  have p2:=e2;try simp only[bQ] at p2
  refine aP<|aM<|az [.w<|(k:Int)+1] [(10,i_<|(k:Int)+1)] (o1<|wj ((k:Int)+1)<|by omega)<|?_
  have hv8:(dc (l.take k) t)=(dc (l.take<|k+1) t):=by(rw[jC ‹_›,IK];obtain⟨q1_,q2_,q3_⟩:=lR<|hR _<|cT ‹_›;have h1_:=zG q1_.1 q2_.1 q3_.1 ht;have h2_:=uA (qg hR k) ht (by simp;omega);(unfold xG sv;rw[if_pos ‹_›];omega))
  refine bj 0 (aA b4 [u_<|nH<|dc (l.take<|k+1) t,u_<|nL<|dc (l.take<|k+1) t] 213) rfl (iD<|cc (congrArg u_ (by rw[hv8]:(nH<|dc (l.take k) t)=(nH<|dc (l.take<|k+1) t)))<|cc (congrArg u_ (by rw[hv8]:(nL<|dc (l.take k) t)=(nL<|dc (l.take<|k+1) t))) rfl) (bC (k+1) (by omega) (by omega) ?_)
  exact bB [0,0,0,0]
 have p1:=ga e1
 refine bR<|aC<|bU [.ld 0,.st 3] [] [(3,aA b3 [u_<|nH<|dc (l.take k) t,u_<|nL<|dc (l.take k) t] 213)]<|aF<|qR [.agg #[u_<|nH<|dc (l.take k) t,u_<|nL<|dc (l.take k) t]] (fun _ w r s=>⟨dU 3 r s,trivial⟩)<|nk (by kernel_rfl)<|jB [aA b1 [u_ t] 40,aA b2 [u_ 0,u_ 0] 213] (sd [3,0])<|bU [.st 1] [(4,p_ b2)] [(1,aA b2 [u_<|nH<|dc (l.take k) t,u_<|nL<|dc (l.take k) t] 213)]<|aF<|gX [.agg #[u_<|nH<|dc (l.take k) t,u_<|nL<|dc (l.take k) t]] (fun _ w r s=>⟨dU 1 r s,trivial⟩) ?_
 show((.agg #[u_<|nH<|dc (l.take k) t,u_<|nL<|dc (l.take k) t]):Value)=(.agg #[u_<|nH<|dc l t,u_<|nL<|dc l t])
 (have hk2:k=l.length:=by omega);subst hk2;rw[List.take_length]
theorem IL(al:bn)(l:List Cv)(cl:Nat)(hl:l.length≤1000)(hR: ∀v∈l,lX v)(w:World)(r0:dR w al (V.aQ cZ l)):
  CW 182 #[vS al l cl] w (.agg #[u_<|nH<|dI false l,u_<|nL<|dI false l]):=by
 refine aU Tryz.func182 rfl (HS.nil w) (aC<|dD [.al] [] (fun b1=>[(2,p_ b1)]) (fun b1=>aA b1 [u_ 0,u_ 0] 213) ?_)
 intro b1
 refine aC<|cP [.p] [(3,vS al l cl)]<|aG<|dx (some 4) [vS al l cl,.func (.func 234) #[] #[]] Tryz.func231 rfl (aC<|dD [.al] [] (fun b2=>[(4,p_ b2)]) (fun b2=>aA b2 [u_ 0,u_ 0] 213) ?_)
 intro b2
 refine aC<|dD [.al] [] (fun b3=>[(5,p_ b3)]) (fun b3=>aA b3 [u_ 0,u_ 0] 213) ?_
 intro b3
 refine aE<|aD [(8,vS al l cl),(9,c_ l.length),(10,i_ 0)]<|aO<|bj 2 (aA b3 [u_<|nH<|dI false<|l.take 0,u_<|nL<|dI false<|l.take 0] 213) rfl (iD<|cc (congrArg u_ (by(simp[dc,dI,nH,nL]):0=(nH<|dI false<|l.take 0)))<|cc (congrArg u_ (by(simp[dc,dI,nH,nL]):0=(nL<|dI false<|l.take 0))) rfl) (eA (σ:=Nat) [] (fun k=>[(10,c_ k)]) [2] (fun k=>[aA b3 [u_<|nH<|dI false<|l.take k,u_<|nL<|dI false<|l.take k] 213]) (fun k=>(k≤l.length)) (fun k=>l.length-k) (0:Nat) (by omega) ?_ ?_)
 ·exact bB [2,0,0]
 rintro k hk
 have hk:k≤l.length:=hk
 have hq:=tZ (st:=false) (qg hR k) (by simp;omega)
 refine aD [(11,b_<|decide ((k:Int)<(l.length:Int)))]<|aE<|aI rfl (fun e1=>?_) (fun e1=>?_)
 ·have p1:=dZ e1
  refine au<|aO<|aC<|ic [.ix] [(12,.pointer<|some<|(aZ al).add (k*3))] (o1<|io (k:Int)<|dh kG (by decide) (bg r0<|by simp[aL])<|by omega) ?_
  obtain⟨x4,hx4⟩: ∃x,(l)[k]? =some x:=⟨_,dA<|by omega⟩
  refine iE [.rd<|cZ x4,.al,.st 3] [] (fun b5=>[(7,p_ b5)]) (fun b5=>[]) (fun b5=>aA b5 (cZ x4) 60) (fun b5=>o1<|ro ((aZ al).add (k*3))<|dY (vs:=(cZ x4)) kG (bg r0<|by simp[aL]) hx4 (Nat.le_of_ble_eq_true rfl) rfl) ?_
  intro b5
  refine bW [.ld 3,.cq<|b_<|aV x4.ka x4.kb x4.kc !=0] [(15,b_<|aV x4.ka x4.kb x4.kc !=0)] (o1<|qw<|rY x4.ka x4.kb x4.kc)<|aI rfl (fun e2=>?_) (fun e2=>?_)
  ·have p2:=e2;try simp only[bQ] at p2
   refine bL [8] 9<|cO 1 [.ld 0,.ld 3,.cq<|.agg #[u_<|nH x4.kc,u_<|nL x4.kc],.cq<|.tuple #[.agg #[u_<|nH<|((dI false<|l.take k)+x4.kc)%340282366920938463463374607431768211456,u_<|nL<|((dI false<|l.take k)+x4.kc)%340282366920938463463374607431768211456],b_<|decide ((dI false<|l.take k)+x4.kc≥340282366920938463463374607431768211456)]] (rg 0 8) [(22,.agg #[u_<|nH<|((dI false<|l.take k)+x4.kc)%340282366920938463463374607431768211456,u_<|nL<|((dI false<|l.take k)+x4.kc)%340282366920938463463374607431768211456])] (oc (qo<|fun w s=>O9 x4.ka x4.kb x4.kc (by(obtain⟨q1_,q2_,q3_⟩:=lR<|hR _<|cT ‹_›;exact q1_)) (by(obtain⟨q1_,q2_,q3_⟩:=lR<|hR _<|cT ‹_›;exact q2_)) (by(obtain⟨q1_,q2_,q3_⟩:=lR<|hR _<|cT ‹_›;exact q3_)) w)<|o1<|qo<|fun w s=>B5 (dI false<|l.take k) x4.kc (by(have h_:=tZ (st:=false) (qg hR k) (by simp;omega);unfold iS;omega)) (by(obtain⟨q1_,q2_,q3_⟩:=lR<|hR _<|cT ‹_›;unfold iS;omega)) w)<|an 8 rfl (pF 0 (vs:=[u_<|nH<|((dI false<|l.take k)+x4.kc)%340282366920938463463374607431768211456,u_<|nL<|((dI false<|l.take k)+x4.kc)%340282366920938463463374607431768211456]) [aA b3 [u_<|nH<|((dI false<|l.take k)+x4.kc)%340282366920938463463374607431768211456,u_<|nL<|((dI false<|l.take k)+x4.kc)%340282366920938463463374607431768211456] 213,aA b1 [u_ 0,u_ 0] 213,aA b2 [u_ 0,u_ 0] 213,aA b5 (cZ x4) 60] (by kernel_rfl) rfl rfl rfl rfl (by kernel_rfl) rfl rfl (by kernel_rfl) rfl (cb<|aM<|az [.w<|(k:Int)+1] [(1,.func (.func 234) #[] #[]),(5,p_ b3),(8,vS al l cl),(9,c_ l.length),(10,i_<|(k:Int)+1)] (o1<|wj ((k:Int)+1)<|by omega)<|?_))
   have hv6:(((dI false<|l.take k)+x4.kc)%340282366920938463463374607431768211456)=(dI false<|l.take<|k+1):=by(rw[jC ‹_›,HA];have hc_:=hR _<|cT ‹_›;obtain⟨q1_,q2_,q3_⟩:=lR hc_;have h1_:=DO (st:=false) hc_;have h2_:=tZ (st:=false) (qg hR k) (by simp;omega);(rw[Wi ‹_›] at h1_⊢;(try rw[if_pos ‹_›] at h1_⊢);(try rw[if_neg (by rw[(by assumption:(st&&_)=false)];decide)] at h1_⊢);(try rw[vl] at h1_⊢);exact Int.emod_eq_of_lt (by omega)<|by omega))
   refine bj 0 (aA b3 [u_<|nH<|dI false<|l.take<|k+1,u_<|nL<|dI false<|l.take<|k+1] 213) rfl (iD<|cc (congrArg u_ (by rw[hv6]:(nH<|((dI false<|l.take k)+x4.kc)%340282366920938463463374607431768211456)=(nH<|dI false<|l.take<|k+1)))<|cc (congrArg u_ (by rw[hv6]:(nL<|((dI false<|l.take k)+x4.kc)%340282366920938463463374607431768211456)=(nL<|dI false<|l.take<|k+1))) rfl) (bC (k+1) (by omega) (by omega) ?_)
   exact bB [0,0,0]
  have p2:=e2;try simp only[bQ] at p2
  refine aP<|aM<|az [.w<|(k:Int)+1] [(10,i_<|(k:Int)+1)] (o1<|wj ((k:Int)+1)<|by omega)<|?_
  have hv7:(dI false<|l.take k)=(dI false<|l.take<|k+1):=by(rw[jC ‹_›,HA];have hc_:=hR _<|cT ‹_›;obtain⟨q1_,q2_,q3_⟩:=lR hc_;have h1_:=DO (st:=false) hc_;have h2_:=tZ (st:=false) (qg hR k) (by simp;omega);(rw[Wh ‹_›];omega))
  refine bj 0 (aA b3 [u_<|nH<|dI false<|l.take<|k+1,u_<|nL<|dI false<|l.take<|k+1] 213) rfl (iD<|cc (congrArg u_ (by rw[hv7]:(nH<|dI false<|l.take k)=(nH<|dI false<|l.take<|k+1)))<|cc (congrArg u_ (by rw[hv7]:(nL<|dI false<|l.take k)=(nL<|dI false<|l.take<|k+1))) rfl) (bC (k+1) (by omega) (by omega) ?_)
  exact bB [0,0,0]
 have p1:=ga e1
 refine bR<|aC<|bU [.ld 0,.st 2] [] [(2,aA b2 [u_<|nH<|dI false<|l.take k,u_<|nL<|dI false<|l.take k] 213)]<|aF<|qR [.agg #[u_<|nH<|dI false<|l.take k,u_<|nL<|dI false<|l.take k]] (fun _ w r s=>⟨dU 2 r s,trivial⟩)<|nk (by kernel_rfl)<|jB [aA b1 [u_ 0,u_ 0] 213] (sd [2,0])<|bU [.st 0] [(2,p_ b1)] [(0,aA b1 [u_<|nH<|dI false<|l.take k,u_<|nL<|dI false<|l.take k] 213)]<|aF<|gX [.agg #[u_<|nH<|dI false<|l.take k,u_<|nL<|dI false<|l.take k]] (fun _ w r s=>⟨dU 0 r s,trivial⟩) ?_
 show((.agg #[u_<|nH<|dI false<|l.take k,u_<|nL<|dI false<|l.take k]):Value)=(.agg #[u_<|nH<|dI false l,u_<|nL<|dI false l])
 (have hk2:k=l.length:=by omega);subst hk2;rw[List.take_length]
end Go.Proofs.YtobgjpigngoggaaGreat
namespace Go.Proofs.YtobgjpigngoggaaGreat
open Go V Go.Sort
def fP(x:Int):List Value:=[(u_ x)]
theorem aR(x:Int):(fP x).length=1:=rfl
theorem vd(x:Int):(fP x).all Value.oneCell'=true:=rfl
abbrev sU(A:bn)(xs:bT)(c:Nat):V.aH:=sl A xs.length c 40 1<|V.aQ fP xs
variable{d:Array Int}{i:Nat}{x:Int}
theorem iR(h:d.toList[i]? =some x):d[i]! =x:=by
 rw[Array.getElem?_toList] at h
 obtain⟨h1,h2⟩:=Array.getElem?_eq_some_iff.1 h
 rw[getElem!_pos d i h1,h2]
variable{j:Nat}{y:Int}
theorem tY(hx:d.toList[i]? =some x)(hy:d.toList[j]? =some y):(d.toList.set i y).set j x=(swp d i j).toList:=by
 unfold swp;rw[iR hx,iR hy];simp[Array.toList_setIfInBounds]
theorem jK(d:Array Int)(i j:Nat):(swp d i j).size=d.size:=swp_size d i j
variable{a:Nat}
theorem QE(hj:a<j)(hx:d.toList[j]? =some x)(hy:d.toList[j-1]? =some y)(h:x<y):insInner ltInt a j d=insInner ltInt a (j-1) (swp d j<|j-1):=by
 obtain⟨k,rfl⟩: ∃k,j=k+1:=⟨j-1,by omega⟩
 rw[Nat.add_sub_cancel] at hy⊢
 rw[insInner,iR hx,iR hy,if_pos];simp[ltInt];omega
theorem QF(h: ¬a<j):insInner ltInt a j d=d:=by
 cases j with
 |zero=>rfl
 |succ k=>rw[insInner,if_neg];simp;omega
theorem OZ(hj:a<j)(hx:d.toList[j]? =some x)(hy:d.toList[j-1]? =some y)(h: ¬x<y):insInner ltInt a j d=d:=by
 obtain⟨k,rfl⟩: ∃k,j=k+1:=⟨j-1,by omega⟩
 rw[Nat.add_sub_cancel] at hy
 rw[insInner,iR hx,iR hy,if_neg];simp[ltInt];omega
variable{b:Nat}
theorem Gx(h:i<b):insOuter ltInt a b i d=insOuter ltInt a b (i+1) (insInner ltInt a i d):=by rw[insOuter,if_pos h]
theorem O0(h: ¬i<b):insOuter ltInt a b i d=d:=by rw[insOuter,if_neg h]
theorem QG(h:i<j):reverseLoop i j d=reverseLoop (i+1) (j-1) (swp d i j):=by rw[reverseLoop,if_pos h]
theorem QH(h: ¬i<j):reverseLoop i j d=d:=by rw[reverseLoop,if_neg h]
variable{s:Nat}
theorem VW(hx:d.toList[b]? =some x)(hy:d.toList[a]? =some y)(h:x<y):order2 ltInt d a b s=(b,a,s+1):=by
 unfold order2;rw[iR hx,iR hy,if_pos];simpa[ltInt] using h
theorem VX(hx:d.toList[b]? =some x)(hy:d.toList[a]? =some y)(h: ¬x<y):order2 ltInt d a b s=(a,b,s):=by
 unfold order2;rw[iR hx,iR hy,if_neg];simpa[ltInt] using h
theorem wQ(n:Nat):(n:Int).tdiv 4=((n/4:Nat):Int):=rfl
theorem VY(n:Nat):(n:Int).tdiv 2=((n/2:Nat):Int):=rfl
theorem VZ(n:Nat):(n:Int).tdiv 8=((n/8:Nat):Int):=rfl
theorem kH(x y:Int)(w:World):
  CW 220 #[u_ x,u_ y] w (b_<|decide (x<y)):=by
 refine aU Tryz.func220 rfl (HS.nil w) (aD []<|aC<|cP [.p] [(5,u_ x)]<|aG<|dx (some 6) [u_ x] Tryz.func256 rfl (aD []<|aD [(2,b_<|x !=x)]<|aF<|dO [b_<|x !=x]<|cP [.p] [(7,b_<|x !=x)]<|iM (x !=x) (fun e1=>?_)<|fun e1=>?_))
 ·exact absurd e1<|by simp
 refine aW 7 (b_ false) (fM e1)<|bF [.sk,.sk,.sk] [(4,b_<|decide (x<y))]<|aF<|bK [b_<|decide (x<y)] ?_
 rfl
theorem O1(al:bn)(d:Array Int)(cl:Nat)(a b:Nat)(hb:a≤b∧b≤d.size)(hS:d.size≤100000):
  CS 272 #[vS al d.toList cl,c_ a,c_ b] [sU al d.toList cl] (fun(d':(Array Int))=>(.tuple #[])) (fun d'=>d'=insertionSort ltInt d a b∧d'.size=d.size) fun d'=>[sU al d'.toList cl]:=by
 intro w hs
 refine aU Tryz.func272 rfl hs (bW [.w ((a+1:Nat):Int)] [(6,c_ (a+1:Nat))] (o1<|wi ((a:Int)+1) ((a+1:Nat):Int)<|by omega)<|aO<|eA (σ:=Nat×(Array Int)) [] (fun(i,d2)=>[(6,c_ i),(0,vS al d2.toList cl)]) [0] (fun(i,d2)=>[sU al d2.toList cl]) (fun(i,d2)=>(insOuter ltInt a b i d2=insertionSort ltInt d a b)∧(d2.size=d.size)) (fun(i,d2)=>b-i) ((a+1:Nat),d) ⟨(by rfl),(by rfl)⟩ ?_ ?_)
 ·exact bB [0]
 rintro⟨i,d2⟩ ⟨he,hz⟩
 refine aE<|aD [(12,b_<|decide ((i:Int)<(b:Int)))]<|aI rfl (fun e1=>?_) (fun e1=>?_)
 ·have p1:=dZ e1
  refine au<|aO<|aD [(7,c_ i)]<|aO<|eA (σ:=Nat×(Array Int)) [] (fun(j,d3)=>[(7,c_ j),(0,vS al d3.toList cl)]) [0] (fun(j,d3)=>[sU al d3.toList cl]) (fun(j,d3)=>(insInner ltInt a j d3=insInner ltInt a i d2)∧(d3.size=d.size)∧(j≤i)) (fun(j,d3)=>j) (i,d2) ⟨(by rfl),(by omega),(by omega)⟩ ?_ ?_
  ·exact bB [0]
  rintro⟨j,d3⟩ ⟨he3,hz3,hj⟩
  refine aE<|aE<|bL [] 15<|cL 11 [] (rg 0 4) [(19,b_<|decide ((j:Int)>(a:Int)))]<|iM (decide ((j:Int)>(a:Int))) (fun e2=>?_)<|fun e2=>?_
  ·have p2:=dZ e2
   refine aW 19 (b_ true) (fM e2) ?_
   obtain⟨x1,hx1⟩: ∃x,(d3.toList)[j]? =some x:=⟨_,dA<|by(simp;omega)⟩
   obtain⟨x2,hx2⟩: ∃x,(d3.toList)[(j-1:Nat)]? =some x:=⟨_,dA<|by(simp;omega)⟩
   refine cO 0 [.ix,.rd [u_ x1],.w ((j-1:Nat):Int),.ix,.rd [u_ x2],.cq<|b_<|decide (x1<x2)] (rg 4 11) [(20,vS al d3.toList cl),(21,c_ j),(22,.pointer<|some<|(aZ al).add (j*1)),(23,u_ x1),(24,vS al d3.toList cl),(25,c_ j),(26,c_ (j-1:Nat)),(27,.pointer<|some<|(aZ al).add ((j-1:Nat)*1)),(28,u_ x2),(29,b_<|decide (x1<x2)),(30,b_<|decide (x1<x2))] (oc (bH 0 j aR rfl (by(simp;omega)))<|oc (dF 0 j [u_ x1] aR rfl hx1)<|oc (wi ((j:Int)-1) ((j-1:Nat):Int)<|by omega)<|oc (bH 0 (j-1:Nat) aR rfl (by(simp;omega)))<|oc (dF 0 (j-1:Nat) [u_ x2] aR rfl hx2)<|o1<|qw<|kH x1 x2)<|dj<|aI rfl (fun e3=>?_) (fun e3=>?_)
   ·have p3:=dZ e3
    refine au<|aO<|bL [15,17] 18<|cO 3 [.w ((j-1:Nat):Int),.w ((j-1:Nat):Int),.ix,.rd [u_ x2],.ix,.rd [u_ x1],.ix] (rg 0 15) [(35,vS al d3.toList cl),(37,c_ (j-1:Nat)),(42,u_ x2),(46,u_ x1),(47,.pointer<|some<|(aZ al).add (j*1))] (oc (wi ((j:Int)-1) ((j-1:Nat):Int)<|by omega)<|oc (wi ((j:Int)-1) ((j-1:Nat):Int)<|by omega)<|oc (bH 0 (j-1:Nat) aR rfl (by(simp;omega)))<|oc (dF 0 (j-1:Nat) [u_ x2] aR rfl hx2)<|oc (bH 0 j aR rfl (by(simp;omega)))<|oc (dF 0 j [u_ x1] aR rfl hx1)<|o1<|bH 0 j aR rfl (by(simp;omega)))<|an 15 rfl (fB 0 j x2 rfl aR (by(simp;omega)) (aW 0 (vS al (d3.toList.set j x2) cl) (cE<|by simp)<|aW 20 (vS al (d3.toList.set j x2) cl) (cE<|by simp)<|aW 24 (vS al (d3.toList.set j x2) cl) (cE<|by simp)<|aW 35 (vS al (d3.toList.set j x2) cl) (cE<|by simp)<|cD<|cO 1 [.ix] [16] [(48,.pointer<|some<|(aZ al).add ((j-1:Nat)*1))] (o1<|bH 0 (j-1:Nat) aR rfl (by(simp;omega)))<|an 17 rfl (fB 0 (j-1:Nat) x1 rfl aR (by(simp;omega)) (aW 0 (vS al ((d3.toList.set j x2).set (j-1:Nat) x1) cl) (cE<|by simp)<|aW 20 (vS al ((d3.toList.set j x2).set (j-1:Nat) x1) cl) (cE<|by simp)<|aW 24 (vS al ((d3.toList.set j x2).set (j-1:Nat) x1) cl) (cE<|by simp)<|cb ?_))))
    have hcv3:((d3.toList.set j x2).set (j-1:Nat) x1)=(swp d3 j (j-1:Nat)).toList:=by exact tY hx1 hx2
    refine bj 0 (sU al ((swp d3 j (j-1:Nat)).toList) cl) rfl (cw hcv3) (aW 0 (vS al ((swp d3 j (j-1:Nat)).toList) cl) (eW hcv3)<|aW 20 (vS al ((swp d3 j (j-1:Nat)).toList) cl) (eW hcv3)<|aW 24 (vS al ((swp d3 j (j-1:Nat)).toList) cl) (eW hcv3)<|aM<|az [.w ((j-1:Nat):Int)] [(7,c_ (j-1:Nat))] (o1<|wi ((j:Int)-1) ((j-1:Nat):Int)<|by omega)<|bC ((j-1:Nat),swp d3 j (j-1:Nat)) ⟨((QE (by omega) ‹_› ‹_› (by omega)).symm.trans he3),(by(rw[jK];omega)),(by omega)⟩ (by(simp;omega)) ?_)
    exact bB [0]
   have p3:=ga e3
   refine bR<|aM<|az [.w ((i+1:Nat):Int)] [(6,c_ (i+1:Nat))] (o1<|wi ((i:Int)+1) ((i+1:Nat):Int)<|by omega)<|bC ((i+1:Nat),d3) ⟨(by exact(by rw[Gx<|by omega] at he;(rw[←he3,OZ (by omega) ‹_› ‹_› (by omega)] at he;exact he))),(by omega)⟩ (by(simp;omega)) ?_
   exact bB [0]
  have p2:=ga e2
  refine aW 19 (b_ false) (fM e2)<|cL 0 [.sk,.sk,.sk,.sk,.sk,.sk,.sk,.sk,.sk,.sk] (rg 4 11) [(30,b_ false)]<|dj<|bY<|bR<|aM<|az [.w ((i+1:Nat):Int)] [(6,c_ (i+1:Nat))] (o1<|wi ((i:Int)+1) ((i+1:Nat):Int)<|by omega)<|bC ((i+1:Nat),d3) ⟨(by exact(by rw[Gx<|by omega] at he;(rw[←he3,QF<|by omega] at he;exact he))),(by omega)⟩ (by(simp;omega)) ?_
  exact bB [0]
 have p1:=ga e1
 refine bR<|jk [0] [] (fun _ w r s=>trivial) (d2) ?_ ?_<|by kernel_rfl
 ·rfl
 (rw[O0<|by omega] at he;exact⟨he,hz⟩)
theorem O2(al:bn)(d:Array Int)(cl:Nat)(a b:Nat)(hb:b≤d.size∧1≤b)(hS:d.size≤100000):
  CS 276 #[vS al d.toList cl,c_ a,c_ b] [sU al d.toList cl] (fun(d':(Array Int))=>(.tuple #[])) (fun d'=>d'=reverseRange d a b∧d'.size=d.size) fun d'=>[sU al d'.toList cl]:=by
 intro w hs
 refine aU Tryz.func276 rfl hs (aD [(6,c_ a)]<|bW [.w ((b-1:Nat):Int)] [(7,c_ (b-1:Nat))] (o1<|wi ((b:Int)-1) ((b-1:Nat):Int)<|by omega)<|aO<|eA (σ:=Nat×Nat×(Array Int)) [] (fun(i,j,d2)=>[(6,c_ i),(7,c_ j),(0,vS al d2.toList cl)]) [0] (fun(i,j,d2)=>[sU al d2.toList cl]) (fun(i,j,d2)=>(reverseLoop i j d2=reverseRange d a b)∧(d2.size=d.size)∧(j<b)) (fun(i,j,d2)=>j-i) (a,(b-1:Nat),d) ⟨(by rfl),(by rfl),(by omega)⟩ ?_ ?_)
 ·exact bB [0]
 rintro⟨i,j,d2⟩ ⟨he,hz,hj⟩
 refine aE<|aD [(13,b_<|decide ((i:Int)<(j:Int)))]<|aI rfl (fun e1=>?_) (fun e1=>?_)
 ·have p1:=dZ e1
  refine aP<|aO<|aE<|bL [13,15] 16 ?_
  obtain⟨x1,hx1⟩: ∃x,(d2.toList)[j]? =some x:=⟨_,dA<|by(simp;omega)⟩
  obtain⟨x2,hx2⟩: ∃x,(d2.toList)[i]? =some x:=⟨_,dA<|by(simp;omega)⟩
  refine cO 3 [.ix,.rd [u_ x1],.ix,.rd [u_ x2],.ix] (rg 0 13) [(16,vS al d2.toList cl),(17,c_ j),(21,u_ x1),(25,u_ x2),(26,.pointer<|some<|(aZ al).add (i*1))] (oc (bH 0 j aR rfl (by(simp;omega)))<|oc (dF 0 j [u_ x1] aR rfl hx1)<|oc (bH 0 i aR rfl (by(simp;omega)))<|oc (dF 0 i [u_ x2] aR rfl hx2)<|o1<|bH 0 i aR rfl (by(simp;omega)))<|an 13 rfl (fB 0 i x1 rfl aR (by(simp;omega)) (aW 0 (vS al (d2.toList.set i x1) cl) (cE<|by simp)<|aW 16 (vS al (d2.toList.set i x1) cl) (cE<|by simp)<|cD<|cO 1 [.ix] [14] [(27,.pointer<|some<|(aZ al).add (j*1))] (o1<|bH 0 j aR rfl (by(simp;omega)))<|an 15 rfl (fB 0 j x2 rfl aR (by(simp;omega)) (aW 0 (vS al ((d2.toList.set i x1).set j x2) cl) (cE<|by simp)<|cb ?_))))
  have hcv3:((d2.toList.set i x1).set j x2)=(swp d2 i j).toList:=by exact tY hx2 hx1
  refine bj 0 (sU al ((swp d2 i j).toList) cl) rfl (cw hcv3) (aW 0 (vS al ((swp d2 i j).toList) cl) (eW hcv3)<|bW [.w ((i+1:Nat):Int)] [(6,c_ (i+1:Nat))] (o1<|wi ((i:Int)+1) ((i+1:Nat):Int)<|by omega)<|aM<|az [.w ((j-1:Nat):Int)] [(7,c_ (j-1:Nat))] (o1<|wi ((j:Int)-1) ((j-1:Nat):Int)<|by omega)<|(bC ((i+1:Nat),(j-1:Nat),swp d2 i j) ⟨(by(rw[QG<|by omega] at he;exact he)),(by(rw[jK];omega)),(by omega)⟩ (by(simp;omega)) ?_))
  exact bB [0]
 have p1:=ga e1
 refine bR<|jk [0] [] (fun _ w r s=>trivial) (d2) ?_ ?_<|by kernel_rfl
 ·rfl
 (rw[QH<|by omega] at he;exact⟨he,hz⟩)
abbrev pS(p0)(p1:Array Int)(p2)(p3)(p4):=([sU p0 p1.toList p2,aA p3 [c_ p4] 3]:List V.aH)
theorem BZ(al:bn)(d:Array Int)(cl:Nat)(a b bs s:Nat)(ha:a<d.size)(hb:b<d.size)(hS:d.size≤100000)(hs9:s≤100)(w:World)(hs:HI w (pS al d cl bs s)):
  CV 287 #[vS al d.toList cl,c_ a,c_ b,p_ bs] w (pS al d cl bs s) (fun((x',y',t'):Nat×Nat×Nat)=>(.tuple #[c_ x',c_ y'])) (fun(x',y',t')=>order2 ltInt d a b s=(x',y',t')) fun(x',y',t')=>(pS al d cl bs t'):=by
 refine aU Tryz.func287 rfl hs (aD []<|aE<|aE ?_)
 obtain⟨x1,hx1⟩: ∃x,(d.toList)[b]? =some x:=⟨_,dA<|by omega⟩
 obtain⟨x2,hx2⟩: ∃x,(d.toList)[a]? =some x:=⟨_,dA<|by omega⟩
 refine fS [.ix,.rd [u_ x1],.ix,.rd [u_ x2],.cq<|b_<|decide (x1<x2)] (rg 0 9) [] [(18,b_<|decide (x1<x2))] (oc (bH 0 b aR rfl (by omega))<|oc (dF 0 b [u_ x1] aR rfl hx1)<|oc (bH 0 a aR rfl (by omega))<|oc (dF 0 a [u_ x2] aR rfl hx2)<|o1<|qw<|kH x1 x2)<|aI rfl (fun e1=>?_) (fun e1=>?_)
 ·have p1:=dZ e1
  refine aC<|gA [.ld 1,.w ((s+1:Nat):Int),.st 1] [] [] [(1,aA bs [c_ (s+1:Nat)] 3)] (o1<|wi ((s:Int)+1) ((s+1:Nat):Int)<|by omega)<|aD [(8,c_ b),(9,c_ a)]<|aF<|bJ [0,0] [c_ b,c_ a] (b,a,(s+1:Nat)) ?_ ?_
  ·rfl
  exact VW ‹_› ‹_› (by omega)
 have p1:=ga e1
 refine aP<|aD [(8,c_ a),(9,c_ b)]<|aF<|bJ [0,0] [c_ a,c_ b] (a,b,s) ?_ ?_
 ·rfl
 exact VX ‹_› ‹_› (by omega)
theorem CE(al:bn)(d:Array Int)(cl:Nat)(a b c bs s:Nat)(ha:a<d.size)(hb:b<d.size)(hc:c<d.size)(hS:d.size≤100000)(hs9:s≤90)(w:World)(hs:HI w (pS al d cl bs s)):
  CV 286 #[vS al d.toList cl,c_ a,c_ b,c_ c,p_ bs] w (pS al d cl bs s) (fun((m',t'):Nat×Nat)=>(c_ m')) (fun(m',t')=>median ltInt d a b c s=(m',t')) fun(m',t')=>(pS al d cl bs t'):=by
 refine aU Tryz.func286 rfl hs (aD []<|aC<|bA 4 [] [(12,vS al d.toList cl),(13,c_ a),(14,c_ b),(15,p_ bs)]<|aG<|bM (some 16) [0,0] (BZ al d cl a b bs s ‹_› ‹_› ‹_› (by omega)) ?_)
 rintro⟨x'1,y'2,t'3⟩ hz1
 have hz1m:=order2_mem ltInt d a b s;rw[hz1] at hz1m;simp only[] at hz1m;have hz1c:=order2_count (lt:=ltInt) d a b s;rw[hz1] at hz1c;simp only[] at hz1c
 refine dV [] [12,13,14,15,16] [(1,c_ x'1),(2,c_ y'2)]<|aC<|fg (ps 4) [3] [(20,vS al d.toList cl),(21,c_ y'2),(22,c_ c),(23,p_ bs)]<|aG<|bM (some 24) [0,0] (BZ al d cl y'2 c bs t'3 (by omega) ‹_› ‹_› (by omega)) ?_
 rintro⟨x'4,y'5,t'6⟩ hz2
 have hz2m:=order2_mem ltInt d y'2 c t'3;rw[hz2] at hz2m;simp only[] at hz2m;have hz2c:=order2_count (lt:=ltInt) d y'2 c t'3;rw[hz2] at hz2c;simp only[] at hz2c
 refine dV [] [20,21,22,23,24] [(2,c_ x'4)]<|aC<|fg (ps 4) [0,1,4] [(28,vS al d.toList cl),(29,c_ x'1),(30,c_ x'4),(31,p_ bs)]<|aG<|bM (some 32) [0,0] (BZ al d cl x'1 x'4 bs t'6 (by omega) (by omega) ‹_› (by omega)) ?_
 rintro⟨x'7,y'8,t'9⟩ hz3
 have hz3m:=order2_mem ltInt d x'1 x'4 t'6;rw[hz3] at hz3m;simp only[] at hz3m;have hz3c:=order2_count (lt:=ltInt) d x'1 x'4 t'6;rw[hz3] at hz3c;simp only[] at hz3c
 refine ak [(2,c_ y'8)]<|aD [(10,c_ y'8)]<|aF<|bJ [0,0] [c_ y'8] (y'8,t'9) ?_ ?_
 ·rfl
 (unfold median;simp only[*])
theorem B0(al:bn)(d:Array Int)(cl:Nat)(a bs s:Nat)(ha:1≤a∧a+1<d.size)(hS:d.size≤100000)(hs9:s≤90)(w:World)(hs:HI w (pS al d cl bs s)):
  CV 285 #[vS al d.toList cl,c_ a,p_ bs] w (pS al d cl bs s) (fun((m',t'):Nat×Nat)=>(c_ m')) (fun(m',t')=>medianAdjacent ltInt d a s=(m',t')) fun(m',t')=>(pS al d cl bs t'):=by
 refine aU Tryz.func285 rfl hs (aD []<|aC<|dm 7 [.w ((a-1:Nat):Int),.w ((a+1:Nat):Int)] [(7,vS al d.toList cl),(9,c_ (a-1:Nat)),(10,c_ a),(12,c_ (a+1:Nat)),(13,p_ bs)] (oc (wi ((a:Int)-1) ((a-1:Nat):Int)<|by omega)<|o1<|wi ((a:Int)+1) ((a+1:Nat):Int)<|by omega)<|aG<|bM (some 14) [0,0] (CE al d cl (a-1:Nat) a (a+1:Nat) bs s (by omega) (by omega) (by omega) ‹_› ‹_›) ?_)
 rintro⟨m'1,t'2⟩ hz1
 have hz1m:=median_mem ltInt d (a-1:Nat) a (a+1:Nat) s;rw[hz1] at hz1m;simp only[] at hz1m;have hz1c:=median_count (lt:=ltInt) d (a-1:Nat) a (a+1:Nat) s;rw[hz1] at hz1c;simp only[] at hz1c
 refine ak [(6,c_ m'1)]<|aF<|bJ [0,0] [c_ m'1] (m'1,t'2) ?_ ?_
 ·rfl
 (unfold medianAdjacent;assumption)
variable{hi F r:Nat}
theorem O3(h:hi≤2*r+1):siftDown ltInt hi F r d=d:=by rw[siftDown,dif_pos<|by omega]
variable{c q2:Nat}{y2 z:Int}
theorem SD{p q:Nat}(hc:c=2*r+2)(h:c<hi)(h1:d.toList[p]? =some x)(hp:p=F+(2*r+1))(h2:d.toList[q]? =some y)(hq:q=F+(2*r+1)+1)(hlt:x<y)
  (h3:d.toList[s]? =some z)(hs:s=F+r)(h4:d.toList[q2]? =some y2)(hq2:q2=F+c)(hlt2:z<y2):siftDown ltInt hi F r d=siftDown ltInt hi F c (swp d s q2):=by
 have e:q2=q:=by omega
 have ey:y2=y:=by rw[e,h2] at h4;cases h4;rfl
 subst hp;subst hc
 rw[siftDown,dif_neg<|by omega,if_pos (by rw[iR h1];rw[←hq,iR h2];simp[ltInt];omega),if_neg (by rw[←hs,iR h3,←hq2,iR h4];simp[ltInt];omega),dif_pos<|by omega,hs,hq2]
theorem SE{p q:Nat}(hc:c=2*r+2)(h:c<hi)(h1:d.toList[p]? =some x)(hp:p=F+(2*r+1))(h2:d.toList[q]? =some y)(hq:q=F+(2*r+1)+1)(hlt:x<y)
  (h3:d.toList[s]? =some z)(hs:s=F+r)(h4:d.toList[q2]? =some y2)(hq2:q2=F+c)(hlt2: ¬z<y2):siftDown ltInt hi F r d=d:=by
 have e:q2=q:=by omega
 have ey:y2=y:=by rw[e,h2] at h4;cases h4;rfl
 subst hp;subst hc
 rw[siftDown,dif_neg<|by omega,if_pos (by rw[iR h1];rw[←hq,iR h2];simp[ltInt];omega),if_pos (by rw[←hs,iR h3,←hq2,iR h4];simp[ltInt];omega)]
theorem J1(hc:c=2*r+1)(h:c<hi)(hn: ¬(c+1<hi)∨ ∃p q x y,d.toList[p]? =some x∧p=F+(2*r+1)∧d.toList[q]? =some y∧q=F+(2*r+1)+1∧ ¬x<y)
  (h3:d.toList[s]? =some z)(hs:s=F+r)(h4:d.toList[q2]? =some y2)(hq2:q2=F+c)(hlt2:z<y2):siftDown ltInt hi F r d=siftDown ltInt hi F c (swp d s q2):=by
 subst hc
 have hk:(decide (2*r+1+1<hi)&&ltInt d[F+(2*r+1)]! d[F+(2*r+1)+1]!)=false:=by
  rcases hn with g|⟨p,q,x,y,g1,rfl,g2,g3,g4⟩
  ·simp[g]
  ·rw[iR g1,←g3,iR g2];simp[ltInt];intro _;omega
 rw[siftDown,dif_neg<|by omega,if_neg (by rw[hk];decide),if_neg (by rw[←hs,iR h3,←hq2,iR h4];simp[ltInt];omega),hs,hq2]
theorem J2(hc:c=2*r+1)(h:c<hi)(hn: ¬(c+1<hi)∨ ∃p q x y,d.toList[p]? =some x∧p=F+(2*r+1)∧d.toList[q]? =some y∧q=F+(2*r+1)+1∧ ¬x<y)
  (h3:d.toList[s]? =some z)(hs:s=F+r)(h4:d.toList[q2]? =some y2)(hq2:q2=F+c)(hlt2: ¬z<y2):siftDown ltInt hi F r d=d:=by
 subst hc
 have hk:(decide (2*r+1+1<hi)&&ltInt d[F+(2*r+1)]! d[F+(2*r+1)+1]!)=false:=by
  rcases hn with g|⟨p,q,x,y,g1,rfl,g2,g3,g4⟩
  ·simp[g]
  ·rw[iR g1,←g3,iR g2];simp[ltInt];intro _;omega
 rw[siftDown,dif_neg<|by omega,if_neg (by rw[hk];decide),if_pos (by rw[←hs,iR h3,←hq2,iR h4];simp[ltInt];omega)]
variable{k:Nat}
theorem SG(h:1≤k):heapBuild ltInt hi F k d=heapBuild ltInt hi F (k-1) (siftDown ltInt hi F (k-1) d):=by
 obtain⟨j,rfl⟩: ∃j,k=j+1:=⟨k-1,by omega⟩
 rfl
theorem SH(h:1≤k):heapPop ltInt F k d=heapPop ltInt F (k-1) (siftDown ltInt (k-1) F 0<|swp d F<|F+(k-1)):=by
 obtain⟨j,rfl⟩: ∃j,k=j+1:=⟨k-1,by omega⟩
 rfl
theorem QJ(al:bn)(d:Array Int)(cl:Nat)(a b:Nat)(hb:a<b∧b≤d.size)(hS:d.size≤100000):
  CS 275 #[vS al d.toList cl,c_ a,c_ b] [sU al d.toList cl] (fun(zz:Unit)=>(.tuple #[i_ ((rawPivot ltInt d a b).1:Int),i_<|hintCode<|hintOf (rawPivot ltInt d a b).2])) (fun _=>True) fun _=>[sU al d.toList cl]:=by
 intro w hs
 refine aU Tryz.func275 rfl hs (aD []<|bW [.w ((b-a:Nat):Int)] [(8,c_ (b-a:Nat))] (o1<|wi ((b:Int)-(a:Int)) ((b-a:Nat):Int)<|by omega)<|aC<|dD [.al] [] (fun b1=>[(9,p_ b1)]) (fun b1=>aA b1 [i_ 0] 3) ?_)
 intro b1
 refine bW [.w (((b-a)/4:Nat):Int),.w ((((b-a)/4)*1:Nat):Int),.w ((a+(((b-a)/4)*1):Nat):Int)] [(10,c_ (a+(((b-a)/4)*1):Nat))] (oc (wo<|(j8 (e:=((b-a:Nat):Int).tdiv 4)<|by(rw[wQ];constructor<;>omega)).trans (by rfl:(((b-a:Nat):Int).tdiv 4:Int)=(((b-a)/4:Nat):Int)))<|oc (wi ((((b-a)/4:Nat):Int)*1) ((((b-a)/4)*1:Nat):Int)<|by omega)<|o1<|wi ((a:Int)+((((b-a)/4)*1:Nat):Int)) ((a+(((b-a)/4)*1):Nat):Int)<|by omega) ?_
 refine bW [.w (((b-a)/4:Nat):Int),.w ((((b-a)/4)*2:Nat):Int),.w ((a+(((b-a)/4)*2):Nat):Int)] [(11,c_ (a+(((b-a)/4)*2):Nat))] (oc (wo<|(j8 (e:=((b-a:Nat):Int).tdiv 4)<|by(rw[wQ];constructor<;>omega)).trans (by rfl:(((b-a:Nat):Int).tdiv 4:Int)=(((b-a)/4:Nat):Int)))<|oc (wi ((((b-a)/4:Nat):Int)*2) ((((b-a)/4)*2:Nat):Int)<|by omega)<|o1<|wi ((a:Int)+((((b-a)/4)*2:Nat):Int)) ((a+(((b-a)/4)*2):Nat):Int)<|by omega) ?_
 refine bW [.w (((b-a)/4:Nat):Int),.w ((((b-a)/4)*3:Nat):Int),.w ((a+(((b-a)/4)*3):Nat):Int)] [(12,c_ (a+(((b-a)/4)*3):Nat))] (oc (wo<|(j8 (e:=((b-a:Nat):Int).tdiv 4)<|by(rw[wQ];constructor<;>omega)).trans (by rfl:(((b-a:Nat):Int).tdiv 4:Int)=(((b-a)/4:Nat):Int)))<|oc (wi ((((b-a)/4:Nat):Int)*3) ((((b-a)/4)*3:Nat):Int)<|by omega)<|o1<|wi ((a:Int)+((((b-a)/4)*3:Nat):Int)) ((a+(((b-a)/4)*3):Nat):Int)<|by omega) ?_
 refine aE<|aD [(32,b_<|decide (((b-a:Nat):Int)≥8))]<|aI rfl (fun e1=>?_) (fun e1=>?_)
 ·have p1:=dZ e1
  refine aE<|aD [(34,b_<|decide (((b-a:Nat):Int)≥50))]<|aI rfl (fun e2=>?_) (fun e2=>?_)
  ·have p2:=dZ e2
   refine aC<|bA 2 [] [(35,vS al d.toList cl),(36,c_ (a+(((b-a)/4)*1):Nat))]<|aG<|bM (some 37) [0,0] (B0 al d cl (a+(((b-a)/4)*1):Nat) b1 0 (by omega) ‹_› (by omega)) ?_
   rintro⟨m'2,t'3⟩ hz3
   have hz3m:=medianAdjacent_mem ltInt d (a+(((b-a)/4)*1):Nat) 0;rw[hz3] at hz3m;simp only[] at hz3m;have hz3c:=medianAdjacent_count (lt:=ltInt) d (a+(((b-a)/4)*1):Nat) 0;rw[hz3] at hz3c;simp only[] at hz3c
   refine ak [(10,c_ m'2)]<|aC<|bA 2 [] [(38,vS al d.toList cl),(39,c_ (a+(((b-a)/4)*2):Nat))]<|aG<|bM (some 40) [0,0] (B0 al d cl (a+(((b-a)/4)*2):Nat) b1 t'3 (by omega) ‹_› (by omega)) ?_
   rintro⟨m'4,t'5⟩ hz4
   have hz4m:=medianAdjacent_mem ltInt d (a+(((b-a)/4)*2):Nat) t'3;rw[hz4] at hz4m;simp only[] at hz4m;have hz4c:=medianAdjacent_count (lt:=ltInt) d (a+(((b-a)/4)*2):Nat) t'3;rw[hz4] at hz4c;simp only[] at hz4c
   refine ak [(11,c_ m'4)]<|aM<|bA 2 [] [(41,vS al d.toList cl),(42,c_ (a+(((b-a)/4)*3):Nat))]<|aG<|bM (some 43) [0,0] (B0 al d cl (a+(((b-a)/4)*3):Nat) b1 t'5 (by omega) ‹_› (by omega)) ?_
   rintro⟨m'6,t'7⟩ hz5
   have hz5m:=medianAdjacent_mem ltInt d (a+(((b-a)/4)*3):Nat) t'5;rw[hz5] at hz5m;simp only[] at hz5m;have hz5c:=medianAdjacent_count (lt:=ltInt) d (a+(((b-a)/4)*3):Nat) t'5;rw[hz5] at hz5c;simp only[] at hz5c
   refine ak [(12,c_ m'6)]<|aM<|bA 4 [] [(9,p_ b1),(11,c_ m'4),(44,vS al d.toList cl),(45,c_ m'2),(46,c_ m'4),(47,c_ m'6)]<|aG<|bM (some 48) [0,0] (CE al d cl m'2 m'4 m'6 b1 t'7 (by omega) (by omega) (by omega) ‹_› (by omega)) ?_
   rintro⟨m'8,t'9⟩ hz6
   have hz6m:=median_mem ltInt d m'2 m'4 m'6 t'7;rw[hz6] at hz6m;simp only[] at hz6m;have hz6c:=median_count (lt:=ltInt) d m'2 m'4 m'6 t'7;rw[hz6] at hz6c;simp only[] at hz6c
   refine ak [(11,c_ m'8)]<|aC<|bF [.ld 1] [(49,c_ t'9)]<|aO<|aD [(51,b_<|(t'9:Int)==0)]<|aI rfl (fun e7=>?_) (fun e7=>?_)
   ·have p7:=e7;try simp only[bQ] at p7
    refine aD [(6,c_ m'8),(7,i_ 1)]<|aF<|bJ [0] [c_ m'8,i_ 1] () ?_ ?_
    ·show((.tuple #[c_ m'8,i_ 1]):Value)=(.tuple #[i_ ((rawPivot ltInt d a b).1:Int),i_<|hintCode<|hintOf (rawPivot ltInt d a b).2])
     have hr_:rawPivot ltInt d a b=(m'8,t'9):=(by unfold rawPivot;(rw[if_pos<|by omega,if_pos<|by omega];simp only[*];done));rw[hr_];have hh_:hintCode (hintOf t'9)=1:=(by unfold hintOf;rw[if_pos<|by omega];rfl);simp only[];rw[hh_]
    trivial
   have p7:=e7;try simp only[bQ] at p7
   refine aD [(54,b_<|(t'9:Int)==12)]<|aI rfl (fun e8=>?_) (fun e8=>?_)
   ·have p8:=e8;try simp only[bQ] at p8
    refine aD [(6,c_ m'8),(7,i_ 2)]<|aF<|bJ [0] [c_ m'8,i_ 2] () ?_ ?_
    ·show((.tuple #[c_ m'8,i_ 2]):Value)=(.tuple #[i_ ((rawPivot ltInt d a b).1:Int),i_<|hintCode<|hintOf (rawPivot ltInt d a b).2])
     have hr_:rawPivot ltInt d a b=(m'8,t'9):=(by unfold rawPivot;(rw[if_pos<|by omega,if_pos<|by omega];simp only[*];done));rw[hr_];have hh_:hintCode (hintOf t'9)=2:=(by unfold hintOf;rw[if_neg<|by omega,if_pos<|by omega];rfl);simp only[];rw[hh_]
    trivial
   have p8:=e8;try simp only[bQ] at p8
   refine aD [(6,c_ m'8),(7,i_ 0)]<|aF<|bJ [0] [c_ m'8,i_ 0] () ?_ ?_
   ·show((.tuple #[c_ m'8,i_ 0]):Value)=(.tuple #[i_ ((rawPivot ltInt d a b).1:Int),i_<|hintCode<|hintOf (rawPivot ltInt d a b).2])
    have hr_:rawPivot ltInt d a b=(m'8,t'9):=(by unfold rawPivot;(rw[if_pos<|by omega,if_pos<|by omega];simp only[*];done));rw[hr_];have hh_:hintCode (hintOf t'9)=0:=(by unfold hintOf;rw[if_neg<|by omega,if_neg<|by omega];rfl);simp only[];rw[hh_]
   trivial
  have p2:=ga e2
  refine aP<|aM<|bA 4 [] [(44,vS al d.toList cl),(45,c_ (a+(((b-a)/4)*1):Nat)),(46,c_ (a+(((b-a)/4)*2):Nat)),(47,c_ (a+(((b-a)/4)*3):Nat))]<|aG<|bM (some 48) [0,0] (CE al d cl (a+(((b-a)/4)*1):Nat) (a+(((b-a)/4)*2):Nat) (a+(((b-a)/4)*3):Nat) b1 0 (by omega) (by omega) (by omega) ‹_› (by omega)) ?_
  rintro⟨m'10,t'11⟩ hz9
  have hz9m:=median_mem ltInt d (a+(((b-a)/4)*1):Nat) (a+(((b-a)/4)*2):Nat) (a+(((b-a)/4)*3):Nat) 0;rw[hz9] at hz9m;simp only[] at hz9m;have hz9c:=median_count (lt:=ltInt) d (a+(((b-a)/4)*1):Nat) (a+(((b-a)/4)*2):Nat) (a+(((b-a)/4)*3):Nat) 0;rw[hz9] at hz9c;simp only[] at hz9c
  refine ak [(11,c_ m'10)]<|aC<|bF [.ld 1] [(49,c_ t'11)]<|aO<|aD [(51,b_<|(t'11:Int)==0)]<|aI rfl (fun e10=>?_) (fun e10=>?_)
  ·have p10:=e10;try simp only[bQ] at p10
   refine aD [(6,c_ m'10),(7,i_ 1)]<|aF<|bJ [0] [c_ m'10,i_ 1] () ?_ ?_
   ·show((.tuple #[c_ m'10,i_ 1]):Value)=(.tuple #[i_ ((rawPivot ltInt d a b).1:Int),i_<|hintCode<|hintOf (rawPivot ltInt d a b).2])
    have hr_:rawPivot ltInt d a b=(m'10,t'11):=(by unfold rawPivot;(rw[if_pos<|by omega,if_neg<|by omega];simp only[*];done));rw[hr_];have hh_:hintCode (hintOf t'11)=1:=(by unfold hintOf;rw[if_pos<|by omega];rfl);simp only[];rw[hh_]
   trivial
  have p10:=e10;try simp only[bQ] at p10
  refine aD [(54,b_<|(t'11:Int)==12)]<|aI rfl (fun e11=>?_) (fun e11=>?_)
  ·have p11:=e11;try simp only[bQ] at p11
   refine aD [(6,c_ m'10),(7,i_ 2)]<|aF<|bJ [0] [c_ m'10,i_ 2] () ?_ ?_
   ·show((.tuple #[c_ m'10,i_ 2]):Value)=(.tuple #[i_ ((rawPivot ltInt d a b).1:Int),i_<|hintCode<|hintOf (rawPivot ltInt d a b).2])
    have hr_:rawPivot ltInt d a b=(m'10,t'11):=(by unfold rawPivot;(rw[if_pos<|by omega,if_neg<|by omega];simp only[*];done));rw[hr_];have hh_:hintCode (hintOf t'11)=2:=(by unfold hintOf;rw[if_neg<|by omega,if_pos<|by omega];rfl);simp only[];rw[hh_]
   trivial
  have p11:=e11;try simp only[bQ] at p11
  refine aD [(6,c_ m'10),(7,i_ 0)]<|aF<|bJ [0] [c_ m'10,i_ 0] () ?_ ?_
  ·show((.tuple #[c_ m'10,i_ 0]):Value)=(.tuple #[i_ ((rawPivot ltInt d a b).1:Int),i_<|hintCode<|hintOf (rawPivot ltInt d a b).2])
   have hr_:rawPivot ltInt d a b=(m'10,t'11):=(by unfold rawPivot;(rw[if_pos<|by omega,if_neg<|by omega];simp only[*];done));rw[hr_];have hh_:hintCode (hintOf t'11)=0:=(by unfold hintOf;rw[if_neg<|by omega,if_neg<|by omega];rfl);simp only[];rw[hh_]
  trivial
 have p1:=ga e1
 refine aP<|aC<|bF [.ld 1] [(49,i_ 0)]<|aO<|aD [(51,b_ true)]<|dX<|aD [(6,c_ (a+(((b-a)/4)*2):Nat)),(7,i_ 1)]<|aF<|bJ [0] [c_ (a+(((b-a)/4)*2):Nat),i_ 1] () ?_ ?_
 ·show((.tuple #[c_ (a+(((b-a)/4)*2):Nat),i_ 1]):Value)=(.tuple #[i_ ((rawPivot ltInt d a b).1:Int),i_<|hintCode<|hintOf (rawPivot ltInt d a b).2])
  have hr_:rawPivot ltInt d a b=((a+(((b-a)/4)*2)),0):=(by unfold rawPivot;(rw[if_neg<|by omega];done));rw[hr_];have hh_:hintCode (hintOf 0)=1:=(by unfold hintOf;rw[if_pos<|by omega];rfl);simp only[];rw[hh_]
 trivial
abbrev DI(p0)(p1:Array Int)(p2)(p3)(p4)(p5)(p6):=((vS p0 ((p1.toList.set (p2+p3:Nat) p4).set (p2+(((2*p3)+1)+1):Nat) p5) p6):Value)
abbrev J3(p0)(p1:Array Int)(p2)(p3)(p4)(p5)(p6):=([(57,vS p0 p1.toList p2),(60,c_ (p3+((2*p4)+1):Nat)),(66,u_ p5),(72,u_ p6),(73,.pointer<|some<|(aZ p0).add ((p3+p4:Nat)*1))]:aT)
abbrev yk(p0)(p1:Array Int)(p2)(p3)(p4)(p5)(p6):=((vS p0 ((p1.toList.set (p2+p3:Nat) p4).set (p2+((2*p3)+1):Nat) p5) p6):Value)
abbrev oY(p0)(p1:Array Int)(p2)(p3)(p4)(p5):=((vS p0 (p1.toList.set (p2+p3:Nat) p4) p5):Value)
theorem Gy(al:bn)(d:Array Int)(cl:Nat)(lo hi F:Nat)(hb:F+hi≤d.size)(hS:d.size≤100000∧lo≤100000):
  CS 284 #[vS al d.toList cl,c_ lo,c_ hi,c_ F] [sU al d.toList cl] (fun(d':(Array Int))=>(.tuple #[])) (fun d'=>d'=siftDown ltInt hi F lo d∧d'.size=d.size) fun d'=>[sU al d'.toList cl]:=by
 intro w hs
 refine aU Tryz.func284 rfl hs (aD [(8,c_ lo)]<|aO<|eA (σ:=Nat×(Array Int)) [] (fun(r,d2)=>[(8,c_ r),(0,vS al d2.toList cl)]) [0] (fun(r,d2)=>[sU al d2.toList cl]) (fun(r,d2)=>(siftDown ltInt hi F r d2=siftDown ltInt hi F lo d)∧(d2.size=d.size)∧(r≤100000)) (fun(r,d2)=>hi-r) (lo,d) ⟨(by rfl),(by rfl),(by omega)⟩ ?_ ?_)
 ·exact bB [0]
 rintro⟨r,d2⟩ ⟨he,hz,hr⟩
 refine aO<|bW [.w ((2*r:Nat):Int),.w (((2*r)+1:Nat):Int)] [(9,c_ ((2*r)+1:Nat))] (oc (wi (2*(r:Int)) ((2*r:Nat):Int)<|by omega)<|o1<|wi (((2*r:Nat):Int)+1) (((2*r)+1:Nat):Int)<|by omega)<|aE<|aD [(16,b_<|decide ((((2*r)+1:Nat):Int)≥(hi:Int)))]<|aI rfl (fun e1=>?_) (fun e1=>?_)
 ·have p1:=dZ e1
  refine bR<|ni<|nh rfl ((jk [0] [] (fun _ w r s=>trivial) (d2) ?_ ?_<|by kernel_rfl))
  ·rfl
  (rw[O3<|by omega] at he;exact⟨he,hz⟩)
 have p1:=ga e1
 refine au<|aE<|bL [] 20<|cO 15 [.w ((((2*r)+1)+1:Nat):Int)] (rg 0 5) [(21,b_<|decide (((((2*r)+1)+1:Nat):Int)<(hi:Int)))] (o1<|wi ((((2*r)+1:Nat):Int)+1) ((((2*r)+1)+1:Nat):Int)<|by omega)<|iM (decide (((((2*r)+1)+1:Nat):Int)<(hi:Int))) (fun e2=>?_)<|fun e2=>?_
 ·have p2:=dZ e2
  refine aW 21 (b_ true) (fM e2) ?_
  obtain⟨x1,hx1⟩: ∃x,(d2.toList)[(F+((2*r)+1):Nat)]? =some x:=⟨_,dA<|by(simp;omega)⟩
  obtain⟨x2,hx2⟩: ∃x,(d2.toList)[((F+((2*r)+1))+1:Nat)]? =some x:=⟨_,dA<|by(simp;omega)⟩
  refine cO 0 [.w ((F+((2*r)+1):Nat):Int),.ix,.rd [u_ x1],.w ((F+((2*r)+1):Nat):Int),.w (((F+((2*r)+1))+1:Nat):Int),.ix,.rd [u_ x2],.cq<|b_<|decide (x1<x2)] (rg 5 15) [(22,vS al d2.toList cl),(23,c_ F),(24,c_ ((2*r)+1:Nat)),(25,c_ (F+((2*r)+1):Nat)),(26,.pointer<|some<|(aZ al).add ((F+((2*r)+1):Nat)*1)),(27,u_ x1),(28,vS al d2.toList cl),(29,c_ F),(30,c_ ((2*r)+1:Nat)),(31,c_ (F+((2*r)+1):Nat)),(32,c_ ((F+((2*r)+1))+1:Nat)),(33,.pointer<|some<|(aZ al).add (((F+((2*r)+1))+1:Nat)*1)),(34,u_ x2),(35,b_<|decide (x1<x2)),(36,b_<|decide (x1<x2))] (oc (wi ((F:Int)+(((2*r)+1:Nat):Int)) ((F+((2*r)+1):Nat):Int)<|by omega)<|oc (bH 0 (F+((2*r)+1):Nat) aR rfl (by(simp;omega)))<|oc (dF 0 (F+((2*r)+1):Nat) [u_ x1] aR rfl hx1)<|oc (wi ((F:Int)+(((2*r)+1:Nat):Int)) ((F+((2*r)+1):Nat):Int)<|by omega)<|oc (wi (((F+((2*r)+1):Nat):Int)+1) (((F+((2*r)+1))+1:Nat):Int)<|by omega)<|oc (bH 0 ((F+((2*r)+1))+1:Nat) aR rfl (by(simp;omega)))<|oc (dF 0 ((F+((2*r)+1))+1:Nat) [u_ x2] aR rfl hx2)<|o1<|qw<|kH x1 x2)<|dj<|aI rfl (fun e3=>?_) (fun e3=>?_)
  ·have p3:=dZ e3
   refine aM<|az [.w ((((2*r)+1)+1:Nat):Int)] [(9,c_ (((2*r)+1)+1:Nat))] (o1<|wi ((((2*r)+1:Nat):Int)+1) ((((2*r)+1)+1:Nat):Int)<|by omega)<|aE<|aE ?_
   obtain⟨x3,hx3⟩: ∃x,(d2.toList)[(F+r:Nat)]? =some x:=⟨_,dA<|by(simp;omega)⟩
   obtain⟨x4,hx4⟩: ∃x,(d2.toList)[(F+(((2*r)+1)+1):Nat)]? =some x:=⟨_,dA<|by(simp;omega)⟩
   refine fS [.w ((F+r:Nat):Int),.ix,.rd [u_ x3],.w ((F+(((2*r)+1)+1):Nat):Int),.ix,.rd [u_ x4],.cq<|b_<|decide (x3<x4)] (rg 0 14) [] [(52,b_ (!(decide (x3<x4))))] (oc (wi ((F:Int)+(r:Int)) ((F+r:Nat):Int)<|by omega)<|oc (bH 0 (F+r:Nat) aR rfl (by(simp;omega)))<|oc (dF 0 (F+r:Nat) [u_ x3] aR rfl hx3)<|oc (wi ((F:Int)+((((2*r)+1)+1:Nat):Int)) ((F+(((2*r)+1)+1):Nat):Int)<|by omega)<|oc (bH 0 (F+(((2*r)+1)+1):Nat) aR rfl (by(simp;omega)))<|oc (dF 0 (F+(((2*r)+1)+1):Nat) [u_ x4] aR rfl hx4)<|o1<|qw<|kH x3 x4)<|aI rfl (fun e4=>?_) (fun e4=>?_)
   ·have p4:=e4;try simp only[bQ] at p4
    refine aF<|?_
    have hst_:siftDown ltInt hi F r d2=_:=(SE (c:=2*r+2) (by omega) (by omega) hx1 (by omega) hx2 (by omega) (by omega) hx3 (by omega) hx4 (by omega)<|by omega)
    refine cN [0] [] (fun _ w r s=>trivial) (d2) ?_ ?_<|by kernel_rfl
    ·rfl
    exact⟨hst_.symm.trans he,hz⟩
   have p4:=e4;try simp only[bQ] at p4
   refine au<|bL [21,23] 24<|cO 3 [.w ((F+r:Nat):Int),.w ((F+(((2*r)+1)+1):Nat):Int),.w ((F+(((2*r)+1)+1):Nat):Int),.ix,.rd [u_ x4],.w ((F+r:Nat):Int),.ix,.rd [u_ x3],.ix] (rg 0 21) [(57,vS al d2.toList cl),(60,c_ (F+(((2*r)+1)+1):Nat)),(66,u_ x4),(72,u_ x3),(73,.pointer<|some<|(aZ al).add ((F+r:Nat)*1))] (oc (wi ((F:Int)+(r:Int)) ((F+r:Nat):Int)<|by omega)<|oc (wi ((F:Int)+((((2*r)+1)+1:Nat):Int)) ((F+(((2*r)+1)+1):Nat):Int)<|by omega)<|oc (wi ((F:Int)+((((2*r)+1)+1:Nat):Int)) ((F+(((2*r)+1)+1):Nat):Int)<|by omega)<|oc (bH 0 (F+(((2*r)+1)+1):Nat) aR rfl (by(simp;omega)))<|oc (dF 0 (F+(((2*r)+1)+1):Nat) [u_ x4] aR rfl hx4)<|oc (wi ((F:Int)+(r:Int)) ((F+r:Nat):Int)<|by omega)<|oc (bH 0 (F+r:Nat) aR rfl (by(simp;omega)))<|oc (dF 0 (F+r:Nat) [u_ x3] aR rfl hx3)<|o1<|bH 0 (F+r:Nat) aR rfl (by(simp;omega)))<|an 21 rfl (fB 0 (F+r:Nat) x4 rfl aR (by(simp;omega)) (aW 0 (oY al d2 F r x4 cl) (cE<|by simp)<|aW 22 (oY al d2 F r x4 cl) (cE<|by simp)<|aW 28 (oY al d2 F r x4 cl) (cE<|by simp)<|aW 57 (oY al d2 F r x4 cl) (cE<|by simp)<|cD<|cO 1 [.ix] [22] [(74,.pointer<|some<|(aZ al).add ((F+(((2*r)+1)+1):Nat)*1))] (o1<|bH 0 (F+(((2*r)+1)+1):Nat) aR rfl (by(simp;omega)))<|an 23 rfl (fB 0 (F+(((2*r)+1)+1):Nat) x3 rfl aR (by(simp;omega)) (aW 0 (DI al d2 F r x4 x3 cl) (cE<|by simp)<|aW 22 (DI al d2 F r x4 x3 cl) (cE<|by simp)<|aW 28 (DI al d2 F r x4 x3 cl) (cE<|by simp)<|cb ?_))))
   have hcv5:((d2.toList.set (F+r:Nat) x4).set (F+(((2*r)+1)+1):Nat) x3)=(swp d2 (F+r:Nat) (F+(((2*r)+1)+1):Nat)).toList:=by exact tY hx3 hx4
   refine bj 0 (sU al ((swp d2 (F+r:Nat) (F+(((2*r)+1)+1):Nat)).toList) cl) rfl (cw hcv5) (aW 0 (vS al ((swp d2 (F+r:Nat) (F+(((2*r)+1)+1):Nat)).toList) cl) (eW hcv5)<|aW 22 (vS al ((swp d2 (F+r:Nat) (F+(((2*r)+1)+1):Nat)).toList) cl) (eW hcv5)<|aW 28 (vS al ((swp d2 (F+r:Nat) (F+(((2*r)+1)+1):Nat)).toList) cl) (eW hcv5)<|bX [(8,c_ (((2*r)+1)+1:Nat))] ?_)
   have hst_:siftDown ltInt hi F r d2=_:=(SD (c:=2*r+2) (by omega) (by omega) hx1 (by omega) hx2 (by omega) (by omega) hx3 (by omega) hx4 (by omega)<|by omega)
   refine bC ((((2*r)+1)+1:Nat),swp d2 (F+r:Nat) (F+(((2*r)+1)+1):Nat)) ⟨(hst_.symm.trans he),(by(rw[jK];omega)),(by omega)⟩ (by(simp;omega)) ?_
   exact bB [0]
  have p3:=ga e3
  refine au<|aE ?_
  obtain⟨x6,hx6⟩: ∃x,(d2.toList)[(F+r:Nat)]? =some x:=⟨_,dA<|by(simp;omega)⟩
  refine fS [.w ((F+r:Nat):Int),.ix,.rd [u_ x6],.w ((F+((2*r)+1):Nat):Int),.ix,.rd [u_ x1],.cq<|b_<|decide (x6<x1)] (rg 0 14) [] [(52,b_ (!(decide (x6<x1))))] (oc (wi ((F:Int)+(r:Int)) ((F+r:Nat):Int)<|by omega)<|oc (bH 0 (F+r:Nat) aR rfl (by(simp;omega)))<|oc (dF 0 (F+r:Nat) [u_ x6] aR rfl hx6)<|oc (wi ((F:Int)+(((2*r)+1:Nat):Int)) ((F+((2*r)+1):Nat):Int)<|by omega)<|oc (bH 0 (F+((2*r)+1):Nat) aR rfl (by(simp;omega)))<|oc (dF 0 (F+((2*r)+1):Nat) [u_ x1] aR rfl hx1)<|o1<|qw<|kH x6 x1)<|aI rfl (fun e5=>?_) (fun e5=>?_)
  ·have p5:=e5;try simp only[bQ] at p5
   refine aF<|?_
   have hst_:siftDown ltInt hi F r d2=_:=(J2 (c:=2*r+1) (by omega) (by omega) (.inr ⟨_,_,_,_,hx1,by omega,hx2,by omega,by omega⟩) hx6 (by omega) hx1 (by omega)<|by omega)
   refine cN [0] [] (fun _ w r s=>trivial) (d2) ?_ ?_<|by kernel_rfl
   ·rfl
   exact⟨hst_.symm.trans he,hz⟩
  have p5:=e5;try simp only[bQ] at p5
  refine au<|bL [21,23] 24<|cO 3 [.w ((F+r:Nat):Int),.w ((F+((2*r)+1):Nat):Int),.w ((F+((2*r)+1):Nat):Int),.ix,.rd [u_ x1],.w ((F+r:Nat):Int),.ix,.rd [u_ x6],.ix] (rg 0 21) (J3 al d2 cl F r x1 x6) (oc (wi ((F:Int)+(r:Int)) ((F+r:Nat):Int)<|by omega)<|oc (wi ((F:Int)+(((2*r)+1:Nat):Int)) ((F+((2*r)+1):Nat):Int)<|by omega)<|oc (wi ((F:Int)+(((2*r)+1:Nat):Int)) ((F+((2*r)+1):Nat):Int)<|by omega)<|oc (bH 0 (F+((2*r)+1):Nat) aR rfl (by(simp;omega)))<|oc (dF 0 (F+((2*r)+1):Nat) [u_ x1] aR rfl hx1)<|oc (wi ((F:Int)+(r:Int)) ((F+r:Nat):Int)<|by omega)<|oc (bH 0 (F+r:Nat) aR rfl (by(simp;omega)))<|oc (dF 0 (F+r:Nat) [u_ x6] aR rfl hx6)<|o1<|bH 0 (F+r:Nat) aR rfl (by(simp;omega)))<|an 21 rfl (fB 0 (F+r:Nat) x1 rfl aR (by(simp;omega)) (aW 0 (oY al d2 F r x1 cl) (cE<|by simp)<|aW 22 (oY al d2 F r x1 cl) (cE<|by simp)<|aW 28 (oY al d2 F r x1 cl) (cE<|by simp)<|aW 57 (oY al d2 F r x1 cl) (cE<|by simp)<|cD<|cO 1 [.ix] [22] [(74,.pointer<|some<|(aZ al).add ((F+((2*r)+1):Nat)*1))] (o1<|bH 0 (F+((2*r)+1):Nat) aR rfl (by(simp;omega)))<|an 23 rfl (fB 0 (F+((2*r)+1):Nat) x6 rfl aR (by(simp;omega)) (aW 0 (yk al d2 F r x1 x6 cl) (cE<|by simp)<|aW 22 (yk al d2 F r x1 x6 cl) (cE<|by simp)<|aW 28 (yk al d2 F r x1 x6 cl) (cE<|by simp)<|cb ?_))))
  have hcv7:((d2.toList.set (F+r:Nat) x1).set (F+((2*r)+1):Nat) x6)=(swp d2 (F+r:Nat) (F+((2*r)+1):Nat)).toList:=by exact tY hx6 hx1
  refine bj 0 (sU al ((swp d2 (F+r:Nat) (F+((2*r)+1):Nat)).toList) cl) rfl (cw hcv7) (aW 0 (vS al ((swp d2 (F+r:Nat) (F+((2*r)+1):Nat)).toList) cl) (eW hcv7)<|aW 22 (vS al ((swp d2 (F+r:Nat) (F+((2*r)+1):Nat)).toList) cl) (eW hcv7)<|aW 28 (vS al ((swp d2 (F+r:Nat) (F+((2*r)+1):Nat)).toList) cl) (eW hcv7)<|bX [(8,c_ ((2*r)+1:Nat))] ?_)
  have hst_:siftDown ltInt hi F r d2=_:=(J1 (c:=2*r+1) (by omega) (by omega) (.inr ⟨_,_,_,_,hx1,by omega,hx2,by omega,by omega⟩) hx6 (by omega) hx1 (by omega)<|by omega)
  refine bC (((2*r)+1:Nat),swp d2 (F+r:Nat) (F+((2*r)+1):Nat)) ⟨(hst_.symm.trans he),(by(rw[jK];omega)),(by omega)⟩ (by(simp;omega)) ?_
  exact bB [0]
 have p2:=ga e2
 refine aW 21 (b_ false) (fM e2)<|cL 0 [.sk,.sk,.sk,.sk,.sk,.sk,.sk,.sk,.sk,.sk,.sk,.sk,.sk,.sk] (rg 5 15) [(36,b_ false)]<|dj<|bY<|au<|aE ?_
 obtain⟨x8,hx8⟩: ∃x,(d2.toList)[(F+r:Nat)]? =some x:=⟨_,dA<|by(simp;omega)⟩
 obtain⟨x9,hx9⟩: ∃x,(d2.toList)[(F+((2*r)+1):Nat)]? =some x:=⟨_,dA<|by(simp;omega)⟩
 refine fS [.w ((F+r:Nat):Int),.ix,.rd [u_ x8],.w ((F+((2*r)+1):Nat):Int),.ix,.rd [u_ x9],.cq<|b_<|decide (x8<x9)] (rg 0 14) [] [(52,b_ (!(decide (x8<x9))))] (oc (wi ((F:Int)+(r:Int)) ((F+r:Nat):Int)<|by omega)<|oc (bH 0 (F+r:Nat) aR rfl (by(simp;omega)))<|oc (dF 0 (F+r:Nat) [u_ x8] aR rfl hx8)<|oc (wi ((F:Int)+(((2*r)+1:Nat):Int)) ((F+((2*r)+1):Nat):Int)<|by omega)<|oc (bH 0 (F+((2*r)+1):Nat) aR rfl (by(simp;omega)))<|oc (dF 0 (F+((2*r)+1):Nat) [u_ x9] aR rfl hx9)<|o1<|qw<|kH x8 x9)<|aI rfl (fun e6=>?_) (fun e6=>?_)
 ·have p6:=e6;try simp only[bQ] at p6
  refine aF<|?_
  have hst_:siftDown ltInt hi F r d2=_:=(J2 (c:=2*r+1) (by omega) (by omega) (.inl<|by omega) hx8 (by omega) hx9 (by omega)<|by omega)
  refine cN [0] [] (fun _ w r s=>trivial) (d2) ?_ ?_<|by kernel_rfl
  ·rfl
  exact⟨hst_.symm.trans he,hz⟩
 have p6:=e6;try simp only[bQ] at p6
 refine au<|bL [21,23] 24<|cO 3 [.w ((F+r:Nat):Int),.w ((F+((2*r)+1):Nat):Int),.w ((F+((2*r)+1):Nat):Int),.ix,.rd [u_ x9],.w ((F+r:Nat):Int),.ix,.rd [u_ x8],.ix] (rg 0 21) (J3 al d2 cl F r x9 x8) (oc (wi ((F:Int)+(r:Int)) ((F+r:Nat):Int)<|by omega)<|oc (wi ((F:Int)+(((2*r)+1:Nat):Int)) ((F+((2*r)+1):Nat):Int)<|by omega)<|oc (wi ((F:Int)+(((2*r)+1:Nat):Int)) ((F+((2*r)+1):Nat):Int)<|by omega)<|oc (bH 0 (F+((2*r)+1):Nat) aR rfl (by(simp;omega)))<|oc (dF 0 (F+((2*r)+1):Nat) [u_ x9] aR rfl hx9)<|oc (wi ((F:Int)+(r:Int)) ((F+r:Nat):Int)<|by omega)<|oc (bH 0 (F+r:Nat) aR rfl (by(simp;omega)))<|oc (dF 0 (F+r:Nat) [u_ x8] aR rfl hx8)<|o1<|bH 0 (F+r:Nat) aR rfl (by(simp;omega)))<|an 21 rfl (fB 0 (F+r:Nat) x9 rfl aR (by(simp;omega)) (aW 0 (oY al d2 F r x9 cl) (cE<|by simp)<|aW 57 (oY al d2 F r x9 cl) (cE<|by simp)<|cD<|cO 1 [.ix] [22] [(74,.pointer<|some<|(aZ al).add ((F+((2*r)+1):Nat)*1))] (o1<|bH 0 (F+((2*r)+1):Nat) aR rfl (by(simp;omega)))<|an 23 rfl (fB 0 (F+((2*r)+1):Nat) x8 rfl aR (by(simp;omega)) (aW 0 (yk al d2 F r x9 x8 cl) (cE<|by simp)<|cb ?_))))
 have hcv10:((d2.toList.set (F+r:Nat) x9).set (F+((2*r)+1):Nat) x8)=(swp d2 (F+r:Nat) (F+((2*r)+1):Nat)).toList:=by exact tY hx8 hx9
 refine bj 0 (sU al ((swp d2 (F+r:Nat) (F+((2*r)+1):Nat)).toList) cl) rfl (cw hcv10) (aW 0 (vS al ((swp d2 (F+r:Nat) (F+((2*r)+1):Nat)).toList) cl) (eW hcv10)<|bX [(8,c_ ((2*r)+1:Nat))] ?_)
 have hst_:siftDown ltInt hi F r d2=_:=(J1 (c:=2*r+1) (by omega) (by omega) (.inl<|by omega) hx8 (by omega) hx9 (by omega)<|by omega)
 refine bC (((2*r)+1:Nat),swp d2 (F+r:Nat) (F+((2*r)+1):Nat)) ⟨(hst_.symm.trans he),(by(rw[jK];omega)),(by omega)⟩ (by(simp;omega)) ?_
 exact bB [0]
theorem Nu(al:bn)(d:Array Int)(cl:Nat)(a b:Nat)(hb:a<b∧b≤d.size)(hS:d.size≤100000):
  CS 273 #[vS al d.toList cl,c_ a,c_ b] [sU al d.toList cl] (fun(d':(Array Int))=>(.tuple #[])) (fun d'=>d'=heapSort ltInt d a b∧d'.size=d.size) fun d'=>[sU al d'.toList cl]:=by
 intro w hs
 refine aU Tryz.func273 rfl hs (aD [(6,c_ a)]<|aD [(7,i_ 0)]<|bW [.w ((b-a:Nat):Int)] [(8,c_ (b-a:Nat))] (o1<|wi ((b:Int)-(a:Int)) ((b-a:Nat):Int)<|by omega)<|aE<|bW [.w (((b-a)-1:Nat):Int),.w ((((b-a)-1)/2:Nat):Int)] [(9,c_ (((b-a)-1)/2:Nat))] (oc (wi (((b-a:Nat):Int)-1) (((b-a)-1:Nat):Int)<|by omega)<|o1<|wo<|(j8 (e:=(((b-a)-1:Nat):Int).tdiv 2)<|by(rw[VY];constructor<;>omega)).trans (by rfl:((((b-a)-1:Nat):Int).tdiv 2:Int)=((((b-a)-1)/2:Nat):Int))) ?_)
 refine aO<|aW 9 (i_<|(((b-a-1)/2+1:Nat):Int)-1) (ko<|by omega)<|eA (σ:=Nat×(Array Int)) [] (fun(k,d2)=>[(9,i_<|(k:Int)-1),(0,vS al d2.toList cl)]) [0] (fun(k,d2)=>[sU al d2.toList cl]) (fun(k,d2)=>(heapBuild ltInt (b-a) a k d2=heapBuild ltInt (b-a) a ((b-a-1)/2+1) d)∧(d2.size=d.size)∧(k≤(b-a-1)/2+1)) (fun(k,d2)=>k) (((b-a-1)/2+1:Nat),d) ⟨(by rfl),(by rfl),(by omega)⟩ ?_ ?_
 ·exact bB [0]
 rintro⟨k,d2⟩ ⟨he,hz,hk⟩
 refine aE<|aD [(19,b_<|decide (((k:Int)-1)≥0))]<|aI rfl (fun e1=>?_) (fun e1=>?_)
 ·have p1:=dZ e1
  refine au<|aO<|aW 9 (c_ (k-1:Nat)) (ko<|by omega)<|aM<|bA 4 [] [(22,vS al d2.toList cl),(23,c_ (k-1:Nat)),(24,c_ (b-a:Nat)),(25,c_ a)]<|aG<|bM (some 26) [0] (Gy al d2 cl (k-1:Nat) (b-a:Nat) a (by omega)<|by omega) ?_
  rintro d'1 hz2
  refine aW 0 (vS al d'1.toList cl) (cE<|by(simp only[Array.length_toList];exact hz2.2.symm))<|aW 22 (vS al d'1.toList cl) (cE<|by(simp only[Array.length_toList];exact hz2.2.symm))<|dP<|aM<|az [.w<|((k-1:Nat):Int)-1] [(9,i_<|((k-1:Nat):Int)-1)] (o1<|wj (((k-1:Nat):Int)-1)<|by omega)<|bC ((k-1:Nat),d'1) ⟨(by(have h_:=(by assumption:_=siftDown ltInt (b-a) a (k-1) d2∧_);rw[SG<|by omega,←h_.1] at he;exact he)),(by(have h_:=(by assumption:_=siftDown ltInt (b-a) a (k-1) d2∧_).2;omega)),(by omega)⟩ (by(simp;omega)) ?_
  exact bB [0]
 have p1:=ga e1
 refine bR<|bW [.w (((b-a)-1:Nat):Int)] [(10,c_ ((b-a)-1:Nat))] (o1<|wi (((b-a:Nat):Int)-1) (((b-a)-1:Nat):Int)<|by omega)<|aO<|aW 10 (i_<|((b-a:Nat):Int)-1) (ko<|by omega)<|eA (σ:=Nat×(Array Int)) [] (fun(k9,d3)=>[(10,i_<|(k9:Int)-1),(0,vS al d3.toList cl)]) [0] (fun(k9,d3)=>[sU al d3.toList cl]) (fun(k9,d3)=>(heapPop ltInt a k9 d3=heapSort ltInt d a b)∧(d3.size=d.size)∧(k9≤b-a)) (fun(k9,d3)=>k9) ((b-a:Nat),d2) ⟨(by(unfold heapSort;rw[←he];(rw[show k=0 by omega];rfl))),(by omega),(by omega)⟩ ?_ ?_
 ·exact bB [0]
 rintro⟨k9,d3⟩ ⟨he3,hz3,hk9⟩
 refine aE<|aD [(30,b_<|decide (((k9:Int)-1)≥0))]<|aI rfl (fun e3=>?_) (fun e3=>?_)
 ·have p3:=dZ e3
  refine au<|aO<|aE<|aW 10 (c_ (k9-1:Nat)) (ko<|by omega)<|bL [17,19] 20 ?_
  obtain⟨x2,hx2⟩: ∃x,(d3.toList)[(a+(k9-1):Nat)]? =some x:=⟨_,dA<|by(simp;omega)⟩
  obtain⟨x3,hx3⟩: ∃x,(d3.toList)[a]? =some x:=⟨_,dA<|by(simp;omega)⟩
  refine cO 3 [.w ((a+(k9-1):Nat):Int),.w ((a+(k9-1):Nat):Int),.ix,.rd [u_ x2],.ix,.rd [u_ x3],.ix] (rg 0 17) [(35,vS al d3.toList cl),(38,c_ (a+(k9-1):Nat)),(44,u_ x2),(48,u_ x3),(49,.pointer<|some<|(aZ al).add (a*1))] (oc (wi ((a:Int)+((k9-1:Nat):Int)) ((a+(k9-1):Nat):Int)<|by omega)<|oc (wi ((a:Int)+((k9-1:Nat):Int)) ((a+(k9-1):Nat):Int)<|by omega)<|oc (bH 0 (a+(k9-1):Nat) aR rfl (by(simp;omega)))<|oc (dF 0 (a+(k9-1):Nat) [u_ x2] aR rfl hx2)<|oc (bH 0 a aR rfl (by(simp;omega)))<|oc (dF 0 a [u_ x3] aR rfl hx3)<|o1<|bH 0 a aR rfl (by(simp;omega)))<|an 17 rfl (fB 0 a x2 rfl aR (by(simp;omega)) (aW 0 (vS al (d3.toList.set a x2) cl) (cE<|by simp)<|aW 35 (vS al (d3.toList.set a x2) cl) (cE<|by simp)<|cD<|cO 1 [.ix] [18] [(50,.pointer<|some<|(aZ al).add ((a+(k9-1):Nat)*1))] (o1<|bH 0 (a+(k9-1):Nat) aR rfl (by(simp;omega)))<|an 19 rfl (fB 0 (a+(k9-1):Nat) x3 rfl aR (by(simp;omega)) (aW 0 (vS al ((d3.toList.set a x2).set (a+(k9-1):Nat) x3) cl) (cE<|by simp)<|cb ?_))))
  have hcv4:((d3.toList.set a x2).set (a+(k9-1):Nat) x3)=(swp d3 a (a+(k9-1):Nat)).toList:=by exact tY hx3 hx2
  refine bj 0 (sU al ((swp d3 a (a+(k9-1):Nat)).toList) cl) rfl (cw hcv4) (aW 0 (vS al ((swp d3 a (a+(k9-1):Nat)).toList) cl) (eW hcv4)<|aM<|bA 4 [] [(51,vS al ((swp d3 a (a+(k9-1):Nat)).toList) cl),(52,i_ 0),(53,c_ (k9-1:Nat)),(54,c_ a)]<|aG<|bM (some 55) [0] (Gy al (swp d3 a (a+(k9-1):Nat)) cl 0 (k9-1:Nat) a (by(rw[jK];omega))<|by(rw[jK];omega)) ?_)
  rintro d'5 hz4
  refine aW 0 (vS al d'5.toList cl) (cE<|by(simp only[Array.length_toList];exact hz4.2.symm))<|aW 51 (vS al d'5.toList cl) (cE<|by(simp only[Array.length_toList];exact hz4.2.symm))<|dP<|aM<|az [.w<|((k9-1:Nat):Int)-1] [(10,i_<|((k9-1:Nat):Int)-1)] (o1<|wj (((k9-1:Nat):Int)-1)<|by omega)<|bC ((k9-1:Nat),d'5) ⟨(by(have h_:=(by assumption:_=siftDown ltInt (k9-1) a 0 (swp d3 a<|a+(k9-1))∧_);rw[SH<|by omega,←h_.1] at he3;exact he3)),(by(have h_:=(by assumption:_=siftDown ltInt (k9-1) a 0 (swp d3 a<|a+(k9-1))∧_).2;rw[jK] at h_;omega)),(by omega)⟩ (by(simp;omega)) ?_
  exact bB [0]
 have p3:=ga e3
 refine bR<|jk [0] [] (fun _ w r s=>trivial) (d3) ?_ ?_<|by kernel_rfl
 ·rfl
 (rw[show k9=0 by omega] at he3;exact⟨he3,hz3⟩)
theorem eK(h:i<d.size):d.toList[i]? =some d[i]! :=by
 rw[Array.getElem?_toList,getElem!_pos d i h];exact Array.getElem?_eq_getElem h
theorem lu(d:Array Int)(i j:Nat):(d.toList.set i d[j]!).set j d[i]! =(swp d i j).toList:=by unfold swp;simp[Array.toList_setIfInBounds]
variable{p:Int→Bool}
theorem Es(h:(decide ((i:Int)≤(j:Int))&&p d[i]!)=true):scanUp p d j i=scanUp p d j (i+1):=by
 rw[Bool.and_eq_true,decide_eq_true_eq] at h
 rw[scanUp,if_pos (by rw[h.2];simp;omega)]
theorem Et(h:(decide ((i:Int)≤(j:Int))&&p d[i]!)=false):scanUp p d j i=i:=by
 rw[scanUp,if_neg];intro g
 rw[Bool.and_eq_true,decide_eq_true_eq] at g
 rw[g.2] at h;simp at h;omega
theorem Eu(hj:1≤j)(h:(decide ((i:Int)≤(j:Int))&&p d[j]!)=true):scanDown p d i j=scanDown p d i (j-1):=by
 obtain⟨k,rfl⟩: ∃k,j=k+1:=⟨j-1,by omega⟩
 rw[Bool.and_eq_true,decide_eq_true_eq] at h
 rw[scanDown,if_pos (by rw[h.2];simp;omega)];rfl
theorem Ew(h:(decide ((i:Int)≤(j:Int))&&p d[j]!)=false):scanDown p d i j=j:=by
 cases j with
 |zero=>rfl
 |succ k=>
  rw[scanDown,if_neg];intro g
  rw[Bool.and_eq_true,decide_eq_true_eq] at g
  rw[g.2] at h;simp at h;omega
variable{i2 j2:Nat}
theorem SI(hI:scanUp (fun x=>ltInt x d[a]!) d j i=i2)(hJ:scanDown (fun x=> !ltInt x d[a]!) d i2 j=j2)(h:i2>j2):partLoop ltInt a i j d=(j2,d):=by
 rw[partLoop_eq,hI,hJ,if_pos h]
theorem SJ(hI:scanUp (fun x=>ltInt x d[a]!) d j i=i2)(hJ:scanDown (fun x=> !ltInt x d[a]!) d i2 j=j2)(h: ¬i2>j2):partLoop ltInt a i j d=partLoop ltInt a (i2+1) (j2-1) (swp d i2 j2):=by
 rw[partLoop_eq,hI,hJ,if_neg h]
theorem SK(hI:scanUp (fun x=> !ltInt d[a]! x) d j i=i2)(hJ:scanDown (fun x=>ltInt d[a]! x) d i2 j=j2)(h:i2>j2):partEqLoop ltInt a i j d=(i2,d):=by
 rw[partEqLoop_eq,hI,hJ,if_pos h]
theorem SN(hI:scanUp (fun x=> !ltInt d[a]! x) d j i=i2)(hJ:scanDown (fun x=>ltInt d[a]! x) d i2 j=j2)(h: ¬i2>j2):partEqLoop ltInt a i j d=partEqLoop ltInt a (i2+1) (j2-1) (swp d i2 j2):=by
 rw[partEqLoop_eq,hI,hJ,if_neg h]
variable{d1:Array Int}
theorem V0{p:Nat}(h1:d1=swp d a p)(hI:scanUp (fun x=>ltInt x d1[a]!) d1 (b-1) (a+1)=i)(hJ:scanDown (fun x=> !ltInt x d1[a]!) d1 i (b-1)=j)(h:i>j):partition ltInt d a b p=(j,true,swp d1 j a):=by
 unfold partition;simp only[←h1,hI,hJ,if_pos h]
theorem V1{p:Nat}{r:Nat×Array Int}(h1:d1=swp d a p)(hI:scanUp (fun x=>ltInt x d1[a]!) d1 (b-1) (a+1)=i)(hJ:scanDown (fun x=> !ltInt x d1[a]!) d1 i (b-1)=j)(h: ¬i>j)(hr:partLoop ltInt a (i+1) (j-1) (swp d1 i j)=r):partition ltInt d a b p=(r.1,false,swp r.2 r.1 a):=by
 unfold partition;simp only[←h1,hI,hJ,if_neg h,hr]
theorem Wy(h:(decide ((i:Int)<(b:Int))&& !decide (d[i]! <d[i-1]!))=true):scanSorted ltInt d b i=scanSorted ltInt d b (i+1):=by
 rw[Bool.and_eq_true,decide_eq_true_eq] at h
 rw[scanSorted,if_pos];unfold ltInt;rw[h.2];simp;omega
theorem Wz(h:(decide ((i:Int)<(b:Int))&& !decide (d[i]! <d[i-1]!))=false):scanSorted ltInt d b i=i:=by
 rw[scanSorted,if_neg];intro g
 rw[Bool.and_eq_true,decide_eq_true_eq] at g
 unfold ltInt at g;rw[g.2] at h;simp at h;omega
theorem We(hj:1≤j)(h:d[j]! <d[j-1]!):shiftDown ltInt j d=shiftDown ltInt (j-1) (swp d j<|j-1):=by
 obtain⟨k,rfl⟩: ∃k,j=k+1:=⟨j-1,by omega⟩
 rw[Nat.add_sub_cancel] at h⊢
 rw[shiftDown,if_neg];simp[ltInt,h]
theorem Wg(hj:1≤j)(h: ¬d[j]! <d[j-1]!):shiftDown ltInt j d=d:=by
 obtain⟨k,rfl⟩: ∃k,j=k+1:=⟨j-1,by omega⟩
 rw[Nat.add_sub_cancel] at h
 rw[shiftDown,if_pos];simp[ltInt];omega
theorem Ed(hj:j<b)(h:d[j]! <d[j-1]!):shiftUp ltInt b j d=shiftUp ltInt b (j+1) (swp d j<|j-1):=by
 rw[shiftUp,if_pos hj,if_neg];simp[ltInt,h]
theorem Ee(hj:j<b)(h: ¬d[j]! <d[j-1]!):shiftUp ltInt b j d=d:=by
 rw[shiftUp,if_pos hj,if_pos];simp[ltInt];omega
theorem Ef(hj: ¬j<b):shiftUp ltInt b j d=d:=by rw[shiftUp,if_neg hj]
theorem py{d2 d3:Array Int}(hI:scanSorted ltInt d b i=i2)(h: ¬i2=b)(h5: ¬b-a<50)(h2:d2=fixDown ltInt a i2 (swp d i2<|i2-1))(h3:d3=fixUp ltInt b i2 d2):partialIns ltInt a b (s+1) i d=partialIns ltInt a b s i2 d3:=by
 rw[partialIns_succ,hI,if_neg h,if_neg h5,←h2,←h3]
theorem XA(hI:scanSorted ltInt d b i=i2)(h:i2=b):partialIns ltInt a b (s+1) i d=(d,true):=by rw[partialIns_succ,hI,if_pos h]
theorem XC(hI:scanSorted ltInt d b i=i2)(h: ¬i2=b)(h5:b-a<50):partialIns ltInt a b (s+1) i d=(d,false):=by rw[partialIns_succ,hI,if_neg h,if_pos h5]
theorem nl(h:k<5):partialIns ltInt a b (5-k) i d=partialIns ltInt a b ((5-(k+1))+1) i d:=by rw[show 5-(k+1)+1=5-k by omega]
theorem Lm{J:Nat}{v:Int}(hJ:j≤J)(h1:(decide ((i:Int)≤(J:Int))&&decide (d[i]! <v))=false)(h2:(decide ((i:Int)≤(j:Int))&& !decide (d[j]! <v))=false):i≤j→i<j:=by
 intro g
 have e:decide ((i:Int)≤(j:Int))=true:=by simp;omega
 have e2:decide ((i:Int)≤(J:Int))=true:=by simp;omega
 rw[e2] at h1;rw[e] at h2;simp at h1 h2
 rcases Nat.lt_or_eq_of_le g with q|q
 ·exact q
 ·subst q;omega
theorem ne_eq{J:Nat}{v:Int}(hJ:j≤J)(h1:(decide ((i:Int)≤(J:Int))&& !decide (v<d[i]!))=false)(h2:(decide ((i:Int)≤(j:Int))&&decide (v<d[j]!))=false):i≤j→i<j:=by
 intro g
 have e:decide ((i:Int)≤(j:Int))=true:=by simp;omega
 have e2:decide ((i:Int)≤(J:Int))=true:=by simp;omega
 rw[e2] at h1;rw[e] at h2;simp at h1 h2
 rcases Nat.lt_or_eq_of_le g with q|q
 ·exact q
 ·subst q;omega
abbrev vq(p0)(p1:Array Int)(p2)(p3)(p4):=((vS p0 ((p1.toList.set p2<|p1[p3]!).set p3 (p1[p2]!)) p4):Value)
theorem O4(al:bn)(d:Array Int)(cl:Nat)(a b p:Nat)(hb:a≤p∧p<b∧b≤d.size)(hS:d.size≤100000):
  CS 279 #[vS al d.toList cl,c_ a,c_ b,c_ p] [sU al d.toList cl] (fun((m',q',d'):Nat×Bool×(Array Int))=>(.tuple #[c_ m',b_ q'])) (fun(m',q',d')=>partition ltInt d a b p=(m',q',d')∧d'.size=d.size) fun(m',q',d')=>[sU al d'.toList cl]:=by
 intro w hs
 refine aU Tryz.func279 rfl hs (aD [(8,i_ 0),(9,b_ false)]<|aE<|bL [13,15] 16<|cO 3 [.ix,.rd [u_<|d[p]!],.ix,.rd [u_<|d[a]!],.ix] (rg 0 13) [(14,vS al d.toList cl),(15,c_ p),(19,u_<|d[p]!),(23,u_<|d[a]!),(24,.pointer<|some<|(aZ al).add (a*1))] (oc (bH 0 p aR rfl (by(simp;omega)))<|oc (dF 0 p [u_<|d[p]!] aR rfl (eK<|by omega))<|oc (bH 0 a aR rfl (by(simp;omega)))<|oc (dF 0 a [u_<|d[a]!] aR rfl (eK<|by omega))<|o1<|bH 0 a aR rfl (by(simp;omega)))<|an 13 rfl (fB 0 a (d[p]!) rfl aR (by(simp;omega)) (aW 0 (vS al (d.toList.set a<|d[p]!) cl) (cE<|by simp)<|aW 14 (vS al (d.toList.set a<|d[p]!) cl) (cE<|by simp)<|cD<|cO 1 [.ix] [14] [(25,.pointer<|some<|(aZ al).add (p*1))] (o1<|bH 0 p aR rfl (by(simp;omega)))<|an 15 rfl (fB 0 p (d[a]!) rfl aR (by(simp;omega)) (aW 0 (vq al d a p cl) (cE<|by simp)<|cb ?_)))))
 obtain⟨d101,hdd101⟩: ∃z,z=swp d a p:=⟨_,rfl⟩;have hszd101:d101.size=d.size:=(by rw[hdd101];exact jK _ _ _)
 have hcv2:((d.toList.set a<|d[p]!).set p (d[a]!))=d101.toList:=by rw[hdd101];exact lu _ _ _
 refine bj 0 (sU al d101.toList cl) rfl (cw hcv2) (aW 0 (vS al d101.toList cl) (eW hcv2)<|bW [.w ((a+1:Nat):Int),.w ((b-1:Nat):Int)] [(10,c_ (a+1:Nat)),(11,c_ (b-1:Nat))] (oc (wi ((a:Int)+1) ((a+1:Nat):Int)<|by omega)<|o1<|wi ((b:Int)-1) ((b-1:Nat):Int)<|by omega)<|aE<|aO<|eA (σ:=Nat) [2,3] (fun i1=>[(10,c_ i1)]) [] (fun i1=>[]) (fun i1=>(scanUp (fun x=>ltInt x d101[a]!) d101 (b-1) i1=scanUp (fun x=>ltInt x d101[a]!) d101 (b-1) (a+1))∧((a+1)≤i1∧i1≤(b-1)+1)) (fun i1=>(b-1)+1-i1) ((a+1:Nat):Nat) ⟨(by rfl),(by omega)⟩ ?_ ?_)
 ·exact bB [0]
 rintro i1 ⟨hu1,hi1⟩
 refine aE<|aE<|fS [.o,.ix,.rd [u_<|d101[i1]!],.ix,.rd [u_<|d101[a]!],.cq<|b_<|decide ((d101[i1]!)<(d101[a]!)),.cl] (rg 0 14) [] [(43,b_<|(decide ((i1:Int)≤((b-1:Nat):Int)))&&(decide ((d101[i1]!)<(d101[a]!))))] (oc (go (true&&((decide ((i1:Int)≤((b-1:Nat):Int)))==true)) fun h_=>(bH 0 i1 aR rfl (by(simp at h_⊢;omega))))<|oc (go (true&&((decide ((i1:Int)≤((b-1:Nat):Int)))==true)) fun h_=>(dF 0 i1 [u_<|d101[i1]!] aR rfl (eK<|by(simp at h_;omega))))<|oc (go (true&&((decide ((i1:Int)≤((b-1:Nat):Int)))==true)) fun h_=>(bH 0 a aR rfl (by(simp;omega))))<|oc (go (true&&((decide ((i1:Int)≤((b-1:Nat):Int)))==true)) fun h_=>(dF 0 a [u_<|d101[a]!] aR rfl (eK<|by omega)))<|o1<|go (true&&((decide ((i1:Int)≤((b-1:Nat):Int)))==true)) fun h_=>(qw<|kH (d101[i1]!)<|d101[a]!))<|aI rfl (fun e1=>?_) (fun e1=>?_)
 ·have p1:=e1;try simp only[bQ] at p1
  refine aP<|aO<|aM<|az [.w ((i1+1:Nat):Int)] [(10,c_ (i1+1:Nat))] (o1<|wi ((i1:Int)+1) ((i1+1:Nat):Int)<|by omega) ?_
  have hst_:scanUp (fun x=>ltInt x d101[a]!) d101 (b-1) i1=_:=Es (p:=(fun x=>ltInt x d101[a]!)) e1
  refine bC ((i1+1:Nat)) ⟨(hst_.symm.trans hu1),(by omega)⟩ (by omega) ?_
  exact bB [0]
 refine bR<|aE<|aO<|eA (σ:=Nat) [43] (fun j1=>[(11,c_ j1)]) [] (fun j1=>[]) (fun j1=>(scanDown (fun x=> !ltInt x d101[a]!) d101 i1 j1=scanDown (fun x=> !ltInt x d101[a]!) d101 i1 (b-1))∧(i1≤j1+1∧j1≤(b-1))) (fun j1=>j1) ((b-1:Nat):Nat) ⟨(by rfl),(by omega)⟩ ?_ ?_
 ·exact bB [0]
 rintro j1 ⟨hv1,hj1⟩
 refine aE<|aE<|fS [.o,.ix,.rd [u_<|d101[j1]!],.ix,.rd [u_<|d101[a]!],.cq<|b_<|decide ((d101[j1]!)<(d101[a]!)),.cl] (rg 0 15) [] [(60,b_<|(decide ((i1:Int)≤(j1:Int)))&&(!(decide ((d101[j1]!)<(d101[a]!)))))] (oc (go (true&&((decide ((i1:Int)≤(j1:Int)))==true)) fun h_=>(bH 0 j1 aR rfl (by(simp;omega))))<|oc (go (true&&((decide ((i1:Int)≤(j1:Int)))==true)) fun h_=>(dF 0 j1 [u_<|d101[j1]!] aR rfl (eK<|by omega)))<|oc (go (true&&((decide ((i1:Int)≤(j1:Int)))==true)) fun h_=>(bH 0 a aR rfl (by(simp;omega))))<|oc (go (true&&((decide ((i1:Int)≤(j1:Int)))==true)) fun h_=>(dF 0 a [u_<|d101[a]!] aR rfl (eK<|by omega)))<|o1<|go (true&&((decide ((i1:Int)≤(j1:Int)))==true)) fun h_=>(qw<|kH (d101[j1]!)<|d101[a]!))<|aI rfl (fun e2=>?_) (fun e2=>?_)
 ·have p2:=e2;try simp only[bQ] at p2
  refine aP<|aO<|aM<|az [.w ((j1-1:Nat):Int)] [(11,c_ (j1-1:Nat))] (o1<|wi ((j1:Int)-1) ((j1-1:Nat):Int)<|by omega) ?_
  have hst_:scanDown (fun x=> !ltInt x d101[a]!) d101 i1 j1=_:=Eu (p:=(fun x=> !ltInt x d101[a]!)) (by omega) e2
  refine bC ((j1-1:Nat)) ⟨(hst_.symm.trans hv1),(by omega)⟩ (by omega) ?_
  exact bB [0]
 refine bR<|aE<|aE ?_
 have hI1:scanUp (fun x=>ltInt x d101[a]!) d101 (b-1) (a+1)=i1:=(by rw[←hu1];exact Et (p:=(fun x=>ltInt x d101[a]!)) e1)
 have hne1:=Lm (by omega) e1 e2
 have hJ1:scanDown (fun x=> !ltInt x d101[a]!) d101 i1 (b-1)=j1:=(by rw[←hv1];exact Ew (p:=(fun x=> !ltInt x d101[a]!)) e2)
 refine bX [(65,b_<|decide ((i1:Int)>(j1:Int)))]<|aI rfl (fun e3=>?_) (fun e3=>?_)
 ·have p3:=dZ e3
  refine aE<|bL [13,15] 16<|cO 3 [.ix,.rd [u_<|d101[a]!],.ix,.rd [u_<|d101[j1]!],.ix] (rg 0 13) [(68,vS al d101.toList cl),(69,c_ a),(73,u_<|d101[a]!),(77,u_<|d101[j1]!),(78,.pointer<|some<|(aZ al).add (j1*1))] (oc (bH 0 a aR rfl (by(simp;omega)))<|oc (dF 0 a [u_<|d101[a]!] aR rfl (eK<|by omega))<|oc (bH 0 j1 aR rfl (by(simp;omega)))<|oc (dF 0 j1 [u_<|d101[j1]!] aR rfl (eK<|by omega))<|o1<|bH 0 j1 aR rfl (by(simp;omega)))<|an 13 rfl (fB 0 j1 (d101[a]!) rfl aR (by(simp;omega)) (aW 0 (vS al (d101.toList.set j1<|d101[a]!) cl) (cE<|by simp)<|aW 68 (vS al (d101.toList.set j1<|d101[a]!) cl) (cE<|by simp)<|cD<|cO 1 [.ix] [14] [(79,.pointer<|some<|(aZ al).add (a*1))] (o1<|bH 0 a aR rfl (by(simp;omega)))<|an 15 rfl (fB 0 a (d101[j1]!) rfl aR (by(simp;omega)) (aW 0 (vq al d101 j1 a cl) (cE<|by simp)<|cb ?_))))
  obtain⟨d103,hdd103⟩: ∃z,z=swp d101 j1 a:=⟨_,rfl⟩;have hszd103:d103.size=d101.size:=(by rw[hdd103];exact jK _ _ _)
  have hcv4:((d101.toList.set j1<|d101[a]!).set a (d101[j1]!))=d103.toList:=by rw[hdd103];exact lu _ _ _
  refine bj 0 (sU al d103.toList cl) rfl (cw hcv4) (aW 0 (vS al d103.toList cl) (eW hcv4)<|aD [(8,c_ j1),(9,b_ true)]<|aF<|?_)
  have hP:=V0 (b:=b) hdd101 hI1 hJ1<|by omega
  refine bJ [0] [c_ j1,b_ true] (j1,true,d103) ?_ ?_
  ·rfl
  exact⟨by rw[hP];simp only[*],by omega⟩
 have p3:=ga e3
 refine au<|bL [13,15] 16<|cO 3 [.ix,.rd [u_<|d101[j1]!],.ix,.rd [u_<|d101[i1]!],.ix] (rg 0 13) [(83,vS al d101.toList cl),(84,c_ j1),(88,u_<|d101[j1]!),(92,u_<|d101[i1]!),(93,.pointer<|some<|(aZ al).add (i1*1))] (oc (bH 0 j1 aR rfl (by(simp;omega)))<|oc (dF 0 j1 [u_<|d101[j1]!] aR rfl (eK<|by omega))<|oc (bH 0 i1 aR rfl (by(simp;omega)))<|oc (dF 0 i1 [u_<|d101[i1]!] aR rfl (eK<|by omega))<|o1<|bH 0 i1 aR rfl (by(simp;omega)))<|an 13 rfl (fB 0 i1 (d101[j1]!) rfl aR (by(simp;omega)) (aW 0 (vS al (d101.toList.set i1<|d101[j1]!) cl) (cE<|by simp)<|aW 83 (vS al (d101.toList.set i1<|d101[j1]!) cl) (cE<|by simp)<|cD<|cO 1 [.ix] [14] [(94,.pointer<|some<|(aZ al).add (j1*1))] (o1<|bH 0 j1 aR rfl (by(simp;omega)))<|an 15 rfl (fB 0 j1 (d101[i1]!) rfl aR (by(simp;omega)) (aW 0 (vq al d101 i1 j1 cl) (cE<|by simp)<|cb ?_))))
 obtain⟨d105,hdd105⟩: ∃z,z=swp d101 i1 j1:=⟨_,rfl⟩;have hszd105:d105.size=d101.size:=(by rw[hdd105];exact jK _ _ _)
 have hcv6:((d101.toList.set i1<|d101[j1]!).set j1 (d101[i1]!))=d105.toList:=by rw[hdd105];exact lu _ _ _
 refine bj 0 (sU al d105.toList cl) rfl (cw hcv6) (aW 0 (vS al d105.toList cl) (eW hcv6)<|bW [.w ((i1+1:Nat):Int)] [(10,c_ (i1+1:Nat))] (o1<|wi ((i1:Int)+1) ((i1+1:Nat):Int)<|by omega)<|bW [.w ((j1-1:Nat):Int)] [(11,c_ (j1-1:Nat))] (o1<|wi ((j1:Int)-1) ((j1-1:Nat):Int)<|by omega)<|aE<|aO<|eA (σ:=Nat×Nat×(Array Int)) [60,65] (fun(i2,j2,d3)=>[(10,c_ i2),(11,c_ j2),(0,vS al d3.toList cl)]) [0] (fun(i2,j2,d3)=>[sU al d3.toList cl]) (fun(i2,j2,d3)=>(partLoop ltInt a i2 j2 d3=partLoop ltInt a (i1+1) (j1-1) d105)∧(d3.size=d.size)∧(a+1≤i2∧i2≤j2+1∧j2<b)) (fun(i2,j2,d3)=>j2+1-i2) ((i1+1:Nat),(j1-1:Nat),d105) ⟨(by rfl),(by omega),(by omega)⟩ ?_ ?_)
 ·exact bB [0]
 rintro⟨i2,j2,d3⟩ ⟨he,hz,hi⟩
 refine aO<|aE<|aO<|eA (σ:=Nat) [] (fun i3=>[(10,c_ i3)]) [] (fun i3=>[]) (fun i3=>(scanUp (fun x=>ltInt x d3[a]!) d3 j2 i3=scanUp (fun x=>ltInt x d3[a]!) d3 j2 i2)∧(i2≤i3∧i3≤j2+1)) (fun i3=>j2+1-i3) (i2:Nat) ⟨(by rfl),(by omega)⟩ ?_ ?_
 ·exact bB [0]
 rintro i3 ⟨hu3,hi3⟩
 refine aE<|aE<|fS [.o,.ix,.rd [u_<|d3[i3]!],.ix,.rd [u_<|d3[a]!],.cq<|b_<|decide ((d3[i3]!)<(d3[a]!)),.cl] (rg 0 14) [] [(112,b_<|(decide ((i3:Int)≤(j2:Int)))&&(decide ((d3[i3]!)<(d3[a]!))))] (oc (go (true&&((decide ((i3:Int)≤(j2:Int)))==true)) fun h_=>(bH 0 i3 aR rfl (by(simp at h_⊢;omega))))<|oc (go (true&&((decide ((i3:Int)≤(j2:Int)))==true)) fun h_=>(dF 0 i3 [u_<|d3[i3]!] aR rfl (eK<|by(simp at h_;omega))))<|oc (go (true&&((decide ((i3:Int)≤(j2:Int)))==true)) fun h_=>(bH 0 a aR rfl (by(simp;omega))))<|oc (go (true&&((decide ((i3:Int)≤(j2:Int)))==true)) fun h_=>(dF 0 a [u_<|d3[a]!] aR rfl (eK<|by omega)))<|o1<|go (true&&((decide ((i3:Int)≤(j2:Int)))==true)) fun h_=>(qw<|kH (d3[i3]!)<|d3[a]!))<|aI rfl (fun e4=>?_) (fun e4=>?_)
 ·have p4:=e4;try simp only[bQ] at p4
  refine aP<|aO<|aM<|az [.w ((i3+1:Nat):Int)] [(10,c_ (i3+1:Nat))] (o1<|wi ((i3:Int)+1) ((i3+1:Nat):Int)<|by omega) ?_
  have hst_:scanUp (fun x=>ltInt x d3[a]!) d3 j2 i3=_:=Es (p:=(fun x=>ltInt x d3[a]!)) e4
  refine bC ((i3+1:Nat)) ⟨(hst_.symm.trans hu3),(by omega)⟩ (by omega) ?_
  exact bB [0]
 refine bR<|aE<|aO<|eA (σ:=Nat) [112] (fun j3=>[(11,c_ j3)]) [] (fun j3=>[]) (fun j3=>(scanDown (fun x=> !ltInt x d3[a]!) d3 i3 j3=scanDown (fun x=> !ltInt x d3[a]!) d3 i3 j2)∧(i3≤j3+1∧j3≤j2)) (fun j3=>j3) (j2:Nat) ⟨(by rfl),(by omega)⟩ ?_ ?_
 ·exact bB [0]
 rintro j3 ⟨hv3,hj3⟩
 refine aE<|aE<|fS [.o,.ix,.rd [u_<|d3[j3]!],.ix,.rd [u_<|d3[a]!],.cq<|b_<|decide ((d3[j3]!)<(d3[a]!)),.cl] (rg 0 15) [] [(129,b_<|(decide ((i3:Int)≤(j3:Int)))&&(!(decide ((d3[j3]!)<(d3[a]!)))))] (oc (go (true&&((decide ((i3:Int)≤(j3:Int)))==true)) fun h_=>(bH 0 j3 aR rfl (by(simp;omega))))<|oc (go (true&&((decide ((i3:Int)≤(j3:Int)))==true)) fun h_=>(dF 0 j3 [u_<|d3[j3]!] aR rfl (eK<|by omega)))<|oc (go (true&&((decide ((i3:Int)≤(j3:Int)))==true)) fun h_=>(bH 0 a aR rfl (by(simp;omega))))<|oc (go (true&&((decide ((i3:Int)≤(j3:Int)))==true)) fun h_=>(dF 0 a [u_<|d3[a]!] aR rfl (eK<|by omega)))<|o1<|go (true&&((decide ((i3:Int)≤(j3:Int)))==true)) fun h_=>(qw<|kH (d3[j3]!)<|d3[a]!))<|aI rfl (fun e5=>?_) (fun e5=>?_)
 ·have p5:=e5;try simp only[bQ] at p5
  refine aP<|aO<|aM<|az [.w ((j3-1:Nat):Int)] [(11,c_ (j3-1:Nat))] (o1<|wi ((j3:Int)-1) ((j3-1:Nat):Int)<|by omega) ?_
  have hst_:scanDown (fun x=> !ltInt x d3[a]!) d3 i3 j3=_:=Eu (p:=(fun x=> !ltInt x d3[a]!)) (by omega) e5
  refine bC ((j3-1:Nat)) ⟨(hst_.symm.trans hv3),(by omega)⟩ (by omega) ?_
  exact bB [0]
 refine bR<|aE<|aE ?_
 have hI3:scanUp (fun x=>ltInt x d3[a]!) d3 j2 i2=i3:=(by rw[←hu3];exact Et (p:=(fun x=>ltInt x d3[a]!)) e4)
 have hne3:=Lm (by omega) e4 e5
 have hJ3:scanDown (fun x=> !ltInt x d3[a]!) d3 i3 j2=j3:=(by rw[←hv3];exact Ew (p:=(fun x=> !ltInt x d3[a]!)) e5)
 refine bX [(134,b_<|decide ((i3:Int)>(j3:Int)))]<|aI rfl (fun e6=>?_) (fun e6=>?_)
 ·have p6:=dZ e6
  refine bR<|ni<|nh rfl ((aE<|bL [13,15] 16<|cO 3 [.ix,.rd [u_<|d3[a]!],.ix,.rd [u_<|d3[j3]!],.ix] (rg 0 13) [(155,vS al d3.toList cl),(156,c_ a),(160,u_<|d3[a]!),(164,u_<|d3[j3]!),(165,.pointer<|some<|(aZ al).add (j3*1))] (oc (bH 0 a aR rfl (by(simp;omega)))<|oc (dF 0 a [u_<|d3[a]!] aR rfl (eK<|by omega))<|oc (bH 0 j3 aR rfl (by(simp;omega)))<|oc (dF 0 j3 [u_<|d3[j3]!] aR rfl (eK<|by omega))<|o1<|bH 0 j3 aR rfl (by(simp;omega)))<|an 13 rfl (fB 0 j3 (d3[a]!) rfl aR (by(simp;omega)) (aW 0 (vS al (d3.toList.set j3<|d3[a]!) cl) (cE<|by simp)<|aW 155 (vS al (d3.toList.set j3<|d3[a]!) cl) (cE<|by simp)<|cD<|cO 1 [.ix] [14] [(166,.pointer<|some<|(aZ al).add (a*1))] (o1<|bH 0 a aR rfl (by(simp;omega)))<|an 15 rfl (fB 0 a (d3[j3]!) rfl aR (by(simp;omega)) (aW 0 (vq al d3 j3 a cl) (cE<|by simp)<|cb ?_))))))
  obtain⟨d107,hdd107⟩: ∃z,z=swp d3 j3 a:=⟨_,rfl⟩;have hszd107:d107.size=d3.size:=(by rw[hdd107];exact jK _ _ _)
  have hcv8:((d3.toList.set j3<|d3[a]!).set a (d3[j3]!))=d107.toList:=by rw[hdd107];exact lu _ _ _
  refine bj 0 (sU al d107.toList cl) rfl (cw hcv8) (aW 0 (vS al d107.toList cl) (eW hcv8)<|aD [(8,c_ j3)]<|aF ?_)
  have hP:=V1 (b:=b) (r:=(j3,d3)) hdd101 hI1 hJ1 (by omega) (by rw[←hdd105];exact he.symm.trans<|SI hI3 hJ3<|by omega)
  refine bJ [0] [c_ j3,b_ false] (j3,false,d107) ?_ ?_
  ·rfl
  exact⟨by rw[hP];simp only[*],by omega⟩
 have p6:=ga e6
 refine au<|bL [13,15] 16<|cO 3 [.ix,.rd [u_<|d3[j3]!],.ix,.rd [u_<|d3[i3]!],.ix] (rg 0 13) [(137,vS al d3.toList cl),(138,c_ j3),(142,u_<|d3[j3]!),(146,u_<|d3[i3]!),(147,.pointer<|some<|(aZ al).add (i3*1))] (oc (bH 0 j3 aR rfl (by(simp;omega)))<|oc (dF 0 j3 [u_<|d3[j3]!] aR rfl (eK<|by omega))<|oc (bH 0 i3 aR rfl (by(simp;omega)))<|oc (dF 0 i3 [u_<|d3[i3]!] aR rfl (eK<|by omega))<|o1<|bH 0 i3 aR rfl (by(simp;omega)))<|an 13 rfl (fB 0 i3 (d3[j3]!) rfl aR (by(simp;omega)) (aW 0 (vS al (d3.toList.set i3<|d3[j3]!) cl) (cE<|by simp)<|aW 137 (vS al (d3.toList.set i3<|d3[j3]!) cl) (cE<|by simp)<|cD<|cO 1 [.ix] [14] [(148,.pointer<|some<|(aZ al).add (j3*1))] (o1<|bH 0 j3 aR rfl (by(simp;omega)))<|an 15 rfl (fB 0 j3 (d3[i3]!) rfl aR (by(simp;omega)) (aW 0 (vq al d3 i3 j3 cl) (cE<|by simp)<|cb ?_))))
 obtain⟨d109,hdd109⟩: ∃z,z=swp d3 i3 j3:=⟨_,rfl⟩;have hszd109:d109.size=d3.size:=(by rw[hdd109];exact jK _ _ _)
 have hcv10:((d3.toList.set i3<|d3[j3]!).set j3 (d3[i3]!))=d109.toList:=by rw[hdd109];exact lu _ _ _
 refine bj 0 (sU al d109.toList cl) rfl (cw hcv10) (aW 0 (vS al d109.toList cl) (eW hcv10)<|bW [.w ((i3+1:Nat):Int)] [(10,c_ (i3+1:Nat))] (o1<|wi ((i3:Int)+1) ((i3+1:Nat):Int)<|by omega)<|aM<|az [.w ((j3-1:Nat):Int)] [(11,c_ (j3-1:Nat))] (o1<|wi ((j3:Int)-1) ((j3-1:Nat):Int)<|by omega) ?_)
 have hst_:partLoop ltInt a i2 j2 d3=_:=SJ hI3 hJ3<|by omega
 refine bC ((i3+1:Nat),(j3-1:Nat),d109) ⟨(by(rw[hdd109];exact hst_.symm.trans he)),(by omega),(by omega)⟩ (by(simp;omega)) ?_
 exact bB [0]
end Go.Proofs.YtobgjpigngoggaaGreat
namespace Go.Proofs.YtobgjpigngoggaaGreat
open Go V Go.Sort
theorem B1(x:Nat)(h:1≤x)(hx:x<2^64):2^Lib.bitLen x≤2*x:=by
 induction x using Nat.strongRecOn with
 |ind x ih=>
  rw[Lib.bitLen_half x (by omega) hx]
  by_cases h2:x/2=0
  ·have:x=1:=by omega
   subst this;decide
  ·have:=ih (x/2) (by omega) (by omega)<|by omega
   rw[Nat.pow_add,Nat.pow_one];omega
theorem Gz(x:Nat)(h:1≤x)(hx:x≤100000):Lib.bitLen x≤18:=by
 have h1:=B1 x h<|by omega
 rcases Nat.lt_or_ge 18 (Lib.bitLen x) with g|g
 ·exfalso
  have:=Nat.pow_le_pow_right (show 0<2 by decide) (show 19≤Lib.bitLen x from g)
  have e:2^19=524288:=by decide
  omega
 ·exact g
theorem V2(op:BinOp)(a b:Int)(h:op= .xor∨op= .and):0≤af op .u64 a b∧af op .u64 a b<18446744073709551616:=by
 rcases h with rfl|rfl<;>(unfold af;simp only[IntKind.wrap_u64];omega)
theorem IE{x:Int}{m:Nat}(hx:0≤x∧x<18446744073709551616)(hm:1≤m∧m≤1000000): ∃o:Nat,af .and .u64 x (((m:Int)-1))=(o:Int)∧o<m:=by
 obtain⟨X,rfl⟩:=Int.eq_ofNat_of_zero_le hx.1
 have h1:((m:Int)-1)=((m-1:Nat):Int):=by omega
 rw[h1]
 have h2:af .and .u64 (X:Int) ((m-1:Nat):Int)=((X&&&(m-1):Nat):Int):=u64_and_nat X (m-1) (by omega)<|by omega
 exact⟨_,h2,by have:=Nat.and_le_right (n:=X) (m:=m-1);omega⟩
theorem IF{d d2:Array Int}{a b i j:Nat}(h:PermIn a b d d2)(hi:a≤i∧i<b)(hj:a≤j∧j<b)(hb:b≤d.size):PermIn a b d (swp d2 i j):=
 permIn_trans _ _ _ a b h (swp_permIn d2 a b i j hi.1 hi.2 hj.1 hj.2 (by rw[h.1];exact hb))
open Go.RowKit Go.Shelf
def Tryz.lenA_ren:Go.Shelf.Ren:=⟨fun|8=>140|19=>192|20=>193|n=>n,fun|32=>263|3=>3|44=>312|46=>40|4=>4|5=>5|9=>9|n=>n,fun|n=>n⟩
theorem Tryz.lenA:Go.Proofs.SlLaysM.n8 Tryz.prog Tryz.lenA_ren:={
 mixed:=by kernel_rfl,
 f8:=Tryz.func140.trans<|congrArg some<|by kernel_rfl,
 f19:=Tryz.func192.trans<|congrArg some<|by kernel_rfl,
 f20:=Tryz.func193.trans<|congrArg some<|by kernel_rfl,
 t3:=Tryz.underlying3,
 a3:=Tryz.isAgg3,
 z3:=Tryz.sizeOf3,
 v3:=Tryz.zeroValue3,
 t4:=Tryz.underlying4,
 a4:=Tryz.isAgg4,
 z4:=Tryz.sizeOf4,
 v4:=Tryz.zeroValue4,
 t5:=Tryz.underlying5,
 a5:=Tryz.isAgg5,
 z5:=Tryz.sizeOf5,
 v5:=Tryz.zeroValue5,
 t9:=Tryz.underlying9,
 a9:=Tryz.isAgg9,
 z9:=Tryz.sizeOf9,
 v9:=Tryz.zeroValue9,
 t32:=Tryz.underlying263,
 a32:=Tryz.isAgg263,
 z32:=Tryz.sizeOf263,
 v32:=Tryz.zeroValue263,
 t44:=Tryz.underlying312,
 a44:=Tryz.isAgg312,
 z44:=Tryz.sizeOf312,
 v44:=Tryz.zeroValue312,
 t46:=Tryz.underlying40,
 a46:=Tryz.isAgg40,
 z46:=Tryz.sizeOf40,
 v46:=Tryz.zeroValue40}
theorem IG(n:Nat)(hn:n<18446744073709551616)(w:World):
  CW 140 #[u_ (n:Int)] w (i_ (Lib.bitLen n:Int)):=by
 refine(calls_of_every_depth fun D=>AnySM.bits_LenIn Tryz.lenA D (n:Int) w (by omega)<|by omega).mono ?_
 rintro e w' ⟨rfl,rfl⟩
 exact⟨by simp,Fr.refl _ _⟩
abbrev yl(p0):=(u_ ((2^Lib.bitLen p0:Nat):Int):Value)
theorem QK(n:Nat)(hn:1≤n∧n≤100000)(w:World):
  CW 237 #[c_ n] w (yl n):=by
 refine aU Tryz.func237 rfl (HS.nil w) (aD []<|aC<|dm 3 [.w (n:Int),.cq<|i_ (Lib.bitLen n:Int)] [(5,i_ (Lib.bitLen n:Int))] (oc (wv (n:Int)<|by omega)<|o1<|qw<|IG n<|by omega)<|aG<|cC (some 6) (yl n) (ip (congrArg (Value.int .u64) (by rw[IntKind.wrap_u64,Int.one_mul];have h_:=B1 n (by omega) (by omega);have h2_:((2:Int)^Lib.bitLen n)=((2^Lib.bitLen n:Nat):Int):=(by simp);rw[h2_];exact(fun(q_:Nat)(hq_:q_≤2*n)=>(by omega:((q_:Int))%18446744073709551616=(q_:Int))) _ h_))<|U4 (m:=Lib.bitLen n) rfl rfl rfl (by show Lib.bitLen n≤64;have h_:=Gz n (by omega) (by omega);omega))<|ak [(2,yl n)]<|aF<|bK [yl n] ?_)
 rfl
abbrev yn(p0):=(u_ (af .xor .u64 p0<|IntKind.u64.wrap<|p0*8192):Value)
abbrev J4(p0):=(u_ (af .xor .u64 (af .xor .u64 p0<|IntKind.u64.wrap<|p0*8192)<|(af .xor .u64 p0<|IntKind.u64.wrap<|p0*8192)/128):Value)
abbrev yo(p0):=(u_ (af .xor .u64 (af .xor .u64 (af .xor .u64 p0<|IntKind.u64.wrap<|p0*8192)<|(af .xor .u64 p0<|IntKind.u64.wrap<|p0*8192)/128)<|IntKind.u64.wrap<|(af .xor .u64 (af .xor .u64 p0<|IntKind.u64.wrap<|p0*8192)<|(af .xor .u64 p0<|IntKind.u64.wrap<|p0*8192)/128)*131072):Value)
theorem O5(br:Nat)(x:Int):
  CS 238 #[p_ br] [aA br [u_ x] 348] (fun(x':Int)=>(u_ x')) (fun x'=>0≤x'∧x'<18446744073709551616) fun x'=>[aA br [u_ x'] 348]:=by
 intro w hs
 refine aU Tryz.func238 rfl hs ?_
 refine aD [] ?_
 refine aE<|bL [9] 10 ?_
 refine cL 1 [.ld 0,.ld 0] (rg 0 9) [(10,yn x),(11,p_ br)] ?_
 refine an 9 rfl (dN 0 [yn x] rfl ?_)
 refine cD ?_
 refine dj ?_
 refine aE<|bL [9] 10 ?_
 refine cL 4 [.ld 0,.ld 0] (rg 0 6) [(12,p_ br),(14,yn x),(17,yn x)] ?_
 refine kQ 6 (some 18) (u_<|(af .xor .u64 x<|wU<|x*8192)/128) rfl (by kernel_rfl) (by kernel_rfl) (ip (congrArg (Value.int .u64)<|Int.fdiv_eq_ediv_of_nonneg (af .xor .u64 x<|wU<|x*8192)<|by decide)<|jJ (v:= .int .u64 ((af .xor .u64 x<|wU<|x*8192).fdiv 128)) (by kernel_rfl) fun _=>by kernel_rfl) ?_
 refine cL 1 [] [7,8] [(19,J4 x),(20,p_ br)] ?_
 refine an 9 rfl (dN 0 [J4 x] rfl ?_)
 refine cD ?_
 refine dj ?_
 refine aE<|bL [9] 10 ?_
 refine cL 1 [.ld 0,.ld 0] (rg 0 9) [(28,yo x),(29,p_ br)] ?_
 refine an 9 rfl (dN 0 [yo x] rfl ?_)
 refine cD ?_
 refine dj ?_
 refine aC<|bF [.ld 0] [(2,yo x)] ?_
 refine aF<|bJ [0] [yo x] (af .xor .u64 (af .xor .u64 (af .xor .u64 x<|wU<|x*8192)<|(af .xor .u64 x<|wU<|x*8192)/128)<|wU<|(af .xor .u64 (af .xor .u64 x<|wU<|x*8192)<|(af .xor .u64 x<|wU<|x*8192)/128)*131072) ?_ ?_
 ·rfl
 exact V2 .xor _ _<|.inl rfl
theorem QL(al:bn)(d:Array Int)(cl:Nat)(a b:Nat)(hb:a+8≤b∧b≤d.size)(hS:d.size≤100000):
  CS 274 #[vS al d.toList cl,c_ a,c_ b] [sU al d.toList cl] (fun(d':(Array Int))=>(.tuple #[])) (fun d'=>PermIn a b d d'∧d'.size=d.size) fun d'=>[sU al d'.toList cl]:=by
 intro w hs
 have hl1:=B1 (b-a) (by omega) (by omega);have hl2:1≤2^Lib.bitLen (b-a):=Nat.one_le_two_pow
 refine aU Tryz.func274 rfl hs (bW [.p,.p,.w ((b-a:Nat):Int)] [(6,c_ (b-a:Nat))] (o1<|wi ((b:Int)-(a:Int)) ((b-a:Nat):Int)<|by omega)<|aD [(15,b_<|decide (((b-a:Nat):Int)≥8))]<|aI rfl (fun e1=>?_) (fun e1=>?_))
 ·have p1:=dZ e1
  refine aC<|iE [.p,.w ((b-a:Nat):Int),.al,.st 1] [] (fun b1=>[(7,p_ b1)]) (fun b1=>[]) (fun b1=>aA b1 [u_ ((b-a:Nat):Int)] 348) (fun b1=>o1<|wv ((b-a:Nat):Int)<|by omega) ?_
  intro b1
  refine bW [.cq<|u_ ((2^Lib.bitLen (b-a:Nat):Nat):Int)] [(8,u_ ((2^Lib.bitLen (b-a:Nat):Nat):Int))] (o1<|qw<|QK (b-a:Nat)<|by omega)<|bW [.p,.p,.w (((b-a)/4:Nat):Int),.w ((((b-a)/4)*2:Nat):Int),.w ((a+(((b-a)/4)*2):Nat):Int),.w (((a+(((b-a)/4)*2))-1:Nat):Int)] [(9,c_ ((a+(((b-a)/4)*2))-1:Nat))] (oc (wo<|(j8 (e:=((b-a:Nat):Int).tdiv 4)<|by(rw[wQ];constructor<;>omega)).trans (by rfl:(((b-a:Nat):Int).tdiv 4:Int)=(((b-a)/4:Nat):Int)))<|oc (wi ((((b-a)/4:Nat):Int)*2) ((((b-a)/4)*2:Nat):Int)<|by omega)<|oc (wi ((a:Int)+((((b-a)/4)*2:Nat):Int)) ((a+(((b-a)/4)*2):Nat):Int)<|by omega)<|o1<|wi (((a+(((b-a)/4)*2):Nat):Int)-1) (((a+(((b-a)/4)*2))-1:Nat):Int)<|by omega) ?_
  refine aO<|eA (σ:=Nat×(Array Int)×Int) [] (fun(i,d2,x2)=>[(9,c_ i),(0,vS al d2.toList cl)]) [0,0] (fun(i,d2,x2)=>[sU al d2.toList cl,aA b1 [u_ x2] 348]) (fun(i,d2,x2)=>(PermIn a b d d2)∧(d2.size=d.size)∧(a≤i∧i≤a+(b-a)/4*2+2)) (fun(i,d2,x2)=>a+(b-a)/4*2+2-i) (((a+(((b-a)/4)*2))-1:Nat),d,((b-a:Nat):Int)) ⟨(permIn_refl _ _ _),(by rfl),(by omega)⟩ ?_ ?_
  ·exact bB [0,0]
  rintro⟨i,d2,x2⟩ ⟨hp,hz,hi⟩
  refine aE<|bW [.p,.p,.p,.w (((b-a)/4:Nat):Int),.w ((((b-a)/4)*2:Nat):Int),.w ((a+(((b-a)/4)*2):Nat):Int),.w (((a+(((b-a)/4)*2))+1:Nat):Int)] [(33,b_<|decide ((i:Int)≤(((a+(((b-a)/4)*2))+1:Nat):Int)))] (oc (wo<|(j8 (e:=((b-a:Nat):Int).tdiv 4)<|by(rw[wQ];constructor<;>omega)).trans (by rfl:(((b-a:Nat):Int).tdiv 4:Int)=(((b-a)/4:Nat):Int)))<|oc (wi ((((b-a)/4:Nat):Int)*2) ((((b-a)/4)*2:Nat):Int)<|by omega)<|oc (wi ((a:Int)+((((b-a)/4)*2:Nat):Int)) ((a+(((b-a)/4)*2):Nat):Int)<|by omega)<|o1<|wi (((a+(((b-a)/4)*2):Nat):Int)+1) (((a+(((b-a)/4)*2))+1:Nat):Int)<|by omega) ?_
  refine aI rfl (fun e2=>?_) (fun e2=>?_)
  ·have p2:=dZ e2
   refine au<|aO<|aC<|aG<|bM (some 36) [1] (O5 b1 x2) ?_
   rintro x'2 hz3
   refine az [.p,.w<|((2^Lib.bitLen (b-a:Nat):Nat):Int)-1,.p,.w<|af .and .u64 x'2<|((2^Lib.bitLen (b-a:Nat):Nat):Int)-1] [(10,i_<|af .and .u64 x'2<|((2^Lib.bitLen (b-a:Nat):Nat):Int)-1)] (oc (wv (((2^Lib.bitLen (b-a:Nat):Nat):Int)-1)<|by omega)<|o1<|wo<|j8 (e:=af .and .u64 x'2<|((2^Lib.bitLen (b-a:Nat):Nat):Int)-1)<|by(obtain⟨o_,ho_,hb_⟩:=IE ‹_› (m:=2^Lib.bitLen (b-a)) ⟨by omega,by omega⟩;rw[ho_];constructor<;>omega)) ?_
   refine aE<|aE ?_
   obtain⟨o3,ho3,hbo3⟩: ∃o:Nat,af .and .u64 x'2 (((2^Lib.bitLen (b-a:Nat):Nat):Int)-1)=(o:Int)∧o<2^Lib.bitLen (b-a):=by exact IE ‹_› ⟨by omega,by omega⟩
   refine aW 10 (c_ o3) (ko ho3)<|bX [(43,b_<|decide ((o3:Int)≥((b-a:Nat):Int)))]<|aI rfl (fun e4=>?_) (fun e4=>?_)
   ·have p4:=dZ e4
    refine aM<|az [.w ((o3-(b-a):Nat):Int)] [(10,c_ (o3-(b-a):Nat))] (o1<|wi ((o3:Int)-((b-a:Nat):Int)) ((o3-(b-a):Nat):Int)<|by omega)<|bL [17,19] 20<|cO 3 [.w ((a+(o3-(b-a)):Nat):Int),.w ((a+(o3-(b-a)):Nat):Int),.ix,.rd [u_<|d2[(a+(o3-(b-a)):Nat)]!],.ix,.rd [u_<|d2[i]!],.ix] (rg 0 17) [(49,vS al d2.toList cl),(52,c_ (a+(o3-(b-a)):Nat)),(58,u_<|d2[(a+(o3-(b-a)):Nat)]!),(62,u_<|d2[i]!),(63,.pointer<|some<|(aZ al).add (i*1))] (oc (wi ((a:Int)+((o3-(b-a):Nat):Int)) ((a+(o3-(b-a)):Nat):Int)<|by omega)<|oc (wi ((a:Int)+((o3-(b-a):Nat):Int)) ((a+(o3-(b-a)):Nat):Int)<|by omega)<|oc (bH 1 (a+(o3-(b-a)):Nat) aR rfl (by(simp;omega)))<|oc (dF 1 (a+(o3-(b-a)):Nat) [u_<|d2[(a+(o3-(b-a)):Nat)]!] aR rfl (eK<|by omega))<|oc (bH 1 i aR rfl (by(simp;omega)))<|oc (dF 1 i [u_<|d2[i]!] aR rfl (eK<|by omega))<|o1<|bH 1 i aR rfl (by(simp;omega)))<|an 17 rfl (fB 1 i (d2[(a+(o3-(b-a)):Nat)]!) rfl aR (by(simp;omega)) (aW 0 (vS al (d2.toList.set i<|d2[(a+(o3-(b-a)):Nat)]!) cl) (cE<|by simp)<|aW 49 (vS al (d2.toList.set i<|d2[(a+(o3-(b-a)):Nat)]!) cl) (cE<|by simp)<|cD<|cO 1 [.ix] [18] [(64,.pointer<|some<|(aZ al).add ((a+(o3-(b-a)):Nat)*1))] (o1<|bH 1 (a+(o3-(b-a)):Nat) aR rfl (by(simp;omega)))<|an 19 rfl (fB 1 (a+(o3-(b-a)):Nat) (d2[i]!) rfl aR (by(simp;omega)) (aW 0 (vS al ((d2.toList.set i<|d2[(a+(o3-(b-a)):Nat)]!).set (a+(o3-(b-a)):Nat) (d2[i]!)) cl) (cE<|by simp)<|cb ?_))))
    obtain⟨d104,hdd104⟩: ∃z,z=swp d2 i (a+(o3-(b-a)):Nat):=⟨_,rfl⟩;have hszd104:d104.size=d2.size:=(by rw[hdd104];exact jK _ _ _)
    have hcv5:((d2.toList.set i<|d2[(a+(o3-(b-a)):Nat)]!).set (a+(o3-(b-a)):Nat) (d2[i]!))=d104.toList:=by rw[hdd104];exact lu _ _ _
    refine bj 1 (sU al d104.toList cl) rfl (cw hcv5) (aW 0 (vS al d104.toList cl) (eW hcv5)<|aM<|az [.w ((i+1:Nat):Int)] [(9,c_ (i+1:Nat))] (o1<|wi ((i:Int)+1) ((i+1:Nat):Int)<|by omega) ?_)
    have hp2:PermIn a b d d104:=by rw[hdd104];exact IF hp (by omega) (by omega)<|by omega
    refine bC ((i+1:Nat),d104,x'2) ⟨hp2,(by omega),(by omega)⟩ (by(simp;omega)) ?_
    exact bB [1,0]
   have p4:=ga e4
   refine aP<|bL [17,19] 20<|cO 3 [.w ((a+o3:Nat):Int),.w ((a+o3:Nat):Int),.ix,.rd [u_<|d2[(a+o3:Nat)]!],.ix,.rd [u_<|d2[i]!],.ix] (rg 0 17) [(49,vS al d2.toList cl),(52,c_ (a+o3:Nat)),(58,u_<|d2[(a+o3:Nat)]!),(62,u_<|d2[i]!),(63,.pointer<|some<|(aZ al).add (i*1))] (oc (wi ((a:Int)+(o3:Int)) ((a+o3:Nat):Int)<|by omega)<|oc (wi ((a:Int)+(o3:Int)) ((a+o3:Nat):Int)<|by omega)<|oc (bH 1 (a+o3:Nat) aR rfl (by(simp;omega)))<|oc (dF 1 (a+o3:Nat) [u_<|d2[(a+o3:Nat)]!] aR rfl (eK<|by omega))<|oc (bH 1 i aR rfl (by(simp;omega)))<|oc (dF 1 i [u_<|d2[i]!] aR rfl (eK<|by omega))<|o1<|bH 1 i aR rfl (by(simp;omega)))<|an 17 rfl (fB 1 i (d2[(a+o3:Nat)]!) rfl aR (by(simp;omega)) (aW 0 (vS al (d2.toList.set i<|d2[(a+o3:Nat)]!) cl) (cE<|by simp)<|aW 49 (vS al (d2.toList.set i<|d2[(a+o3:Nat)]!) cl) (cE<|by simp)<|cD<|cO 1 [.ix] [18] [(64,.pointer<|some<|(aZ al).add ((a+o3:Nat)*1))] (o1<|bH 1 (a+o3:Nat) aR rfl (by(simp;omega)))<|an 19 rfl (fB 1 (a+o3:Nat) (d2[i]!) rfl aR (by(simp;omega)) (aW 0 (vS al ((d2.toList.set i<|d2[(a+o3:Nat)]!).set (a+o3:Nat) (d2[i]!)) cl) (cE<|by simp)<|cb ?_))))
   obtain⟨d106,hdd106⟩: ∃z,z=swp d2 i (a+o3:Nat):=⟨_,rfl⟩;have hszd106:d106.size=d2.size:=(by rw[hdd106];exact jK _ _ _)
   have hcv7:((d2.toList.set i<|d2[(a+o3:Nat)]!).set (a+o3:Nat) (d2[i]!))=d106.toList:=by rw[hdd106];exact lu _ _ _
   refine bj 1 (sU al d106.toList cl) rfl (cw hcv7) (aW 0 (vS al d106.toList cl) (eW hcv7)<|aM<|az [.w ((i+1:Nat):Int)] [(9,c_ (i+1:Nat))] (o1<|wi ((i:Int)+1) ((i+1:Nat):Int)<|by omega) ?_)
   have hp2:PermIn a b d d106:=by rw[hdd106];exact IF hp (by omega) (by omega)<|by omega
   refine bC ((i+1:Nat),d106,x'2) ⟨hp2,(by omega),(by omega)⟩ (by(simp;omega)) ?_
   exact bB [1,0]
  have p2:=ga e2
  refine bR<|jk [0] [] (fun _ w r s=>trivial) (d2) ?_ ?_<|by kernel_rfl
  ·rfl
  exact⟨hp,hz⟩
 exact absurd e1<|by(simp;omega)
end Go.Proofs.YtobgjpigngoggaaGreat
