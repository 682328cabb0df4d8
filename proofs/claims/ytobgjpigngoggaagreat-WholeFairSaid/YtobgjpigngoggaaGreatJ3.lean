/- The functions of the scheduler, layer by layer, proved operation by operation for all arguments, under the conditions that each theorem states: part 3. -/
import Derived.Test.YtobgjpigngoggaaGreatProg
import Derived.Shelf.SlMaps.Clone
import Derived.Ground.SlmcProg
import Derived.Laws.BitsAllLaws
import Derived.Shelf.SortM.Plain
import Derived.Ground.SlgmProg
import Derived.Shelf.Slices.CompactI
import Derived.Test.YtobgjpigngoggaaGreatJ2
set_option linter.unusedVariables false
set_option linter.unusedSimpArgs false
set_option maxHeartbeats 4000000
set_option maxRecDepth 100000
namespace Go.Proofs.YtobgjpigngoggaaGreat
open Go V
def kl(a b:It):Prop:=eV a.ka a.ki b.ka b.ki
instance(a b:It):Decidable (kl a b):=by unfold kl;infer_instance
variable{a b:It}
theorem I7{c:It}(h:kl a b)(k:kl b c):kl a c:=by unfold kl eV at*;omega
theorem J0(h:kl a b): ¬kl b a:=by unfold kl eV at*;omega
theorem VG(h: ¬kl a b)(k: ¬kl b a):a.ka=b.ka∧a.ki=b.ki:=by unfold kl eV at*;omega
def fW(l:List It):Prop:=l.Pairwise kl
def gy(x:It):List It→List It
 |[]=>[x]
 |y::l=>if kl x y then x::y::l else y::gy x l
theorem wx(x:It): ∀l,(gy x l).length=l.length+1
 |[]=>rfl
 |y::l=>by unfold gy;split<;>simp[wx x l]
variable{x y:It}
theorem Hu(h:kl x y)(R:List It): ∀L,gy x (L++y::R)=gy x L++y::R
 |[]=>by simp[gy,h]
 |z::L=>by simp only[List.cons_append,gy];split<;>simp[Hu h R L]
theorem HZ(h:kl y x)(R:List It): ∀L,fW (L++y::R)→gy x (L++y::R)=L++y::gy x R
 |[],_=>by simp[gy,J0 h]
 |z::L,hs=>by
  have hs':=List.pairwise_cons.1 hs
  have hz:kl z y:=hs'.1 y<|by simp
  have hn: ¬kl x z:=J0<|I7 hz h
  simp only[List.cons_append,gy,if_neg hn]
  rw[HZ h R L hs'.2]
theorem D1{z:It}: ∀{l:List It},z∈gy x l↔z=x∨z∈l
 |[]=>by simp[gy]
 |y::l=>by
  unfold gy;split
  ·simp
  ·simp only[List.mem_cons,D1 (l:=l)];grind
theorem I8: ∀{l:List It},fW l→(∀y∈l,¬(y.ka=x.ka∧y.ki=x.ki))→fW (gy x l)
 |[],_,_=>by simp[gy,fW]
 |y::l,hs,hn=>by
  have hs':=List.pairwise_cons.1 hs
  unfold gy;split
  ·rename_i h
   refine List.pairwise_cons.2 ⟨λz hz=>?_,hs⟩
   rcases List.mem_cons.1 hz with rfl|hz
   ·exact h
   ·exact I7 h<|hs'.1 z hz
  ·rename_i h
   refine List.pairwise_cons.2 ⟨λz hz=>?_,I8 hs'.2 λz hz=>hn z<|by simp[hz]⟩
   rcases D1.1 hz with rfl|hz
   ·by_cases hk:kl y z
    ·exact hk
    ·exact absurd (VG hk h)<|hn y<|by simp
   ·exact hs'.1 z hz
def iG(a i:Int)(l:List It):List It:=l.filter λy=> !decide (y.ka=a∧y.ki=i)
variable{a i:Int}{l:List It}
theorem Q0(h:fW l):fW (iG a i l):=List.Pairwise.filter _ h
theorem yo(h: ∀y∈l,¬(y.ka=a∧y.ki=i)):iG a i l=l:=by
 unfold iG;rw[List.filter_eq_self];intro y hy;simp only[Bool.not_eq_true',decide_eq_false_iff_not];exact h y hy
variable{L R:List It}
theorem lM(h:fW (L++x::R)):fW L∧fW R∧(∀y∈L,kl y x)∧(∀y∈R,kl x y)∧(∀y∈L,∀z∈R,kl y z):=by
 obtain⟨h1,h2,h3⟩:=List.pairwise_append.1 h
 obtain⟨h4,h5⟩:=List.pairwise_cons.1 h2
 exact⟨h1,h5,λy hy=>h3 y hy x<|by simp,h4,λy hy z hz=>h3 y hy z<|by simp[hz]⟩
theorem EC(h:fW (L++x::R)):iG x.ka x.ki (L++x::R)=L++R:=by
 obtain⟨_,_,h3,h4,_⟩:=lM h
 have hL: ∀y∈L,¬(y.ka=x.ka∧y.ki=x.ki):=λy hy e=>by have:=h3 y hy;unfold kl eV at this;omega
 have hR: ∀y∈R,¬(y.ka=x.ka∧y.ki=x.ki):=λy hy e=>by have:=h4 y hy;unfold kl eV at this;omega
 have e1:=yo hL;have e2:=yo hR
 unfold iG at*
 rw[List.filter_append,List.filter_cons,e1,e2];simp
theorem PY(h:fW (L++x::R))(hk:eV a i x.ka x.ki):iG a i (L++x::R)=iG a i L++x::R:=by
 obtain⟨_,_,h3,h4,_⟩:=lM h
 have hR: ∀y∈x::R,¬(y.ka=a∧y.ki=i):=λy hy e=>by
  rcases List.mem_cons.1 hy with rfl|hy
  ·unfold eV at hk;omega
  ·have:=h4 y hy;unfold kl eV at*;omega
 have e1:=yo hR
 unfold iG at*
 rw[List.filter_append,e1]
theorem Ou(h:fW (L++x::R))(hk:eV x.ka x.ki a i):iG a i (L++x::R)=L++x::iG a i R:=by
 obtain⟨_,_,h3,h4,_⟩:=lM h
 have hL: ∀y∈L,¬(y.ka=a∧y.ki=i):=λy hy e=>by have:=h3 y hy;unfold kl eV at*;omega
 have hx: ¬(x.ka=a∧x.ki=i):=λe=>by unfold eV at hk;omega
 have e1:=yo hL
 unfold iG at*
 rw[List.filter_append,e1,List.filter_cons,if_pos (by simp only[Bool.not_eq_true',decide_eq_false_iff_not];exact hx)]
def T.Bal:T→Prop
 | .nil=>True
 | .node _ _ _ _ _ l r=>l.hgt≤r.hgt+1∧r.hgt≤l.hgt+1∧l.Bal∧r.Bal
variable{b:Nat}{l r:T}
theorem ru:(mk b x l r).hgt=1+max l.hgt r.hgt:=rfl
theorem Ah:(mk b x l r).toL=l.toL++x::r.toL:=rfl
theorem nk(h1:l.hgt≤r.hgt+1)(h2:r.hgt≤l.hgt+1)(h3:l.Bal)(h4:r.Bal):(mk b x l r).Bal:=⟨h1,h2,h3,h4⟩
theorem zj(hl:l.Right)(hr:r.Right)(bl:l.Bal)(br:r.Bal)(h1:l.hgt≤r.hgt+2)(h2:r.hgt≤l.hgt+2):
  (jE b x l r).Right∧(jE b x l r).Bal∧(jE b x l r).toL=l.toL++x::r.toL∧max l.hgt r.hgt≤(jE b x l r).hgt∧(jE b x l r).hgt≤1+max l.hgt r.hgt∧(l.hgt≤r.hgt+1→r.hgt≤l.hgt+1→(jE b x l r).hgt=1+max l.hgt r.hgt):=by
 by_cases c1:l.hgt≤r.hgt+1
 ·by_cases c2:r.hgt≤l.hgt+1
  ·rw[M7 c1 c2]
   exact⟨mL hl hr,nk c1 c2 bl br,rfl,by rw[ru];omega,by rw[ru];omega,λ_ _=>rfl⟩
  ·cases r with
   |nil=>have:=hl.pos;simp only[kA] at*;omega
   |node br' y my hy ny p q=>
    obtain⟨em,eh,en,hp,hq⟩:=hr
    obtain⟨b1,b2,bp,bq⟩:=br
    by_cases c3:p.hgt>q.hgt
    ·cases p with
     |nil=>have:=hq.pos;simp only[kA] at*;omega
     |node bz z mz hz nz a c=>
      rw[Ks c1 c2 c3]
      obtain⟨em2,eh2,en2,ha,hc⟩:=hp
      obtain⟨b3,b4,ba,bc⟩:=bp
      simp only[iz,dN] at*
      refine⟨mL (mL hl ha)<|mL hc hq,nk ?_ ?_ (nk ?_ ?_ bl ba)<|nk ?_ ?_ bc bq,?_,?_,?_,?_⟩
      all_goals(try simp only[ru,Ah,T.toL,List.append_assoc,List.cons_append])<;>(try omega)
    ·rw[Kr c1 c2 c3]
     simp only[iz,dN] at*
     refine⟨mL (mL hl hp) hq,nk ?_ ?_ (nk ?_ ?_ bl bp) bq,?_,?_,?_,?_⟩
     all_goals(try simp only[ru,Ah,T.toL,List.append_assoc,List.cons_append])<;>(try omega)
 ·cases l with
  |nil=>have:=hr.pos;simp only[kA] at*;omega
  |node bl' y my hy ny p q=>
   obtain⟨em,eh,en,hp,hq⟩:=hl
   obtain⟨b1,b2,bp,bq⟩:=bl
   by_cases c3:q.hgt>p.hgt
   ·cases q with
    |nil=>have:=hp.pos;simp only[kA] at*;omega
    |node bz z mz hz nz a c=>
     rw[Kq c1 c3]
     obtain⟨em2,eh2,en2,ha,hc⟩:=hq
     obtain⟨b3,b4,ba,bc⟩:=bq
     simp only[iz,dN] at*
     refine⟨mL (mL hp ha)<|mL hc hr,nk ?_ ?_ (nk ?_ ?_ bp ba)<|nk ?_ ?_ bc br,?_,?_,?_,?_⟩
     all_goals(try simp only[ru,Ah,T.toL,List.append_assoc,List.cons_append])<;>(try omega)
   ·rw[Kp c1 c3]
    simp only[iz,dN] at*
    refine⟨mL hp<|mL hq hr,nk ?_ ?_ bp<|nk ?_ ?_ bq br,?_,?_,?_,?_⟩
    all_goals(try simp only[ru,Ah,T.toL,List.append_assoc,List.cons_append])<;>(try omega)
structure ia(t z:T)(l:List It)(lo hi:Int):Prop where
 right:z.Right
 bal:z.Bal
 list:z.toL=l
 lo:t.hgt+lo≤z.hgt
 hi:z.hgt≤t.hgt+hi
variable{m it:It}{h n:Int}{z:T}
theorem XI(ht:(T.node b x m h n l r).Right)(hb:(T.node b x m h n l r).Bal)(c:ia l z (gy it l.toL) 0 1)(hk:kl it x):ia (.node b x m h n l r) (jE b x z r) (gy it (T.node b x m h n l r).toL) 0 1:=by
 obtain⟨em,eh,en,hl,hr⟩:=ht
 obtain⟨b1,b2,bl,br⟩:=hb
 have c4:=c.lo;have c5:=c.hi
 obtain⟨k1,k2,k3,k4,k5,k6⟩:=zj (b:=b) (x:=x) c.right hr c.bal br (by omega)<|by omega
 refine⟨k1,k2,by rw[k3,c.list,T.toL,Hu hk],?_,?_⟩<;>rw[iz,eh,dN]
 ·by_cases d1:z.hgt≤r.hgt+1
  ·have:=k6 d1 (by omega);omega
  ·omega
 ·by_cases d1:z.hgt≤r.hgt+1
  ·have:=k6 d1 (by omega);omega
  ·omega
theorem XJ(ht:(T.node b x m h n l r).Right)(hb:(T.node b x m h n l r).Bal)(hs:fW (T.node b x m h n l r).toL)(c:ia r z (gy it r.toL) 0 1)(hk:kl x it):ia (.node b x m h n l r) (jE b x l z) (gy it (T.node b x m h n l r).toL) 0 1:=by
 obtain⟨em,eh,en,hl,hr⟩:=ht
 obtain⟨b1,b2,bl,br⟩:=hb
 have c4:=c.lo;have c5:=c.hi
 obtain⟨k1,k2,k3,k4,k5,k6⟩:=zj (b:=b) (x:=x) hl c.right bl c.bal (by omega)<|by omega
 refine⟨k1,k2,by rw[k3,c.list,T.toL,HZ hk _ _ hs],?_,?_⟩<;>rw[iz,eh,dN]
 ·by_cases d1:z.hgt≤l.hgt+1
  ·have:=k6 (by omega) d1;omega
  ·omega
 ·by_cases d1:z.hgt≤l.hgt+1
  ·have:=k6 (by omega) d1;omega
  ·omega
variable{lst:List It}
theorem J1{b':Nat}(ht:(T.node b x m h n l r).Right)(hb:(T.node b x m h n l r).Bal)(c:ia r z lst (-1) 0):ia (.node b x m h n l r) (jE b' y l z) (l.toL++y::lst) (-1) 0:=by
 obtain⟨em,eh,en,hl,hr⟩:=ht
 obtain⟨b1,b2,bl,br⟩:=hb
 have c4:=c.lo;have c5:=c.hi
 obtain⟨k1,k2,k3,k4,k5,k6⟩:=zj (b:=b') (x:=y) hl c.right bl c.bal (by omega)<|by omega
 refine⟨k1,k2,by rw[k3,c.list],?_,?_⟩<;>rw[iz,eh,dN]
 ·by_cases d1:l.hgt≤z.hgt+1
  ·have:=k6 d1 (by omega);omega
  ·omega
 ·by_cases d1:l.hgt≤z.hgt+1
  ·have:=k6 d1 (by omega);omega
  ·omega
theorem Q1{b':Nat}(ht:(T.node b x m h n l r).Right)(hb:(T.node b x m h n l r).Bal)(c:ia l z lst (-1) 0):ia (.node b x m h n l r) (jE b' y z r) (lst++y::r.toL) (-1) 0:=by
 obtain⟨em,eh,en,hl,hr⟩:=ht
 obtain⟨b1,b2,bl,br⟩:=hb
 have c4:=c.lo;have c5:=c.hi
 obtain⟨k1,k2,k3,k4,k5,k6⟩:=zj (b:=b') (x:=y) c.right hr c.bal br (by omega)<|by omega
 refine⟨k1,k2,by rw[k3,c.list],?_,?_⟩<;>rw[iz,eh,dN]
 ·by_cases d1:r.hgt≤z.hgt+1
  ·have:=k6 (by omega) d1;omega
  ·omega
 ·by_cases d1:r.hgt≤z.hgt+1
  ·have:=k6 (by omega) d1;omega
  ·omega
theorem Q2:ia .nil (mk b it .nil .nil) (gy it T.nil.toL) 0 1:=⟨mL Ht Ht,nk (by decide) (by decide) trivial trivial,rfl,by simp[ru,kA],by simp[ru,kA]⟩
def T.findT(a i:Int):T→T
 | .nil=> .nil
 | .node b x m h n l r=>if x.ka=a∧x.ki=i then .node b x m h n l r else if eV x.ka x.ki a i then T.findT a i r else T.findT a i l
theorem DC: ∀{t:T},fW t.toL→t.findT a i= .nil→ ∀y∈t.toL,¬(y.ka=a∧y.ki=i)
 | .nil,_,_=>by simp[T.toL]
 | .node b x m h n l r,hs,hf=>by
   obtain⟨h1,h2,h3,h4,h5⟩:=lM (L:=l.toL) (R:=r.toL) hs
   unfold T.findT at hf
   split at hf
   ·cases hf
   ·rename_i hx
    split at hf
    ·rename_i hl
     have ih:=DC h2 hf
     intro y hy
     simp only[T.toL,List.mem_append,List.mem_cons] at hy
     rcases hy with hy|rfl|hy
     ·intro e;have:=h3 y hy;unfold kl eV at*;omega
     ·exact hx
     ·exact ih y hy
    ·rename_i hl
     have ih:=DC h1 hf
     intro y hy
     simp only[T.toL,List.mem_append,List.mem_cons] at hy
     rcases hy with hy|rfl|hy
     ·exact ih y hy
     ·exact hx
     ·intro e;have:=h4 y hy;unfold kl eV at*;omega
theorem y6: ∀{t:T}{b:Nat}{x m:It}{h n:Int}{l r:T},t.findT a i= .node b x m h n l r→(x.ka=a∧x.ki=i)∧x∈t.toL
 | .nil,_,_,_,_,_,_,_,hf=>by cases hf
 | .node b' x' m' h' n' l' r',b,x,m,h,n,l,r,hf=>by
   unfold T.findT at hf
   split at hf
   ·rename_i hx;cases hf;exact⟨hx,by simp[T.toL]⟩
   ·split at hf
    ·have:=y6 hf;exact⟨this.1,by simp[T.toL,this.2]⟩
    ·have:=y6 hf;exact⟨this.1,by simp[T.toL,this.2]⟩
def T.hasB(at_:Int):T→Bool
 | .nil=>false
 | .node _ _ m .. =>decide (m.va≤at_)
theorem PZ(h:fW (y::L)):iG y.ka y.ki (y::L)=L:=by simpa using EC (L:=[]) h
theorem yz(L:List It):(iG a i L).length≤L.length:=List.length_filter_le _ _
theorem Q3(h:L.head?=some y):y∈L:=List.mem_of_mem_head? h
theorem SN(hR:(T.node b x m h n l .nil).Right)(hB:(T.node b x m h n l .nil).Bal):ia (.node b x m h n l .nil) l (l.toL++T.nil.toL) (-1) 0:=by
 obtain⟨em,eh,en,hl,hr⟩:=hR
 have:=hl.pos
 refine⟨hl,hB.2.2.1,by simp[T.toL],?_,?_⟩<;>rw[iz,eh,dN,kA]<;>omega
theorem SO(hR:(T.node b x m h n l r).Right)(hB:(T.node b x m h n l r).Bal)(hS:fW r.toL)(hy:r.toL.head?=some y)(c:ia r z (iG y.ka y.ki r.toL) (-1) 0):
  ia (.node b x m h n l r) (jE b y l z) (l.toL++r.toL) (-1) 0:=by
 have h1:=J1 (b':=b) (y:=y) hR hB c
 obtain⟨L,hL⟩: ∃L,r.toL=y::L:=by cases hr:r.toL with|nil=>rw[hr] at hy;cases hy|cons z L=>rw[hr] at hy;simp at hy;subst hy;exact⟨L,rfl⟩
 rw[hL,PZ<|hL▸hS] at h1
 rw[hL];exact h1
section
variable{b:Nat}{x m:It}{h n:Int}{l r z:T}{a i:Int}
theorem Q4(hS:fW (T.node b x m h n l r).toL)(hk:x.ka=a∧x.ki=i):iG a i (T.node b x m h n l r).toL=l.toL++r.toL:=by
 obtain⟨rfl,rfl⟩:=hk;exact EC hS
theorem XK(hS:fW (T.node b x m h n l r).toL)(hM: ∃y∈(T.node b x m h n l r).toL,y.ka=a∧y.ki=i)(hc:eV x.ka x.ki a i): ∃y∈r.toL,y.ka=a∧y.ki=i:=by
 obtain⟨y,hy,e1,e2⟩:=hM
 obtain⟨_,_,h3,_,_⟩:=lM (L:=l.toL) (R:=r.toL) hS
 simp only[T.toL,List.mem_append,List.mem_cons] at hy
 rcases hy with hy|rfl|hy
 ·have:=h3 y hy;unfold kl eV at*;omega
 ·unfold eV at hc;omega
 ·exact⟨y,hy,e1,e2⟩
theorem J2(hc: ¬eV x.ka x.ki a i)(hn: ¬(x.ka=a∧x.ki=i)):eV a i x.ka x.ki:=by unfold eV at*;omega
theorem XL(hS:fW (T.node b x m h n l r).toL)(hM: ∃y∈(T.node b x m h n l r).toL,y.ka=a∧y.ki=i)(hc: ¬eV x.ka x.ki a i)(hn: ¬(x.ka=a∧x.ki=i)): ∃y∈l.toL,y.ka=a∧y.ki=i:=by
 obtain⟨y,hy,e1,e2⟩:=hM
 obtain⟨_,_,_,h4,_⟩:=lM (L:=l.toL) (R:=r.toL) hS
 have hk:=J2 hc hn
 simp only[T.toL,List.mem_append,List.mem_cons] at hy
 rcases hy with hy|rfl|hy
 ·exact⟨y,hy,e1,e2⟩
 ·unfold eV at hk;omega
 ·have:=h4 y hy;unfold kl eV at*;omega
theorem XM(hR:(T.node b x m h n l r).Right)(hB:(T.node b x m h n l r).Bal)(hS:fW (T.node b x m h n l r).toL)(c:ia r z (iG a i r.toL) (-1) 0)(hc:eV x.ka x.ki a i):ia (.node b x m h n l r) (jE b x l z) (iG a i (T.node b x m h n l r).toL) (-1) 0:=by
 have:=J1 (b':=b) (y:=x) hR hB c
 rw[T.toL,Ou hS hc];exact this
theorem XO(hR:(T.node b x m h n l r).Right)(hB:(T.node b x m h n l r).Bal)(hS:fW (T.node b x m h n l r).toL)(c:ia l z (iG a i l.toL) (-1) 0)(hn: ¬(x.ka=a∧x.ki=i))(hc: ¬eV x.ka x.ki a i):ia (.node b x m h n l r) (jE b x z r) (iG a i (T.node b x m h n l r).toL) (-1) 0:=by
 have:=Q1 (b':=b) (y:=x) hR hB c
 rw[T.toL,PY hS<|J2 hc hn];exact this
end
def bt(a b:It):Prop:=eV b.va b.vi a.va a.vi∨(b.va=a.va∧b.vi=a.vi)∧eV b.ka b.ki a.ka a.ki
theorem M8{a b:It}(h:bt a b):aZ a b=b:=if_pos h
theorem M9{a b:It}(h: ¬bt a b):aZ a b=a:=if_neg h
theorem uA(a b:It):(bt a b∧aZ a b=b)∨(¬bt a b∧aZ a b=a):=by
 by_cases h:bt a b
 ·exact .inl ⟨h,M8 h⟩
 ·exact .inr ⟨h,M9 h⟩
theorem D2(a b:It):aZ a b=aZ b a:=by
 rcases uA a b with⟨h1,e1⟩|⟨h1,e1⟩<;>rcases uA b a with⟨h2,e2⟩|⟨h2,e2⟩<;>rw[e1,e2]
 ·unfold bt eV at*;omega
 ·cases a;cases b;simp only[bt,eV,It.mk.injEq] at*;omega
theorem DD(a b c:It):aZ (aZ a b) c=aZ a (aZ b c):=by
 rcases uA a b with⟨h1,e1⟩|⟨h1,e1⟩<;>rcases uA b c with⟨h2,e2⟩|⟨h2,e2⟩<;>rw[e1,e2]
 ·exact(M8 (by unfold bt eV at*;omega)).symm
 ·exact e1.symm
 ·rw[e1];exact M9 (by unfold bt eV at*;omega)
theorem I9(a:It):aZ a a=a:=by rcases uA a a with⟨_,e⟩|⟨_,e⟩<;>exact e
def uS(o:Option It)(y:It):Option It:=match o with|none=>some y|some v=>some<|aZ v y
def gA(o:Option It)(L:List It):Option It:=L.foldl uS o
theorem H2(a m:It): ∀L:List It,gA none L=some m→gA (some a) L=some (aZ a m):=by
 have key: ∀(L:List It)(v:It),∃k,gA (some v) L=some k∧ ∀a,gA (some<|aZ a v) L=some (aZ a k):=by
  intro L
  induction L with
  |nil=>intro v;exact⟨v,rfl,λa=>rfl⟩
  |cons y L ih=>
   intro v
   obtain⟨k,h1,h2⟩:=ih<|aZ v y
   exact⟨k,h1,λa=>by show gA (some<|aZ (aZ a v) y) L=_;rw[DD];exact h2 a⟩
 intro L h
 cases L with
 |nil=>simp[gA] at h
 |cons y L=>
  obtain⟨k,h1,h2⟩:=key L y
  have h3:gA (some y) L=some m:=h
  rw[h1] at h3;simp at h3;subst h3
  exact h2 a
theorem CN(o:Option It)(L M:List It):gA o (L++M)=gA (gA o L) M:=by simp[gA]
theorem zB: ∀{t:T},t.Right→ ∀(b:Nat)(x m:It)(h n:Int)(l r:T),t= .node b x m h n l r→gA none t.toL=some m
 | .nil,_,_,_,_,_,_,_,_,e=>by cases e
 | .node b' x' m' h' n' l' r',⟨em,_,_,hl,hr⟩,b,x,m,h,n,l,r,e=>by
   cases e
   have h1:gA none (l'.toL++[x'])=some (l'.low x'):=by
    rw[CN]
    cases l' with
    |nil=>rfl
    |node lb lx lm lh ln ll lr=>rw[zB hl lb lx lm lh ln ll lr rfl];show some (aZ lm x')=some (aZ x' lm);rw[D2]
   have h2:gA none (l'.toL++x'::r'.toL)=gA (some<|l'.low x') r'.toL:=by
    rw[←h1,←CN];simp
   rw[T.toL,h2,em,cS]
   cases r' with
   |nil=>rfl
   |node rb rx rm rh rn rl rr=>exact H2 _ _ _<|zB hr rb rx rm rh rn rl rr rfl
theorem Hv: ∀{L:List It}{m:It},gA none L=some m→m∈L∧ ∀y∈L,m.va≤y.va:=by
 have key: ∀(L:List It)(v m:It),gA (some v) L=some m→m∈v::L∧ ∀y∈v::L,m.va≤y.va:=by
  intro L
  induction L with
  |nil=>intro v m h;simp[gA] at h;subst h;simp
  |cons y L ih=>
   intro v m h
   obtain⟨h1,h2⟩:=ih (aZ v y) m h
   have hb:aZ v y=v∨aZ v y=y:=by rcases uA v y with⟨_,e⟩|⟨_,e⟩<;>simp[e]
   have hle:(aZ v y).va≤v.va∧(aZ v y).va≤y.va:=by rcases uA v y with⟨h,e⟩|⟨h,e⟩<;>rw[e]<;>unfold bt eV at h<;>omega
   have h3:=h2 _<|List.mem_cons_self ..
   refine⟨?_,λz hz=>?_⟩
   ·rcases List.mem_cons.1 h1 with rfl|h1
    ·rcases hb with e|e<;>rw[e]<;>simp
    ·simp[h1]
   ·rcases List.mem_cons.1 hz with rfl|hz
    ·omega
    ·rcases List.mem_cons.1 hz with rfl|hz
     ·omega
     ·exact h2 z<|by simp[hz]
 intro L m h
 cases L with
 |nil=>simp[gA] at h
 |cons y L=>exact key L y m h
def dc(n:Int)(L:List It):Option It:=L.find? λy=>decide (y.va≤n)
variable{t:T}
theorem wy(hR:t.Right)(n:Int):t.hasB n=true↔ ∃y∈t.toL,y.va≤n:=by
 cases t with
 |nil=>simp[T.hasB,T.toL]
 |node b x m h k l r=>
  have h1:=Hv<|zB hR b x m h k l r rfl
  simp only[T.hasB,decide_eq_true_eq]
  exact⟨λh=>⟨m,h1.1,h⟩,λ⟨y,hy,hn⟩=>Int.le_trans (h1.2 y hy) hn⟩
theorem C4(hR:t.Right)(h:t.hasB n=false):dc n t.toL=none:=by
 unfold dc;rw[List.find?_eq_none]
 intro y hy he
 have:=(wy hR n).2 ⟨y,hy,by simpa using he⟩
 rw[h] at this;cases this
variable{k:Int}
theorem SQ(hl:l.Right)(hh:l.hasB n=true):dc n (T.node b x m h k l r).toL=dc n l.toL:=by
 unfold dc;rw[T.toL,List.find?_append]
 obtain⟨y,hy,hn⟩:=(wy hl n).1 hh
 have:(l.toL.find? λy=>decide (y.va≤n)).isSome:=by rw[List.find?_isSome];exact⟨y,hy,by simpa using hn⟩
 obtain⟨z,hz⟩:=Option.isSome_iff_exists.1 this
 rw[hz];rfl
theorem Q5(hl:l.Right)(hh:l.hasB n=false)(hx:x.va≤n):dc n (T.node b x m h k l r).toL=some x:=by
 have:=C4 hl hh
 unfold dc at*;rw[T.toL,List.find?_append,this];simp[hx]
theorem SU(hl:l.Right)(hh:l.hasB n=false)(hx: ¬x.va≤n):dc n (T.node b x m h k l r).toL=dc n r.toL:=by
 have:=C4 hl hh
 unfold dc at*;rw[T.toL,List.find?_append,this,List.find?_cons_of_neg<|by simpa using hx];rfl
theorem XQ(hR:(T.node b x m h k l r).Right)(ht:(T.node b x m h k l r).hasB n=true)(hh:l.hasB n=false)(hx: ¬x.va≤n):r.hasB n=true:=by
 obtain⟨_,_,_,hl,hr⟩:=id hR
 obtain⟨y,hy,hn⟩:=(wy hR n).1 ht
 refine(wy hr n).2 ⟨y,?_,hn⟩
 simp only[T.toL,List.mem_append,List.mem_cons] at hy
 rcases hy with hy|rfl|hy
 ·have:=(wy hl n).2 ⟨y,hy,hn⟩;rw[hh] at this;cases this
 ·exact absurd hn hx
 ·exact hy
def bl(n:Int)(L:List It):List It:=L.filter λy=>decide (y.ka≤n)
def eC(n:Int)(L:List It):Option It:=gA none<|bl n L
def ob(mt:Bool)(ov:It):Option It:=bif mt then some ov else none
variable{l r:List It}
theorem SV(hS:fW (l++x::r))(hx:x.ka>n):bl n (l++x::r)=bl n l:=by
 obtain⟨_,_,_,h4,_⟩:=lM hS
 unfold bl;rw[List.filter_append,List.filter_cons_of_neg<|by simpa using hx]
 have:r.filter (λy=>decide (y.ka≤n))=[]:=by
  rw[List.filter_eq_nil_iff];intro y hy;have:=h4 y hy;unfold kl eV at this;simp;omega
 rw[this,List.append_nil]
theorem Ia(hS:fW (l++x::r))(hx: ¬x.ka>n):bl n (l++x::r)=l++x::bl n r:=by
 obtain⟨_,_,h3,_,_⟩:=lM hS
 unfold bl;rw[List.filter_append,List.filter_cons_of_pos (by simp;omega)]
 have:l.filter (λy=>decide (y.ka≤n))=l:=by
  rw[List.filter_eq_self];intro y hy;have:=h3 y hy;unfold kl eV at this;simp;omega
 rw[this]
variable{r:T}
theorem YL{l:T}(o:Option It)(hS:fW (T.node b x m h k l r).toL)(hx:x.ka>n):gA o (bl n (T.node b x m h k l r).toL)=gA o (bl n l.toL):=by
 rw[T.toL,SV hS hx]
theorem Mc(mt:Bool)(ov:It)(hS:fW (T.node b x m h k .nil r).toL)(hx: ¬x.ka>n):gA (ob mt ov) (bl n (T.node b x m h k .nil r).toL)=gA (some<|bif mt then aZ ov x else aZ x x) (bl n r.toL):=by
 rw[T.toL,Ia hS hx]
 cases mt
 ·show gA (uS none x) _=_;simp only[uS,cond_false,I9]
 ·rfl
theorem Md{l:T}{lb:Nat}{lx lm:It}{lh ln:Int}{ll lr:T}(mt:Bool)(ov:It)(hl:l.Right)(el:l= .node lb lx lm lh ln ll lr)(hS:fW (T.node b x m h k l r).toL)(hx: ¬x.ka>n):
  gA (ob mt ov) (bl n (T.node b x m h k l r).toL)=gA (some<|aZ (bif mt then aZ ov x else aZ x x) lm) (bl n r.toL):=by
 rw[T.toL,Ia hS hx,CN]
 have h1:=zB hl lb lx lm lh ln ll lr el
 cases mt
 ·show gA (uS (gA none l.toL) x) _=_
  rw[h1];simp only[uS,cond_false,I9,D2]
 ·show gA (uS (gA (some ov) l.toL) x) _=_
  rw[H2 ov lm _ h1];simp only[uS,cond_true]
  rw[DD,D2 lm x,←DD]
structure WF(t:T):Prop where
 right:t.Right
 bal:t.Bal
 srt:fW t.toL
theorem VH:WF .nil:=⟨trivial,trivial,by simp[T.toL,fW]⟩
theorem WF.cnt(h:WF t):t.cnt=t.toL.length:=h.right.pos.2.2
theorem VI(h:WF t)(hN: ∀y∈t.toL,¬(y.ka=it.ka∧y.ki=it.ki))(c:ia t z (gy it t.toL) 0 1):WF z∧z.toL=gy it t.toL:=⟨⟨c.right,c.bal,by rw[c.list];exact I8 h.srt hN⟩,c.list⟩
theorem VJ(h:WF t)(c:ia t z (iG a i t.toL) (-1) 0):WF z∧z.toL=iG a i t.toL:=⟨⟨c.right,c.bal,by rw[c.list];exact Q0 h.srt⟩,c.list⟩
abbrev Kv(p0)(p1:It)(p2)(p3)(p4:It)(p5)(p6):=((aA p0 [u_ p1.ka,i_ p1.ki,u_ p1.va,i_ p1.vi,.pointer<|T.ptr p2,.pointer<|T.ptr p3,u_ p4.ka,i_ p4.ki,u_ p4.va,i_ p4.vi,i_ p5,i_ p6] 361):V.aI)
theorem C5(b:Nat)(x m:It)(h n:Int)(l r:T)(a i:Int)(hc:eV x.ka x.ki a i)(w:World)(r0:(Kv b x l r m h n).holds w):
  CW 264 #[p_ b,.agg #[u_ a,i_ i]] w (i_ 1):=by
 refine aU Tryz.func264 rfl (HS.nil w) (aC<|dL [.al] [] (λb1=>[(3,p_ b1)]) (λb1=>aA b1 [u_ a,i_ i] 322) ?_)
 intro b1
 refine aD<|aD<|jw [.ld 0,.rd [u_ x.ka,i_ x.ki],.cq<|i_<|ir a i x.ka x.ki] (rg 0 8) [] [(12,b_<|decide ((ir a i x.ka x.ki)>0))] (oc (ro ⟨b,0,none⟩ (vs:=[u_ x.ka,i_ x.ki])<|cE r0 rfl)<|o1<|qw<|yX a i x.ka x.ki)<|aL rfl (λe1=>?_) (λe1=>?_)
 ·have p1:=Zg e1
  refine aE [(4,i_ 1)]<|aF<|bJ [i_ 1] ?_
  rfl
 exact absurd e1<|by simpa using(JZ ..).2 hc
theorem C6(b:Nat)(x m:It)(h n:Int)(l r:T)(a i:Int)(hc: ¬eV x.ka x.ki a i)(w:World)(r0:(Kv b x l r m h n).holds w):
  CW 264 #[p_ b,.agg #[u_ a,i_ i]] w (i_ 0):=by
 refine aU Tryz.func264 rfl (HS.nil w) (aC<|dL [.al] [] (λb1=>[(3,p_ b1)]) (λb1=>aA b1 [u_ a,i_ i] 322) ?_)
 intro b1
 refine aD<|aD<|jw [.ld 0,.rd [u_ x.ka,i_ x.ki],.cq<|i_<|ir a i x.ka x.ki] (rg 0 8) [] [(12,b_<|decide ((ir a i x.ka x.ki)>0))] (oc (ro ⟨b,0,none⟩ (vs:=[u_ x.ka,i_ x.ki])<|cE r0 rfl)<|o1<|qw<|yX a i x.ka x.ki)<|aL rfl (λe1=>?_) (λe1=>?_)
 ·exact absurd e1<|by simpa using λh_=>hc<|(JZ ..).1 h_
 have p1:=Zh e1
 refine aO<|aE [(4,i_ 0)]<|aF<|bJ [i_ 0] ?_
 rfl
abbrev VK(p0)(p1)(p2)(p3)(p4):=(bA 361 (T.node p0 (⟨p1,p2,p3,p4⟩:It) (cS (⟨p1,p2,p3,p4⟩:It) T.nil T.nil) (dN T.nil T.nil) (dY T.nil T.nil) T.nil T.nil):V.aI)
abbrev iU(p0)(p1)(p2):=(aA p0 [u_ p1,i_ p2] 322:V.aI)
theorem OQ(t:T)(bk bv:Nat)(ka ki va vi:Int)(ih: ∀(t':T)(bk' bv':Nat)(ka' ki' va' vi':Int),SizeOf.sizeOf t'<SizeOf.sizeOf t→ ∀(hR:t'.Right)(hB:t'.Bal)(hS:fW t'.toL)(hN: ∀y∈t'.toL,¬(y.ka=ka'∧y.ki=ki'))(hC:t'.cnt≤800)(w:World)(hs:HI w [bA 361 t',iU bk' ka' ki',iU bv' va' vi']),Calls Tryz.prog 246 #[.pointer<|T.ptr t',.agg #[u_ ka',i_ ki'],.func (.func 247) #[] #[p_ bk',p_ bv']] w λe w'=> ∃zz,e= .returned ((λ(zt:T)=>(.pointer<|T.ptr zt)) zz)∧(λ(zt:T)=>ia t' zt (gy (⟨ka',ki',va',vi'⟩:It) t'.toL) 0 1) zz∧Turn [bA 361 t',iU bk' ka' ki',iU bv' va' vi'] ((λ(zt:T)=>[iU bk' ka' ki',iU bv' va' vi',bA 361 zt]) zz) w w')(hR:t.Right)(hB:t.Bal)(hS:fW t.toL)(hN: ∀y∈t.toL,¬(y.ka=ka∧y.ki=ki))(hC:t.cnt≤800)(w:World)(hs:HS w (aN [bA 361 t,iU bk ka ki,iU bv va vi]) [bA 361 t,iU bk ka ki,iU bv va vi] w):
  CV 246 #[.pointer<|T.ptr t,.agg #[u_ ka,i_ ki],.func (.func 247) #[] #[p_ bk,p_ bv]] w [bA 361 t,iU bk ka ki,iU bv va vi] (λ(zt:T)=>(.pointer<|T.ptr zt)) (λzt=>ia t zt (gy (⟨ka,ki,va,vi⟩:It) t.toL) 0 1) λzt=>[iU bk ka ki,iU bv va vi,bA 361 zt]:=by
 refine aU Tryz.func246 rfl hs (aC<|dL [.al] [] (λb1=>[(4,p_ b1)]) (λb1=>aA b1 [u_ ka,i_ ki] 322) ?_)
 intro b1
 refine aD<|aD ?_
 rcases t with _|⟨b2,x3,m4,h5,n6,l7,r8⟩
 ·refine CB [.sk,.sk,.sk,.sk,.sk,.sk,.sk] (rg 0 11) [] [(0,n_),(18,b_ true)] T0 trivial<|dU<|aC<|an 2 [] [(19,.func (.func 247) #[] #[p_ bk,p_ bv]),(20,n_)]<|aG<|eM (some 21) [n_,p_ bk,p_ bv] Tryz.func247 rfl (aE []<|aC<|dM [.ld 1,.ld 2,.al] [] (λb9=>[(5,p_ b9)]) (λb9=>[(0,bA 361 T.nil)]) (λb9=>aA b9 [u_ ka,i_ ki,u_ va,i_ vi,n_,n_,u_ 0,i_ 0,u_ 0,i_ 0,i_ 0,i_ 0] 361) ?_)
  intro b9
  refine aC<|cV [.p] [(11,p_ b9)]<|OJ [bA 361 T.nil,iU bk ka ki,iU bv va vi,iU b1 ka ki,aA b9 [u_ ka,i_ ki,u_ va,i_ vi,n_,n_,u_ 0,i_ 0,u_ 0,i_ 0,i_ 0,i_ 0] 361,bA 361 T.nil] rfl (aG<|b0 (some 12) [4,0,3] (u4 b9 (⟨ka,ki,va,vi⟩:It) (⟨0,0,0,0⟩:It) 0 0 T.nil T.nil (B8 ‹_› (by omega))<|B8 ‹_› (by omega)) ?_)
  rintro⟨⟩-
  refine eE<|aE [(4,p_ b9)]<|aF<|d6 [p_ b9]<|j6 [aA b9 [u_<|(⟨ka,ki,va,vi⟩:It).ka,i_<|(⟨ka,ki,va,vi⟩:It).ki,u_<|(⟨ka,ki,va,vi⟩:It).va,i_<|(⟨ka,ki,va,vi⟩:It).vi,.pointer<|T.ptr T.nil,.pointer<|T.ptr T.nil,u_<|(cS (⟨ka,ki,va,vi⟩:It) T.nil T.nil).ka,i_<|(cS (⟨ka,ki,va,vi⟩:It) T.nil T.nil).ki,u_<|(cS (⟨ka,ki,va,vi⟩:It) T.nil T.nil).va,i_<|(cS (⟨ka,ki,va,vi⟩:It) T.nil T.nil).vi,i_<|dN T.nil T.nil,i_<|dY T.nil T.nil] 361,bA 361 T.nil,bA 361 T.nil,iU bk ka ki,iU bv va vi] (sd [5])<|aQ [(6,p_ b9)]<|aF<|eQ [0,0,0] [VK b9 ka ki va vi] rfl (λw hs=>mw hs) (bR [1,1,0] [p_ b9] ((T.node b9 (⟨ka,ki,va,vi⟩:It) (cS (⟨ka,ki,va,vi⟩:It) T.nil T.nil) (dN T.nil T.nil) (dY T.nil T.nil) T.nil T.nil)) ?_ ?_)
  ·rfl
  exact Q2
 obtain⟨hR_m,hR_h,hR_n,hR_l,hR_r⟩:=id hR;obtain⟨hB_1,hB_2,hB_l,hB_r⟩:=id hB
 have hS_:=lM (L:=T.toL l7) (x:=x3) (R:=T.toL r8) hS;have hR_1:=hR_l.pos;have hR_2:=hR_r.pos
 have hN_l: ∀y∈T.toL l7,¬(y.ka=ka∧y.ki=ki):=λy hy=>hN y (by simp[T.toL,hy]);have hN_r: ∀y∈T.toL r8,¬(y.ka=ka∧y.ki=ki):=λy hy=>hN y (by simp[T.toL,hy]);have hN_x: ¬(x3.ka=ka∧x3.ki=ki):=hN x3<|by simp[T.toL]
 simp only[iz,qP,dN,dY] at hR_h hR_n hC
 refine eQ [0] [aA b2 [u_ x3.ka,i_ x3.ki,u_ x3.va,i_ x3.vi,.pointer<|T.ptr l7,.pointer<|T.ptr r8,u_ m4.ka,i_ m4.ki,u_ m4.va,i_ m4.vi,i_ h5,i_ n6] 361,bA 361 l7,bA 361 r8] rfl (λw hs=>pN hs) (kN [.ld 0,.ld 5,.eq] [0,1,2,3,4,5,6,7,8,9,10] [(0,p_ b2),(4,p_ b1),(18,b_<|(x3.ka==ka)&&(x3.ki==ki))]<|aL rfl (λe2=>?_) (λe2=>?_))
 ·exact absurd e2 (by simp;exact λh1 h2=>hN_x ⟨h1,h2⟩)
 refine az ?_
 by_cases hc:eV x3.ka x3.ki ka ki
 ·refine aM<|aj [.ld 5,.cq<|i_ 1] [(7,i_ 1)] (o1<|qo<|λw s=>C5 b2 x3 m4 h5 n6 l7 r8 ka ki ‹_› w (s.mem (i:=0) rfl))<|aD<|bY [10,14] 15<|cQ 3 [.ld 0,.ld 5] [0,1,2,3,4,5,6,7,8,9,11,12] [(26,i_ 1),(32,.pointer<|T.ptr r8),(33,.agg #[u_ ka,i_ ki]),(34,.func (.func 247) #[] #[p_ bk,p_ bv]),(37,q_ b2 4)]<|bF 10 rfl (b0 (some 35) [2,2,2] (ih r8 bk bv ka ki va vi (by(simp;omega)) ‹_› ‹_› hS_.2.1 ‹_› (by omega)) ?_)
  rintro zt10 hz3
  obtain⟨hz31,hz32,hz33,hz34,hz35⟩:=id hz3;have hz36:=T.Right.pos hz31
  rw[hz33,wx] at hz36
  refine cb<|cQ 1 [] [13] [(35,.pointer<|T.ptr zt10),(38,q_ b2 5)]<|bF 14 rfl (dQ 3 [.pointer<|T.ptr zt10] rfl (dV<|aC<|cV [.p] [(39,p_ b2)]<|aG<|b0 (some 40) [3,3,2] (wS b2 x3 m4 h5 n6 l7 zt10 ‹_› ‹_› (by omega) (by omega)) ?_))
  rintro zt11 hz4
  refine aQ [(6,.pointer<|T.ptr zt11)]<|aF<|bR [1,1,0] [.pointer<|T.ptr zt11] (zt11) ?_ ?_
  ·rfl
  (subst_vars;exact XJ hR hB hS ‹_› hc)
 refine aM<|aj [.ld 5,.cq<|i_ 0] [(7,i_ 0)] (o1<|qo<|λw s=>C6 b2 x3 m4 h5 n6 l7 r8 ka ki ‹_› w (s.mem (i:=0) rfl))<|aD<|bY [10,14] 15<|cQ 3 [.ld 0,.ld 5] [0,1,2,3,4,5,6,7,8,9,11,12] [(26,i_ 0),(32,.pointer<|T.ptr l7),(33,.agg #[u_ ka,i_ ki]),(34,.func (.func 247) #[] #[p_ bk,p_ bv]),(37,q_ b2 4)]<|bF 10 rfl (b0 (some 35) [1,2,2] (ih l7 bk bv ka ki va vi (by(simp;omega)) ‹_› ‹_› hS_.1 ‹_› (by omega)) ?_)
 rintro zt12 hz5
 obtain⟨hz51,hz52,hz53,hz54,hz55⟩:=id hz5;have hz56:=T.Right.pos hz51
 rw[hz53,wx] at hz56
 refine cb<|cQ 1 [] [13] [(35,.pointer<|T.ptr zt12),(38,q_ b2 4)]<|bF 14 rfl (dQ 3 [.pointer<|T.ptr zt12] rfl (dV<|aC<|cV [.p] [(39,p_ b2)]<|aG<|b0 (some 40) [3,2,2] (wS b2 x3 m4 h5 n6 zt12 r8 ‹_› ‹_› (by omega) (by omega)) ?_))
 rintro zt13 hz6
 refine aQ [(6,.pointer<|T.ptr zt13)]<|aF<|bR [1,1,0] [.pointer<|T.ptr zt13] (zt13) ?_ ?_
 ·rfl
 (subst_vars;exact XI hR hB ‹_› (by have:=hN_x;show eV ka ki _ _;unfold eV at*;omega))
theorem H3(t:T)(bk bv:Nat)(ka ki va vi:Int)(hR:t.Right)(hB:t.Bal)(hS:fW t.toL)(hN: ∀y∈t.toL,¬(y.ka=ka∧y.ki=ki))(hC:t.cnt≤800)(w:World)(hs:HS w (aN [bA 361 t,iU bk ka ki,iU bv va vi]) [bA 361 t,iU bk ka ki,iU bv va vi] w):
  Calls Tryz.prog 246 #[.pointer<|T.ptr t,.agg #[u_ ka,i_ ki],.func (.func 247) #[] #[p_ bk,p_ bv]] w λe w'=> ∃zz,e= .returned ((λ(zt:T)=>(.pointer<|T.ptr zt)) zz)∧(λ(zt:T)=>ia t zt (gy (⟨ka,ki,va,vi⟩:It) t.toL) 0 1) zz∧Turn [bA 361 t,iU bk ka ki,iU bv va vi] ((λ(zt:T)=>[iU bk ka ki,iU bv va vi,bA 361 zt]) zz) w w':=
 OQ t bk bv ka ki va vi (λt' bk' bv' ka' ki' va' vi' hlt_ g0_ g1_ g2_ g3_ g4_ w_ y_=>H3 t' bk' bv' ka' ki' va' vi' g0_ g1_ g2_ g3_ g4_ w_ y_) hR hB hS hN hC w hs
termination_by SizeOf.sizeOf t
decreasing_by exact hlt_
theorem Hw(bt:Nat)(t:T)(a i:Int)(w:World)(r0:(aA bt [.pointer<|T.ptr t] 251).holds w)(r1:(bA 361 t).holds w):
  CW 245 #[p_ bt,.agg #[u_ a,i_ i]] w (.pointer<|T.ptr<|T.findT a i t):=by
 refine aU Tryz.func245 rfl (HS.nil w) (aC<|dL [.al] [] (λb1=>[(3,p_ b1)]) (λb1=>aA b1 [u_ a,i_ i] 322) ?_)
 intro b1
 refine dF [.rd [.pointer<|T.ptr t]] [(5,.pointer<|T.ptr t)] (o1<|ro ⟨bt,0,none⟩ (vs:=[.pointer<|T.ptr t])<|cE r0 rfl)<|aD<|aR<|iC (σ:=T) [] (λu=>[(5,.pointer<|T.ptr u)]) [] (λu=>[]) (λu=>((bA 361 u).holds w)∧(T.findT a i u=T.findT a i t)) (λu=>SizeOf.sizeOf u) (t:T) ⟨r1,(by rfl)⟩ ?_ ?_
 ·exact cX [0]
 rintro u ⟨hu,hf⟩
 refine aD<|aD ?_
 rcases u with _|⟨b2,x3,m4,h5,n6,l7,r8⟩
 ·refine CB [.sk,.sk,.sk,.sk,.sk,.sk,.sk] (rg 0 11) [] [(5,n_),(20,b_ false)] T0 trivial ?_
  refine bM ?_
  refine bg ?_
  refine aD ?_
  refine bZ [(4,n_)] ?_
  refine aF ?_
  refine bJ [n_] ?_
  refine congrArg Value.pointer ?_;rw[←hf];rfl
 refine jw [.rd [u_ x3.ka,i_ x3.ki],.ld 0,.eq] (rg 0 11) [] [(5,p_ b2),(13,p_ b2),(14,p_ b2),(15,p_ b2),(16,p_ b2),(17,.agg #[u_ x3.ka,i_ x3.ki]),(18,.agg #[u_ a,i_ i]),(19,b_ (!((x3.ka==a)&&(x3.ki==i)))),(20,b_ (!((x3.ka==a)&&(x3.ki==i))))] (o1<|ro ⟨b2,0,none⟩ (vs:=[u_ x3.ka,i_ x3.ki])<|cE hu.1 rfl)<|aL rfl (λe1=>?_) (λe1=>?_)
 ·refine aO<|aR ?_
  by_cases hc:eV x3.ka x3.ki a i
  ·refine jw [.ld 0,.cq<|i_ 1,.rd [.pointer<|T.ptr r8]] (rg 0 9) [] [(5,.pointer<|T.ptr r8)] (oc (qo<|λw s=>C5 b2 x3 m4 h5 n6 l7 r8 a i ‹_› w (bK s hu.1))<|o1<|ro ⟨b2,5,none⟩ (vs:=[.pointer<|T.ptr r8])<|cE hu.1 rfl)<|bN (r8) ⟨hu.2.2,(by rw[←hf];(conv=>rhs;unfold T.findT);(rw[if_neg (by intro he_;simp_all),if_pos hc]))⟩ (by(simp;omega)) ?_
   exact cX [0]
  refine jw [.ld 0,.cq<|i_ 0,.rd [.pointer<|T.ptr l7]] (rg 0 9) [] [(5,.pointer<|T.ptr l7)] (oc (qo<|λw s=>C6 b2 x3 m4 h5 n6 l7 r8 a i ‹_› w (bK s hu.1))<|o1<|ro ⟨b2,4,none⟩ (vs:=[.pointer<|T.ptr l7])<|cE hu.1 rfl)<|bN (l7) ⟨hu.2.1,(by rw[←hf];(conv=>rhs;unfold T.findT);(rw[if_neg (by intro he_;simp_all),if_neg hc]))⟩ (by(simp;omega)) ?_
  exact cX [0]
 refine bg ?_
 refine aD ?_
 refine bZ [(4,p_ b2)] ?_
 refine aF ?_
 refine bJ [p_ b2] ?_
 refine congrArg Value.pointer ?_;rw[←hf];(unfold T.findT;rw[if_pos<|by simp_all];rfl)
theorem Hy(t:T)(n:Int)(w:World)(r0:(bA 361 t).holds w):
  CW 268 #[.pointer<|T.ptr t,u_ n] w (b_<|T.hasB n t):=by
 refine aU Tryz.func268 rfl (HS.nil w) (aE []<|aC<|cV [.p] [(5,.pointer<|T.ptr t)] ?_)
 rcases t with _|⟨b1,x2,m3,h4,n5,l6,r7⟩
 ·refine bB [.sk,.sk,.sk,.sk,.sk,.sk,.sk,.sk] [(4,b_ false)]<|aF<|bJ [b_ false] ?_
  rfl
 refine aj [.rd [u_ m3.va]] [(4,b_<|decide (m3.va≤n))] (o1<|ro ⟨b1,8,none⟩ (vs:=[u_ m3.va])<|cE r0.1 rfl)<|aF<|bJ [b_<|decide (m3.va≤n)] ?_
 rfl
theorem P0(bt:Nat)(t:T)(w:World)(r0:(aA bt [.pointer<|T.ptr t] 251).holds w)(r1:(bA 361 t).holds w):
  CW 249 #[p_ bt] w (i_<|T.cnt t):=by
 refine aU Tryz.func249 rfl (HS.nil w) (aE []<|aD<|aE [(4,b_ false)]<|bM<|aO<|dF [.rd [.pointer<|T.ptr t],.cq<|i_<|T.cnt t] [(2,i_<|T.cnt t)] (oc (ro ⟨bt,0,none⟩ (vs:=[.pointer<|T.ptr t])<|cE r0 rfl)<|o1<|qo<|λw s=>Cm t w<|bK s r1)<|aF<|bJ [i_<|T.cnt t] ?_)
 rfl
abbrev VL(p0)(p1:It)(p2)(p3)(p4:It)(p5)(p6):=([aA p0 [u_ p1.ka,i_ p1.ki,u_ p1.va,i_ p1.vi,.pointer<|T.ptr p2,.pointer<|T.ptr p3,u_ p4.ka,i_ p4.ki,u_ p4.va,i_ p4.vi,i_ p5,i_ p6] 361,bA 361 p2,bA 361 p3]:List V.aI)
theorem O3(b:Nat)(x m:It)(h n:Int)(l r:T)(ih: ∀(t':T)(ka' ki':Int),SizeOf.sizeOf t'<SizeOf.sizeOf (T.node b x m h n l r)→ ∀(hR:t'.Right)(hB:t'.Bal)(hS:fW t'.toL)(hM: ∃y∈t'.toL,y.ka=ka'∧y.ki=ki')(hC:t'.cnt≤800)(w:World)(hs:HI w [bA 361 t']),Calls Tryz.prog 246 #[.pointer<|T.ptr t',.agg #[u_ ka',i_ ki'],.func (.func 263) #[] #[]] w λe w'=> ∃zz,e= .returned ((λ(zt:T)=>(.pointer<|T.ptr zt)) zz)∧(λ(zt:T)=>ia t' zt (iG ka' ki' t'.toL) (-1) 0) zz∧Turn [bA 361 t'] ((λ(zt:T)=>[bA 361 zt]) zz) w w')(hR:(T.node b x m h n l r).Right)(hB:(T.node b x m h n l r).Bal)(hS:fW (T.node b x m h n l r).toL)(hC:(T.node b x m h n l r).cnt≤800)(w:World)(hs:HS w (aN [bA 361<|T.node b x m h n l r]) [bA 361<|T.node b x m h n l r] w):
  CV 263 #[p_ b] w [bA 361<|T.node b x m h n l r] (λ(zt:T)=>(.pointer<|T.ptr zt)) (λzt=>ia (T.node b x m h n l r) zt (l.toL++r.toL) (-1) 0) λzt=>[bA 361 zt]:=by
 obtain⟨hR_m,hR_h,hR_n,hR_l,hR_r⟩:=id hR;obtain⟨hB_1,hB_2,hB_l,hB_r⟩:=id hB;have hS_:=lM (L:=T.toL l) (x:=x) (R:=T.toL r) hS;have hR_1:=hR_l.pos;have hR_2:=hR_r.pos;simp only[iz,qP,dN,dY] at hR_h hR_n hC
 refine aU Tryz.func263 rfl hs (aE []<|bS<|an 4 [] [(7,q_ b 5)]<|eQ [0] (VL b x l r m h n) rfl (λw hs=>pN hs) (cV [.ld 0] [(8,.pointer<|T.ptr r)] ?_))
 rcases r with _|⟨b1,x2,m3,h4,n5,l6,r7⟩
 ·refine aQ [(9,b_ true)]<|dU<|aC<|bB [.ld 0] [(2,.pointer<|T.ptr l)]<|aF<|bR [1] [.pointer<|T.ptr l] (l) ?_ ?_
  ·rfl
  exact SN hR hB
 refine aQ [(9,b_ false)]<|bM<|aO<|aC<|bB [.ld 0] [(3,p_ b1)]<|aD<|aR<|fY (λ(zz:T)=>match zz with|u=>[(0,p_ b),(3,.pointer<|T.ptr u)]) (λ(zz:T)=>match zz with|u=>[aA b [u_ x.ka,i_ x.ki,u_ x.va,i_ x.vi,.pointer<|T.ptr l,p_ b1,u_ m.ka,i_ m.ki,u_ m.va,i_ m.vi,i_ h,i_ n] 361,bA 361 l,bA 361<|T.node b1 x2 m3 h4 n5 l6 r7]) (λ(zz:T)=>match zz with|u=>(∀w,(bA 361<|T.node b1 x2 m3 h4 n5 l6 r7).holds w→(bA 361 u).holds w)∧(u.toL.head?=(T.toL<|T.node b1 x2 m3 h4 n5 l6 r7).head?)∧(u≠ .nil)) (λ(zz:T)=>match zz with|u=>SizeOf.sizeOf u) ((T.node b1 x2 m3 h4 n5 l6 r7):T) ⟨(λ_ h=>h),(by rfl),(by simp)⟩ ?_ ?_
 ·exact cX [0,0,0]
 rintro u ⟨hv,hhd,hu⟩
 refine bS<|cV [.p] [(20,.pointer<|T.ptr u)] ?_
 rcases u with _|⟨b8,x9,m10,h11,n12,l13,r14⟩
 ·exact absurd rfl hu
 refine eI 4 [.rd [.pointer<|T.ptr l13]] [(3,p_ b8),(24,.pointer<|T.ptr l13)] (o1<|ro ⟨b8,4,none⟩ (vs:=[.pointer<|T.ptr l13])<|fU (λw s=>(hv _<|s.mem (i:=2) rfl).1) rfl) ?_
 rcases l13 with _|⟨b15,x16,m17,h18,n19,l20,r21⟩
 ·refine aQ [(25,b_ false)]<|bM<|bg<|aC<|gJ [.rd [u_ x9.ka,i_ x9.ki,u_ x9.va,i_ x9.vi],.st 0] [] [] [(0,aA b [u_ x9.ka,i_ x9.ki,u_ x9.va,i_ x9.vi,.pointer<|T.ptr l,p_ b1,u_ m.ka,i_ m.ki,u_ m.va,i_ m.vi,i_ h,i_ n] 361)] (o1<|ro ⟨b8,0,none⟩ (vs:=[u_ x9.ka,i_ x9.ki,u_ x9.va,i_ x9.vi])<|fU (λw s=>(hv _<|s.mem (i:=2) rfl).1) rfl)<|aD<|bY [11,15] 16<|eR 3 [.ld 0,.rd [u_ x9.ka,i_ x9.ki]] [0,1,2,3,4,5,6,7,8,9,10,12,13] [(43,p_ b1),(48,.agg #[u_ x9.ka,i_ x9.ki]),(51,q_ b 4)] (o1<|ro ⟨b8,0,none⟩ (vs:=[u_ x9.ka,i_ x9.ki])<|fU (λw s=>(hv _<|s.mem (i:=2) rfl).1) rfl)<|bF 11 rfl (b0 (some 49) [2] (ih (T.node b1 x2 m3 h4 n5 l6 r7) x9.ka x9.ki (by(simp;omega)) ‹_› ‹_› hS_.2.1 ⟨_,Q3<|hhd.symm.trans<|by simp[T.toL],rfl,rfl⟩ (by omega)) ?_)
  rintro zt22 hz1
  obtain⟨hz11,hz12,hz13,hz14,hz15⟩:=id hz1;have hz16:=T.Right.pos hz11
  rw[hz13] at hz16;have hz17:=yz (a:=x9.ka) (i:=x9.ki)<|T.toL<|T.node b1 x2 m3 h4 n5 l6 r7
  refine cb<|cQ 1 [] [14] [(49,.pointer<|T.ptr zt22),(52,q_ b 5)]<|bF 15 rfl (dQ 1 [.pointer<|T.ptr zt22] rfl (dV<|aC<|cV [.p] [(53,p_ b)]<|aG<|b0 (some 54) [1,1,0] (wS b x9 m h n l zt22 ‹_› ‹_› (by omega) (by omega)) ?_))
  rintro zt23 hz2
  refine aQ [(2,.pointer<|T.ptr zt23)]<|aF<|bR [0] [.pointer<|T.ptr zt23] (zt23) ?_ ?_
  ·rfl
  (subst_vars;exact SO hR hB hS_.2.1 (hhd.symm.trans<|by simp[T.toL]) ‹_›)
 refine aQ [(25,b_ true)]<|dU<|aO<|aR<|aM<|aj [.rd [p_ b15]] [(3,p_ b15)] (o1<|ro ⟨b8,4,none⟩ (vs:=[p_ b15])<|fU (λw s=>(hv _<|s.mem (i:=2) rfl).1) rfl)<|bN ((T.node b15 x16 m17 h18 n19 l20 r21)) ⟨(λw hw=>(hv w hw).2.1),(by rw[←hhd];simp only[T.toL];simp),(by simp)⟩ (by(simp;omega)) ?_
 exact cX [0,0,0]
theorem OS(t:T)(ka ki:Int)(ih: ∀(t':T)(ka' ki':Int),SizeOf.sizeOf t'<SizeOf.sizeOf t→ ∀(hR:t'.Right)(hB:t'.Bal)(hS:fW t'.toL)(hM: ∃y∈t'.toL,y.ka=ka'∧y.ki=ki')(hC:t'.cnt≤800)(w:World)(hs:HI w [bA 361 t']),Calls Tryz.prog 246 #[.pointer<|T.ptr t',.agg #[u_ ka',i_ ki'],.func (.func 263) #[] #[]] w λe w'=> ∃zz,e= .returned ((λ(zt:T)=>(.pointer<|T.ptr zt)) zz)∧(λ(zt:T)=>ia t' zt (iG ka' ki' t'.toL) (-1) 0) zz∧Turn [bA 361 t'] ((λ(zt:T)=>[bA 361 zt]) zz) w w')(hR:t.Right)(hB:t.Bal)(hS:fW t.toL)(hM: ∃y∈t.toL,y.ka=ka∧y.ki=ki)(hC:t.cnt≤800)(w:World)(hs:HS w (aN [bA 361 t]) [bA 361 t] w):
  CV 246 #[.pointer<|T.ptr t,.agg #[u_ ka,i_ ki],.func (.func 263) #[] #[]] w [bA 361 t] (λ(zt:T)=>(.pointer<|T.ptr zt)) (λzt=>ia t zt (iG ka ki t.toL) (-1) 0) λzt=>[bA 361 zt]:=by
 refine aU Tryz.func246 rfl hs (aC<|dL [.al] [] (λb1=>[(4,p_ b1)]) (λb1=>aA b1 [u_ ka,i_ ki] 322) ?_)
 intro b1
 refine aD<|aD ?_
 rcases t with _|⟨b2,x3,m4,h5,n6,l7,r8⟩
 ·exact absurd hM<|by simp[T.toL]
 obtain⟨hR_m,hR_h,hR_n,hR_l,hR_r⟩:=id hR;obtain⟨hB_1,hB_2,hB_l,hB_r⟩:=id hB
 have hS_:=lM (L:=T.toL l7) (x:=x3) (R:=T.toL r8) hS;have hR_1:=hR_l.pos;have hR_2:=hR_r.pos
 have hC0:=hC;simp only[iz,qP,dN,dY] at hR_h hR_n hC
 refine eQ [0] [aA b2 [u_ x3.ka,i_ x3.ki,u_ x3.va,i_ x3.vi,.pointer<|T.ptr l7,.pointer<|T.ptr r8,u_ m4.ka,i_ m4.ki,u_ m4.va,i_ m4.vi,i_ h5,i_ n6] 361,bA 361 l7,bA 361 r8] rfl (λw hs=>pN hs) (kN [.ld 0,.ld 3,.eq] [0,1,2,3,4,5,6,7,8,9,10] [(0,p_ b2),(4,p_ b1),(18,b_<|(x3.ka==ka)&&(x3.ki==ki))]<|aL rfl (λe1=>?_) (λe1=>?_))
 ·have p1:=e1;try simp only[cR] at p1
  refine aC<|an 2 [] [(19,.func (.func 263) #[] #[]),(20,p_ b2)]<|wO [0,0,0] (λ_:Unit=>True) (λ_=>[bA 361<|T.node b2 x3 m4 h5 n6 l7 r8]) (λ_=>[bA 361<|T.node b2 x3 m4 h5 n6 l7 r8,aA b1 [u_ ka,i_ ki] 322]) rfl (λw hs=>mw hs) (λ_=>rfl) (λ_ _=>?_)
  refine aG<|b0 (some 21) [0] (O3 b2 x3 m4 h5 n6 l7 r8 ih ‹_› ‹_› ‹_› ‹_›) ?_
  rintro zt9 hz2
  obtain⟨hz21,hz22,hz23,hz24,hz25⟩:=id hz2;have hz26:=T.Right.pos hz21
  rw[hz23] at hz26
  refine aQ [(6,.pointer<|T.ptr zt9)]<|aF<|bR [0] [.pointer<|T.ptr zt9] (zt9) ?_ ?_
  ·rfl
  (rw[Q4 hS ‹_›];assumption)
 refine az ?_
 by_cases hc:eV x3.ka x3.ki ka ki
 ·refine aM<|aj [.ld 3,.cq<|i_ 1] [(7,i_ 1)] (o1<|qo<|λw s=>C5 b2 x3 m4 h5 n6 l7 r8 ka ki ‹_› w (s.mem (i:=0) rfl))<|aD<|bY [10,14] 15<|cQ 3 [.ld 0,.ld 3] [0,1,2,3,4,5,6,7,8,9,11,12] [(26,i_ 1),(32,.pointer<|T.ptr r8),(33,.agg #[u_ ka,i_ ki]),(34,.func (.func 263) #[] #[]),(37,q_ b2 4)]<|bF 10 rfl (b0 (some 35) [2] (ih r8 ka ki (by(simp;omega)) ‹_› ‹_› hS_.2.1 (XK hS hM hc) (by omega)) ?_)
  rintro zt10 hz3
  obtain⟨hz31,hz32,hz33,hz34,hz35⟩:=id hz3;have hz36:=T.Right.pos hz31
  rw[hz33] at hz36;have hz37:=yz (a:=ka) (i:=ki)<|T.toL r8
  refine cb<|cQ 1 [] [13] [(35,.pointer<|T.ptr zt10),(38,q_ b2 5)]<|bF 14 rfl (dQ 1 [.pointer<|T.ptr zt10] rfl (dV<|aC<|cV [.p] [(39,p_ b2)]<|aG<|b0 (some 40) [1,1,0] (wS b2 x3 m4 h5 n6 l7 zt10 ‹_› ‹_› (by omega) (by omega)) ?_))
  rintro zt11 hz4
  refine aQ [(6,.pointer<|T.ptr zt11)]<|aF<|bR [0] [.pointer<|T.ptr zt11] (zt11) ?_ ?_
  ·rfl
  (subst_vars;exact XM hR hB hS ‹_› hc)
 refine aM<|aj [.ld 3,.cq<|i_ 0] [(7,i_ 0)] (o1<|qo<|λw s=>C6 b2 x3 m4 h5 n6 l7 r8 ka ki ‹_› w (s.mem (i:=0) rfl))<|aD<|bY [10,14] 15<|cQ 3 [.ld 0,.ld 3] [0,1,2,3,4,5,6,7,8,9,11,12] [(26,i_ 0),(32,.pointer<|T.ptr l7),(33,.agg #[u_ ka,i_ ki]),(34,.func (.func 263) #[] #[]),(37,q_ b2 4)]<|bF 10 rfl (b0 (some 35) [1] (ih l7 ka ki (by(simp;omega)) ‹_› ‹_› hS_.1 (by exact XL hS hM hc (by intro he_;simp_all)) (by omega)) ?_)
 rintro zt12 hz5
 obtain⟨hz51,hz52,hz53,hz54,hz55⟩:=id hz5;have hz56:=T.Right.pos hz51
 rw[hz53] at hz56;have hz57:=yz (a:=ka) (i:=ki)<|T.toL l7
 refine cb<|cQ 1 [] [13] [(35,.pointer<|T.ptr zt12),(38,q_ b2 4)]<|bF 14 rfl (dQ 1 [.pointer<|T.ptr zt12] rfl (dV<|aC<|cV [.p] [(39,p_ b2)]<|aG<|b0 (some 40) [1,0,0] (wS b2 x3 m4 h5 n6 zt12 r8 ‹_› ‹_› (by omega) (by omega)) ?_))
 rintro zt13 hz6
 refine aQ [(6,.pointer<|T.ptr zt13)]<|aF<|bR [0] [.pointer<|T.ptr zt13] (zt13) ?_ ?_
 ·rfl
 (subst_vars;exact XO hR hB hS ‹_› (by intro he_;simp_all) hc)
theorem Hz(t:T)(ka ki:Int)(hR:t.Right)(hB:t.Bal)(hS:fW t.toL)(hM: ∃y∈t.toL,y.ka=ka∧y.ki=ki)(hC:t.cnt≤800)(w:World)(hs:HS w (aN [bA 361 t]) [bA 361 t] w):
  Calls Tryz.prog 246 #[.pointer<|T.ptr t,.agg #[u_ ka,i_ ki],.func (.func 263) #[] #[]] w λe w'=> ∃zz,e= .returned ((λ(zt:T)=>(.pointer<|T.ptr zt)) zz)∧(λ(zt:T)=>ia t zt (iG ka ki t.toL) (-1) 0) zz∧Turn [bA 361 t] ((λ(zt:T)=>[bA 361 zt]) zz) w w':=
 OS t ka ki (λt' ka' ki' hlt_ g0_ g1_ g2_ g3_ g4_ w_ y_=>Hz t' ka' ki' g0_ g1_ g2_ g3_ g4_ w_ y_) hR hB hS hM hC w hs
termination_by SizeOf.sizeOf t
decreasing_by exact hlt_
abbrev vJ(p0)(p1):=([aA p0 [.pointer<|T.ptr p1] 251,bA 361 p1]:List V.aI)
theorem y7(bt:Nat)(t:T)(ka ki va vi:Int)(hW:WF t)(hN: ∀y∈t.toL,¬(y.ka=ka∧y.ki=ki))(hC:t.toL.length≤800)(w:World)(hs:HI w (vJ bt t)):
  CV 203 #[p_ bt,.agg #[u_ ka,i_ ki],.agg #[u_ va,i_ vi]] w (vJ bt t) (λ(zt:T)=>(i_ 0)) (λzt=>WF zt∧T.toL zt=gy (⟨ka,ki,va,vi⟩:It) t.toL) λzt=>(vJ bt zt):=by
 have hR:=hW.right;have hB:=hW.bal;have hS:=hW.srt;have hCn:=hW.cnt
 refine aU Tryz.func203 rfl hs (aC<|iK [.al,.al] [] (λb1 b2=>[(4,p_ b1),(5,p_ b2)]) (λb1 b2=>[aA b1 [u_ ka,i_ ki] 322,aA b2 [u_ va,i_ vi] 322]) ?_)
 intro b1 b2
 refine aD<|aR<|aE [(7,b_ false)]<|bM<|aC<|eI 3 [.ld 2,.cq<|.pointer<|T.ptr<|T.findT ka ki t] [(13,.pointer<|T.ptr<|T.findT ka ki t)] (o1<|qo<|λw s=>Hw bt t ka ki w (s.mem (i:=0) rfl)<|s.mem (i:=1) rfl) ?_
 rcases hq10:T.findT ka ki t with _|⟨b3,x4,m5,h6,n7,l8,r9⟩
 ·refine aQ [(10,b_ false)]<|bM<|aO<|aD<|bY [7,10] 11<|cQ 4 [.ld 0,.ld 2] (rg 0 7) [(15,p_ bt),(19,.pointer<|T.ptr t),(20,.agg #[u_ ka,i_ ki]),(21,.func (.func 247) #[] #[p_ b1,p_ b2])]<|bF 7 rfl (b0 (some 22) [1,1,1] (H3 t b1 b2 ka ki va vi ‹_› ‹_› ‹_› ‹_› (by omega)) ?_)
  rintro zt11 hz1
  obtain⟨hz11,hz12,hz13,hz14,hz15⟩:=id hz1;have hz16:=T.Right.pos hz11
  rw[hz13,wx] at hz16
  refine cb<|cQ 1 [] [8,9] [(22,.pointer<|T.ptr zt11),(24,p_ bt)]<|bF 10 rfl (dQ 3 [.pointer<|T.ptr zt11] rfl (dV<|aE [(6,i_ 0)]<|aF<|bR [3,2] [i_ 0] (zt11) ?_ ?_))
  ·rfl
  exact VI hW hN ‹_›
 exact absurd (y6 hq10).1 (hN _ (y6 hq10).2)
theorem DF(bt:Nat)(t:T)(ka ki:Int)(hW:WF t)(hM: ∃y∈t.toL,y.ka=ka∧y.ki=ki)(hC:t.toL.length≤800)(w:World)(hs:HI w (vJ bt t)):
  CV 244 #[p_ bt,.agg #[u_ ka,i_ ki]] w (vJ bt t) (λ(zt:T)=>(i_ 0)) (λzt=>WF zt∧T.toL zt=iG ka ki t.toL) λzt=>(vJ bt zt):=by
 have hR:=hW.right;have hB:=hW.bal;have hS:=hW.srt;have hCn:=hW.cnt
 refine aU Tryz.func244 rfl hs (aC<|dL [.al] [] (λb1=>[(3,p_ b1)]) (λb1=>aA b1 [u_ ka,i_ ki] 322) ?_)
 intro b1
 refine aD<|aR<|aE [(5,b_ false)]<|bM<|aC<|eI 3 [.ld 2,.cq<|.pointer<|T.ptr<|T.findT ka ki t] [(11,.pointer<|T.ptr<|T.findT ka ki t)] (o1<|qo<|λw s=>Hw bt t ka ki w (s.mem (i:=0) rfl)<|s.mem (i:=1) rfl) ?_
 rcases hq9:T.findT ka ki t with _|⟨b2,x3,m4,h5,n6,l7,r8⟩
 ·obtain⟨y,hy,he⟩:=hM;exact absurd he<|DC hS hq9 y hy
 refine aQ [(8,b_ false)]<|bM<|aO<|aD<|bY [6,9] 10<|cQ 4 [.ld 0,.ld 2] (rg 0 6) [(13,p_ bt),(17,.pointer<|T.ptr t),(18,.agg #[u_ ka,i_ ki])]<|bF 6 rfl (b0 (some 19) [1] (Hz t ka ki ‹_› ‹_› ‹_› ‹_› (by omega)) ?_)
 rintro zt10 hz1
 obtain⟨hz11,hz12,hz13,hz14,hz15⟩:=id hz1;have hz16:=T.Right.pos hz11
 rw[hz13] at hz16;have hz17:=yz (a:=ka) (i:=ki)<|T.toL t
 refine cb<|cQ 1 [] [7,8] [(19,.pointer<|T.ptr zt10),(21,p_ bt)]<|bF 9 rfl (dQ 1 [.pointer<|T.ptr zt10] rfl (dV<|aE [(4,i_ 0)]<|aF<|bR [1,0] [i_ 0] (zt10) ?_ ?_))
 ·rfl
 exact VJ hW ‹_›
theorem H4(bt:Nat)(t:T)(hW:WF t)(w:World)(r0:(aA bt [.pointer<|T.ptr t] 251).holds w)(r1:(bA 361 t).holds w):
  CW 204 #[p_ bt] w (.tuple #[.agg #[u_<|(t.toL.head?.getD default).ka,i_<|(t.toL.head?.getD default).ki,u_<|(t.toL.head?.getD default).va,i_<|(t.toL.head?.getD default).vi],b_<|t.toL.head?.isSome]):=by
 have hR:=hW.right;have hB:=hW.bal;have hS:=hW.srt;have hCn:=hW.cnt
 refine aU Tryz.func204 rfl (HS.nil w) (aC<|dL [.al] [] (λb1=>[(2,p_ b1)]) (λb1=>aA b1 [u_ 0,i_ 0,u_ 0,i_ 0] 324) ?_)
 intro b1
 refine aD<|dF [.cq<|i_<|T.cnt t] [(7,b_<|(T.cnt t)==0)] (o1<|qo<|λw s=>P0 bt t w (bK s r0)<|bK s r1)<|aL rfl (λe1=>?_) (λe1=>?_)
 ·refine aC (bL [.st 0] [(3,b_ false)] []<|aF<|pF 0 [u_ 0,i_ 0,u_ 0,i_ 0] (b_ false) ?_)
  (rw[show t.toL=[] from by have:=hR.pos;simp at*;exact List.eq_nil_of_length_eq_zero<|by omega];rfl)
 refine aO<|dF [.rd [.pointer<|T.ptr t]] [(4,.pointer<|T.ptr t)] (o1<|ro ⟨bt,0,none⟩ (vs:=[.pointer<|T.ptr t])<|cE r0 rfl)<|aD<|aR ?_
 have hne:t≠ .nil:=by rintro rfl;simp[T.cnt] at*
 refine iC (σ:=T) [] (λu=>[(4,.pointer<|T.ptr u)]) [] (λu=>[]) (λu=>((bA 361 u).holds w)∧(u.toL.head?=t.toL.head?)∧(u≠ .nil)) (λu=>SizeOf.sizeOf u) (t:T) ⟨r1,(by rfl),hne⟩ ?_ ?_
 ·exact cX [0]
 rintro u ⟨hu,hhd,hun⟩
 refine bS<|cV [.p] [(13,.pointer<|T.ptr u)] ?_
 rcases u with _|⟨b2,x3,m4,h5,n6,l7,r8⟩
 ·exact absurd rfl hun
 refine eI 4 [.rd [.pointer<|T.ptr l7]] [(4,p_ b2),(17,.pointer<|T.ptr l7)] (o1<|ro ⟨b2,4,none⟩ (vs:=[.pointer<|T.ptr l7])<|cE hu.1 rfl) ?_
 rcases l7 with _|⟨b9,x10,m11,h12,n13,l14,r15⟩
 ·refine aQ [(18,b_ false)] (bM<|bg<|aC<|gJ [.rd [u_ x3.ka,i_ x3.ki,u_ x3.va,i_ x3.vi],.st 0] [] [(3,b_ true)] [(0,aA b1 [u_ x3.ka,i_ x3.ki,u_ x3.va,i_ x3.vi] 324)] (o1<|ro ⟨b2,0,none⟩ (vs:=[u_ x3.ka,i_ x3.ki,u_ x3.va,i_ x3.vi])<|cE hu.1 rfl)<|aF<|pF 0 [u_ x3.ka,i_ x3.ki,u_ x3.va,i_ x3.vi] (b_ true) ?_)
  (rw[←hhd];rfl)
 refine aQ [(18,b_ true)]<|dU<|aO<|aR<|aM<|aj [.rd [p_ b9]] [(4,p_ b9)] (o1<|ro ⟨b2,4,none⟩ (vs:=[p_ b9])<|cE hu.1 rfl)<|bN ((T.node b9 x10 m11 h12 n13 l14 r15)) ⟨hu.2.1,(by rw[←hhd];simp[T.toL]),(by simp)⟩ (by(simp;omega)) ?_
 exact cX [0]
theorem Ov(bt:Nat)(t:T)(n:Int)(hW:WF t)(w:World)(r0:(aA bt [.pointer<|T.ptr t] 251).holds w)(r1:(bA 361 t).holds w):
  CW 252 #[p_ bt,u_ n] w (.tuple #[.agg #[u_<|((dc n t.toL).getD default).ka,i_<|((dc n t.toL).getD default).ki,u_<|((dc n t.toL).getD default).va,i_<|((dc n t.toL).getD default).vi],b_<|(dc n t.toL).isSome]):=by
 have hR:=hW.right;have hB:=hW.bal;have hS:=hW.srt;have hCn:=hW.cnt
 refine aU Tryz.func252 rfl (HS.nil w) (aC<|dL [.al] [] (λb1=>[(4,p_ b1)]) (λb1=>aA b1 [u_ 0,i_ 0,u_ 0,i_ 0] 324) ?_)
 intro b1
 refine aD<|dF [.rd [.pointer<|T.ptr t],.cq<|b_<|T.hasB n t] [(17,b_ (!(T.hasB n t)))] (oc (ro ⟨bt,0,none⟩ (vs:=[.pointer<|T.ptr t])<|cE r0 rfl)<|o1<|qo<|λw s=>Hy t n w<|bK s r1)<|aL rfl (λe1=>?_) (λe1=>?_)
 ·refine aC (bL [.st 0] [(5,b_ false)] []<|aF<|pF 0 [u_ 0,i_ 0,u_ 0,i_ 0] (b_ false) ?_)
  (rw[C4 hR<|by simp_all];rfl)
 refine aO<|dF [.rd [.pointer<|T.ptr t]] [(6,.pointer<|T.ptr t)] (o1<|ro ⟨bt,0,none⟩ (vs:=[.pointer<|T.ptr t])<|cE r0 rfl)<|aR ?_
 have hE_:=e1
 refine iC (σ:=T) [] (λu=>[(6,.pointer<|T.ptr u)]) [] (λu=>[]) (λu=>((bA 361 u).holds w)∧u.Right∧(dc n u.toL=dc n t.toL)∧(u.hasB n=true)) (λu=>SizeOf.sizeOf u) (t:T) ⟨r1,hR,(by rfl),(by simpa using hE_)⟩ ?_ ?_
 ·exact cX [0]
 rintro u ⟨hu,hRu,hf,hb⟩
 refine aR<|aR<|aC<|cV [.p] [(29,.pointer<|T.ptr u)] ?_
 rcases u with _|⟨b2,x3,m4,h5,n6,l7,r8⟩
 ·simp[T.hasB] at hb
 obtain⟨_,_,_,hRu_l,hRu_r⟩:=id hRu
 refine aj [.rd [.pointer<|T.ptr l7],.cq<|b_<|T.hasB n l7] [(6,p_ b2),(28,b_<|T.hasB n l7)] (oc (ro ⟨b2,4,none⟩ (vs:=[.pointer<|T.ptr l7])<|cE hu.1 rfl)<|o1<|qo<|λw s=>Hy l7 n w<|bK s hu.2.1)<|aL rfl (λe2=>?_) (λe2=>?_)
 ·have p2:=e2
  refine aM<|aj [.rd [.pointer<|T.ptr l7]] [(6,.pointer<|T.ptr l7)] (o1<|ro ⟨b2,4,none⟩ (vs:=[.pointer<|T.ptr l7])<|cE hu.1 rfl)<|bN (l7) ⟨hu.2.1,hRu_l,(by rw[←hf];exact(SQ hRu_l ‹_›).symm),‹_›⟩ (by(simp;omega)) ?_
  exact cX [0]
 refine dF [.rd [u_ x3.va]] [(41,b_<|decide (x3.va≤n))] (o1<|ro ⟨b2,2,none⟩ (vs:=[u_ x3.va])<|cE hu.1 rfl)<|aL rfl (λe3=>?_) (λe3=>?_)
 ·have p3:=Zg e3
  refine aC (gJ [.rd [u_ x3.ka,i_ x3.ki,u_ x3.va,i_ x3.vi],.st 0] [] [(5,b_ true)] [(0,aA b1 [u_ x3.ka,i_ x3.ki,u_ x3.va,i_ x3.vi] 324)] (o1<|ro ⟨b2,0,none⟩ (vs:=[u_ x3.ka,i_ x3.ki,u_ x3.va,i_ x3.vi])<|cE hu.1 rfl)<|aF<|pF 0 [u_ x3.ka,i_ x3.ki,u_ x3.va,i_ x3.vi] (b_ true) ?_)
  (rw[←hf,Q5 hRu_l ‹_› (by simp_all)];rfl)
 have p3:=Zh e3
 refine aM<|aj [.rd [.pointer<|T.ptr r8]] [(6,.pointer<|T.ptr r8)] (o1<|ro ⟨b2,5,none⟩ (vs:=[.pointer<|T.ptr r8])<|cE hu.1 rfl)<|bN (r8) ⟨hu.2.2,hRu_r,(by rw[←hf];exact(SU hRu_l ‹_› (by simp_all)).symm),(XQ hRu hb ‹_› (by simp_all))⟩ (by(simp;omega)) ?_
 exact cX [0]
theorem H5(bt:Nat)(t:T)(n:Int)(hW:WF t)(w:World)(r0:(aA bt [.pointer<|T.ptr t] 251).holds w)(r1:(bA 361 t).holds w):
  CW 222 #[p_ bt,u_ n] w (.tuple #[.agg #[u_<|((eC n t.toL).getD default).ka,i_<|((eC n t.toL).getD default).ki,u_<|((eC n t.toL).getD default).va,i_<|((eC n t.toL).getD default).vi],b_<|(eC n t.toL).isSome]):=by
 have hR:=hW.right;have hB:=hW.bal;have hS:=hW.srt;have hCn:=hW.cnt
 refine aU Tryz.func222 rfl (HS.nil w) (aC<|dL [.al] [] (λb1=>[(4,p_ b1)]) (λb1=>aA b1 [u_ 0,i_ 0,u_ 0,i_ 0] 324) ?_)
 intro b1
 refine aC<|dL [.al] [] (λb2=>[(6,p_ b2)]) (λb2=>aA b2 [u_ 0,i_ 0,u_ 0,i_ 0] 324) ?_
 intro b2
 refine aC<|dM [.al,.st 2] [] (λb3=>[(7,p_ b3)]) (λb3=>[]) (λb3=>aA b3 [b_ false] 4) ?_
 intro b3
 refine aE [(8,.func (.func 257) #[] #[p_ b3,p_ b2])]<|aD<|aE [(13,b_ false)]<|bM<|az<|dF [.rd [.pointer<|T.ptr t]] [(9,.pointer<|T.ptr t)] (o1<|ro ⟨bt,0,none⟩ (vs:=[.pointer<|T.ptr t])<|cE r0 rfl)<|aR<|ca 1 (aA b2 [u_<|(default:It).ka,i_<|(default:It).ki,u_<|(default:It).va,i_<|(default:It).vi] 324) rfl (gx<|cc (congrArg u_ (by rfl:0=(default:It).ka))<|cc (congrArg i_ (by rfl:0=(default:It).ki))<|cc (congrArg u_ (by rfl:0=(default:It).va))<|cc (congrArg i_ (by rfl:0=(default:It).vi)) rfl) (iC (σ:=T×Bool×It) [] (λ(u,mt,ov)=>[(9,.pointer<|T.ptr u)]) [1,1] (λ(u,mt,ov)=>[aA b3 [b_ mt] 4,aA b2 [u_ ov.ka,i_ ov.ki,u_ ov.va,i_ ov.vi] 324]) (λ(u,mt,ov)=>((bA 361 u).holds w)∧u.Right∧(fW u.toL)∧(gA (ob mt ov) (bl n u.toL)=eC n t.toL)∧(mt=false→ov=default)) (λ(u,mt,ov)=>SizeOf.sizeOf u) (t,false,(default:It)) ⟨r1,hR,hS,(by rfl),(λ_=>rfl)⟩ ?_ ?_)
 ·exact cX [2,1,0]
 rintro⟨u,mt,ov⟩ ⟨hu,hRu,hSu,hf,hm⟩
 refine bS<|cV [.p] [(19,.pointer<|T.ptr u)] ?_
 rcases u with _|⟨b4,x5,m6,h7,n8,l9,r10⟩
 ·refine aQ [(9,n_),(20,b_ false)] ?_
  refine bM ?_
  refine bg ?_
  refine aD ?_
  refine jx [2] 4 [aA b3 [b_ mt] 4,aA b2 [u_ ov.ka,i_ ov.ki,u_ ov.va,i_ ov.vi] 324] ?_
  refine iL 2 [.ld 1,.ld 0] [0,1] [(4,p_ b1),(58,.agg #[u_ ov.ka,i_ ov.ki,u_ ov.va,i_ ov.vi]),(59,b_ mt)] (sd [2]) ?_
  refine gR 2 rfl (dQ 2 [u_ ov.ka,i_ ov.ki,u_ ov.va,i_ ov.vi] rfl ?_)
  refine gI (sd [2]) ?_
  refine iL 0 [] [3] [(4,p_ b1),(5,b_ mt)] (sd [2]) ?_
  refine je ?_
  refine aF ?_
  refine pF 2 [u_ ov.ka,i_ ov.ki,u_ ov.va,i_ ov.vi] (b_ mt) ?_
  have hf':ob mt ov=eC n t.toL:=hf;rw[←hf'];cases mt with|true=>rfl|false=>rw[hm rfl];rfl
 obtain⟨_,_,_,hRu_l,hRu_r⟩:=id hRu
 refine aQ [(9,p_ b4),(20,b_ true)]<|dU<|aO<|aR<|aD<|dF [.rd [u_ x5.ka]] [(28,b_<|decide (x5.ka>n))] (o1<|ro ⟨b4,0,none⟩ (vs:=[u_ x5.ka])<|cE hu.1 rfl)<|aL rfl (λe1=>?_) (λe1=>?_)
 ·have p1:=Zg e1
  refine dF [.rd [.pointer<|T.ptr l9]] [(9,.pointer<|T.ptr l9)] (o1<|ro ⟨b4,4,none⟩ (vs:=[.pointer<|T.ptr l9])<|cE hu.1 rfl)<|bg<|bN (l9,mt,ov) ⟨hu.2.1,hRu_l,((lM hSu).1),(by rw[←hf];(rw[YL _ hSu ‹_›];done)),hm⟩ (by(simp;omega)) ?_
  exact cX [0,0,0]
 have p1:=Zh e1
 refine aO<|aC<|eI 5 [.rd [u_ x5.ka,i_ x5.ki,u_ x5.va,i_ x5.vi]] [(34,.func (.func 257) #[] #[p_ b3,p_ b2]),(38,.agg #[u_ x5.ka,i_ x5.ki,u_ x5.va,i_ x5.vi])] (o1<|ro ⟨b4,0,none⟩ (vs:=[u_ x5.ka,i_ x5.ki,u_ x5.va,i_ x5.vi])<|cE hu.1 rfl)<|aG<|eM (some 39) [.agg #[u_ x5.ka,i_ x5.ki,u_ x5.va,i_ x5.vi],p_ b3,p_ b2] Tryz.func257 rfl (aC<|dL [.al] [] (λb11=>[(3,p_ b11)]) (λb11=>aA b11 [u_ x5.ka,i_ x5.ki,u_ x5.va,i_ x5.vi] 324) ?_)
 intro b11
 refine bS<|bB [.ld 0] [(5,b_ (!mt))]<|iD (!mt) (λe2=>?_)<|λe2=>?_
 ·refine aM<|bL [.ld 3,.st 1] [] [(1,aA b2 [u_ x5.ka,i_ x5.ki,u_ x5.va,i_ x5.vi] 324)]<|aD<|aM<|bL [.st 0] [(2,p_ b2),(3,p_ b11)] [(0,aA b3 [b_ true] 4)]<|aM<|gJ [.ld 1,.ld 3,.cq<|.agg #[u_<|(aZ x5 x5).ka,i_<|(aZ x5 x5).ki,u_<|(aZ x5 x5).va,i_<|(aZ x5 x5).vi],.st 1] [] [] [(1,aA b2 [u_<|(aZ x5 x5).ka,i_<|(aZ x5 x5).ki,u_<|(aZ x5 x5).va,i_<|(aZ x5 x5).vi] 324)] (o1<|qw<|tJ x5 x5)<|u0 [] (λ_ w r s=>trivial)<|pG (by kernel_rfl)<|j6 [aA b3 [b_ true] 4,aA b2 [u_<|(aZ x5 x5).ka,i_<|(aZ x5 x5).ki,u_<|(aZ x5 x5).va,i_<|(aZ x5 x5).vi] 324,aA b1 [u_ 0,i_ 0,u_ 0,i_ 0] 324] (sd [3])<|eE<|aD<|aD<|aM<|aj [.rd [.pointer<|T.ptr l9]] [(4,p_ b1),(6,p_ b2),(7,p_ b3),(8,.func (.func 257) #[] #[p_ b3,p_ b2]),(9,p_ b4),(10,.pointer<|T.ptr l9)] (o1<|ro ⟨b4,4,none⟩ (vs:=[.pointer<|T.ptr l9])<|cE hu.1 rfl)<|aD<|aM<|cV [.p] [(45,.pointer<|T.ptr l9)] ?_
  rcases l9 with _|⟨b12,x13,m14,h15,n16,l17,r18⟩
  ·refine aQ [(10,n_),(46,b_ false)]<|bM<|aO<|aM<|aj [.rd [.pointer<|T.ptr r10]] [(9,.pointer<|T.ptr r10)] (o1<|ro ⟨b4,5,none⟩ (vs:=[.pointer<|T.ptr r10])<|cE hu.1 rfl)<|bN (r10,true,aZ x5 x5) ⟨hu.2.2,hRu_r,((lM hSu).2.1),(by rw[←hf];(rw[Mc _ _ hSu ‹_›];simp_all[ob];done)),(by(intro h_;cases h_))⟩ (by(simp;done)) ?_
   exact cX [0,0,0]
  refine aQ [(10,p_ b12),(46,b_ true)]<|dU<|aM<|eI 5 [.rd [u_ m14.ka,i_ m14.ki,u_ m14.va,i_ m14.vi]] [(47,.func (.func 257) #[] #[p_ b3,p_ b2]),(51,.agg #[u_ m14.ka,i_ m14.ki,u_ m14.va,i_ m14.vi])] (o1<|ro ⟨b12,6,none⟩ (vs:=[u_ m14.ka,i_ m14.ki,u_ m14.va,i_ m14.vi])<|cE hu.2.1.1 rfl)<|aG<|eM (some 52) [.agg #[u_ m14.ka,i_ m14.ki,u_ m14.va,i_ m14.vi],p_ b3,p_ b2] Tryz.func257 rfl (aC<|dM [.al] [] (λb19=>[(1,p_ b3),(3,p_ b19)]) (λ_=>[]) (λb19=>aA b19 [u_ m14.ka,i_ m14.ki,u_ m14.va,i_ m14.vi] 324) ?_)
  intro b19
  refine aD<|aD<|aM<|bB [.ld 0] [(5,b_ false)]<|bM<|az<|aM<|bL [.st 0] [] []<|aM<|gJ [.ld 1,.ld 3,.cq<|.agg #[u_<|(aZ (aZ x5 x5) m14).ka,i_<|(aZ (aZ x5 x5) m14).ki,u_<|(aZ (aZ x5 x5) m14).va,i_<|(aZ (aZ x5 x5) m14).vi],.st 1] [] [] [(1,aA b2 [u_<|(aZ (aZ x5 x5) m14).ka,i_<|(aZ (aZ x5 x5) m14).ki,u_<|(aZ (aZ x5 x5) m14).va,i_<|(aZ (aZ x5 x5) m14).vi] 324)] (o1<|qw<|tJ (aZ x5 x5) m14)<|u0 [] (λ_ w r s=>trivial)<|pG (by kernel_rfl)<|j6 [aA b3 [b_ true] 4,aA b2 [u_<|(aZ (aZ x5 x5) m14).ka,i_<|(aZ (aZ x5 x5) m14).ki,u_<|(aZ (aZ x5 x5) m14).va,i_<|(aZ (aZ x5 x5) m14).vi] 324,aA b1 [u_ 0,i_ 0,u_ 0,i_ 0] 324] (sd [3])<|eE<|aM<|aj [.rd [.pointer<|T.ptr r10]] [(1,u_ n),(9,.pointer<|T.ptr r10)] (o1<|ro ⟨b4,5,none⟩ (vs:=[.pointer<|T.ptr r10])<|cE hu.1 rfl)<|bN (r10,true,aZ (aZ x5 x5) m14) ⟨(by exact hu.2.2),(by exact hRu_r),(by exact(lM hSu).2.1),(by rw[←hf];(rw[Md _ _ hRu_l rfl hSu (by assumption)];simp_all[ob];done)),(by(intro h_;cases h_))⟩ (by(simp;omega)) ?_
  exact cX [0,0,0]
 refine az<|aM<|bL [.st 0] [] [(0,aA b3 [b_ true] 4)]<|aM<|gJ [.ld 1,.ld 3,.cq<|.agg #[u_<|(aZ ov x5).ka,i_<|(aZ ov x5).ki,u_<|(aZ ov x5).va,i_<|(aZ ov x5).vi],.st 1] [] [] [(1,aA b2 [u_<|(aZ ov x5).ka,i_<|(aZ ov x5).ki,u_<|(aZ ov x5).va,i_<|(aZ ov x5).vi] 324)] (o1<|qw<|tJ ov x5)<|u0 [] (λ_ w r s=>trivial)<|pG (by kernel_rfl)<|j6 [aA b3 [b_ true] 4,aA b2 [u_<|(aZ ov x5).ka,i_<|(aZ ov x5).ki,u_<|(aZ ov x5).va,i_<|(aZ ov x5).vi] 324,aA b1 [u_ 0,i_ 0,u_ 0,i_ 0] 324] (sd [3])<|eE<|aD<|aD<|aM<|aj [.rd [.pointer<|T.ptr l9]] [(4,p_ b1),(6,p_ b2),(7,p_ b3),(8,.func (.func 257) #[] #[p_ b3,p_ b2]),(9,p_ b4),(10,.pointer<|T.ptr l9)] (o1<|ro ⟨b4,4,none⟩ (vs:=[.pointer<|T.ptr l9])<|cE hu.1 rfl)<|aD<|aM<|cV [.p] [(45,.pointer<|T.ptr l9)] ?_
 rcases l9 with _|⟨b20,x21,m22,h23,n24,l25,r26⟩
 ·refine aQ [(10,n_),(46,b_ false)]<|bM<|aO<|aM<|aj [.rd [.pointer<|T.ptr r10]] [(9,.pointer<|T.ptr r10)] (o1<|ro ⟨b4,5,none⟩ (vs:=[.pointer<|T.ptr r10])<|cE hu.1 rfl)<|bN (r10,true,aZ ov x5) ⟨hu.2.2,hRu_r,((lM hSu).2.1),(by rw[←hf];(rw[Mc _ _ hSu ‹_›];simp_all[ob];done)),(by(intro h_;cases h_))⟩ (by(simp;done)) ?_
  exact cX [0,0,0]
 refine aQ [(10,p_ b20),(46,b_ true)]<|dU<|aM<|eI 5 [.rd [u_ m22.ka,i_ m22.ki,u_ m22.va,i_ m22.vi]] [(47,.func (.func 257) #[] #[p_ b3,p_ b2]),(51,.agg #[u_ m22.ka,i_ m22.ki,u_ m22.va,i_ m22.vi])] (o1<|ro ⟨b20,6,none⟩ (vs:=[u_ m22.ka,i_ m22.ki,u_ m22.va,i_ m22.vi])<|cE hu.2.1.1 rfl)<|aG<|eM (some 52) [.agg #[u_ m22.ka,i_ m22.ki,u_ m22.va,i_ m22.vi],p_ b3,p_ b2] Tryz.func257 rfl (aC<|dM [.al] [] (λb27=>[(1,p_ b3),(2,p_ b2),(3,p_ b27)]) (λ_=>[]) (λb27=>aA b27 [u_ m22.ka,i_ m22.ki,u_ m22.va,i_ m22.vi] 324) ?_)
 intro b27
 refine aD<|aD<|aM<|bB [.ld 0] [(5,b_ false)]<|bM<|az<|aM<|bL [.st 0] [] []<|aM<|gJ [.ld 1,.ld 3,.cq<|.agg #[u_<|(aZ (aZ ov x5) m22).ka,i_<|(aZ (aZ ov x5) m22).ki,u_<|(aZ (aZ ov x5) m22).va,i_<|(aZ (aZ ov x5) m22).vi],.st 1] [] [] [(1,aA b2 [u_<|(aZ (aZ ov x5) m22).ka,i_<|(aZ (aZ ov x5) m22).ki,u_<|(aZ (aZ ov x5) m22).va,i_<|(aZ (aZ ov x5) m22).vi] 324)] (o1<|qw<|tJ (aZ ov x5) m22)<|u0 [] (λ_ w r s=>trivial)<|pG (by kernel_rfl)<|j6 [aA b3 [b_ true] 4,aA b2 [u_<|(aZ (aZ ov x5) m22).ka,i_<|(aZ (aZ ov x5) m22).ki,u_<|(aZ (aZ ov x5) m22).va,i_<|(aZ (aZ ov x5) m22).vi] 324,aA b1 [u_ 0,i_ 0,u_ 0,i_ 0] 324] (sd [3])<|eE<|aM<|aj [.rd [.pointer<|T.ptr r10]] [(1,u_ n),(9,.pointer<|T.ptr r10)] (o1<|ro ⟨b4,5,none⟩ (vs:=[.pointer<|T.ptr r10])<|cE hu.1 rfl)<|bN (r10,true,aZ (aZ ov x5) m22) ⟨(by exact hu.2.2),(by exact hRu_r),(by exact(lM hSu).2.1),(by rw[←hf];(rw[Md _ _ hRu_l rfl hSu (by assumption)];simp_all[ob];done)),(by(intro h_;cases h_))⟩ (by(simp;omega)) ?_
 exact cX [0,0,0]
theorem Ib:
  CS 88 #[] [] (λ(bt:Nat)=>(p_ bt)) (λ_=>True) λbt=>[aA bt [.pointer<|T.ptr T.nil] 251,bA 361 T.nil]:=by
 intro w hs
 refine aU Tryz.func88 rfl hs (dW [] [] trivial rfl (aE []<|aC<|dL [.al] [] (λb1=>[(0,p_ b1)]) (λb1=>aA b1 [n_] 251) ?_))
 intro b1
 refine aF<|OJ [aA b1 [n_] 251,bA 361 T.nil] rfl (bR [0,0] [p_ b1] (b1) ?_ ?_)
 ·rfl
 trivial
structure dX(t:T)(kv:List (Int×It)):Prop where
 wf:WF t
 mem: ∀y,y∈t.toL↔aB kv y.ki=some y
 own: ∀k y,aB kv k=some y→y.ki=k∧y.vi=k
 nd:(kv.map (·.1)).Nodup
 len:t.toL.length=kv.length
theorem D3:dX .nil []:=⟨VH,λy=>by simp[T.toL,aB],λk y h=>by simp[aB] at h,by simp,rfl⟩
variable{kv:hV It}
theorem w9(h:aB kv k≠none): ∃y,aB kv k=some y:=by
 cases e:aB kv k with
 |none=>exact absurd e h
 |some y=>exact⟨y,rfl⟩
theorem P1(hS:fW L)(hx:x∈L):(iG x.ka x.ki L).length+1=L.length:=by
 obtain⟨A,B,rfl⟩:=List.append_of_mem hx
 rw[EC hS];simp;omega
theorem D4(h:dX t kv)(hk:aB kv k≠none): ∃y∈t.toL,y.ka=((aB kv k).getD default).ka∧y.ki=((aB kv k).getD default).ki:=by
 obtain⟨y,e⟩:=w9 hk
 have:=h.own k y e
 exact⟨y,(h.mem y).2 (by rw[this.1];exact e),by rw[e];rfl,by rw[e];rfl⟩
theorem D5(h:dX t kv)(hk:aB kv k≠none)(hz:WF z∧z.toL=iG ((aB kv k).getD default).ka ((aB kv k).getD default).ki t.toL):dX z (aW kv k):=by
 obtain⟨hW,e⟩:=hz
 obtain⟨x,ex⟩:=w9 hk
 have ox:=h.own k x ex
 rw[ex] at e;simp only[Option.getD_some] at e
 have hx:x∈t.toL:=(h.mem x).2 (by rw[ox.1];exact ex)
 refine⟨hW,λy=>?_,λq y hq=>?_,lX h.nd k,?_⟩
 ·rw[e,gP h.nd]
  unfold iG;rw[List.mem_filter,h.mem y]
  by_cases e2:k=y.ki
  ·rw[if_pos e2];subst e2
   constructor
   ·rintro⟨h1,h2⟩;rw[ex] at h1;cases h1;simp at h2
   ·intro h1;cases h1
  ·rw[if_neg e2]
   constructor
   ·exact λh1=>h1.1
   ·intro h1;refine⟨h1,?_⟩
    simp;right;intro h3;exact e2<|by rw[h3,ox.1]
 ·rw[gP h.nd] at hq;split at hq
  ·cases hq
  ·exact h.own q y hq
 ·have h1:=P1 h.wf.srt hx;have h2:=yw hk;have h3:=h.len
  rw[e];omega
theorem zC(h:dX t kv)(hk:aB kv k=none): ∀y∈t.toL,¬(y.ka=a∧y.ki=k):=by
 rintro y hy ⟨_,e⟩
 have:=(h.mem y).1 hy;rw[e,hk] at this;cases this
theorem zD{b:Int}(h:dX t kv)(hk:aB kv k=none)(hz:WF z∧z.toL=gy ⟨a,k,b,k⟩ t.toL):dX z (aJ kv k ⟨a,k,b,k⟩):=by
 obtain⟨hW,e⟩:=hz
 refine⟨hW,λy=>?_,λq y hq=>?_,mn h.nd _ _,?_⟩
 ·rw[e,D1,ig,h.mem y]
  by_cases e2:k=y.ki
  ·rw[if_pos e2];subst e2
   constructor
   ·rintro(h1|h1)
    ·rw[←h1]
    ·rw[hk] at h1;cases h1
   ·intro h1;left;simpa using h1.symm
  ·rw[if_neg e2]
   constructor
   ·rintro(h1|h1)
    ·exact absurd (by rw[h1]) e2
    ·exact h1
   ·exact .inr
 ·rw[ig] at hq;split at hq
  ·cases hq;exact⟨by assumption,by assumption⟩
  ·exact h.own q y hq
 ·rw[e,wx,CM _ hk,h.len]
theorem P2{kv':hV It}(h:dX t kv)(hg: ∀k,aB kv' k=aB kv k)(hn:(kv'.map (·.1)).Nodup)(hl:kv'.length=kv.length):dX t kv':=
 ⟨h.wf,λy=>by rw[hg];exact h.mem y,λk y hk=>h.own k y (by rw[←hg];exact hk),hn,by rw[hl];exact h.len⟩
theorem ED(h:aB kv k=none):aW kv k=kv:=by
 induction kv with
 |nil=>rfl
 |cons p kv ih=>
  simp only[aB] at h;simp only[aW]
  by_cases e:p.1=k
  ·rw[if_pos e] at h;cases h
  ·rw[if_neg e] at h;rw[if_neg e,ih h]
theorem wR(hn:(kv.map (·.1)).Nodup)(k:Int):aB (aW kv k) k=none:=by rw[gP hn,if_pos rfl]
theorem Q6{b:Int}(hkv:(kv.map (·.1)).Nodup)(hk:aB kv k≠none)(h:dX t (aW kv k))(hz:WF z∧z.toL=gy ⟨a,k,b,k⟩ t.toL):dX z (aJ kv k ⟨a,k,b,k⟩):=by
 have h1:=zD h (wR hkv k) hz
 refine P2 h1 (λq=>?_) (mn hkv _ _) ?_
 ·rw[ig,ig];split
  ·rfl
  ·rw[gP hkv,if_neg ‹_›]
 ·rw[Gx _ hk,CM _<|wR hkv k];have:=yw hk;omega
theorem J3(kv:hV It)(k:Int):(aW kv k).length≤kv.length:=by
 by_cases h:aB kv k=none
 ·rw[ED h];exact Nat.le_refl _
 ·have:=yw h;omega
def qf:Int:=9223372036854775808
def od(L:List It):Int:=if L=[] then qf else cF (L.head?.getD default).ka qf
def im(L:List It):Int:=if L=[] then qf else cF ((eC 18446744073709551615 L).getD default).va qf
theorem C7(h:dX t kv):(kv.length:Int)=0↔t.toL=[]:=by
 have:=h.len;rw[←List.length_eq_zero_iff];omega
theorem nc:jk Tryz.prog 3 (λk:Int=>i_ k):=yh<|by kernel_rfl
abbrev vK(p0)(p1)(p2):=(aA p0 [p_ p1,.map<|some p2] 190:V.aI)
abbrev Ai(p0):=(aA p0 [.pointer<|T.ptr T.nil] 251:V.aI)
abbrev Aj(p0):=(bH (λk:Int=>i_ k) (λy:It=>(.agg #[u_ y.ka,i_ y.ki,u_ y.va,i_ y.vi])) p0 ([]:hV It):V.aI)
theorem VM:
  CS 60 #[] [] (λ((be,bt,mb):Nat×Nat×Nat)=>(p_ be)) (λ_=>True) λ(be,bt,mb)=>[vK be bt mb,Ai bt,bA 361 T.nil,Aj mb]:=by
 intro w hs
 refine aU Tryz.func60 rfl hs (aE []<|aC<|aG<|b0 (some 1) [] Ib ?_)
 rintro bt1-
 refine aG<|nU (λk:Int=>i_ k) (λy:It=>(.agg #[u_ y.ka,i_ y.ki,u_ y.va,i_ y.vi])) 2 (by kernel_rfl) rfl (λm2=>[Ai bt1,bA 361 T.nil,Aj m2]) (λ_=>rfl) ?_
 intro m2
 refine dM [.al] [] (λb3=>[(0,p_ b3)]) (λ_=>[]) (λb3=>vK b3 bt1 m2) ?_
 intro b3
 refine aF<|bR [3,0,0,0] [p_ b3] (b3,bt1,m2) ?_ ?_
 ·rfl
 trivial
abbrev ry(p0)(p1):=(aA p0 [.pointer<|T.ptr p1] 251:V.aI)
abbrev Am(p0)(p1):=(bH (λk:Int=>i_ k) (λy:It=>(.agg #[u_ y.ka,i_ y.ki,u_ y.va,i_ y.vi])) p0 p1:V.aI)
theorem Gz(be bt mb:Nat)(t:T)(kv:hV It)(ci:Int)(hd:aB kv ci=none)(w:World)(r0:(vK be bt mb).holds w)(r1:(ry bt t).holds w)(r2:(bA 361 t).holds w)(r3:(Am mb kv).holds w):
  CW 202 #[p_ be,i_ ci] w (i_ 6):=by
 refine aU Tryz.func202 rfl (HS.nil w) (aE []<|aD<|aE [(8,b_ false)]<|bM<|aO<|aC<|eI 5 [.rd [.map<|some mb]] [(13,.map<|some mb),(14,i_ ci)] (o1<|ro ⟨be,1,none⟩ (vs:=[.map<|some mb])<|cE r0 rfl)<|aG<|cC (some 15) _ (vv 3 324 ci (default:It) (λw s=>bK s r3) nc)<|dM [.al,.st 0] [] (λb1=>[(5,p_ b1),(6,b_<|(aB kv ci).isSome)]) (λb1=>[]) (λb1=>aA b1 [u_<|((aB kv ci).getD (default:It)).ka,i_<|((aB kv ci).getD (default:It)).ki,u_<|((aB kv ci).getD (default:It)).va,i_<|((aB kv ci).getD (default:It)).vi] 324) ?_)
 intro b1
 refine aD<|aE [(19,b_ (!((aB kv ci).isSome)))]<|aL rfl (λe1=>?_) (λe1=>?_)
 ·refine aE [(4,i_ 6)]<|aF<|bJ [i_ 6] ?_
  rfl
 exact absurd e1<|by simp[hd]
abbrev An(p0)(p1)(p2):=(bH (λk:Int=>i_ k) (λy:It=>(.agg #[u_ y.ka,i_ y.ki,u_ y.va,i_ y.vi])) p0 (aW p1 p2):V.aI)
theorem H6(be bt mb:Nat)(t:T)(kv:hV It)(ci:Int)(hE:dX t kv)(hd:aB kv ci≠none)(hC:kv.length≤700):
  CS 202 #[p_ be,i_ ci] [vK be bt mb,ry bt t,bA 361 t,Am mb kv] (λ(zt:T)=>(i_ 0)) (λzt=>dX zt<|aW kv ci) λzt=>[vK be bt mb,ry bt zt,bA 361 zt,An mb kv ci]:=by
 intro w hs
 have hW:=hE.wf;have hl_:=hE.len
 refine aU Tryz.func202 rfl hs (aE []<|aD<|aE [(8,b_ false)]<|bM<|aO<|aC<|an 5 [.ld 0] [(13,.map<|some mb),(14,i_ ci)]<|aG<|cC (some 15) _ (pH (kt:=3) (et:=324) (enck:=(λk:Int=>i_ k)) (encv:=(λy:It=>(.agg #[u_ y.ka,i_ y.ki,u_ y.va,i_ y.vi]))) (b:=mb) (kv:=kv) (k:=ci) (d0:=(default:It)) (λw s=>s.mem (i:=3) rfl) rfl rfl rfl (by kernel_rfl) nc (by kernel_rfl) rfl)<|dM [.al,.st 4] [] (λb1=>[(5,p_ b1),(6,b_<|(aB kv ci).isSome)]) (λb1=>[]) (λb1=>aA b1 [u_<|((aB kv ci).getD (default:It)).ka,i_<|((aB kv ci).getD (default:It)).ki,u_<|((aB kv ci).getD (default:It)).va,i_<|((aB kv ci).getD (default:It)).vi] 324) ?_)
 intro b1
 refine aD<|aE [(19,b_ (!((aB kv ci).isSome)))]<|aL rfl (λe1=>?_) (λe1=>?_)
 ·exact absurd e1<|by(obtain⟨y,hy⟩:=w9 hd;simp[hy])
 refine aO<|aC<|an 5 [.ld 0] [(23,.map<|some mb),(24,i_ ci)]<|aG<|wQ (kt:=3) (et:=324) (enck:=(λk:Int=>i_ k)) (encv:=(λy:It=>(.agg #[u_ y.ka,i_ y.ki,u_ y.va,i_ y.vi]))) (kv:=kv) (k:=ci) 3 [vK be bt mb,ry bt t,bA 361 t,An mb kv ci,aA b1 [u_<|((aB kv ci).getD (default:It)).ka,i_<|((aB kv ci).getD (default:It)).ki,u_<|((aB kv ci).getD (default:It)).va,i_<|((aB kv ci).getD (default:It)).vi] 324] (by kernel_rfl) rfl rfl rfl (by kernel_rfl) nc rfl rfl (eE<|aD<|bY [6] 8<|cQ 2 [.ld 0,.ld 4] (rg 0 6) [(28,p_ bt),(30,.agg #[u_<|((aB kv ci).getD (default:It)).ka,i_<|((aB kv ci).getD (default:It)).ki])]<|bF 6 rfl (b0 (some 31) [1,1] (DF bt t (((aB kv ci).getD (default:It)).ka) (((aB kv ci).getD (default:It)).ki) ‹_› (D4 hE ‹_›) (by omega)) ?_))
 rintro zt2 hz2
 obtain⟨hz2W,hz2L⟩:=id hz2
 refine cb<|cQ 0 [] [7] [(4,i_ 0)]<|eN<|aF<|bR [2,0,0,0] [i_ 0] (zt2) ?_ ?_
 ·rfl
 exact D5 hE hd ⟨by assumption,by assumption⟩
abbrev vL(p0)(p1)(p2):=(aA p0 [p_ p1,.map<|some p2] 192:V.aI)
theorem VN:
  CS 61 #[] [] (λ((be,bt,mb):Nat×Nat×Nat)=>(p_ be)) (λ_=>True) λ(be,bt,mb)=>[vL be bt mb,Ai bt,bA 361 T.nil,Aj mb]:=by
 intro w hs
 refine aU Tryz.func61 rfl hs (aE []<|aC<|aG<|b0 (some 1) [] Ib ?_)
 rintro bt1-
 refine aG<|nU (λk:Int=>i_ k) (λy:It=>(.agg #[u_ y.ka,i_ y.ki,u_ y.va,i_ y.vi])) 2 (by kernel_rfl) rfl (λm2=>[Ai bt1,bA 361 T.nil,Aj m2]) (λ_=>rfl) ?_
 intro m2
 refine dM [.al] [] (λb3=>[(0,p_ b3)]) (λ_=>[]) (λb3=>vL b3 bt1 m2) ?_
 intro b3
 refine aF<|bR [3,0,0,0] [p_ b3] (b3,bt1,m2) ?_ ?_
 ·rfl
 trivial
theorem O4(be bt mb:Nat)(t:T)(kv:hV It)(ci:Int)(hd:aB kv ci=none)(w:World)(r0:(vL be bt mb).holds w)(r1:(ry bt t).holds w)(r2:(bA 361 t).holds w)(r3:(Am mb kv).holds w):
  CW 217 #[p_ be,i_ ci] w (i_ 6):=by
 refine aU Tryz.func217 rfl (HS.nil w) (aE []<|aD<|aE [(8,b_ false)]<|bM<|aO<|aC<|eI 5 [.rd [.map<|some mb]] [(13,.map<|some mb),(14,i_ ci)] (o1<|ro ⟨be,1,none⟩ (vs:=[.map<|some mb])<|cE r0 rfl)<|aG<|cC (some 15) _ (vv 3 324 ci (default:It) (λw s=>bK s r3) nc)<|dM [.al,.st 0] [] (λb1=>[(5,p_ b1),(6,b_<|(aB kv ci).isSome)]) (λb1=>[]) (λb1=>aA b1 [u_<|((aB kv ci).getD (default:It)).ka,i_<|((aB kv ci).getD (default:It)).ki,u_<|((aB kv ci).getD (default:It)).va,i_<|((aB kv ci).getD (default:It)).vi] 324) ?_)
 intro b1
 refine aD<|aE [(19,b_ (!((aB kv ci).isSome)))]<|aL rfl (λe1=>?_) (λe1=>?_)
 ·refine aE [(4,i_ 6)]<|aF<|bJ [i_ 6] ?_
  rfl
 exact absurd e1<|by simp[hd]
theorem Ox(be bt mb:Nat)(t:T)(kv:hV It)(ci:Int)(hE:dX t kv)(hd:aB kv ci≠none)(hC:kv.length≤700):
  CS 217 #[p_ be,i_ ci] [vL be bt mb,ry bt t,bA 361 t,Am mb kv] (λ(zt:T)=>(i_ 0)) (λzt=>dX zt<|aW kv ci) λzt=>[vL be bt mb,ry bt zt,bA 361 zt,An mb kv ci]:=by
 intro w hs
 have hW:=hE.wf;have hl_:=hE.len
 refine aU Tryz.func217 rfl hs (aE []<|aD<|aE [(8,b_ false)]<|bM<|aO<|aC<|an 5 [.ld 0] [(13,.map<|some mb),(14,i_ ci)]<|aG<|cC (some 15) _ (pH (kt:=3) (et:=324) (enck:=(λk:Int=>i_ k)) (encv:=(λy:It=>(.agg #[u_ y.ka,i_ y.ki,u_ y.va,i_ y.vi]))) (b:=mb) (kv:=kv) (k:=ci) (d0:=(default:It)) (λw s=>s.mem (i:=3) rfl) rfl rfl rfl (by kernel_rfl) nc (by kernel_rfl) rfl)<|dM [.al,.st 4] [] (λb1=>[(5,p_ b1),(6,b_<|(aB kv ci).isSome)]) (λb1=>[]) (λb1=>aA b1 [u_<|((aB kv ci).getD (default:It)).ka,i_<|((aB kv ci).getD (default:It)).ki,u_<|((aB kv ci).getD (default:It)).va,i_<|((aB kv ci).getD (default:It)).vi] 324) ?_)
 intro b1
 refine aD<|aE [(19,b_ (!((aB kv ci).isSome)))]<|aL rfl (λe1=>?_) (λe1=>?_)
 ·exact absurd e1<|by(obtain⟨y,hy⟩:=w9 hd;simp[hy])
 refine aO<|aC<|an 5 [.ld 0] [(23,.map<|some mb),(24,i_ ci)]<|aG<|wQ (kt:=3) (et:=324) (enck:=(λk:Int=>i_ k)) (encv:=(λy:It=>(.agg #[u_ y.ka,i_ y.ki,u_ y.va,i_ y.vi]))) (kv:=kv) (k:=ci) 3 [vL be bt mb,ry bt t,bA 361 t,An mb kv ci,aA b1 [u_<|((aB kv ci).getD (default:It)).ka,i_<|((aB kv ci).getD (default:It)).ki,u_<|((aB kv ci).getD (default:It)).va,i_<|((aB kv ci).getD (default:It)).vi] 324] (by kernel_rfl) rfl rfl rfl (by kernel_rfl) nc rfl rfl (eE<|aD<|bY [6] 8<|cQ 2 [.ld 0,.ld 4] (rg 0 6) [(28,p_ bt),(30,.agg #[u_<|((aB kv ci).getD (default:It)).ka,i_<|((aB kv ci).getD (default:It)).ki])]<|bF 6 rfl (b0 (some 31) [1,1] (DF bt t (((aB kv ci).getD (default:It)).ka) (((aB kv ci).getD (default:It)).ki) ‹_› (D4 hE ‹_›) (by omega)) ?_))
 rintro zt2 hz2
 obtain⟨hz2W,hz2L⟩:=id hz2
 refine cb<|cQ 0 [] [7] [(4,i_ 0)]<|eN<|aF<|bR [2,0,0,0] [i_ 0] (zt2) ?_ ?_
 ·rfl
 exact D5 hE hd ⟨by assumption,by assumption⟩
abbrev vM(p0)(p1):=(aA p0 [.pointer<|T.ptr p1] 251:V.aI)
abbrev xc(p0)(p1):=(bH (λk:Int=>i_ k) (λy:It=>(.agg #[u_ y.ka,i_ y.ki,u_ y.va,i_ y.vi])) p0 p1:V.aI)
theorem VO(be bt mb:Nat)(t:T)(kv:hV It)(w:World)(r0:(aA be [p_ bt,.map<|some mb] 190).holds w)(r1:(vM bt t).holds w)(r2:(bA 361 t).holds w)(r3:(xc mb kv).holds w):
  CW 221 #[p_ be] w (i_ (kv.length:Int)):=by
 refine aU Tryz.func221 rfl (HS.nil w) (aE []<|aD<|aE [(4,b_ false)]<|bM<|aO<|aC<|eI 4 [.rd [.map<|some mb]] [(8,.map<|some mb)] (o1<|ro ⟨be,1,none⟩ (vs:=[.map<|some mb])<|cE r0 rfl)<|aG<|cC (some 9) (i_ (kv.length:Int)) (u7 (kt:=3) (et:=324) (enck:=(λk:Int=>i_ k)) (encv:=(λy:It=>(.agg #[u_ y.ka,i_ y.ki,u_ y.va,i_ y.vi]))) (b:=mb) (kv:=kv) (λw s=>bK s r3) rfl rfl (by kernel_rfl))<|aQ [(2,i_ (kv.length:Int))]<|aF<|bJ [i_ (kv.length:Int)] ?_)
 rfl
theorem VP(be bt mb:Nat)(t:T)(kv:hV It)(ci a b:Int)(hE:dX t kv)(hC:kv.length≤700):
  CS 147 #[p_ be,i_ ci,u_ a,u_ b] [aA be [p_ bt,.map<|some mb] 190,aA bt [.pointer<|T.ptr t] 251,bA 361 t,bH (λk:Int=>i_ k) (λy:It=>(.agg #[u_ y.ka,i_ y.ki,u_ y.va,i_ y.vi])) mb kv] (λ(zt:T)=>(i_ 0)) (λzt=>dX zt<|aJ (aW kv ci) ci ⟨a,ci,b,ci⟩) λzt=>[aA be [p_ bt,.map<|some mb] 190,aA bt [.pointer<|T.ptr zt] 251,bA 361 zt,bH (λk:Int=>i_ k) (λy:It=>(.agg #[u_ y.ka,i_ y.ki,u_ y.va,i_ y.vi])) mb<|aJ (aW kv ci) ci ⟨a,ci,b,ci⟩]:=by
 intro w hs
 have hW:=hE.wf;have hl_:=hE.len
 have hdl:=J3 kv ci
 refine aU Tryz.func147 rfl hs (aE []<|aD<|aE [(11,b_ false)]<|bM<|az ?_)
 by_cases hd:aB kv ci=none
 ·refine aM<|aj [.cq<|i_ 6] [] (o1<|qo<|λw s=>Gz be bt mb t kv ci ‹_› w (s.mem (i:=0) rfl) (s.mem (i:=1) rfl) (s.mem (i:=2) rfl) (s.mem (i:=3) rfl))<|aC<|dM [.al,.st 4] [] (λb1=>[(9,p_ b1)]) (λb1=>[]) (λb1=>aA b1 [u_ a,i_ ci,u_ b,i_ ci] 324) ?_
  intro b1
  refine aD<|bY [6] 7<|cQ 1 [.ld 0,.ld 4] (rg 0 6) [(25,.map<|some mb),(26,i_ ci),(27,.agg #[u_ a,i_ ci,u_ b,i_ ci])]<|bF 6 rfl (gV 3 324 3 ci (⟨a,ci,b,ci⟩:It) rfl nc (dV<|aD<|bY [8] 10<|cQ 2 [.ld 0,.ld 4,.ld 4] (rg 0 8) [(31,p_ bt),(33,.agg #[u_ a,i_ ci]),(35,.agg #[u_ b,i_ ci])]<|bF 8 rfl (b0 (some 36) [1,1] (y7 bt t a ci b ci ‹_› (zC hE ‹_›) (by omega)) ?_)))
  rintro zt2 hz1
  obtain⟨hz1W,hz1L⟩:=id hz1
  refine cb<|cQ 0 [] [9] [(8,i_ 0)]<|eN<|aF ?_
  rw[show aJ kv ci (⟨a,ci,b,ci⟩:It)=(aJ (aW kv ci) ci ⟨a,ci,b,ci⟩) from by(rw[ED hd])]
  refine bR [2,0,0,0] [i_ 0] (zt2) ?_ ?_
  ·rfl
  (rw[ED hd];exact zD hE hd ⟨by assumption,by assumption⟩)
 refine aM<|an 2 [] [(12,p_ be),(13,i_ ci)]<|aG<|b0 (some 14) [0,0,0,0] (H6 be bt mb t kv ci ‹_› ‹_› ‹_›) ?_
 rintro zt3 hz2
 have hz2W:=hz2.wf;have hz2l:=hz2.len
 refine eE<|aC<|dM [.al,.st 4] [] (λb4=>[(9,p_ b4)]) (λb4=>[]) (λb4=>aA b4 [u_ a,i_ ci,u_ b,i_ ci] 324) ?_
 intro b4
 refine aD<|bY [6] 7<|cQ 1 [.ld 0,.ld 4] (rg 0 6) [(25,.map<|some mb),(26,i_ ci),(27,.agg #[u_ a,i_ ci,u_ b,i_ ci])]<|bF 6 rfl (gV 3 324 3 ci (⟨a,ci,b,ci⟩:It) rfl nc (dV<|aD<|bY [8] 10<|cQ 2 [.ld 0,.ld 4,.ld 4] (rg 0 8) [(31,p_ bt),(33,.agg #[u_ a,i_ ci]),(35,.agg #[u_ b,i_ ci])]<|bF 8 rfl (b0 (some 36) [1,1] (y7 bt zt3 a ci b ci ‹_› (zC ‹_› (wR hE.nd _)) (by omega)) ?_)))
 rintro zt5 hz3
 obtain⟨hz3W,hz3L⟩:=id hz3
 refine cb<|cQ 0 [] [9] [(8,i_ 0)]<|eN<|aF ?_
 rw[show aJ (aW kv ci) ci (⟨a,ci,b,ci⟩:It)=(aJ (aW kv ci) ci ⟨a,ci,b,ci⟩) from by rfl]
 refine bR [2,0,0,0] [i_ 0] (zt5) ?_ ?_
 ·rfl
 exact zD ‹_› (wR hE.nd _) ⟨by assumption,by assumption⟩
theorem SX(be bt mb:Nat)(t:T)(kv:hV It)(n:Int)(hE:dX t kv)(w:World)(r0:(aA be [p_ bt,.map<|some mb] 190).holds w)(r1:(aA bt [.pointer<|T.ptr t] 251).holds w)(r2:(bA 361 t).holds w)(r3:(bH (λk:Int=>i_ k) (λy:It=>(.agg #[u_ y.ka,i_ y.ki,u_ y.va,i_ y.vi])) mb kv).holds w):
  CW 209 #[p_ be,u_ n] w (.tuple #[i_<|((eC (cF n 9223372036854775807) t.toL).getD default).ki,b_<|(eC (cF n 9223372036854775807) t.toL).isSome]):=by
 have hW:=hE.wf;have hl_:=hE.len
 refine aU Tryz.func209 rfl (HS.nil w) (aD<|bZ []<|aD<|aD<|bZ [(9,b_ false)]<|bM<|aO<|(aD<|aM<|jI [.p,.p,.p,.rd [p_ bt],.p,.p,.cq<|.tuple #[.agg #[u_<|((eC (cF n 9223372036854775807) t.toL).getD default).ka,i_<|((eC (cF n 9223372036854775807) t.toL).getD default).ki,u_<|((eC (cF n 9223372036854775807) t.toL).getD default).va,i_<|((eC (cF n 9223372036854775807) t.toL).getD default).vi],b_<|(eC (cF n 9223372036854775807) t.toL).isSome],.p,.p,.p,.al,.st 0] [] (λb1=>[(6,p_ b1),(7,b_<|(eC (cF n 9223372036854775807) t.toL).isSome)]) (λb1=>[]) (λb1=>aA b1 [u_<|((eC (cF n 9223372036854775807) t.toL).getD default).ka,i_<|((eC (cF n 9223372036854775807) t.toL).getD default).ki,u_<|((eC (cF n 9223372036854775807) t.toL).getD default).va,i_<|((eC (cF n 9223372036854775807) t.toL).getD default).vi] 324) (λb1=>oc (ro ⟨be,0,none⟩ (vs:=[p_ bt])<|cE r0 rfl)<|o1<|qo<|λw s=>H5 bt t (cF n 9223372036854775807) (by assumption) w (bK s r1)<|bK s r2) ?_))
 intro b1
 refine aC<|bB [.ld 0] [(4,i_<|((eC (cF n 9223372036854775807) t.toL).getD default).ki),(5,b_<|(eC (cF n 9223372036854775807) t.toL).isSome)]<|aF<|bJ [i_<|((eC (cF n 9223372036854775807) t.toL).getD default).ki,b_<|(eC (cF n 9223372036854775807) t.toL).isSome] ?_
 rfl
abbrev Ao(p0)(p1)(p2):=(aA p0 [p_ p1,.map<|some p2] 192:V.aI)
theorem Kw(be bt mb:Nat)(t:T)(kv:hV It)(w:World)(r0:(Ao be bt mb).holds w)(r1:(vM bt t).holds w)(r2:(bA 361 t).holds w)(r3:(xc mb kv).holds w):
  CW 218 #[p_ be] w (i_ (kv.length:Int)):=by
 refine aU Tryz.func218 rfl (HS.nil w) (aE []<|aD<|aE [(4,b_ false)]<|bM<|aO<|aC<|eI 4 [.rd [.map<|some mb]] [(8,.map<|some mb)] (o1<|ro ⟨be,1,none⟩ (vs:=[.map<|some mb])<|cE r0 rfl)<|aG<|cC (some 9) (i_ (kv.length:Int)) (u7 (kt:=3) (et:=324) (enck:=(λk:Int=>i_ k)) (encv:=(λy:It=>(.agg #[u_ y.ka,i_ y.ki,u_ y.va,i_ y.vi]))) (b:=mb) (kv:=kv) (λw s=>bK s r3) rfl rfl (by kernel_rfl))<|aQ [(2,i_ (kv.length:Int))]<|aF<|bJ [i_ (kv.length:Int)] ?_)
 rfl
theorem VQ(be bt mb:Nat)(t:T)(kv:hV It)(ci a b:Int)(hE:dX t kv)(hC:kv.length≤700):
  CS 207 #[p_ be,i_ ci,u_ a,u_ b] [Ao be bt mb,vM bt t,bA 361 t,xc mb kv] (λ(zt:T)=>(i_ 0)) (λzt=>dX zt<|aJ kv ci ⟨a,ci,b,ci⟩) λzt=>[Ao be bt mb,vM bt zt,bA 361 zt,bH (λk:Int=>i_ k) (λy:It=>(.agg #[u_ y.ka,i_ y.ki,u_ y.va,i_ y.vi])) mb<|aJ kv ci ⟨a,ci,b,ci⟩]:=by
 intro w hs
 have hW:=hE.wf;have hl_:=hE.len
 have hdl:=J3 kv ci
 refine aU Tryz.func207 rfl hs (aE []<|aD<|aE [(13,b_ false)]<|bM<|az ?_)
 by_cases hd:aB kv ci=none
 ·refine aM<|dM [.al,.st 4] [] (λb1=>[(9,p_ b1)]) (λb1=>[]) (λb1=>aA b1 [u_ a,i_ ci,u_ b,i_ ci] 324) ?_
  intro b1
  refine bS<|an 5 [.ld 0] [(25,.map<|some mb),(26,i_ ci)]<|aG<|cC (some 27) _ (pH (kt:=3) (et:=324) (enck:=(λk:Int=>i_ k)) (encv:=(λy:It=>(.agg #[u_ y.ka,i_ y.ki,u_ y.va,i_ y.vi]))) (b:=mb) (kv:=kv) (k:=ci) (d0:=(default:It)) (λw s=>s.mem (i:=3) rfl) rfl rfl rfl (by kernel_rfl) nc (by kernel_rfl) rfl)<|dM [.al,.st 5] [] (λb2=>[(10,p_ b2),(11,b_<|(aB kv ci).isSome)]) (λb2=>[]) (λb2=>aA b2 [u_<|((aB kv ci).getD (default:It)).ka,i_<|((aB kv ci).getD (default:It)).ki,u_<|((aB kv ci).getD (default:It)).va,i_<|((aB kv ci).getD (default:It)).vi] 324) ?_
  intro b2
  refine aE [(30,b_<|(aB kv ci).isSome)]<|aL rfl (λe1=>?_) (λe1=>?_)
  ·exact absurd e1<|by simp[hd]
  refine az<|bY [6] 7<|cQ 1 [.ld 0,.ld 4] (rg 0 6) [(41,.map<|some mb),(42,i_ ci),(43,.agg #[u_ a,i_ ci,u_ b,i_ ci])]<|bF 6 rfl (gV 3 324 3 ci (⟨a,ci,b,ci⟩:It) rfl nc (dV<|aD<|bY [8] 10<|cQ 2 [.ld 0,.ld 4,.ld 4] (rg 0 8) [(47,p_ bt),(49,.agg #[u_ a,i_ ci]),(51,.agg #[u_ b,i_ ci])]<|bF 8 rfl (b0 (some 52) [1,1] (y7 bt t a ci b ci ‹_› (zC hE ‹_›) (by omega)) ?_)))
  rintro zt3 hz2
  obtain⟨hz2W,hz2L⟩:=id hz2
  refine cb<|cQ 0 [] [9] [(8,i_ 0)]<|eN<|aF ?_
  rw[show aJ kv ci (⟨a,ci,b,ci⟩:It)=(aJ kv ci ⟨a,ci,b,ci⟩) from by rfl]
  refine bR [2,0,0,0] [i_ 0] (zt3) ?_ ?_
  ·rfl
  (exact zD hE (by simp_all) ⟨by assumption,by assumption⟩)
 refine aM<|dM [.al,.st 4] [] (λb4=>[(9,p_ b4)]) (λb4=>[]) (λb4=>aA b4 [u_ a,i_ ci,u_ b,i_ ci] 324) ?_
 intro b4
 refine bS<|an 5 [.ld 0] [(25,.map<|some mb),(26,i_ ci)]<|aG<|cC (some 27) _ (pH (kt:=3) (et:=324) (enck:=(λk:Int=>i_ k)) (encv:=(λy:It=>(.agg #[u_ y.ka,i_ y.ki,u_ y.va,i_ y.vi]))) (b:=mb) (kv:=kv) (k:=ci) (d0:=(default:It)) (λw s=>s.mem (i:=3) rfl) rfl rfl rfl (by kernel_rfl) nc (by kernel_rfl) rfl)<|dM [.al,.st 5] [] (λb5=>[(10,p_ b5),(11,b_<|(aB kv ci).isSome)]) (λb5=>[]) (λb5=>aA b5 [u_<|((aB kv ci).getD (default:It)).ka,i_<|((aB kv ci).getD (default:It)).ki,u_<|((aB kv ci).getD (default:It)).va,i_<|((aB kv ci).getD (default:It)).vi] 324) ?_
 intro b5
 refine aE [(30,b_<|(aB kv ci).isSome)]<|aL rfl (λe3=>?_) (λe3=>?_)
 ·refine bY [6] 7<|cQ 1 [.ld 0,.ld 5] (rg 0 6) [(34,p_ bt),(36,.agg #[u_<|((aB kv ci).getD (default:It)).ka,i_<|((aB kv ci).getD (default:It)).ki])]<|bF 6 rfl (b0 (some 37) [1,1] (DF bt t (((aB kv ci).getD (default:It)).ka) (((aB kv ci).getD (default:It)).ki) ‹_› (D4 hE ‹_›) (by omega)) ?_)
  rintro zt6 hz4
  obtain⟨hz4W,hz4L⟩:=id hz4
  refine dV<|aD ?_
  have hE2:=D5 hE hd ‹_›;have hE2l:=hE2.len;have hE2W:=hE2.wf
  refine bY [6] 7<|cQ 1 [.ld 2,.ld 4] (rg 0 6) [(41,.map<|some mb),(42,i_ ci),(43,.agg #[u_ a,i_ ci,u_ b,i_ ci])]<|bF 6 rfl (gV 3 324 3 ci (⟨a,ci,b,ci⟩:It) rfl nc (dV<|aD<|bY [8] 10<|cQ 2 [.ld 2,.ld 4,.ld 4] (rg 0 8) [(47,p_ bt),(49,.agg #[u_ a,i_ ci]),(51,.agg #[u_ b,i_ ci])]<|bF 8 rfl (b0 (some 52) [0,0] (y7 bt zt6 a ci b ci ‹_› (zC hE2<|wR hE.nd _) (by omega)) ?_)))
  rintro zt7 hz5
  obtain⟨hz5W,hz5L⟩:=id hz5
  refine cb<|cQ 0 [] [9] [(8,i_ 0)]<|eN<|aF ?_
  rw[show aJ kv ci (⟨a,ci,b,ci⟩:It)=(aJ kv ci ⟨a,ci,b,ci⟩) from by rfl]
  refine bR [2,0,0,0] [i_ 0] (zt7) ?_ ?_
  ·rfl
  exact Q6 hE.nd hd hE2 ⟨by assumption,by assumption⟩
 exact absurd e3<|by(obtain⟨y,hy⟩:=w9 hd;simp[hy])
theorem SY(be bt mb:Nat)(t:T)(kv:hV It)(n:Int)(hE:dX t kv)(w:World)(r0:(aA be [p_ bt,.map<|some mb] 192).holds w)(r1:(aA bt [.pointer<|T.ptr t] 251).holds w)(r2:(bA 361 t).holds w)(r3:(bH (λk:Int=>i_ k) (λy:It=>(.agg #[u_ y.ka,i_ y.ki,u_ y.va,i_ y.vi])) mb kv).holds w):
  CW 210 #[p_ be,u_ n] w (.tuple #[i_<|((dc (cF n 9223372036854775807) t.toL).getD default).ki,b_<|(dc (cF n 9223372036854775807) t.toL).isSome]):=by
 have hW:=hE.wf;have hl_:=hE.len
 refine aU Tryz.func210 rfl (HS.nil w) (aD<|bZ []<|aD<|aD<|bZ [(9,b_ false)]<|bM<|aO<|(aD<|aM<|jI [.p,.p,.p,.rd [p_ bt],.p,.p,.cq<|.tuple #[.agg #[u_<|((dc (cF n 9223372036854775807) t.toL).getD default).ka,i_<|((dc (cF n 9223372036854775807) t.toL).getD default).ki,u_<|((dc (cF n 9223372036854775807) t.toL).getD default).va,i_<|((dc (cF n 9223372036854775807) t.toL).getD default).vi],b_<|(dc (cF n 9223372036854775807) t.toL).isSome],.p,.p,.p,.al,.st 0] [] (λb1=>[(6,p_ b1),(7,b_<|(dc (cF n 9223372036854775807) t.toL).isSome)]) (λb1=>[]) (λb1=>aA b1 [u_<|((dc (cF n 9223372036854775807) t.toL).getD default).ka,i_<|((dc (cF n 9223372036854775807) t.toL).getD default).ki,u_<|((dc (cF n 9223372036854775807) t.toL).getD default).va,i_<|((dc (cF n 9223372036854775807) t.toL).getD default).vi] 324) (λb1=>oc (ro ⟨be,0,none⟩ (vs:=[p_ bt])<|cE r0 rfl)<|o1<|qo<|λw s=>Ov bt t (cF n 9223372036854775807) (by assumption) w (bK s r1)<|bK s r2) ?_))
 intro b1
 refine aC<|bB [.ld 0] [(4,i_<|((dc (cF n 9223372036854775807) t.toL).getD default).ki),(5,b_<|(dc (cF n 9223372036854775807) t.toL).isSome)]<|aF<|bJ [i_<|((dc (cF n 9223372036854775807) t.toL).getD default).ki,b_<|(dc (cF n 9223372036854775807) t.toL).isSome] ?_
 rfl
theorem SZ(be bt mb:Nat)(t:T)(kv:hV It)(hE:dX t kv)(w:World)(r0:(aA be [p_ bt,.map<|some mb] 190).holds w)(r1:(vM bt t).holds w)(r2:(bA 361 t).holds w)(r3:(xc mb kv).holds w):
  CW 163 #[p_ be] w (u_<|od t.toL):=by
 have hW:=hE.wf;have hl_:=hE.len
 have hem:=C7 hE
 refine aU Tryz.func163 rfl (HS.nil w) (aE []<|aD<|dF [.cq<|i_ (kv.length:Int)] [(7,b_<|(kv.length:Int)==0)] (o1<|qo<|λw s=>VO be bt mb t kv w (bK s r0) (bK s r1) (bK s r2)<|bK s r3)<|aL rfl (λe1=>?_) (λe1=>?_))
 ·have p1:=e1;try simp only[cR] at p1
  refine aE [(2,u_ 9223372036854775808)]<|aF<|bJ [u_ 9223372036854775808] ?_
  refine congrArg (Value.int .u64) ?_;(unfold od);by_cases he:t.toL=[]<;>first|(rw[if_pos he];rfl)|(exfalso;exact he<|hem.1 ‹_›)
 have p1:=e1;try simp only[cR] at p1
 refine az<|aM<|jI [.rd [p_ bt],.cq<|.tuple #[.agg #[u_<|(t.toL.head?.getD default).ka,i_<|(t.toL.head?.getD default).ki,u_<|(t.toL.head?.getD default).va,i_<|(t.toL.head?.getD default).vi],b_<|t.toL.head?.isSome],.al,.st 0] [] (λb1=>[(3,p_ b1)]) (λb1=>[]) (λb1=>aA b1 [u_<|(t.toL.head?.getD default).ka,i_<|(t.toL.head?.getD default).ki,u_<|(t.toL.head?.getD default).va,i_<|(t.toL.head?.getD default).vi] 324) (λb1=>oc (ro ⟨be,0,none⟩ (vs:=[p_ bt])<|cE r0 rfl)<|o1<|qo<|λw s=>H4 bt t (by assumption) w (bK s r1)<|bK s r2) ?_
 intro b1
 refine aC<|bB [.ld 0] [(2,u_<|cF ((t.toL.head?.getD default).ka) 9223372036854775808)]<|aF<|bJ [u_<|cF ((t.toL.head?.getD default).ka) 9223372036854775808] ?_
 refine congrArg (Value.int .u64) ?_;(unfold od);by_cases he:t.toL=[]<;>first|(rw[if_neg he];rfl)|(exfalso;have h_:=hem.2 he;omega)
theorem VR(be bt mb:Nat)(t:T)(kv:hV It)(hE:dX t kv)(w:World)(r0:(aA be [p_ bt,.map<|some mb] 192).holds w)(r1:(aA bt [.pointer<|T.ptr t] 251).holds w)(r2:(bA 361 t).holds w)(r3:(bH (λk:Int=>i_ k) (λy:It=>(.agg #[u_ y.ka,i_ y.ki,u_ y.va,i_ y.vi])) mb kv).holds w):
  CW 164 #[p_ be] w (u_<|im t.toL):=by
 have hW:=hE.wf;have hl_:=hE.len
 have hem:=C7 hE
 refine aU Tryz.func164 rfl (HS.nil w) (aE []<|aD<|dF [.cq<|i_ (kv.length:Int)] [(7,b_<|(kv.length:Int)==0)] (o1<|qo<|λw s=>Kw be bt mb t kv w (bK s r0) (bK s r1) (bK s r2)<|bK s r3)<|aL rfl (λe1=>?_) (λe1=>?_))
 ·have p1:=e1;try simp only[cR] at p1
  refine aE [(2,u_ 9223372036854775808)]<|aF<|bJ [u_ 9223372036854775808] ?_
  refine congrArg (Value.int .u64) ?_;(unfold im);by_cases he:t.toL=[]<;>first|(rw[if_pos he];rfl)|(exfalso;exact he<|hem.1 ‹_›)
 have p1:=e1;try simp only[cR] at p1
 refine az<|aM<|jI [.rd [p_ bt],.cq<|.tuple #[.agg #[u_<|((eC 18446744073709551615 t.toL).getD default).ka,i_<|((eC 18446744073709551615 t.toL).getD default).ki,u_<|((eC 18446744073709551615 t.toL).getD default).va,i_<|((eC 18446744073709551615 t.toL).getD default).vi],b_<|(eC 18446744073709551615 t.toL).isSome],.al,.st 0] [] (λb1=>[(3,p_ b1)]) (λb1=>[]) (λb1=>aA b1 [u_<|((eC 18446744073709551615 t.toL).getD default).ka,i_<|((eC 18446744073709551615 t.toL).getD default).ki,u_<|((eC 18446744073709551615 t.toL).getD default).va,i_<|((eC 18446744073709551615 t.toL).getD default).vi] 324) (λb1=>oc (ro ⟨be,0,none⟩ (vs:=[p_ bt])<|cE r0 rfl)<|o1<|qo<|λw s=>H5 bt t 18446744073709551615 (by assumption) w (bK s r1)<|bK s r2) ?_
 intro b1
 refine aC<|bB [.ld 0] [(2,u_<|cF (((eC 18446744073709551615 t.toL).getD default).va) 9223372036854775808)]<|aF<|bJ [u_<|cF (((eC 18446744073709551615 t.toL).getD default).va) 9223372036854775808] ?_
 refine congrArg (Value.int .u64) ?_;(unfold im);by_cases he:t.toL=[]<;>first|(rw[if_neg he];rfl)|(exfalso;have h_:=hem.2 he;omega)
theorem VS(be bt mb:Nat)(t:T)(kv:hV It)(hE:dX t kv)(w:World)(r0:(Ao be bt mb).holds w)(r1:(vM bt t).holds w)(r2:(bA 361 t).holds w)(r3:(xc mb kv).holds w):
  CW 148 #[p_ be] w (.tuple #[u_<|(t.toL.head?.getD default).ka,b_<|t.toL.head?.isSome]):=by
 have hW:=hE.wf;have hl_:=hE.len
 have hem:=C7 hE
 refine aU Tryz.func148 rfl (HS.nil w) (aD<|bZ []<|aD<|aD<|bZ [(7,b_ false)]<|bM<|aO<|(aD<|aM<|jI [.rd [p_ bt],.cq<|.tuple #[.agg #[u_<|(t.toL.head?.getD default).ka,i_<|(t.toL.head?.getD default).ki,u_<|(t.toL.head?.getD default).va,i_<|(t.toL.head?.getD default).vi],b_<|t.toL.head?.isSome],.al,.st 0] [] (λb1=>[(4,p_ b1),(5,b_<|t.toL.head?.isSome)]) (λb1=>[]) (λb1=>aA b1 [u_<|(t.toL.head?.getD default).ka,i_<|(t.toL.head?.getD default).ki,u_<|(t.toL.head?.getD default).va,i_<|(t.toL.head?.getD default).vi] 324) (λb1=>oc (ro ⟨be,0,none⟩ (vs:=[p_ bt])<|cE r0 rfl)<|o1<|qo<|λw s=>H4 bt t (by assumption) w (bK s r1)<|bK s r2) ?_))
 intro b1
 refine aC<|bB [.ld 0] [(2,u_<|(t.toL.head?.getD default).ka),(3,b_<|t.toL.head?.isSome)]<|aF<|bJ [u_<|(t.toL.head?.getD default).ka,b_<|t.toL.head?.isSome] ?_
 rfl
structure Hd where
 ha:Int
 hb:Int
 hc:Int
 hd:Int
 deriving Inhabited,DecidableEq
structure Rl where
 ma:Int
 mb:Int
 mc:Int
 md:Int
 wa:Int
 wb:Int
 wc:Int
 wd:Int
 cl:Int
 deriving Inhabited,DecidableEq
def f9(x:Rl):List Value:=[(w_ x.ma),(w_ x.mb),(w_ x.mc),(w_ x.md),(w_ x.wa),(w_ x.wb),(w_ x.wc),(w_ x.wd),(i_ x.cl)]
theorem mJ(x:Rl):(f9 x).length=9:=rfl
theorem P3(x:Rl):(f9 x).all Value.oneCell'=true:=rfl
def sQ(v m:Int):Int:=((v.toNat&&&m.toNat:Nat):Int)
theorem rN{v m:Int}(hv:0≤v∧v<65536)(hm:0≤m∧m<65536):ag .and .u16 v m=sQ v m:=by
 obtain⟨a,rfl⟩:=Int.eq_ofNat_of_zero_le hv.1
 obtain⟨b,rfl⟩:=Int.eq_ofNat_of_zero_le hm.1
 have h:=Nat.and_le_left (n:=a) (m:=b)
 have e:(BitVec.ofInt IntKind.u16.bits (a:Int)&&&BitVec.ofInt IntKind.u16.bits (b:Int)).toNat=a&&&b:=by
  rw[BitVec.toNat_and,BitVec.toNat_ofInt,BitVec.toNat_ofInt]
  have h1:((a:Int)%(2^IntKind.u16.bits:Nat)).toNat=a:=by simp[IntKind.bits];omega
  have h2:((b:Int)%(2^IntKind.u16.bits:Nat)).toNat=b:=by simp[IntKind.bits];omega
  rw[h1,h2]
 unfold ag;simp only[e];unfold sQ;rw[QE<|by omega];rfl
theorem H7(w:World):
  CW 65 #[] w (.agg #[w_ 65535,w_ 65535,w_ 65535,w_ 65535]):=by
 refine aU Tryz.func65 rfl (HS.nil w) (aC<|dL [.al] [] (λb1=>[(0,p_ b1)]) (λb1=>aA b1 [w_ 0,w_ 0,w_ 0,w_ 0] 43) ?_)
 intro b1
 refine aC<|bL [.st 0] [] [(0,aA b1 [w_ 65535,w_ 65535,w_ 65535,w_ 65535] 43)]<|aF<|ez 0 [w_ 65535,w_ 65535,w_ 65535,w_ 65535] ?_
 rfl
abbrev Ic(p0)(p1)(p2)(p3)(p4):=(aA p0 [w_ p1,w_ p2,w_ p3,w_ p4] 43:V.aI)
abbrev Q7(p0):=(aA p0 [w_ 0,w_ 0,w_ 0,w_ 0] 43:V.aI)
abbrev Q8(p0)(p1)(p2)(p3)(p4)(p5)(p6)(p7)(p8):=(aA p0 [w_<|ag .and .u16 p1 p2,w_<|ag .and .u16 p3 p4,w_<|ag .and .u16 p5 p6,w_<|ag .and .u16 p7 p8] 43:V.aI)
theorem C9(x0 x1 x2 x3 y0 y1 y2 y3:Int)(w:World):
  CW 64 #[.agg #[w_ x0,w_ x1,w_ x2,w_ x3],.agg #[w_ y0,w_ y1,w_ y2,w_ y3]] w (.agg #[w_<|ag .and .u16 x0 y0,w_<|ag .and .u16 x1 y1,w_<|ag .and .u16 x2 y2,w_<|ag .and .u16 x3 y3]):=by
 refine aU Tryz.func64 rfl (HS.nil w) (aD ?_)
 refine aM<|nW [.al,.al,.al] [2,3,4] (λb1 b2 b3=>[(2,p_ b1),(3,p_ b2),(4,p_ b3)]) (λb1 b2 b3=>[Ic b1 x0 x1 x2 x3,Ic b2 y0 y1 y2 y3,Q7 b3]) (λb1 b2 b3=>[]) (λ_ _ _=>T0) (λ_ _ _=>by kernel_rfl) (λb1 b2 b3=>trivial) ?_
 intro b1 b2 b3
 refine aD ?_
 refine aD ?_
 refine bZ [(6,i_ 0)] ?_
 refine aR ?_
 refine i4 400 ?_
 refine cd (m:=399) ?_
 refine aD ?_
 refine bZ [(7,b_ true)] ?_
 refine aD ?_
 refine dU ?_
 refine aO ?_
 refine aD ?_
 refine aR ?_
 refine aD ?_
 refine bZ [(5,i_ 0)] ?_
 refine bY [8] 9 ?_
 refine cQ 1 [.ld 0,.ld 1] (rg 0 8) [(15,w_<|ag .and .u16 x0 y0),(16,p_ b1)] ?_
 refine bF 8 rfl (dQ 0 [w_<|ag .and .u16 x0 y0] rfl ?_)
 refine cb ?_
 refine eN ?_
 refine bZ [(2,p_ b1),(3,p_ b2),(4,p_ b3),(6,i_ 1)] ?_
 refine cd (m:=398) ?_
 refine aD ?_
 refine bZ [(7,b_ true)] ?_
 refine aD ?_
 refine dU ?_
 refine aO ?_
 refine aD ?_
 refine aR ?_
 refine aD ?_
 refine bZ [(5,i_ 1)] ?_
 refine bY [8] 9 ?_
 refine cQ 1 [.ld 0,.ld 1] (rg 0 8) [(15,w_<|ag .and .u16 x1 y1),(16,q_ b1 1)] ?_
 refine bF 8 rfl (dQ 0 [w_<|ag .and .u16 x1 y1] rfl ?_)
 refine cb ?_
 refine eN ?_
 refine bZ [(6,i_ 2)] ?_
 refine cd (m:=397) ?_
 refine aD ?_
 refine bZ [(7,b_ true)] ?_
 refine aD ?_
 refine dU ?_
 refine aO ?_
 refine aD ?_
 refine aR ?_
 refine aD ?_
 refine bZ [(5,i_ 2)] ?_
 refine bY [8] 9 ?_
 refine cQ 1 [.ld 0,.ld 1] (rg 0 8) [(15,w_<|ag .and .u16 x2 y2),(16,q_ b1 2)] ?_
 refine bF 8 rfl (dQ 0 [w_<|ag .and .u16 x2 y2] rfl ?_)
 refine cb ?_
 refine eN ?_
 refine bZ [(6,i_ 3)] ?_
 refine cd (m:=396) ?_
 refine aD ?_
 refine bZ [(7,b_ true)] ?_
 refine aD ?_
 refine dU ?_
 refine aO ?_
 refine aD ?_
 refine aR ?_
 refine aD ?_
 refine bZ [(5,i_ 3)] ?_
 refine bY [8] 9 ?_
 refine cQ 1 [.ld 0,.ld 1] (rg 0 8) [(15,w_<|ag .and .u16 x3 y3),(16,q_ b1 3)] ?_
 refine bF 8 rfl (dQ 0 [w_<|ag .and .u16 x3 y3] rfl ?_)
 refine cb ?_
 refine eN ?_
 refine bZ [(6,i_ 4)] ?_
 refine cd (m:=395) ?_
 refine aD ?_
 refine bZ [(7,b_ false)] ?_
 refine aD ?_
 refine bM ?_
 refine bg ?_
 refine aD ?_
 refine aM<|bL [.ld 0,.st 2] [] [(2,Q8 b3 x0 y0 x1 y1 x2 y2 x3 y3)] ?_
 refine aF ?_
 refine ez 2 [w_<|ag .and .u16 x0 y0,w_<|ag .and .u16 x1 y1,w_<|ag .and .u16 x2 y2,w_<|ag .and .u16 x3 y3] ?_
 rfl
def ko(x:Hd):Prop:=(0≤x.ha∧x.ha≤65535)∧(0≤x.hb∧x.hb≤65535)∧(0≤x.hc∧x.hc≤65535)∧(0≤x.hd∧x.hd≤65535)
def kq(x:Rl):Prop:=(0≤x.ma∧x.ma≤65535)∧(0≤x.mb∧x.mb≤65535)∧(0≤x.mc∧x.mc≤65535)∧(0≤x.md∧x.md≤65535)∧(0≤x.wa∧x.wa≤65535)∧(0≤x.wb∧x.wb≤65535)∧(0≤x.wc∧x.wc≤65535)∧(0≤x.wd∧x.wd≤65535)∧((-9223372036854775808)≤x.cl∧x.cl≤9223372036854775807)
def N3:List FK:=[.int .u16,.int .u16,.int .u16,.int .u16,.int .u16,.int .u16,.int .u16,.int .u16,.int .i64]
theorem VT(cs:Za)(h:nq N3 cs): ∃x,cs=f9 x∧kq x:=by
 unfold N3 at h
 obtain⟨v0,cs0,rfl,h0,g0⟩:=fx h
 obtain⟨a0,rfl,r0⟩:=ng h0
 obtain⟨v1,cs1,rfl,h1,g1⟩:=fx g0
 obtain⟨a1,rfl,r1⟩:=ng h1
 obtain⟨v2,cs2,rfl,h2,g2⟩:=fx g1
 obtain⟨a2,rfl,r2⟩:=ng h2
 obtain⟨v3,cs3,rfl,h3,g3⟩:=fx g2
 obtain⟨a3,rfl,r3⟩:=ng h3
 obtain⟨v4,cs4,rfl,h4,g4⟩:=fx g3
 obtain⟨a4,rfl,r4⟩:=ng h4
 obtain⟨v5,cs5,rfl,h5,g5⟩:=fx g4
 obtain⟨a5,rfl,r5⟩:=ng h5
 obtain⟨v6,cs6,rfl,h6,g6⟩:=fx g5
 obtain⟨a6,rfl,r6⟩:=ng h6
 obtain⟨v7,cs7,rfl,h7,g7⟩:=fx g6
 obtain⟨a7,rfl,r7⟩:=ng h7
 obtain⟨v8,cs8,rfl,h8,g8⟩:=fx g7
 obtain⟨a8,rfl,r8⟩:=pV h8
 obtain rfl:=u5 g8
 exact⟨⟨a0,a1,a2,a3,a4,a5,a6,a7,a8⟩,rfl,r0,r1,r2,r3,r4,r5,r6,r7,r8⟩
def mt(r:Rl)(h:Hd):Bool:=sQ h.ha r.ma==r.wa&&sQ h.hb r.mb==r.wb&&sQ h.hc r.mc==r.wc&&sQ h.hd r.md==r.wd
theorem O5(r:Rl)(h:Hd)(hr:kq r)(hh:ko h)(w:World):
  CW 110 #[.agg #[w_ r.ma,w_ r.mb,w_ r.mc,w_ r.md,w_ r.wa,w_ r.wb,w_ r.wc,w_ r.wd,i_ r.cl],.agg #[w_ h.ha,w_ h.hb,w_ h.hc,w_ h.hd]] w (b_<|mt r h):=by
 obtain⟨hr1,hr2,hr3,hr4,hr5,hr6,hr7,hr8,hr9⟩:=hr;obtain⟨hh1,hh2,hh3,hh4⟩:=hh
 refine aU Tryz.func110 rfl (HS.nil w) (aC<|iK [.al,.al] [] (λb1 b2=>[(2,p_ b1),(3,p_ b2)]) (λb1 b2=>[aA b1 [w_ r.ma,w_ r.mb,w_ r.mc,w_ r.md,w_ r.wa,w_ r.wb,w_ r.wc,w_ r.wd,i_ r.cl] 86,aA b2 [w_ h.ha,w_ h.hb,w_ h.hc,w_ h.hd] 43]) ?_)
 intro b1 b2
 refine aD<|jw [.ld 1,.ld 0,.cq<|.agg #[w_<|ag .and .u16 h.ha r.ma,w_<|ag .and .u16 h.hb r.mb,w_<|ag .and .u16 h.hc r.mc,w_<|ag .and .u16 h.hd r.md],.ld 0,.eq] (rg 0 8) [] [(4,b_<|((ag .and .u16 h.ha r.ma)==r.wa)&&(((ag .and .u16 h.hb r.mb)==r.wb)&&(((ag .and .u16 h.hc r.mc)==r.wc)&&((ag .and .u16 h.hd r.md)==r.wd))))] (o1<|qw<|C9 h.ha h.hb h.hc h.hd r.ma r.mb r.mc r.md)<|aF<|bJ [b_<|((ag .and .u16 h.ha r.ma)==r.wa)&&(((ag .and .u16 h.hb r.mb)==r.wb)&&(((ag .and .u16 h.hc r.mc)==r.wc)&&((ag .and .u16 h.hd r.md)==r.wd)))] ?_
 refine congrArg Value.bool ?_;rw[rN (by omega)<|by omega,rN (by omega)<|by omega,rN (by omega)<|by omega,rN (by omega)<|by omega];(unfold mt;simp[Bool.and_assoc])
end Go.Proofs.YtobgjpigngoggaaGreat
namespace Go.Proofs.YtobgjpigngoggaaGreat
open Go V
def iW(x:Int):List Value:=[(i_ x)]
theorem yp(x:Int):(iW x).length=1:=rfl
theorem IA(x:Int):(iW x).all Value.oneCell'=true:=rfl
theorem Oy(p:Addr)(l:List Rl)(cl:Nat)(hl:l.length≤100000)(w:World)(r0:dR w (some p) (V.aP f9 l))(hs:HI w []):
  CV 63 #[.slice (some p) l.length cl] w [] (λ((al',cl'):(k0)×Nat)=>(.slice al' l.length cl')) (λ_=>True) λ(al',cl')=>[sl al' (l.length) cl' 86 9<|V.aP f9 l]:=by
 refine aU Tryz.func63 rfl hs (aE []<|aD<|aE [(4,b_ false)]<|bM<|aO<|(aC<|aG<|eB 5 (e:=86) [] (by kernel_rfl) rfl (λ_=>by kernel_rfl) _ (λ_=>rfl) ?_))
 intro b1
 refine cV [.p] [(5,.slice (some ⟨b1,0,none⟩) 0 0),(6,.slice (some p) l.length cl)]<|aG<|yU 0 (b:=b1) 0 9 [sl (some ⟨b1,0,none⟩) (([]:List Rl).length) 0 86 9<|V.aP f9 ([]:List Rl)] rfl rfl (by decide) rfl (iJ f9 ([]:List Rl) l 0 7 (.agg #[w_ 0,w_ 0,w_ 0,w_ 0,w_ 0,w_ 0,w_ 0,w_ 0,i_ 0]) 24 mJ P3 (cL r0<|by simp[aN]) (by simp;omega) ?_)
 intro A3 c3
 refine aQ [(2,.slice A3 l.length c3)]<|aF<|bR [0] [.slice A3 l.length c3] (A3,c3) ?_ ?_
 ·rfl
 trivial
theorem Oz(l:List Rl)(cl:Nat)(w:World):
  CW 63 #[.slice none l.length cl] w e_:=by
 refine aU Tryz.func63 rfl (HS.nil w) (aE []<|aD<|aE [(4,b_ true)]<|dU<|aE [(2,e_)]<|aF<|bJ [e_] ?_)
 rfl
theorem HH(al:k0)(l:List Rl)(cl:Nat)(hl:l.length≤100000)(w:World)(r0:dR w al (V.aP f9 l))(hs:HI w []):
  CV 63 #[.slice al l.length cl] w [] (λ((al',cl'):(k0)×Nat)=>(.slice al' l.length cl')) (λ_=>True) λ(al',cl')=>[sl al' (l.length) cl' 86 9<|V.aP f9 l]:=by
 cases al with
 |some p=>exact Oy p l cl hl w r0 hs
 |none=>
  have hn:l=[]:=by
   cases l with
   |nil=>rfl
   |cons x xs=>have h:=(r0 0 _ rfl).1;simp at h
  subst hn
  exact Calls.mono (Oz [] cl w) λe w' h=>⟨(none,0),h.1,trivial,⟨h.2,by intro it hi;simp at hi;subst hi;exact AM _ _ _,by simp[aN,sl,fZ],by simp[aN,sl,fZ]⟩⟩end Go.Proofs.YtobgjpigngoggaaGreat
namespace Go.Proofs.YtobgjpigngoggaaGreat
open Go V
def ip(h:Hd):Value:= .agg #[(w_ h.ha),(w_ h.hb),(w_ h.hc),(w_ h.hd)]
theorem xN:jk Tryz.prog 43 ip:=Oo (by kernel_rfl)
 (λa b=>by
  have e:ju Tryz.prog 10000 43 (ip a) (ip b)=some ((a.ha==b.ha)&&((a.hb==b.hb)&&((a.hc==b.hc)&&(a.hd==b.hd)))):=by
   cases a;cases b;kernel_rfl
  rw[e];refine congrArg some ?_;cases a;cases b;rw[Bool.eq_iff_iff];simp)
 (λa em=>by cases em<;>kernel_rfl) (λa=>by
  have e:Instr.sameBits 10000 (ip a) (ip a)=((a.ha==a.ha)&&((a.hb==a.hb)&&((a.hc==a.hc)&&((a.hd==a.hd)&&true)))):=by kernel_rfl
  rw[e];simp)
def Rl.want(r:Rl):Hd:=⟨r.wa,r.wb,r.wc,r.wd⟩
def Rl.wh(r:Rl):Bool:=r.ma==65535&&r.mb==65535&&r.mc==65535&&r.md==65535
def Rl.good(r:Rl):Bool:=decide (1≤r.cl)&&decide (r.cl≤65536)&&mt r r.want
def cg(l:List Rl):Nat→List (Hd×Int)
 |0=>[]
 |k+1=>match l[k]? with
  |some r=>if r.wh&& !(aB (cg l k) r.want).isSome then aJ (cg l k) r.want k else cg l k
  |none=>cg l k
def bC(l:List Rl):Nat→List Int
 |0=>[]
 |k+1=>match l[k]? with
  |some r=>if r.wh then bC l k else bC l k++[(k:Int)]
  |none=>bC l k
variable{r:Rl}
theorem J4(h:kq r):(((decide (r.cl<1))||(decide (r.cl>65536)))||(!(((ag .and .u16 r.wa r.ma)==r.wa)&&(((ag .and .u16 r.wb r.mb)==r.wb)&&(((ag .and .u16 r.wc r.mc)==r.wc)&&((ag .and .u16 r.wd r.md)==r.wd))))))= !r.good:=by
 obtain⟨h1,h2,h3,h4,h5,h6,h7,h8,h9⟩:=h
 rw[rN (by omega)<|by omega,rN (by omega)<|by omega,rN (by omega)<|by omega,rN (by omega)<|by omega]
 have e1:decide (r.cl<1)= !decide (1≤r.cl):=by rw[Bool.eq_iff_iff];simp
 have e2:decide (r.cl>65536)= !decide (r.cl≤65536):=by rw[Bool.eq_iff_iff];simp
 unfold Rl.good mt Rl.want;rw[e1,e2];simp only[Bool.not_and,Bool.and_assoc];simp[Bool.and_assoc,Bool.or_assoc]
theorem Ap(r:Rl):(!((r.ma==65535)&&((r.mb==65535)&&((r.mc==65535)&&(r.md==65535)))))= !r.wh:=by unfold Rl.wh;simp[Bool.and_assoc]
variable{l:List Rl}{k:Nat}
theorem J5(hr:l[k]? =some r)(h1:(!((r.ma==65535)&&((r.mb==65535)&&((r.mc==65535)&&(r.md==65535)))))=false)(h2:(!(aB (cg l k) (⟨r.wa,r.wb,r.wc,r.wd⟩:Hd)).isSome)=true):aJ (cg l k) (⟨r.wa,r.wb,r.wc,r.wd⟩:Hd) (k:Int)=cg l (k+1):=by
 rw[Ap] at h1;have:r.wh=true:=by simpa using h1
 rw[cg];simp only[hr];rw[if_pos (by rw[this];simpa[Rl.want] using h2)];rfl
theorem zF(hr:l[k]? =some r)(h:(!((r.ma==65535)&&((r.mb==65535)&&((r.mc==65535)&&(r.md==65535)))))=true∨(!(aB (cg l k) (⟨r.wa,r.wb,r.wc,r.wd⟩:Hd)).isSome)=false):cg l k=cg l (k+1):=by
 rw[Ap] at h
 rw[cg];simp only[hr];rw[if_neg];rcases h with h|h
 ·simp at h;simp[h]
 ·have:(!(aB (cg l k) r.want).isSome)=false:=h
  rw[this];simp
theorem yq(hr:l[k]? =some r)(h1:(!((r.ma==65535)&&((r.mb==65535)&&((r.mc==65535)&&(r.md==65535)))))=true):bC l k++[(k:Int)]=bC l (k+1):=by
 rw[Ap] at h1;simp at h1;rw[bC];simp[hr,h1]
theorem rL(hr:l[k]? =some r)(h1:(!((r.ma==65535)&&((r.mb==65535)&&((r.mc==65535)&&(r.md==65535)))))=false):bC l k=bC l (k+1):=by
 rw[Ap] at h1;simp at h1;rw[bC];simp[hr,h1]
theorem yr(l:List Rl): ∀k,(bC l k).length≤k
 |0=>by simp[bC]
 |k+1=>by have:=yr l k;unfold bC;split;(split;omega;simp;omega);omega
theorem y8{α:Type}{l:List α}{x:α}(h:l[k]? =some x):l.take (k+1)=l.take k++[x]:=by rw[List.take_add_one,h];rfl
theorem S0(hn: ∀y∈l.take k,y.good=true)(hb: ¬ ∀x∈l,x.good=true):k<l.length:=by
 rcases Nat.lt_or_ge k l.length with h|h
 ·exact h
 ·rw[List.take_of_length_le h] at hn;exact absurd hn hb
theorem EE(h:kq r)(e:(((decide (r.cl<1))||(decide (r.cl>65536)))||(!(((ag .and .u16 r.wa r.ma)==r.wa)&&(((ag .and .u16 r.wb r.mb)==r.wb)&&(((ag .and .u16 r.wc r.mc)==r.wc)&&((ag .and .u16 r.wd r.md)==r.wd))))))=false):r.good=true:=by
 rw[J4 h] at e;simpa using e
theorem VU(al:k0)(l:List Rl)(cl:Nat)(hl:l.length≤32)(hg: ∀x∈l,x.good=true)(hR: ∀x∈l,kq x)(w:World)(r0:dR w al (V.aP f9 l))(hs:HI w []):
  CV 43 #[.slice al l.length cl] w [] (λ((bt,ar,cr,mb,am,cm):Nat×(k0)×Nat×Nat×(k0)×Nat)=>(.tuple #[p_ bt,i_ 0])) (λ_=>True) λ(bt,ar,cr,mb,am,cm)=>[aA bt [.slice ar l.length cr,.map<|some mb,.slice am ((bC l l.length).length) cm] 150,sl ar (l.length) cr 86 9<|V.aP f9 l,bH ip (λx:Int=>i_ x) mb<|cg l l.length,sl am ((bC l l.length).length) cm 3 1<|V.aP iW<|bC l l.length]:=by
 refine aU Tryz.func43 rfl hs (aE []<|aD<|aE [(11,b_<|decide ((l.length:Int)>32))]<|aL (E:=decide ((l.length:Int)>32)) rfl (λe1=>?_) (λe1=>?_))
 ·exact absurd e1 (by simp;omega)
 have p1:=Zh e1
 refine aO<|aC<|cV [.p] [(12,.slice al l.length cl)]<|aG<|dH (some 13) [] (λw s h=>HH al l cl (by omega) w ((cL r0<|by simp[aN]) w s) h) ?_
 rintro⟨al'1,cl'2⟩-
 refine aG<|nU ip (λx:Int=>i_ x) 14 (by kernel_rfl) rfl (λm4=>[sl al'1 (l.length) cl'2 86 9<|V.aP f9 l,bH ip (λx:Int=>i_ x) m4 ([]:List (Hd×Int))]) (λ_=>rfl) ?_
 intro m4
 refine dM [.al] [] (λb5=>[(4,p_ b5)]) (λ_=>[]) (λb5=>aA b5 [.slice al'1 l.length cl'2,.map<|some m4,e_] 150) ?_
 intro b5
 refine aD<|aE [(17,.slice al l.length cl),(18,i_ (l.length:Int)),(19,i_ 0)]<|aR<|gW 3 1 [sl al'1 (l.length) cl'2 86 9<|V.aP f9 l,bH ip (λx:Int=>i_ x) m4<|cg l 0,aA b5 [.slice al'1 l.length cl'2,.map<|some m4,.slice none ((bC l 0).length) 0] 150,sl none ((bC l 0).length) 0 3 1<|V.aP iW<|bC l 0] rfl (fY (λ((k,am,cm,bt,ar,cr,mb):Nat×(k0)×Nat×Nat×(k0)×Nat×Nat)=>[(17,.slice al l.length cl),(18,i_ (l.length:Int)),(19,i_ (k:Int)),(4,p_ bt)]) (λ((k,am,cm,bt,ar,cr,mb):Nat×(k0)×Nat×Nat×(k0)×Nat×Nat)=>[aA bt [.slice ar l.length cr,.map<|some mb,.slice am ((bC l k).length) cm] 150,sl ar (l.length) cr 86 9<|V.aP f9 l,bH ip (λx:Int=>i_ x) mb<|cg l k,sl am ((bC l k).length) cm 3 1<|V.aP iW<|bC l k]) (λ((k,am,cm,bt,ar,cr,mb):Nat×(k0)×Nat×Nat×(k0)×Nat×Nat)=>(k≤l.length)) (λ((k,am,cm,bt,ar,cr,mb):Nat×(k0)×Nat×Nat×(k0)×Nat×Nat)=>l.length-k) (0,none,0,b5,al'1,cl'2,m4) (by omega) ?_ ?_)
 ·exact bw [2,0,0,0] ⟨rfl,rfl,rfl,rfl,trivial⟩<|by kernel_rfl
 rintro⟨k,am,cm,bt,ar,cr,mb⟩ hk
 have hk:k≤l.length:=hk
 have hm:=yr l k
 refine dW [(17,.slice al l.length cl),(18,i_ (l.length:Int)),(19,i_ (k:Int)),(4,p_ bt)] [aA bt [.slice ar l.length cr,.map<|some mb,.slice am ((bC l k).length) cm] 150,sl ar (l.length) cr 86 9<|V.aP f9 l,bH ip (λx:Int=>i_ x) mb<|cg l k,sl am ((bC l k).length) cm 3 1<|V.aP iW<|bC l k] ⟨rfl,rfl,rfl,rfl,trivial⟩ rfl (aE [(17,.slice al l.length cl),(18,i_ (l.length:Int)),(19,i_ (k:Int)),(4,p_ bt),(20,b_<|decide ((k:Int)<(l.length:Int)))]<|aD<|aL (E:=decide ((k:Int)<(l.length:Int))) rfl (λe3=>?_) (λe3=>?_))
 ·have p3:=Zg e3
  refine az<|aR<|aC<|eI 2 [.ix] [(21,i_ (k:Int)),(22,.pointer<|some<|(au al).add (k*9))] (o1<|io (k:Int)<|dh mJ (by decide) (cL r0<|by simp[aN])<|by omega) ?_
  obtain⟨x7,hx7⟩: ∃x,(l)[k]? =some x:=⟨_,Ze<|by omega⟩
  refine iI [.rd [w_ x7.ma,w_ x7.mb,w_ x7.mc,w_ x7.md,w_ x7.wa,w_ x7.wb,w_ x7.wc,w_ x7.wd,i_ x7.cl],.al,.p,.st 4] [17,18,19,4,6,5] (λb8=>[(17,.slice al l.length cl),(18,i_ (l.length:Int)),(19,i_ (k:Int)),(4,p_ bt),(6,p_ b8),(5,i_ (k:Int))]) (λb8=>[aA bt [.slice ar l.length cr,.map<|some mb,.slice am ((bC l k).length) cm] 150,sl ar (l.length) cr 86 9<|V.aP f9 l,bH ip (λx:Int=>i_ x) mb<|cg l k,sl am ((bC l k).length) cm 3 1<|V.aP iW<|bC l k,aA b8 [w_ x7.ma,w_ x7.mb,w_ x7.mc,w_ x7.md,w_ x7.wa,w_ x7.wb,w_ x7.wc,w_ x7.wd,i_ x7.cl] 86]) (λb8=>[b8]) (λ_=>(λκ=>κ.rd ((au al).add (k*9)) [w_ x7.ma,w_ x7.mb,w_ x7.mc,w_ x7.md,w_ x7.wa,w_ x7.wb,w_ x7.wc,w_ x7.wd,i_ x7.cl]∧True)) (λ_=>by kernel_rfl) (λb8=>⟨dr (vs:=[w_ x7.ma,w_ x7.mb,w_ x7.mc,w_ x7.md,w_ x7.wa,w_ x7.wb,w_ x7.wc,w_ x7.wd,i_ x7.cl]) mJ (cL r0<|by simp[aN]) hx7 (Nat.le_of_ble_eq_true rfl) rfl,trivial⟩) ?_
  intro b8
  refine aD<|aD<|mH [.p,.ld 4,.p,.p,.o,.p,.ld 4,.p,.cl,.p,.o,.p,.ld 4,.p,.ld 4,.cq<|.agg #[w_<|ag .and .u16 x7.wa x7.ma,w_<|ag .and .u16 x7.wb x7.mb,w_<|ag .and .u16 x7.wc x7.mc,w_<|ag .and .u16 x7.wd x7.md],.p,.ld 4,.eq,.cl] [0,1,2,3,4,5,6,7,8,9,10,11,12,13,14,15,16,17] [(17,.slice al l.length cl),(18,i_ (l.length:Int)),(19,i_ (k:Int)),(4,p_ bt),(6,p_ b8),(5,i_ (k:Int)),(41,b_<|((decide (x7.cl<1))||(decide (x7.cl>65536)))||(!(((ag .and .u16 x7.wa x7.ma)==x7.wa)&&(((ag .and .u16 x7.wb x7.mb)==x7.wb)&&(((ag .and .u16 x7.wc x7.mc)==x7.wc)&&((ag .and .u16 x7.wd x7.md)==x7.wd))))))] [b8,b8,b8,b8,b8] (λκ=>((true&&(((decide (x7.cl<1))||(decide (x7.cl>65536)))==false))=true→κ.call 64 [.agg #[w_ x7.wa,w_ x7.wb,w_ x7.wc,w_ x7.wd],.agg #[w_ x7.ma,w_ x7.mb,w_ x7.mc,w_ x7.md]] (.agg #[w_<|ag .and .u16 x7.wa x7.ma,w_<|ag .and .u16 x7.wb x7.mb,w_<|ag .and .u16 x7.wc x7.mc,w_<|ag .and .u16 x7.wd x7.md]))∧True) (by kernel_rfl) (by kernel_rfl) ⟨(λh_=>(λw s=>C9 x7.wa x7.wb x7.wc x7.wd x7.ma x7.mb x7.mc x7.md w)),trivial⟩<|(aL (E:=((decide (x7.cl<1))||(decide (x7.cl>65536)))||(!(((ag .and .u16 x7.wa x7.ma)==x7.wa)&&(((ag .and .u16 x7.wb x7.mb)==x7.wb)&&(((ag .and .u16 x7.wc x7.mc)==x7.wc)&&((ag .and .u16 x7.wd x7.md)==x7.wd)))))) rfl (λe4=>?_) (λe4=>?_))
  ·exact absurd e4 (by rw[J4<|hR _<|Zd ‹_›,hg _<|Zd ‹_›];decide)
  refine az<|bY [] 12<|cQ 6 [.ld 0,.ld 4] (rg 0 6) [(6,p_ b8),(5,i_ (k:Int)),(46,.map<|some mb),(48,.agg #[w_ x7.wa,w_ x7.wb,w_ x7.wc,w_ x7.wd])]<|lG 6 (some 49) (.tuple #[i_<|(aB (cg l k) (⟨x7.wa,x7.wb,x7.wc,x7.wd⟩:Hd)).getD 0,b_<|(aB (cg l k) (⟨x7.wa,x7.wb,x7.wc,x7.wd⟩:Hd)).isSome]) rfl (by kernel_rfl) (by kernel_rfl) (vv 43 3 (⟨x7.wa,x7.wb,x7.wc,x7.wd⟩:Hd) 0 (qM 2 rfl) xN) (cQ 0 [] (rg 7 5) [(8,b_<|(aB (cg l k) (⟨x7.wa,x7.wb,x7.wc,x7.wd⟩:Hd)).isSome)]<|eN<|aR<|aD<|mH [.p,.ld 4,.cq<|.agg #[w_ 65535,w_ 65535,w_ 65535,w_ 65535],.eq,.p] (rg 0 5) [(17,.slice al l.length cl),(18,i_ (l.length:Int)),(19,i_ (k:Int)),(4,p_ bt),(6,p_ b8),(5,i_ (k:Int)),(8,b_<|(aB (cg l k) (⟨x7.wa,x7.wb,x7.wc,x7.wd⟩:Hd)).isSome),(52,b_ (!((x7.ma==65535)&&((x7.mb==65535)&&((x7.mc==65535)&&(x7.md==65535))))))] [b8] (λκ=>κ.call 65 [] (.agg #[w_ 65535,w_ 65535,w_ 65535,w_ 65535])∧True) (by kernel_rfl) (by kernel_rfl) ⟨(λw s=>H7 w),trivial⟩<|aL (E:= !((x7.ma==65535)&&((x7.mb==65535)&&((x7.mc==65535)&&(x7.md==65535))))) rfl (λe5=>?_) (λe5=>?_))
  ·refine aM<|an 6 [.ld 0] [(57,p_ bt),(61,.slice am ((bC l k).length) cm),(62,i_ (k:Int))]<|aG<|eB 63 (e:=3) [i_ (k:Int)] (by kernel_rfl) rfl (λ_=>by kernel_rfl) (λb9=>[aA bt [.slice ar l.length cr,.map<|some mb,.slice am ((bC l k).length) cm] 150,sl ar (l.length) cr 86 9<|V.aP f9 l,bH ip (λx:Int=>i_ x) mb<|cg l k,sl am ((bC l k).length) cm 3 1<|V.aP iW<|bC l k,aA b8 [w_ x7.ma,w_ x7.mb,w_ x7.mc,w_ x7.md,w_ x7.wa,w_ x7.wb,w_ x7.wc,w_ x7.wd,i_ x7.cl] 86,aA b9 [i_ (k:Int)] 3]) (λ_=>rfl) ?_
   intro b9
   refine aG<|jZ (enc:=iW) (xs:=(bC l k)) ([(k:Int)]) 3 64 (e:=3) (z:=(i_ 0)) (sz:=1) (by_:=8) (by kernel_rfl) rfl rfl rfl (by kernel_rfl) (by kernel_rfl) (by rfl) (by decide) yp IA rfl (ef (i:=5) rfl) (by simp;omega) (λA10 c10=>[aA bt [.slice ar l.length cr,.map<|some mb,.slice am ((bC l k).length) cm] 150,sl ar (l.length) cr 86 9<|V.aP f9 l,bH ip (λx:Int=>i_ x) mb<|cg l k,sl A10 (((bC l k)++([(k:Int)])).length) c10 3 1<|V.aP iW<|(bC l k)++([(k:Int)]),aA b8 [w_ x7.ma,w_ x7.mb,w_ x7.mc,w_ x7.md,w_ x7.wa,w_ x7.wb,w_ x7.wc,w_ x7.wd,i_ x7.cl] 86,aA b9 [i_ (k:Int)] 3]) (λ_ _=>rfl) ?_
   intro A10 c10
   refine bL [.st 0] [] [(0,aA bt [.slice ar l.length cr,.map<|some mb,.slice A10 (((bC l k)++([(k:Int)])).length) c10] 150)]<|aM<|aj [.w<|(k:Int)+1] [(19,i_<|(k:Int)+1)] (o1<|wj ((k:Int)+1)<|by omega)<|(ca 0 (aA bt [.slice ar l.length cr,.map<|some mb,.slice A10 ((bC l<|k+1).length) c10] 150) rfl (gx<|cc rfl (cc rfl (cc (congrArg (λz_:Wx=>Value.slice A10 z_.length c10) (yq ‹_› ‹_›:(bC l k)++([(k:Int)])=(bC l<|k+1))) rfl))) ?_)
   rw[show(cg l k)=(cg l<|k+1) from by exact zF ‹_› (.inl ‹_›)]
   refine ca 3 (sl A10 ((bC l<|k+1).length) c10 3 1<|V.aP iW<|bC l<|k+1) rfl (eJ (yq ‹_› ‹_›:(bC l k)++([(k:Int)])=(bC l<|k+1))) (bN (k+1,A10,c10,bt,ar,cr,mb) (by omega) (by(simp;omega)) ?_)
   exact bw [0,0,0,0] ⟨rfl,rfl,rfl,rfl,trivial⟩<|by kernel_rfl
  refine aE [(67,b_ (!((aB (cg l k) (⟨x7.wa,x7.wb,x7.wc,x7.wd⟩:Hd)).isSome)))]<|aL (E:= !((aB (cg l k) (⟨x7.wa,x7.wb,x7.wc,x7.wd⟩:Hd)).isSome)) rfl (λe6=>?_) (λe6=>?_)
  ·refine bY [7] 8<|cQ 1 [.ld 0,.ld 4] (rg 0 7) [(73,.map<|some mb),(75,.agg #[w_ x7.wa,w_ x7.wb,w_ x7.wc,w_ x7.wd]),(76,i_ (k:Int))]<|bF 7 rfl (gV 43 3 2 (⟨x7.wa,x7.wb,x7.wc,x7.wd⟩:Hd) (k:Int) rfl xN (dV<|aM<|aj [.w<|(k:Int)+1] [(19,i_<|(k:Int)+1)] (o1<|wj ((k:Int)+1)<|by omega)<|(ca 0 (aA bt [.slice ar l.length cr,.map<|some mb,.slice am ((bC l<|k+1).length) cm] 150) rfl (gx<|cc rfl (cc rfl (cc (congrArg (λz_:Wx=>Value.slice am z_.length cm) (rL ‹_› ‹_›:(bC l k)=(bC l<|k+1))) rfl))) ?_)))
   rw[show aJ (cg l k) (⟨x7.wa,x7.wb,x7.wc,x7.wd⟩:Hd) (k:Int)=(cg l<|k+1) from by exact J5 ‹_› ‹_› ‹_›]
   refine ca 3 (sl am ((bC l<|k+1).length) cm 3 1<|V.aP iW<|bC l<|k+1) rfl (eJ (rL ‹_› ‹_›:(bC l k)=(bC l<|k+1))) (bN (k+1,am,cm,bt,ar,cr,mb) (by omega) (by(simp;omega)) ?_)
   exact bw [0,0,0,0] ⟨rfl,rfl,rfl,rfl,trivial⟩<|by kernel_rfl
  refine aO<|aM<|aj [.w<|(k:Int)+1] [(19,i_<|(k:Int)+1)] (o1<|wj ((k:Int)+1)<|by omega)<|ca 0 (aA bt [.slice ar l.length cr,.map<|some mb,.slice am ((bC l<|k+1).length) cm] 150) rfl (gx<|cc rfl (cc rfl (cc (congrArg (λz_:Wx=>Value.slice am z_.length cm) (rL ‹_› ‹_›:(bC l k)=(bC l<|k+1))) rfl))) ?_
  rw[show(cg l k)=(cg l<|k+1) from by exact zF ‹_› (.inr ‹_›)]
  refine ca 3 (sl am ((bC l<|k+1).length) cm 3 1<|V.aP iW<|bC l<|k+1) rfl (eJ (rL ‹_› ‹_›:(bC l k)=(bC l<|k+1))) (bN (k+1,am,cm,bt,ar,cr,mb) (by omega) (by(simp;omega)) ?_)
  exact bw [0,0,0,0] ⟨rfl,rfl,rfl,rfl,trivial⟩<|by kernel_rfl
 have p3:=Zh e3
 refine bg<|aE [(2,p_ bt),(3,i_ 0)]<|aF<|ca 0 (aA bt [.slice ar l.length cr,.map<|some mb,.slice am ((bC l l.length).length) cm] 150) rfl (gx<|cc rfl (cc rfl (cc (congrArg (λz_:Wx=>Value.slice am z_.length cm) (by(rw[show k=l.length from by omega]):(bC l k)=(bC l l.length))) rfl))) ?_
 rw[show(cg l k)=(cg l l.length) from by(rw[show k=l.length from by omega])]
 refine ca 3 (sl am ((bC l l.length).length) cm 3 1<|V.aP iW<|bC l l.length) rfl (eJ (by(rw[show k=l.length from by omega]):(bC l k)=(bC l l.length))) (cP [0,0,0,0] [p_ bt,i_ 0] (λ_ w r s=>⟨cw r rfl,cw r rfl,trivial⟩) (bt,ar,cr,mb,am,cm) ?_ ?_<|by kernel_rfl)
 ·rfl
 trivial
theorem S1(al:k0)(l:List Rl)(cl:Nat)(hl:l.length≤32)(hb: ¬ ∀x∈l,x.good=true)(hR: ∀x∈l,kq x)(w:World)(r0:dR w al (V.aP f9 l)):
  CW 43 #[.slice al l.length cl] w (.tuple #[n_,i_ 1]):=by
 refine aU Tryz.func43 rfl (HS.nil w) (aE []<|aD<|aE [(11,b_<|decide ((l.length:Int)>32))]<|aL (E:=decide ((l.length:Int)>32)) rfl (λe1=>?_) (λe1=>?_))
 ·exact absurd e1 (by simp;omega)
 have p1:=Zh e1
 refine aO<|aC<|cV [.p] [(12,.slice al l.length cl)]<|aG<|dH (some 13) [] (λw s h=>HH al l cl (by omega) w ((cL r0<|by simp[aN]) w s) h) ?_
 rintro⟨al'1,cl'2⟩-
 refine aG<|nU ip (λx:Int=>i_ x) 14 (by kernel_rfl) rfl (λm4=>[sl al'1 (l.length) cl'2 86 9<|V.aP f9 l,bH ip (λx:Int=>i_ x) m4 ([]:List (Hd×Int))]) (λ_=>rfl) ?_
 intro m4
 refine dM [.al] [] (λb5=>[(4,p_ b5)]) (λ_=>[]) (λb5=>aA b5 [.slice al'1 l.length cl'2,.map<|some m4,e_] 150) ?_
 intro b5
 refine aD<|aE [(17,.slice al l.length cl),(18,i_ (l.length:Int)),(19,i_ 0)]<|aR<|gW 3 1 [sl al'1 (l.length) cl'2 86 9<|V.aP f9 l,bH ip (λx:Int=>i_ x) m4<|cg l 0,aA b5 [.slice al'1 l.length cl'2,.map<|some m4,.slice none ((bC l 0).length) 0] 150,sl none ((bC l 0).length) 0 3 1<|V.aP iW<|bC l 0] rfl (fY (λ((k,am,cm,bt,ar,cr,mb):Nat×(k0)×Nat×Nat×(k0)×Nat×Nat)=>[(17,.slice al l.length cl),(18,i_ (l.length:Int)),(19,i_ (k:Int)),(4,p_ bt)]) (λ((k,am,cm,bt,ar,cr,mb):Nat×(k0)×Nat×Nat×(k0)×Nat×Nat)=>[aA bt [.slice ar l.length cr,.map<|some mb,.slice am ((bC l k).length) cm] 150,sl ar (l.length) cr 86 9<|V.aP f9 l,bH ip (λx:Int=>i_ x) mb<|cg l k,sl am ((bC l k).length) cm 3 1<|V.aP iW<|bC l k]) (λ((k,am,cm,bt,ar,cr,mb):Nat×(k0)×Nat×Nat×(k0)×Nat×Nat)=>(k≤l.length)∧(∀y∈l.take k,y.good=true)) (λ((k,am,cm,bt,ar,cr,mb):Nat×(k0)×Nat×Nat×(k0)×Nat×Nat)=>l.length-k) (0,none,0,b5,al'1,cl'2,m4) ⟨(by omega),(by simp)⟩ ?_ ?_)
 ·exact bw [2,0,0,0] ⟨rfl,rfl,rfl,rfl,trivial⟩<|by kernel_rfl
 rintro⟨k,am,cm,bt,ar,cr,mb⟩ ⟨hk,hn⟩
 have hm:=yr l k
 refine dW [(17,.slice al l.length cl),(18,i_ (l.length:Int)),(19,i_ (k:Int)),(4,p_ bt)] [aA bt [.slice ar l.length cr,.map<|some mb,.slice am ((bC l k).length) cm] 150,sl ar (l.length) cr 86 9<|V.aP f9 l,bH ip (λx:Int=>i_ x) mb<|cg l k,sl am ((bC l k).length) cm 3 1<|V.aP iW<|bC l k] ⟨rfl,rfl,rfl,rfl,trivial⟩ rfl (aE [(17,.slice al l.length cl),(18,i_ (l.length:Int)),(19,i_ (k:Int)),(4,p_ bt),(20,b_<|decide ((k:Int)<(l.length:Int)))]<|aD<|aL (E:=decide ((k:Int)<(l.length:Int))) rfl (λe3=>?_) (λe3=>?_))
 ·have p3:=Zg e3
  refine az<|aR<|aC<|eI 2 [.ix] [(21,i_ (k:Int)),(22,.pointer<|some<|(au al).add (k*9))] (o1<|io (k:Int)<|dh mJ (by decide) (cL r0<|by simp[aN])<|by omega) ?_
  obtain⟨x7,hx7⟩: ∃x,(l)[k]? =some x:=⟨_,Ze<|by omega⟩
  refine iI [.rd [w_ x7.ma,w_ x7.mb,w_ x7.mc,w_ x7.md,w_ x7.wa,w_ x7.wb,w_ x7.wc,w_ x7.wd,i_ x7.cl],.al,.p,.st 4] [17,18,19,4,6,5] (λb8=>[(17,.slice al l.length cl),(18,i_ (l.length:Int)),(19,i_ (k:Int)),(4,p_ bt),(6,p_ b8),(5,i_ (k:Int))]) (λb8=>[aA bt [.slice ar l.length cr,.map<|some mb,.slice am ((bC l k).length) cm] 150,sl ar (l.length) cr 86 9<|V.aP f9 l,bH ip (λx:Int=>i_ x) mb<|cg l k,sl am ((bC l k).length) cm 3 1<|V.aP iW<|bC l k,aA b8 [w_ x7.ma,w_ x7.mb,w_ x7.mc,w_ x7.md,w_ x7.wa,w_ x7.wb,w_ x7.wc,w_ x7.wd,i_ x7.cl] 86]) (λb8=>[b8]) (λ_=>(λκ=>κ.rd ((au al).add (k*9)) [w_ x7.ma,w_ x7.mb,w_ x7.mc,w_ x7.md,w_ x7.wa,w_ x7.wb,w_ x7.wc,w_ x7.wd,i_ x7.cl]∧True)) (λ_=>by kernel_rfl) (λb8=>⟨dr (vs:=[w_ x7.ma,w_ x7.mb,w_ x7.mc,w_ x7.md,w_ x7.wa,w_ x7.wb,w_ x7.wc,w_ x7.wd,i_ x7.cl]) mJ (cL r0<|by simp[aN]) hx7 (Nat.le_of_ble_eq_true rfl) rfl,trivial⟩) ?_
  intro b8
  refine aD<|aD<|mH [.p,.ld 4,.p,.p,.o,.p,.ld 4,.p,.cl,.p,.o,.p,.ld 4,.p,.ld 4,.cq<|.agg #[w_<|ag .and .u16 x7.wa x7.ma,w_<|ag .and .u16 x7.wb x7.mb,w_<|ag .and .u16 x7.wc x7.mc,w_<|ag .and .u16 x7.wd x7.md],.p,.ld 4,.eq,.cl] [0,1,2,3,4,5,6,7,8,9,10,11,12,13,14,15,16,17] [(17,.slice al l.length cl),(18,i_ (l.length:Int)),(19,i_ (k:Int)),(4,p_ bt),(6,p_ b8),(5,i_ (k:Int)),(41,b_<|((decide (x7.cl<1))||(decide (x7.cl>65536)))||(!(((ag .and .u16 x7.wa x7.ma)==x7.wa)&&(((ag .and .u16 x7.wb x7.mb)==x7.wb)&&(((ag .and .u16 x7.wc x7.mc)==x7.wc)&&((ag .and .u16 x7.wd x7.md)==x7.wd))))))] [b8,b8,b8,b8,b8] (λκ=>((true&&(((decide (x7.cl<1))||(decide (x7.cl>65536)))==false))=true→κ.call 64 [.agg #[w_ x7.wa,w_ x7.wb,w_ x7.wc,w_ x7.wd],.agg #[w_ x7.ma,w_ x7.mb,w_ x7.mc,w_ x7.md]] (.agg #[w_<|ag .and .u16 x7.wa x7.ma,w_<|ag .and .u16 x7.wb x7.mb,w_<|ag .and .u16 x7.wc x7.mc,w_<|ag .and .u16 x7.wd x7.md]))∧True) (by kernel_rfl) (by kernel_rfl) ⟨(λh_=>(λw s=>C9 x7.wa x7.wb x7.wc x7.wd x7.ma x7.mb x7.mc x7.md w)),trivial⟩<|(aL (E:=((decide (x7.cl<1))||(decide (x7.cl>65536)))||(!(((ag .and .u16 x7.wa x7.ma)==x7.wa)&&(((ag .and .u16 x7.wb x7.mb)==x7.wb)&&(((ag .and .u16 x7.wc x7.mc)==x7.wc)&&((ag .and .u16 x7.wd x7.md)==x7.wd)))))) rfl (λe4=>?_) (λe4=>?_))
  ·refine aE [(2,n_),(3,i_ 1)]<|aF<|fE [n_,i_ 1] (λ_ w r s=>⟨cw r rfl,cw r rfl,trivial⟩) ?_
   rfl
  refine az<|bY [] 12<|cQ 6 [.ld 0,.ld 4] (rg 0 6) [(6,p_ b8),(5,i_ (k:Int)),(46,.map<|some mb),(48,.agg #[w_ x7.wa,w_ x7.wb,w_ x7.wc,w_ x7.wd])]<|lG 6 (some 49) (.tuple #[i_<|(aB (cg l k) (⟨x7.wa,x7.wb,x7.wc,x7.wd⟩:Hd)).getD 0,b_<|(aB (cg l k) (⟨x7.wa,x7.wb,x7.wc,x7.wd⟩:Hd)).isSome]) rfl (by kernel_rfl) (by kernel_rfl) (vv 43 3 (⟨x7.wa,x7.wb,x7.wc,x7.wd⟩:Hd) 0 (qM 2 rfl) xN) (cQ 0 [] (rg 7 5) [(8,b_<|(aB (cg l k) (⟨x7.wa,x7.wb,x7.wc,x7.wd⟩:Hd)).isSome)]<|eN<|aR<|aD<|mH [.p,.ld 4,.cq<|.agg #[w_ 65535,w_ 65535,w_ 65535,w_ 65535],.eq,.p] (rg 0 5) [(17,.slice al l.length cl),(18,i_ (l.length:Int)),(19,i_ (k:Int)),(4,p_ bt),(6,p_ b8),(5,i_ (k:Int)),(8,b_<|(aB (cg l k) (⟨x7.wa,x7.wb,x7.wc,x7.wd⟩:Hd)).isSome),(52,b_ (!((x7.ma==65535)&&((x7.mb==65535)&&((x7.mc==65535)&&(x7.md==65535))))))] [b8] (λκ=>κ.call 65 [] (.agg #[w_ 65535,w_ 65535,w_ 65535,w_ 65535])∧True) (by kernel_rfl) (by kernel_rfl) ⟨(λw s=>H7 w),trivial⟩<|aL (E:= !((x7.ma==65535)&&((x7.mb==65535)&&((x7.mc==65535)&&(x7.md==65535))))) rfl (λe5=>?_) (λe5=>?_))
  ·refine aM<|an 6 [.ld 0] [(57,p_ bt),(61,.slice am ((bC l k).length) cm),(62,i_ (k:Int))]<|aG<|eB 63 (e:=3) [i_ (k:Int)] (by kernel_rfl) rfl (λ_=>by kernel_rfl) (λb9=>[aA bt [.slice ar l.length cr,.map<|some mb,.slice am ((bC l k).length) cm] 150,sl ar (l.length) cr 86 9<|V.aP f9 l,bH ip (λx:Int=>i_ x) mb<|cg l k,sl am ((bC l k).length) cm 3 1<|V.aP iW<|bC l k,aA b8 [w_ x7.ma,w_ x7.mb,w_ x7.mc,w_ x7.md,w_ x7.wa,w_ x7.wb,w_ x7.wc,w_ x7.wd,i_ x7.cl] 86,aA b9 [i_ (k:Int)] 3]) (λ_=>rfl) ?_
   intro b9
   refine aG<|jZ (enc:=iW) (xs:=(bC l k)) ([(k:Int)]) 3 64 (e:=3) (z:=(i_ 0)) (sz:=1) (by_:=8) (by kernel_rfl) rfl rfl rfl (by kernel_rfl) (by kernel_rfl) (by rfl) (by decide) yp IA rfl (ef (i:=5) rfl) (by simp;omega) (λA10 c10=>[aA bt [.slice ar l.length cr,.map<|some mb,.slice am ((bC l k).length) cm] 150,sl ar (l.length) cr 86 9<|V.aP f9 l,bH ip (λx:Int=>i_ x) mb<|cg l k,sl A10 (((bC l k)++([(k:Int)])).length) c10 3 1<|V.aP iW<|(bC l k)++([(k:Int)]),aA b8 [w_ x7.ma,w_ x7.mb,w_ x7.mc,w_ x7.md,w_ x7.wa,w_ x7.wb,w_ x7.wc,w_ x7.wd,i_ x7.cl] 86,aA b9 [i_ (k:Int)] 3]) (λ_ _=>rfl) ?_
   intro A10 c10
   refine bL [.st 0] [] [(0,aA bt [.slice ar l.length cr,.map<|some mb,.slice A10 (((bC l k)++([(k:Int)])).length) c10] 150)]<|aM<|aj [.w<|(k:Int)+1] [(19,i_<|(k:Int)+1)] (o1<|wj ((k:Int)+1)<|by omega)<|(ca 0 (aA bt [.slice ar l.length cr,.map<|some mb,.slice A10 ((bC l<|k+1).length) c10] 150) rfl (gx<|cc rfl (cc rfl (cc (congrArg (λz_:Wx=>Value.slice A10 z_.length c10) (yq ‹_› ‹_›:(bC l k)++([(k:Int)])=(bC l<|k+1))) rfl))) ?_)
   rw[show(cg l k)=(cg l<|k+1) from by exact zF ‹_› (.inl ‹_›)]
   refine ca 3 (sl A10 ((bC l<|k+1).length) c10 3 1<|V.aP iW<|bC l<|k+1) rfl (eJ (yq ‹_› ‹_›:(bC l k)++([(k:Int)])=(bC l<|k+1))) (bN (k+1,A10,c10,bt,ar,cr,mb) ⟨(by omega),(by rw[y8 ‹_›];intro y hy;rcases List.mem_append.1 hy with hy|hy;exact hn y hy;(simp at hy;subst hy;exact EE (hR _<|Zd ‹_›) ‹_›))⟩ (by(simp;omega)) ?_)
   exact bw [0,0,0,0] ⟨rfl,rfl,rfl,rfl,trivial⟩<|by kernel_rfl
  refine aE [(67,b_ (!((aB (cg l k) (⟨x7.wa,x7.wb,x7.wc,x7.wd⟩:Hd)).isSome)))]<|aL (E:= !((aB (cg l k) (⟨x7.wa,x7.wb,x7.wc,x7.wd⟩:Hd)).isSome)) rfl (λe6=>?_) (λe6=>?_)
  ·refine bY [7] 8<|cQ 1 [.ld 0,.ld 4] (rg 0 7) [(73,.map<|some mb),(75,.agg #[w_ x7.wa,w_ x7.wb,w_ x7.wc,w_ x7.wd]),(76,i_ (k:Int))]<|bF 7 rfl (gV 43 3 2 (⟨x7.wa,x7.wb,x7.wc,x7.wd⟩:Hd) (k:Int) rfl xN (dV<|aM<|aj [.w<|(k:Int)+1] [(19,i_<|(k:Int)+1)] (o1<|wj ((k:Int)+1)<|by omega)<|(ca 0 (aA bt [.slice ar l.length cr,.map<|some mb,.slice am ((bC l<|k+1).length) cm] 150) rfl (gx<|cc rfl (cc rfl (cc (congrArg (λz_:Wx=>Value.slice am z_.length cm) (rL ‹_› ‹_›:(bC l k)=(bC l<|k+1))) rfl))) ?_)))
   rw[show aJ (cg l k) (⟨x7.wa,x7.wb,x7.wc,x7.wd⟩:Hd) (k:Int)=(cg l<|k+1) from by exact J5 ‹_› ‹_› ‹_›]
   refine ca 3 (sl am ((bC l<|k+1).length) cm 3 1<|V.aP iW<|bC l<|k+1) rfl (eJ (rL ‹_› ‹_›:(bC l k)=(bC l<|k+1))) (bN (k+1,am,cm,bt,ar,cr,mb) ⟨(by omega),(by rw[y8 ‹_›];intro y hy;rcases List.mem_append.1 hy with hy|hy;exact hn y hy;(simp at hy;subst hy;exact EE (hR _<|Zd ‹_›) ‹_›))⟩ (by(simp;omega)) ?_)
   exact bw [0,0,0,0] ⟨rfl,rfl,rfl,rfl,trivial⟩<|by kernel_rfl
  refine aO<|aM<|aj [.w<|(k:Int)+1] [(19,i_<|(k:Int)+1)] (o1<|wj ((k:Int)+1)<|by omega)<|ca 0 (aA bt [.slice ar l.length cr,.map<|some mb,.slice am ((bC l<|k+1).length) cm] 150) rfl (gx<|cc rfl (cc rfl (cc (congrArg (λz_:Wx=>Value.slice am z_.length cm) (rL ‹_› ‹_›:(bC l k)=(bC l<|k+1))) rfl))) ?_
  rw[show(cg l k)=(cg l<|k+1) from by exact zF ‹_› (.inr ‹_›)]
  refine ca 3 (sl am ((bC l<|k+1).length) cm 3 1<|V.aP iW<|bC l<|k+1) rfl (eJ (rL ‹_› ‹_›:(bC l k)=(bC l<|k+1))) (bN (k+1,am,cm,bt,ar,cr,mb) ⟨(by omega),(by rw[y8 ‹_›];intro y hy;rcases List.mem_append.1 hy with hy|hy;exact hn y hy;(simp at hy;subst hy;exact EE (hR _<|Zd ‹_›) ‹_›))⟩ (by(simp;omega)) ?_)
  exact bw [0,0,0,0] ⟨rfl,rfl,rfl,rfl,trivial⟩<|by kernel_rfl
 exact absurd e3 (by simp;exact S0 hn hb)
theorem Q9(al:k0)(l:List Rl)(cl:Nat)(hl:32<l.length)(w:World)(r0:dR w al (V.aP f9 l)):
  CW 43 #[.slice al l.length cl] w (.tuple #[n_,i_ 2]):=by
 refine aU Tryz.func43 rfl (HS.nil w) (aE []<|aD<|aE [(11,b_<|decide ((l.length:Int)>32))]<|aL rfl (λe1=>?_) (λe1=>?_))
 ·have p1:=Zg e1
  refine aE [(2,n_),(3,i_ 2)]<|aF<|bJ [n_,i_ 2] ?_
  rfl
 exact absurd e1 (by simp;omega)
def fB(l:List Rl)(h:Hd):Int:=match l.find? (λr=>mt r h) with|some r=>r.cl|none=>0
variable{h:Hd}
theorem S3{x:Rl}(hx:l[k]? =some x)(hn: ∀y∈l.take k,mt y h=false)(e:mt x h=true):x.cl=fB l h:=by
 unfold fB
 have:l.find? (λr=>mt r h)=some x:=by
  rw[←List.take_append_drop k l,List.find?_append,List.find?_eq_none.2 (by intro y hy;simp[hn y hy])]
  have hk:=(Zf.1 hx)
  obtain⟨hk1,hk2⟩:=hk
  rw[List.drop_eq_getElem_cons hk1,hk2];simp[e]
 rw[this]
theorem S4(hn: ∀y∈l.take k,mt y h=false)(e:l.length≤k):0=fB l h:=by
 rw[List.take_of_length_le e] at hn;unfold fB
 rw[List.find?_eq_none.2 (by intro y hy;simp[hn y hy])]
theorem Ie(l:List Rl): ∀(n j:Nat)(x:Int),(bC l n)[j]? =some x→ ∃(i:Nat)(r:Rl),x=(i:Int)∧i<n∧l[i]? =some r∧r.wh=false
 |0,j,x,h=>by simp[bC] at h
 |n+1,j,x,h=>by
  rw[bC] at h
  have up:(bC l n)[j]? =some x→ ∃(i:Nat)(r:Rl),x=(i:Int)∧i<n+1∧l[i]? =some r∧r.wh=false:=λh=>by
   obtain⟨i,r,h1,h2,h3⟩:=Ie l n j x h;exact⟨i,r,h1,by omega,h3⟩
  cases hl:l[n]? with
  |none=>rw[hl] at h;exact up h
  |some r=>
   rw[hl] at h;simp only at h
   cases hw:r.wh with
   |true=>rw[hw] at h;exact up h
   |false=>
    rw[hw] at h;simp only[Bool.false_eq_true,if_false,List.getElem?_append] at h
    split at h
    ·exact up h
    ·simp only[List.getElem?_cons,List.getElem?_nil] at h
     split at h
     ·simp at h;exact⟨n,r,h.symm,by omega,hl,hw⟩
     ·simp at h
theorem ed{κ β:Type}[DecidableEq κ]: ∀(kv:List (κ×β))(k h:κ)(v:β),aB (aJ kv k v) h=if k=h then some v else aB kv h
 |[],k,h,v=>by simp only[aJ,aB]
 |p::kv,k,h,v=>by
  simp only[aJ]
  by_cases e:p.1=k
  ·rw[if_pos e];simp only[aB];subst e;by_cases e2:p.1=h<;>simp[e2]
  ·rw[if_neg e];simp only[aB];rw[ed kv k h v]
   by_cases e2:p.1=h
   ·rw[if_pos e2,if_neg (by intro h3;exact e<|e2.trans h3.symm),if_pos e2]
   ·rw[if_neg e2,if_neg e2]
theorem EF(l:List Rl)(h:Hd): ∀n,match aB (cg l n) h with
  |some v=> ∃(i:Nat)(r:Rl),v=(i:Int)∧i<n∧l[i]? =some r∧r.wh=true∧r.want=h∧ ∀(j:Nat)s,j<i→l[j]? =some s→s.wh=true→s.want≠h
  |none=> ∀(j:Nat)s,j<n→l[j]? =some s→s.wh=true→s.want≠h
 |0=>by simp only[cg,aB];intro j s hj;omega
 |n+1=>by
  have ih:=EF l h n
  have keep:(match aB (cg l n) h with
    |some v=> ∃(i:Nat)(r:Rl),v=(i:Int)∧i<n∧l[i]? =some r∧r.wh=true∧r.want=h∧ ∀(j:Nat)s,j<i→l[j]? =some s→s.wh=true→s.want≠h
    |none=> ∀(j:Nat)s,j<n→l[j]? =some s→s.wh=true→s.want≠h)→(aB (cg l n) h=none→ ∀s,l[n]? =some s→s.wh=true→s.want≠h)→(match aB (cg l n) h with
    |some v=> ∃(i:Nat)(r:Rl),v=(i:Int)∧i<n+1∧l[i]? =some r∧r.wh=true∧r.want=h∧ ∀(j:Nat)s,j<i→l[j]? =some s→s.wh=true→s.want≠h
    |none=> ∀(j:Nat)s,j<n+1→l[j]? =some s→s.wh=true→s.want≠h):=by
   intro a b
   cases hm:aB (cg l n) h with
   |some v=>rw[hm] at a;obtain⟨i,r,h1,h2,h3⟩:=a;exact⟨i,r,h1,by omega,h3⟩
   |none=>
    rw[hm] at a;intro j s hj hs hw
    rcases Nat.lt_or_ge j n with g|g
    ·exact a j s g hs hw
    ·have:j=n:=by omega
     subst this;exact b hm s hs hw
  rw[cg]
  cases hl:l[n]? with
  |none=>exact keep ih (by intro _ s hs;rw[hl] at hs;cases hs)
  |some r=>
   simp only[]
   by_cases hc:(r.wh&& !(aB (cg l n) r.want).isSome)=true
   ·rw[if_pos hc]
    simp at hc
    rw[ed]
    by_cases e:r.want=h
    ·rw[if_pos e];refine⟨n,r,rfl,by omega,hl,hc.1,e,λj s hj hs hw=>?_⟩
     rw[e] at hc;rw[hc.2] at ih;exact ih j s hj hs hw
    ·rw[if_neg e];exact keep ih (by intro _ s hs hw;rw[hl] at hs;cases hs;exact e)
   ·rw[if_neg hc]
    refine keep ih (by intro hm s hs hw e;rw[hl] at hs;cases hs;apply hc;rw[e,hm,hw];rfl)
def uX(l:List Rl)(h:Hd)(ms:List Int):Prop:= ∀y∈ms,∀s,l[y.toNat]? =some s→mt s h=false
variable{ms:Wx}{i:Nat}
theorem Qa(hn:uX l h ms)(hr:l[i]? =some r)(e:mt r h=false):uX l h (ms++[(i:Int)]):=by
 intro y hy s hs
 rcases List.mem_append.1 hy with hy|hy
 ·exact hn y hy s hs
 ·simp at hy;subst hy;simp only[Int.toNat_natCast] at hs;rw[hr] at hs;cases hs;exact e
theorem If(l:List Rl): ∀n,(∀y∈bC l n,y<(n:Int))∧(bC l n).Pairwise (· < ·)
 |0=>⟨by intro y hy;simp[bC] at hy,by simp[bC]⟩
 |n+1=>by
  have ih:=If l n
  have up:(∀y∈bC l n,y<((n+1:Nat):Int))∧(bC l n).Pairwise (· < ·):=⟨λy hy=>by have:=ih.1 y hy;omega,ih.2⟩
  rw[bC];split
  ·split
   ·exact up
   ·refine⟨λy hy=>?_,?_⟩
    ·rcases List.mem_append.1 hy with hy|hy
     ·exact up.1 y hy
     ·simp at hy;omega
    ·rw[List.pairwise_append];refine⟨ih.2,by simp,λa ha b hb=>?_⟩
     simp at hb;subst hb;exact ih.1 a ha
  ·exact up
theorem DG(l:List Rl)(hl:l[i]? =some r)(hw:r.wh=false): ∀n,i<n→(i:Int)∈bC l n
 |0,h=>by omega
 |n+1,h=>by
  rw[bC]
  rcases Nat.lt_or_ge i n with g|g
  ·have:=DG l hl hw n g
   split
   ·split
    ·exact this
    ·exact List.mem_append_left _ this
   ·exact this
  ·have e:i=n:=by omega
   subst e;rw[hl];simp only[hw,Bool.false_eq_true,if_false];exact List.mem_append_right _<|by simp
variable{j:Nat}
theorem HA(hk:(bC l l.length)[k]? =some (i:Int))(hj:j<i)(hl:l[j]? =some r)(hw:r.wh=false):(j:Int)∈(bC l l.length).take k:=by
 have hm:=DG l hl hw l.length (Zf.1 hl).1
 obtain⟨q,hq⟩:=List.mem_iff_getElem?.1 hm
 obtain⟨hk1,hk2⟩:=Zf.1 hk
 obtain⟨hq1,hq2⟩:=Zf.1 hq
 rcases Nat.lt_trichotomy q k with g|g|g
 ·exact List.mem_iff_getElem?.2 ⟨q,by rw[List.getElem?_take,if_pos g,hq]⟩
 ·subst g;rw[hk] at hq;simp at hq;omega
 ·have:=List.pairwise_iff_getElem.1 (If l l.length).2 k q hk1 hq1 g
  rw[hk2,hq2] at this;omega
theorem zG{x:Int}(h:0≤x∧x<65536):sQ x 65535=x:=by
 obtain⟨a,rfl⟩:=Int.eq_ofNat_of_zero_le h.1
 unfold sQ;have e:(65535:Int).toNat=2^16-1:=by decide
 rw[e,Int.toNat_natCast,Nat.and_two_pow_sub_one_eq_mod,Nat.mod_eq_of_lt<|by omega]
theorem Me(hh:ko h)(hw:r.wh=true):mt r h=true↔r.want=h:=by
 obtain⟨h1,h2,h3,h4⟩:=hh
 unfold Rl.wh at hw;simp at hw;obtain⟨⟨⟨e1,e2⟩,e3⟩,e4⟩:=hw
 unfold mt;rw[e1,e2,e3,e4,zG<|by omega,zG<|by omega,zG<|by omega,zG<|by omega]
 unfold Rl.want;cases h;simp;constructor
 ·rintro⟨⟨⟨a,b⟩,c⟩,d⟩;exact⟨a.symm,b.symm,c.symm,d.symm⟩
 ·rintro⟨a,b,c,d⟩;exact⟨⟨⟨a.symm,b.symm⟩,c.symm⟩,d.symm⟩
theorem Ig(hr:l[i]? =some r)(hg: ∀x∈l,x.good=true)(hm:mt r h=true)(hb: ∀(j:Nat)s,j<i→l[j]? =some s→mt s h=false):r.cl=fB l h∧ ¬fB l h=0:=by
 have e:r.cl=fB l h:=S3 hr (λy hy=>by
  obtain⟨j,hj⟩:=List.mem_iff_getElem?.1 hy
  rw[List.getElem?_take] at hj;split at hj
  ·exact hb j y ‹_› hj
  ·cases hj) hm
 refine⟨e,?_⟩;rw[←e];have:=hg r<|Zd hr;unfold Rl.good at this;simp at this;omega
theorem EG(p:(aB (cg l l.length) h).isSome=true): ∃(i:Nat)(r:Rl),(aB (cg l l.length) h).getD 0=(i:Int)∧l[i]? =some r∧r.wh=true∧r.want=h∧ ∀(j:Nat)s,j<i→l[j]? =some s→s.wh=true→s.want≠h:=by
 have e:=EF l h l.length
 cases hm:aB (cg l l.length) h with
 |none=>rw[hm] at p;cases p
 |some v=>rw[hm] at e;obtain⟨i,r,h1,h2,h3⟩:=e;exact⟨i,r,by simpa using h1,h3⟩
theorem J6(p:aB (cg l l.length) h=none): ∀(j:Nat)s,l[j]? =some s→s.wh=true→s.want≠h:=by
 have e:=EF l h l.length
 rw[p] at e;intro j s hs;exact e j s (Zf.1 hs).1 hs
theorem DI(hh:ko h)(h1: ∀(j:Nat)s,j<i→l[j]? =some s→s.wh=true→s.want≠h)(h2: ∀(j:Nat)s,j<i→l[j]? =some s→s.wh=false→mt s h=false): ∀(j:Nat)s,j<i→l[j]? =some s→mt s h=false:=by
 intro j s hj hs
 cases hw:s.wh with
 |false=>exact h2 j s hj hs hw
 |true=>
  cases hm:mt s h with
  |false=>rfl
  |true=>exact absurd ((Me hh hw).1 hm)<|h1 j s hj hs hw
theorem EH(hn:uX l h ms){s:Rl}(hj:(j:Int)∈ms)(hs:l[j]? =some s):mt s h=false:=hn _ hj s<|by simpa using hs
theorem Qb{x:Rl}(hR: ∀x∈l,kq x)(hh:ko h)(hg: ∀x∈l,x.good=true)(hn:uX l h ((bC l l.length).take k))
  (hk:(bC l l.length)[k]? =some (i:Int))(hx:l[i]? =some x)(p:(aB (cg l l.length) h).isSome=true→(i:Int)≤(aB (cg l l.length) h).getD 0)(hm:mt x h=true):x.cl=fB l h∧ ¬fB l h=0:=by
 refine Ig hx hg hm<|DI hh (λj s hj hs hw=>?_)<|λj s hj hs hw=>EH hn (HA hk hj hs hw) hs
 cases hp:(aB (cg l l.length) h).isSome with
 |true=>obtain⟨q,r,h1,h2,h3,h4,h5⟩:=EG hp;have:=p hp;exact h5 j s (by omega) hs hw
 |false=>exact J6 (by simpa using hp) j s hs hw
theorem J7(hn:uX l h (bC l l.length)){s:Rl}(hs:l[j]? =some s)(hw:s.wh=false):mt s h=false:=
 EH hn (DG l hs hw l.length (Zf.1 hs).1) hs
theorem S5(hR: ∀x∈l,kq x)(hh:ko h)(hg: ∀x∈l,x.good=true)(hn:uX l h (bC l l.length))(p:aB (cg l l.length) h=none):0=fB l h∧fB l h=0:=by
 have:0=fB l h:=S4 (k:=l.length) (λy hy=>by
  obtain⟨j,hj⟩:=List.mem_iff_getElem?.1<|List.mem_of_mem_take hy
  exact DI (i:=l.length) hh (λj s _ hs hw=>J6 p j s hs hw) (λj s _ hs hw=>J7 hn hs hw) j y (Zf.1 hj).1 hj)<|Nat.le_refl _
 exact⟨this,this.symm⟩
theorem N5{q:Nat}(hh:ko h)(hg: ∀x∈l,x.good=true)(h2:l[q]? =some r)(h3:r.wh=true)(h4:r.want=h)(h5: ∀(j:Nat)s,j<q→l[j]? =some s→s.wh=true→s.want≠h)
 (hb: ∀(j:Nat)s,j<q→l[j]? =some s→s.wh=false→mt s h=false):r.cl=fB l h∧ ¬fB l h=0:=Ig h2 hg ((Me hh h3).2 h4)<|DI hh h5 hb
def nK(c:Int):Int:=if c=0 then 31 else 0
variable{x:Int}
theorem GK{c:Int}(h:x=c∧ ¬c=0):((.tuple #[(i_ x),(i_ 0)]):Value)=(.tuple #[(i_ c),(i_<|nK c)]):=by unfold nK;rw[if_neg h.2,h.1]
theorem S7{c:Int}(h:0=c∧c=0):((.tuple #[(i_ 0),(i_ 31)]):Value)=(.tuple #[(i_ c),(i_<|nK c)]):=by unfold nK;rw[if_pos h.2,h.2]
abbrev xA(p0)(p1:List Rl)(p2):=(.slice p0 ((bC p1 p1.length).length) p2:Value)
abbrev Qc(p0)(p1):=((.tuple #[i_<|fB p0 p1,i_<|nK<|fB p0 p1]):Value)
theorem S8(bt:Nat)(ar:k0)(l:List Rl)(cr mb:Nat)(am:k0)(cm:Nat)(h:Hd)(hl:l.length≤32)(hR: ∀x∈l,kq x)(hh:ko h)(hg: ∀x∈l,x.good=true)(w:World)(r0:(aA bt [.slice ar l.length cr,.map<|some mb,xA am l cm] 150).holds w)(r1:(bH ip (λx:Int=>i_ x) mb<|cg l l.length).holds w)(r2:dR w ar (V.aP f9 l))(r3:dR w am (V.aP iW<|bC l l.length)):
  CW 75 #[p_ bt,.agg #[w_ h.ha,w_ h.hb,w_ h.hc,w_ h.hd]] w (Qc l h):=by
 refine aU Tryz.func75 rfl (HS.nil w) (aD ?_)
 refine aM<|dL [.al] [] (λb1=>[(3,p_ b1)]) (λb1=>aA b1 [w_ h.ha,w_ h.hb,w_ h.hc,w_ h.hd] 43) ?_
 intro b1
 refine aD<|aE [(11,b_ false)]<|bM<|az<|bY [] 11<|eR 6 [.rd [.map<|some mb],.ld 0] (rg 0 5) [(16,.map<|some mb),(17,.agg #[w_ h.ha,w_ h.hb,w_ h.hc,w_ h.hd])] (o1<|ro ⟨bt,1,none⟩ (vs:=[.map<|some mb])<|cE r0 rfl)<|lG 5 (some 18) (.tuple #[i_<|(aB (cg l l.length) h).getD 0,b_<|(aB (cg l l.length) h).isSome]) rfl (by kernel_rfl) (by kernel_rfl) (pH (kt:=43) (et:=3) (enck:=ip) (encv:=(λx:Int=>i_ x)) (b:=mb) (kv:=(cg l l.length)) (k:=h) (d0:=0) (λw s=>bK s r1) rfl rfl rfl (by kernel_rfl) xN (by kernel_rfl) rfl) (cQ 0 [] (rg 6 5) [(3,p_ b1),(6,i_<|(aB (cg l l.length) h).getD 0),(7,b_<|(aB (cg l l.length) h).isSome)]<|eN<|aD<|dF [.rd [xA am l cm]] [(24,xA am l cm),(25,i_ ((bC l l.length).length:Int)),(26,i_ 0)] (o1<|ro ⟨bt,2,none⟩ (vs:=[xA am l cm])<|cE r0 rfl)<|aR<|fY (λ(zz:Nat)=>match zz with|k=>[(0,p_ bt),(3,p_ b1),(6,i_<|(aB (cg l l.length) h).getD 0),(7,b_<|(aB (cg l l.length) h).isSome),(24,xA am l cm),(25,i_ ((bC l l.length).length:Int)),(26,i_ (k:Int))]) (λ(zz:Nat)=>match zz with|k=>[aA b1 [w_ h.ha,w_ h.hb,w_ h.hc,w_ h.hd] 43]) (λ(zz:Nat)=>match zz with|k=>(k≤(bC l l.length).length)∧(uX l h<|(bC l l.length).take k)) (λ(zz:Nat)=>match zz with|k=>(bC l l.length).length-k) (0:Nat) ⟨(by omega),(by intro y hy;simp at hy)⟩ ?_ ?_)
 ·exact cX [0]
 rintro k ⟨hk,hn⟩
 have hm:=yr l l.length
 refine aE [(27,b_<|decide ((k:Int)<((bC l l.length).length:Int)))]<|aD<|aL rfl (λe1=>?_) (λe1=>?_)
 ·have p1:=Zg e1
  refine az<|aR<|aC<|jJ [.ix] [(28,.pointer<|some<|(au am).add (k*1))] (o1<|io (k:Int)<|dh yp (by decide) (cL r3<|by simp[aN])<|by omega) ?_
  obtain⟨x2,hx2⟩: ∃x,((bC l l.length))[k]? =some x:=⟨_,Ze<|by omega⟩
  refine aj [.rd [i_ x2]] [(9,i_ x2)] (o1<|ro ((au am).add (k*1))<|dr (vs:=[i_ x2]) yp (cL r3<|by simp[aN]) hx2 (Nat.le_of_ble_eq_true rfl) rfl)<|aD<|aD ?_
  obtain⟨i3,ri3,hxi3,hli3,hri3,hwi3⟩:=Ie l l.length k x2 ‹_›
  subst hxi3
  refine aM<|bB [.o,.cl] [(9,i_ (i3:Int)),(35,b_<|((aB (cg l l.length) h).isSome)&&(decide (((aB (cg l l.length) h).getD 0)<(i3:Int))))]<|aL rfl (λe2=>?_) (λe2=>?_)
  ·have p2:=e2;try simp only[cR] at p2
   refine bg<|qO<|wL rfl (aD<|aE [(55,b_ (!((aB (cg l l.length) h).isSome)))]<|aL rfl (λe3=>?_) (λe3=>?_))
   ·have p3:=e3;try simp only[cR] at p3
    refine aE [(4,i_ 0),(5,i_ 31)] (aF<|bJ [i_ 0,i_ 31] ?_)
    (exfalso;simp_all;done)
   have p3:=e3;try simp only[cR] at p3
   refine az ?_
   obtain⟨q4,rq4,hvq4,hlq4,hwq4,heq4,hmq4⟩:=EG (l:=l) (h:=h) ‹_›
   have hiq4:=(Zf.1 hlq4).1
   rw[hvq4]
   refine aM<|aj [.rd [.slice ar l.length cr],.ix,.rd [i_ rq4.cl]] [(4,i_ rq4.cl),(5,i_ 0)] (oc (ro ⟨bt,0,none⟩ (vs:=[.slice ar l.length cr])<|cE r0 rfl)<|oc (io (q4:Int)<|dh mJ (by decide) (cL r2<|by simp[aN])<|by omega)<|o1<|ro (((au ar).add (q4*9)).add 8)<|j8 (f:=8) (vs:=[i_ rq4.cl]) mJ (cL r2<|by simp[aN]) hlq4 (by simp) rfl)<|aF<|bJ [i_ rq4.cl,i_ 0] ?_
   exact GK<|N5 hh hg ‹_› ‹_› ‹_› ‹_› (λj s hj hs hw=>EH hn (HA ‹_› (by omega) hs hw) hs)
  have p2:=e2;try simp only[cR] at p2
  refine az<|jw [.rd [.slice ar l.length cr],.ix,.rd [w_ ri3.ma,w_ ri3.mb,w_ ri3.mc,w_ ri3.md,w_ ri3.wa,w_ ri3.wb,w_ ri3.wc,w_ ri3.wd,i_ ri3.cl],.ld 0,.cq<|b_<|mt ri3 h] (rg 0 9) [] [(44,b_<|mt ri3 h)] (oc (ro ⟨bt,0,none⟩ (vs:=[.slice ar l.length cr])<|cE r0 rfl)<|oc (io (i3:Int)<|dh mJ (by decide) (cL r2<|by simp[aN])<|by omega)<|oc (ro ((au ar).add (i3*9))<|dr (vs:=[w_ ri3.ma,w_ ri3.mb,w_ ri3.mc,w_ ri3.md,w_ ri3.wa,w_ ri3.wb,w_ ri3.wc,w_ ri3.wd,i_ ri3.cl]) mJ (cL r2<|by simp[aN]) hri3 (Nat.le_of_ble_eq_true rfl) rfl)<|o1<|qo<|λw s=>O5 ri3 h (hR _<|Zd ‹_›) ‹_› w)<|aL rfl (λe4=>?_) (λe4=>?_)
  ·have p4:=e4;try simp only[cR] at p4
   refine dF [.rd [.slice ar l.length cr],.ix,.rd [i_ ri3.cl]] [(4,i_ ri3.cl),(5,i_ 0)] (oc (ro ⟨bt,0,none⟩ (vs:=[.slice ar l.length cr])<|cE r0 rfl)<|oc (io (i3:Int)<|dh mJ (by decide) (cL r2<|by simp[aN])<|by omega)<|o1<|ro (((au ar).add (i3*9)).add 8)<|j8 (f:=8) (vs:=[i_ ri3.cl]) mJ (cL r2<|by simp[aN]) hri3 (by simp) rfl)<|aF<|bJ [i_ ri3.cl,i_ 0] ?_
   exact GK<|Qb hR hh hg hn ‹_› ‹_› (by simp_all) ‹_›
  have p4:=e4;try simp only[cR] at p4
  refine aO<|aM<|aj [.w<|(k:Int)+1] [(26,i_<|(k:Int)+1)] (o1<|wj ((k:Int)+1)<|by omega)<|bN (k+1) ⟨(by omega),(by(rw[y8<|by(assumption)];exact Qa hn ‹_› ‹_›))⟩ (by(simp;omega)) ?_
  exact cX [0]
 have p1:=Zh e1
 refine bg<|aD<|aE [(55,b_ (!((aB (cg l l.length) h).isSome)))]<|aL rfl (λe5=>?_) (λe5=>?_)
 ·have p5:=e5;try simp only[cR] at p5
  refine aE [(4,i_ 0),(5,i_ 31)]<|aF<|bJ [i_ 0,i_ 31] ?_
  exact S7<|S5 hR hh hg (by rw[List.take_of_length_le<|by omega] at hn;exact hn)<|by simp_all
 have p5:=e5;try simp only[cR] at p5
 refine az ?_
 obtain⟨q5,rq5,hvq5,hlq5,hwq5,heq5,hmq5⟩:=EG (l:=l) (h:=h) ‹_›
 have hiq5:=(Zf.1 hlq5).1
 rw[hvq5]
 refine aM<|aj [.rd [.slice ar l.length cr],.ix,.rd [i_ rq5.cl]] [(4,i_ rq5.cl),(5,i_ 0)] (oc (ro ⟨bt,0,none⟩ (vs:=[.slice ar l.length cr])<|cE r0 rfl)<|oc (io (q5:Int)<|dh mJ (by decide) (cL r2<|by simp[aN])<|by omega)<|o1<|ro (((au ar).add (q5*9)).add 8)<|j8 (f:=8) (vs:=[i_ rq5.cl]) mJ (cL r2<|by simp[aN]) hlq5 (by simp) rfl)<|aF<|bJ [i_ rq5.cl,i_ 0] ?_
 exact GK<|N5 hh hg ‹_› ‹_› ‹_› ‹_› (λj s hj hs hw=>J7 (by rw[List.take_of_length_le<|by omega] at hn;exact hn) hs hw)
def iO(x:Int):List Value:=[(u_ x)]
theorem iy(x:Int):(iO x).length=1:=rfl
theorem nX(x:Int):(iO x).all Value.oneCell'=true:=rfl
structure SR where
 sp:Int
 sb:Int
 sr:Int
 sw:Int
 sg:Int
 deriving Inhabited,DecidableEq
def YM(cv:List (Int×SL))(ci a:Int)(zc:List (Int×SL)):Prop:= ∃A c,zc=aJ cv ci ⟨A,c,((aB cv ci).getD af).sx++[a]⟩
def di:SR:=⟨0,0,0,0,0⟩
theorem iS:jk Tryz.prog 3 (λk:Int=>i_ k):=yh<|by kernel_rfl
abbrev EI(p0):=(bH (λk:Int=>i_ k) kH p0 ([]:hV SL):V.aI)
abbrev uw(p0)(p1)(p2):=(aA p0 [.map<|some p1,.map<|some p2] 157:V.aI)
abbrev J8(p0):=(bH (λk:Int=>i_ k) (λy:SR=>(.agg #[u_ y.sp,u_ y.sb,u_ y.sr,u_ y.sw,u_ y.sg])) p0 ([]:hV SR):V.aI)
abbrev rV:=(fF 40 iO ([]:hV SL):V.aI)
theorem VV:
  CS 44 #[] [] (λ((bs,mc,mr):Nat×Nat×Nat)=>(p_ bs)) (λ_=>True) λ(bs,mc,mr)=>[uw bs mc mr,EI mc,rV,J8 mr]:=by
 intro w hs
 refine aU Tryz.func44 rfl hs (aD<|OK 40 iO [rV] rfl (bZ []<|aD<|OK 40 iO [rV,rV] rfl (aM<|aG<|nU (λk:Int=>i_ k) kH 1 (by kernel_rfl) rfl (λm1=>[rV,rV,EI m1]) (λ_=>rfl) ?_)))
 intro m1
 refine aG<|nU (λk:Int=>i_ k) (λy:SR=>(.agg #[u_ y.sp,u_ y.sb,u_ y.sr,u_ y.sw,u_ y.sg])) 2 (by kernel_rfl) rfl (λm2=>[rV,rV,EI m1,J8 m2]) (λ_=>rfl) ?_
 intro m2
 refine dM [.al] [] (λb3=>[(0,p_ b3)]) (λ_=>[]) (λb3=>uw b3 m1 m2) ?_
 intro b3
 refine aF<|bR [4,2,0,1] [p_ b3] (b3,m1,m2) ?_ ?_
 ·rfl
 trivial
abbrev EJ(p0)(p1)(p2)(p3)(p4)(p5):=([(13,i_ p0),(22,.slice p1 (((((aB p2 p0).getD af).sx)++([p3])).length) p4),(12,.map<|some p5)]:aT)
abbrev zm(p0)(p1):=(bH (λk:Int=>i_ k) (λy:SR=>(.agg #[u_ y.sp,u_ y.sb,u_ y.sr,u_ y.sw,u_ y.sg])) p0 p1:V.aI)
abbrev mN(p0)(p1)(p2)(p3)(p4):=(fF 40 iO (aJ p0 p1 ⟨p2,p3,(((aB p0 p1).getD af).sx)++([p4])⟩):V.aI)
abbrev ni(p0)(p1):=([fF 40 iO<|aW p0 p1,sl (((aB p0 p1).getD af).sa) ((((aB p0 p1).getD af).sx).length) (((aB p0 p1).getD af).sc) 40 1<|V.aP iO<|((aB p0 p1).getD af).sx]:List V.aI)
theorem S9(bs mc mr:Nat)(cv:hV SL)(rv:hV SR)(ci a:Int)(hl:((aB cv ci).getD af).sx.length≤100000):
  CS 77 #[p_ bs,i_ ci,u_ a] [uw bs mc mr,bH (λk:Int=>i_ k) kH mc cv,fF 40 iO cv,zm mr rv] (λ(zc:(hV SL))=>(i_ 0)) (λzc=>YM cv ci a zc) λzc=>[uw bs mc mr,bH (λk:Int=>i_ k) kH mc zc,fF 40 iO zc,zm mr rv]:=by
 intro w hs
 refine aU Tryz.func77 rfl hs (aE []<|aD<|aE [(8,b_ false)]<|bM<|az<|Nx (λ((A2,c2):k0×Nat)=>[]) (λ((A2,c2):k0×Nat)=>[mN cv ci A2 c2 a,uw bs mc mr,bH (λk:Int=>i_ k) kH mc<|aJ cv ci ⟨A2,c2,(((aB cv ci).getD af).sx)++([a])⟩,zm mr rv]) (λ_=>True) ?_<|λzz_ _=>?_)
 ·refine bY [12,13,14] 15<|cQ 6 [] [0,1,2,4,5,6,7,9,11] [(11,p_ bs),(13,i_ ci),(16,p_ bs),(18,i_ ci),(20,u_ a)]<|OF 3 8 12 rfl rfl rfl (by kernel_rfl) ?_ ?_ ?_
  ·refine cC (some 12) (.map<|some mc) (nA rfl rfl (by kernel_rfl) (jL (i:=0) rfl rfl))<|ej (.refl _)<|tD 8 12 rfl rfl (by kernel_rfl) ?_ ?_
   ·refine cC (some 17) (.map<|some mc) (nA rfl rfl (by kernel_rfl) (jL (i:=0) rfl rfl))<|ej (.refl _)<|tD 10 12 rfl rfl (by kernel_rfl) ?_ ?_
    ·refine cC (some 19) _ (kg (kt:=3) (et:=233) (enck:=(λk:Int=>i_ k)) (encv:=kH) (b:=mc) (kv:=cv) (k:=ci) (d0:=af) (λw s=>s.mem (i:=1) rfl) rfl rfl rfl (by kernel_rfl) iS (by kernel_rfl) rfl)<|ej (.refl _)<|bF 12 rfl (eB 21 (e:=40) [u_ a] (by kernel_rfl) rfl (λ_=>by kernel_rfl) _ (λ_=>rfl) ?_)
     intro b1
     refine cb<|bF 13 rfl (eQ [2] (ni cv ci) rfl (λw hs=>nY cv ci hs) (iJ iO (((aB cv ci).getD af).sx) ([a]) 1 22 (u_ 0) 8 iy nX (ef (i:=5) rfl) (by simp;omega) ?_))
     intro A2 c2
     refine cb<|bF 14 rfl (gV 3 233 3 ci ⟨A2,c2,(((aB cv ci).getD af).sx)++([a])⟩ rfl iS (eQ [0,0] [mN cv ci A2 c2 a] rfl (λw hs=>nZ cv ci A2 c2 ((((aB cv ci).getD af).sx)++([a])) hs) (dV ?_)))
     exact k7 (A2,c2) trivial<|mI (show V.sub _ [] from trivial)<|sd [4]
    refine eB 21 (e:=40) [u_ a] (by kernel_rfl) rfl (λ_=>by kernel_rfl) _ (λ_=>rfl) ?_
    intro b3
    refine cb<|lG 10 (some 19) (.slice (((aB cv ci).getD af).sa) (((aB cv ci).getD af).sx.length)<|((aB cv ci).getD af).sc) rfl (by kernel_rfl) (by kernel_rfl) (kg (kt:=3) (et:=233) (enck:=(λk:Int=>i_ k)) (encv:=kH) (b:=mc) (kv:=cv) (k:=ci) (d0:=af) (λw s=>s.mem (i:=1) rfl) rfl rfl rfl (by kernel_rfl) iS (by kernel_rfl) rfl) (bF 13 rfl (eQ [2] (ni cv ci) rfl (λw hs=>nY cv ci hs) (iJ iO (((aB cv ci).getD af).sx) ([a]) 1 22 (u_ 0) 8 iy nX (ef (i:=5) rfl) (by simp;omega) ?_)))
    intro A4 c4
    refine cb<|bF 14 rfl (gV 3 233 3 ci ⟨A4,c4,(((aB cv ci).getD af).sx)++([a])⟩ rfl iS (eQ [0,0] [mN cv ci A4 c4 a] rfl (λw hs=>nZ cv ci A4 c4 ((((aB cv ci).getD af).sx)++([a])) hs) (dV ?_)))
    exact k7 (A4,c4) trivial<|mI (show V.sub _ [] from trivial)<|sd [4]
   refine eB 21 (e:=40) [u_ a] (by kernel_rfl) rfl (λ_=>by kernel_rfl) _ (λ_=>rfl) ?_
   intro b5
   refine cb<|cQ 3 [.ld 0] [8] [(21,.slice (some ⟨b5,0,none⟩) 1 1),(17,.map<|some mc)]<|lG 10 (some 19) (.slice (((aB cv ci).getD af).sa) (((aB cv ci).getD af).sx.length)<|((aB cv ci).getD af).sc) rfl (by kernel_rfl) (by kernel_rfl) (kg (kt:=3) (et:=233) (enck:=(λk:Int=>i_ k)) (encv:=kH) (b:=mc) (kv:=cv) (k:=ci) (d0:=af) (λw s=>s.mem (i:=1) rfl) rfl rfl rfl (by kernel_rfl) iS (by kernel_rfl) rfl) (bF 13 rfl (eQ [2] (ni cv ci) rfl (λw hs=>nY cv ci hs) (iJ iO (((aB cv ci).getD af).sx) ([a]) 1 22 (u_ 0) 8 iy nX (ef (i:=5) rfl) (by simp;omega) ?_)))
   intro A6 c6
   refine cb<|bF 14 rfl (gV 3 233 3 ci ⟨A6,c6,(((aB cv ci).getD af).sx)++([a])⟩ rfl iS (eQ [0,0] [mN cv ci A6 c6 a] rfl (λw hs=>nZ cv ci A6 c6 ((((aB cv ci).getD af).sx)++([a])) hs) (dV ?_)))
   exact k7 (A6,c6) trivial<|mI (show V.sub _ [] from trivial)<|sd [4]
  ·refine cC (some 17) (.map<|some mc) (nA rfl rfl (by kernel_rfl) (jL (i:=0) rfl rfl))<|ej (.refl _)<|OF 3 10 12 rfl rfl rfl (by kernel_rfl) ?_ ?_ ?_
   ·refine cC (some 12) (.map<|some mc) (nA rfl rfl (by kernel_rfl) (jL (i:=0) rfl rfl))<|ej (.refl _)<|tD 10 12 rfl rfl (by kernel_rfl) ?_ ?_
    ·refine cC (some 19) _ (kg (kt:=3) (et:=233) (enck:=(λk:Int=>i_ k)) (encv:=kH) (b:=mc) (kv:=cv) (k:=ci) (d0:=af) (λw s=>s.mem (i:=1) rfl) rfl rfl rfl (by kernel_rfl) iS (by kernel_rfl) rfl)<|ej (.refl _)<|bF 12 rfl (eB 21 (e:=40) [u_ a] (by kernel_rfl) rfl (λ_=>by kernel_rfl) _ (λ_=>rfl) ?_)
     intro b7
     refine cb<|bF 13 rfl (eQ [2] (ni cv ci) rfl (λw hs=>nY cv ci hs) (iJ iO (((aB cv ci).getD af).sx) ([a]) 1 22 (u_ 0) 8 iy nX (ef (i:=5) rfl) (by simp;omega) ?_))
     intro A8 c8
     refine cb<|bF 14 rfl (gV 3 233 3 ci ⟨A8,c8,(((aB cv ci).getD af).sx)++([a])⟩ rfl iS (eQ [0,0] [mN cv ci A8 c8 a] rfl (λw hs=>nZ cv ci A8 c8 ((((aB cv ci).getD af).sx)++([a])) hs) (dV ?_)))
     exact k7 (A8,c8) trivial<|mI (show V.sub _ [] from trivial)<|sd [4]
    refine eB 21 (e:=40) [u_ a] (by kernel_rfl) rfl (λ_=>by kernel_rfl) _ (λ_=>rfl) ?_
    intro b9
    refine cb<|lG 10 (some 19) (.slice (((aB cv ci).getD af).sa) (((aB cv ci).getD af).sx.length)<|((aB cv ci).getD af).sc) rfl (by kernel_rfl) (by kernel_rfl) (kg (kt:=3) (et:=233) (enck:=(λk:Int=>i_ k)) (encv:=kH) (b:=mc) (kv:=cv) (k:=ci) (d0:=af) (λw s=>s.mem (i:=1) rfl) rfl rfl rfl (by kernel_rfl) iS (by kernel_rfl) rfl) (bF 13 rfl (eQ [2] (ni cv ci) rfl (λw hs=>nY cv ci hs) (iJ iO (((aB cv ci).getD af).sx) ([a]) 1 22 (u_ 0) 8 iy nX (ef (i:=5) rfl) (by simp;omega) ?_)))
    intro A10 c10
    refine cb<|bF 14 rfl (gV 3 233 3 ci ⟨A10,c10,(((aB cv ci).getD af).sx)++([a])⟩ rfl iS (eQ [0,0] [mN cv ci A10 c10 a] rfl (λw hs=>nZ cv ci A10 c10 ((((aB cv ci).getD af).sx)++([a])) hs) (dV ?_)))
    exact k7 (A10,c10) trivial<|mI (show V.sub _ [] from trivial)<|sd [4]
   ·refine cC (some 19) _ (kg (kt:=3) (et:=233) (enck:=(λk:Int=>i_ k)) (encv:=kH) (b:=mc) (kv:=cv) (k:=ci) (d0:=af) (λw s=>s.mem (i:=1) rfl) rfl rfl rfl (by kernel_rfl) iS (by kernel_rfl) rfl)<|ej (.refl _)<|tD 3 12 rfl rfl (by kernel_rfl) ?_ ?_
    ·refine cC (some 12) (.map<|some mc) (nA rfl rfl (by kernel_rfl) (jL (i:=0) rfl rfl))<|ej (.refl _)<|bF 12 rfl (eB 21 (e:=40) [u_ a] (by kernel_rfl) rfl (λ_=>by kernel_rfl) _ (λ_=>rfl) ?_)
     intro b11
     refine cb<|bF 13 rfl (eQ [2] (ni cv ci) rfl (λw hs=>nY cv ci hs) (iJ iO (((aB cv ci).getD af).sx) ([a]) 1 22 (u_ 0) 8 iy nX (ef (i:=5) rfl) (by simp;omega) ?_))
     intro A12 c12
     refine cb<|bF 14 rfl (gV 3 233 3 ci ⟨A12,c12,(((aB cv ci).getD af).sx)++([a])⟩ rfl iS (eQ [0,0] [mN cv ci A12 c12 a] rfl (λw hs=>nZ cv ci A12 c12 ((((aB cv ci).getD af).sx)++([a])) hs) (dV ?_)))
     exact k7 (A12,c12) trivial<|mI (show V.sub _ [] from trivial)<|sd [4]
    refine eB 21 (e:=40) [u_ a] (by kernel_rfl) rfl (λ_=>by kernel_rfl) _ (λ_=>rfl) ?_
    intro b13
    refine cb<|tD 3 13 rfl rfl (by kernel_rfl) ?_ ?_
    ·refine cC (some 12) (.map<|some mc) (nA rfl rfl (by kernel_rfl) (jL (i:=0) rfl rfl))<|ej (.refl _)<|bF 13 rfl (eQ [2] (ni cv ci) rfl (λw hs=>nY cv ci hs) (iJ iO (((aB cv ci).getD af).sx) ([a]) 1 22 (u_ 0) 8 iy nX (ef (i:=5) rfl) (by simp;omega) ?_))
     intro A14 c14
     refine cb<|bF 14 rfl (gV 3 233 3 ci ⟨A14,c14,(((aB cv ci).getD af).sx)++([a])⟩ rfl iS (eQ [0,0] [mN cv ci A14 c14 a] rfl (λw hs=>nZ cv ci A14 c14 ((((aB cv ci).getD af).sx)++([a])) hs) (dV ?_)))
     exact k7 (A14,c14) trivial<|mI (show V.sub _ [] from trivial)<|sd [4]
    refine eQ [2] (ni cv ci) rfl (λw hs=>nY cv ci hs) (iJ iO (((aB cv ci).getD af).sx) ([a]) 1 22 (u_ 0) 8 iy nX (ef (i:=5) rfl) (by simp;omega) ?_)
    intro A15 c15
    refine cb<|wN 1 [.ld 2] [3] (EJ ci A15 cv a c15 mc)<|bF 14 rfl (gV 3 233 3 ci ⟨A15,c15,(((aB cv ci).getD af).sx)++([a])⟩ rfl iS (eQ [0,0] [mN cv ci A15 c15 a] rfl (λw hs=>nZ cv ci A15 c15 ((((aB cv ci).getD af).sx)++([a])) hs) (dV ?_)))
    exact k7 (A15,c15) trivial<|mI (show V.sub _ [] from trivial)<|sd [4]
   refine eB 21 (e:=40) [u_ a] (by kernel_rfl) rfl (λ_=>by kernel_rfl) _ (λ_=>rfl) ?_
   intro b16
   refine cb<|lG 10 (some 19) (.slice (((aB cv ci).getD af).sa) (((aB cv ci).getD af).sx.length)<|((aB cv ci).getD af).sc) rfl (by kernel_rfl) (by kernel_rfl) (kg (kt:=3) (et:=233) (enck:=(λk:Int=>i_ k)) (encv:=kH) (b:=mc) (kv:=cv) (k:=ci) (d0:=af) (λw s=>s.mem (i:=1) rfl) rfl rfl rfl (by kernel_rfl) iS (by kernel_rfl) rfl) (tD 3 13 rfl rfl (by kernel_rfl) ?_ ?_)
   ·refine cC (some 12) (.map<|some mc) (nA rfl rfl (by kernel_rfl) (jL (i:=0) rfl rfl))<|ej (.refl _)<|bF 13 rfl (eQ [2] (ni cv ci) rfl (λw hs=>nY cv ci hs) (iJ iO (((aB cv ci).getD af).sx) ([a]) 1 22 (u_ 0) 8 iy nX (ef (i:=5) rfl) (by simp;omega) ?_))
    intro A17 c17
    refine cb<|bF 14 rfl (gV 3 233 3 ci ⟨A17,c17,(((aB cv ci).getD af).sx)++([a])⟩ rfl iS (eQ [0,0] [mN cv ci A17 c17 a] rfl (λw hs=>nZ cv ci A17 c17 ((((aB cv ci).getD af).sx)++([a])) hs) (dV ?_)))
    exact k7 (A17,c17) trivial<|mI (show V.sub _ [] from trivial)<|sd [4]
   refine eQ [2] (ni cv ci) rfl (λw hs=>nY cv ci hs) (iJ iO (((aB cv ci).getD af).sx) ([a]) 1 22 (u_ 0) 8 iy nX (ef (i:=5) rfl) (by simp;omega) ?_)
   intro A18 c18
   refine cb<|wN 1 [.ld 2] [3] (EJ ci A18 cv a c18 mc)<|bF 14 rfl (gV 3 233 3 ci ⟨A18,c18,(((aB cv ci).getD af).sx)++([a])⟩ rfl iS (eQ [0,0] [mN cv ci A18 c18 a] rfl (λw hs=>nZ cv ci A18 c18 ((((aB cv ci).getD af).sx)++([a])) hs) (dV ?_)))
   exact k7 (A18,c18) trivial<|mI (show V.sub _ [] from trivial)<|sd [4]
  refine eB 21 (e:=40) [u_ a] (by kernel_rfl) rfl (λ_=>by kernel_rfl) _ (λ_=>rfl) ?_
  intro b19
  refine cb<|cQ 4 [.ld 0] [8] [(21,.slice (some ⟨b19,0,none⟩) 1 1),(17,.map<|some mc)]<|lG 10 (some 19) (.slice (((aB cv ci).getD af).sa) (((aB cv ci).getD af).sx.length)<|((aB cv ci).getD af).sc) rfl (by kernel_rfl) (by kernel_rfl) (kg (kt:=3) (et:=233) (enck:=(λk:Int=>i_ k)) (encv:=kH) (b:=mc) (kv:=cv) (k:=ci) (d0:=af) (λw s=>s.mem (i:=1) rfl) rfl rfl rfl (by kernel_rfl) iS (by kernel_rfl) rfl) (tD 3 13 rfl rfl (by kernel_rfl) ?_ ?_)
  ·refine cC (some 12) (.map<|some mc) (nA rfl rfl (by kernel_rfl) (jL (i:=0) rfl rfl))<|ej (.refl _)<|bF 13 rfl (eQ [2] (ni cv ci) rfl (λw hs=>nY cv ci hs) (iJ iO (((aB cv ci).getD af).sx) ([a]) 1 22 (u_ 0) 8 iy nX (ef (i:=5) rfl) (by simp;omega) ?_))
   intro A20 c20
   refine cb<|bF 14 rfl (gV 3 233 3 ci ⟨A20,c20,(((aB cv ci).getD af).sx)++([a])⟩ rfl iS (eQ [0,0] [mN cv ci A20 c20 a] rfl (λw hs=>nZ cv ci A20 c20 ((((aB cv ci).getD af).sx)++([a])) hs) (dV ?_)))
   exact k7 (A20,c20) trivial<|mI (show V.sub _ [] from trivial)<|sd [4]
  refine eQ [2] (ni cv ci) rfl (λw hs=>nY cv ci hs) (iJ iO (((aB cv ci).getD af).sx) ([a]) 1 22 (u_ 0) 8 iy nX (ef (i:=5) rfl) (by simp;omega) ?_)
  intro A21 c21
  refine cb<|wN 1 [.ld 2] [3] (EJ ci A21 cv a c21 mc)<|bF 14 rfl (gV 3 233 3 ci ⟨A21,c21,(((aB cv ci).getD af).sx)++([a])⟩ rfl iS (eQ [0,0] [mN cv ci A21 c21 a] rfl (λw hs=>nZ cv ci A21 c21 ((((aB cv ci).getD af).sx)++([a])) hs) (dV ?_)))
  exact k7 (A21,c21) trivial<|mI (show V.sub _ [] from trivial)<|sd [4]
 obtain⟨A2,c2⟩:=zz_
 refine dW [] [mN cv ci A2 c2 a,uw bs mc mr,bH (λk:Int=>i_ k) kH mc<|aJ cv ci ⟨A2,c2,(((aB cv ci).getD af).sx)++([a])⟩,zm mr rv] trivial rfl (aE [(6,i_ 0)]<|aF<|bR [1,1,0,0] [i_ 0] (aJ cv ci ⟨A2,c2,(((aB cv ci).getD af).sx)++([a])⟩) ?_ ?_)
 ·rfl
 exact⟨_,_,rfl⟩
def nt(cv:List (Int×SL))(ci dn nb:Int):Int:=match((aB cv ci).getD af).sx with
 |[]=>6
 |x::_=>if nb<1 then 26 else if dn<x then 27 else 0
variable{cv:hV SL}{ci dn nb:Int}
theorem P4(h:(((aB cv ci).getD af).sx.length:Int)=0):nt cv ci dn nb=6:=by
 unfold nt;cases e:((aB cv ci).getD af).sx with
 |nil=>rfl
 |cons x xs=>rw[e] at h;simp at h;omega
theorem zH(h:((aB cv ci).getD af).sx[0]? =some x):nt cv ci dn nb=if nb<1 then 26 else if dn<x then 27 else 0:=by
 unfold nt;cases e:((aB cv ci).getD af).sx with
 |nil=>rw[e] at h;simp at h
 |cons y xs=>rw[e] at h;simp at h;subst h;rfl
theorem DJ(h:nt cv ci dn nb=0):1≤((aB cv ci).getD af).sx.length:=by
 unfold nt at h;cases e:((aB cv ci).getD af).sx with
 |nil=>rw[e] at h;simp at h
 |cons y xs=>simp
theorem Oh(h: ¬(((aB cv ci).getD af).sx.length:Int)=0)(h2:nb<1):nt cv ci dn nb=26:=by
 unfold nt;cases e:((aB cv ci).getD af).sx with
 |nil=>rw[e] at h;simp at h
 |cons y xs=>simp only;rw[if_pos h2]
def xp(s:SL):SL:=⟨ij s.sa s.sc 1 1,s.sc-1,s.sx.drop 1⟩
def yA(r:SR)(x dn nb:Int)(rl:Bool):SR:=⟨IntKind.u64.wrap<|r.sp+1,IntKind.u64.wrap<|r.sb+IntKind.u64.wrap nb,if rl then IntKind.u64.wrap (r.sr+1) else r.sr,IntKind.u64.wrap<|r.sw+IntKind.u64.wrap (dn-x),bV r.sg<|IntKind.u64.wrap<|dn-x⟩
theorem Ih{l:Wx}(h:l[0]? =some x):l.headD 0=x:=by cases l<;>simp_all
theorem Oi(bs mc mr:Nat)(cv:hV SL)(rv:hV SR)(ci dn nb:Int)(rl:Bool)(hw: ¬nt cv ci dn nb=0)(w:World)(r0:(aA bs [.map<|some mc,.map<|some mr] 157).holds w)(r1:(bH (λk:Int=>i_ k) kH mc cv).holds w)(r2:(fF 40 iO cv).holds w)(r3:(bH (λk:Int=>i_ k) (λy:SR=>(.agg #[u_ y.sp,u_ y.sb,u_ y.sr,u_ y.sw,u_ y.sg])) mr rv).holds w):
  CW 116 #[p_ bs,i_ ci,u_ dn,i_ nb,b_ rl] w (i_<|nt cv ci dn nb):=by
 refine aU Tryz.func116 rfl (HS.nil w) (aE []<|aD<|aE [(14,b_ false)]<|bM<|aO<|aC<|eI 5 [.rd [.map<|some mc]] [(18,.map<|some mc),(19,i_ ci)] (o1<|ro ⟨bs,0,none⟩ (vs:=[.map<|some mc])<|cE r0 rfl)<|aG<|cC (some 20) _ (qL 3 233 ci af (λw s=>bK s r1) iS)<|aQ [(11,.slice (((aB cv ci).getD af).sa) (((aB cv ci).getD af).sx.length)<|((aB cv ci).getD af).sc)]<|aD<|aR<|aE [(21,b_<|(((aB cv ci).getD af).sx.length:Int)==0)]<|aL rfl (λe1=>?_) (λe1=>?_))
 ·have p1:=e1;try simp only[cR] at p1
  refine aD ?_
  refine bZ [(10,i_ 6)] ?_
  refine aF ?_
  refine bJ [i_ 6] ?_
  refine congrArg (Value.int .i64) ?_;exact(P4 ‹_›).symm
 have p1:=e1;try simp only[cR] at p1
 refine aE [(25,b_<|decide (nb<1))]<|aL rfl (λe2=>?_) (λe2=>?_)
 ·have p2:=Zg e2
  refine aD ?_
  refine bZ [(10,i_ 26)] ?_
  refine aF ?_
  refine bJ [i_ 26] ?_
  refine congrArg (Value.int .i64) ?_;exact(Oh ‹_› ‹_›).symm
 have p2:=Zh e2
 refine aC<|eI 3 [.ix] [(29,u_ dn),(31,.pointer<|some<|(au<|((aB cv ci).getD af).sa).add (0*1))] (o1<|io (0:Int)<|dh iy (by decide) (cL (tq<|xJ r2 ci)<|by simp[aN])<|by(simp;omega)) ?_
 obtain⟨x1,hx1⟩: ∃x,(((aB cv ci).getD af).sx)[0]? =some x:=⟨_,Ze<|by omega⟩
 refine aj [.rd [u_ x1]] [(28,b_<|decide (dn<x1))] (o1<|ro ((au<|((aB cv ci).getD af).sa).add (0*1))<|dr (vs:=[u_ x1]) iy (cL (tq<|xJ r2 ci)<|by simp[aN]) hx1 (Nat.le_of_ble_eq_true rfl) rfl)<|aL rfl (λe3=>?_) (λe3=>?_)
 ·have p3:=Zg e3
  refine aD ?_
  refine bZ [(10,i_ 27)] ?_
  refine aF ?_
  refine bJ [i_ 27] ?_
  refine congrArg (Value.int .i64) ?_;(rw[zH ‹_›];(rw[if_neg<|by omega,if_pos<|by omega];done))
 exact absurd e3<|by(intro h_;apply hw;rw[zH ‹_›,if_neg<|by omega,if_neg (by simp at h_;omega)])
theorem Si(bs mc mr:Nat)(cv:hV SL)(rv:hV SR)(ci dn nb:Int)(rl:Bool)(hw:nt cv ci dn nb=0):
  CS 116 #[p_ bs,i_ ci,u_ dn,i_ nb,b_ rl] [aA bs [.map<|some mc,.map<|some mr] 157,bH (λk:Int=>i_ k) kH mc cv,fF 40 iO cv,bH (λk:Int=>i_ k) (λy:SR=>(.agg #[u_ y.sp,u_ y.sb,u_ y.sr,u_ y.sw,u_ y.sg])) mr rv] (λ(zz:Unit)=>(i_ 0)) (λ_=>True) λ_=>[aA bs [.map<|some mc,.map<|some mr] 157,bH (λk:Int=>i_ k) kH mc<|aJ cv ci<|xp<|(aB cv ci).getD af,fF 40 iO<|aJ cv ci<|xp<|(aB cv ci).getD af,bH (λk:Int=>i_ k) (λy:SR=>(.agg #[u_ y.sp,u_ y.sb,u_ y.sr,u_ y.sw,u_ y.sg])) mr<|aJ rv ci<|yA ((aB rv ci).getD di) (((aB cv ci).getD af).sx.headD 0) dn nb rl]:=by
 intro w hs
 have hpos:=DJ hw
 refine aU Tryz.func116 rfl hs (aE []<|aD<|aE [(14,b_ false)]<|bM<|aO<|(aC<|an 5 [.ld 0] [(18,.map<|some mc),(19,i_ ci)]<|aG<|cC (some 20) _ (kg (kt:=3) (et:=233) (enck:=(λk:Int=>i_ k)) (encv:=kH) (b:=mc) (kv:=cv) (k:=ci) (d0:=af) (λw s=>s.mem (i:=1) rfl) rfl rfl rfl (by kernel_rfl) iS (by kernel_rfl) rfl)<|aQ [(11,.slice (((aB cv ci).getD af).sa) (((aB cv ci).getD af).sx.length)<|((aB cv ci).getD af).sc)]<|aD<|aR<|aE [(21,b_<|(((aB cv ci).getD af).sx.length:Int)==0)]<|aL rfl (λe1=>?_) (λe1=>?_)))
 ·exact absurd e1<|by(intro h_;have h2_:=DJ hw;rw[beq_iff_eq] at h_;omega)
 refine aE [(25,b_<|decide (nb<1))]<|aL rfl (λe2=>?_) (λe2=>?_)
 ·exact absurd e2<|by(intro h_;have h2_:=DJ hw;obtain⟨x_,hx_⟩: ∃x,((aB cv ci).getD af).sx[0]? =some x:=⟨_,Ze h2_⟩;rw[zH hx_,if_pos<|by simpa using h_] at hw;omega)
 have p2:=Zh e2
 refine aC<|eI 3 [.ix] [(29,u_ dn),(31,.pointer<|some<|(au<|((aB cv ci).getD af).sa).add (0*1))] (o1<|io (0:Int)<|dh iy (by decide) (pZ 2 rfl ci)<|by(simp;omega)) ?_
 obtain⟨x1,hx1⟩: ∃x,(((aB cv ci).getD af).sx)[0]? =some x:=⟨_,Ze<|by omega⟩
 refine aj [.rd [u_ x1]] [(28,b_<|decide (dn<x1))] (o1<|ro ((au<|((aB cv ci).getD af).sa).add (0*1))<|dr (vs:=[u_ x1]) iy (pZ 2 rfl ci) hx1 (Nat.le_of_ble_eq_true rfl) rfl)<|aL rfl (λe3=>?_) (λe3=>?_)
 ·exact absurd e3<|by(intro h_;rw[zH ‹_›,if_neg<|by omega,if_pos<|by simpa using h_] at hw;omega)
 have p3:=Zh e3
 refine aO<|aC<|an 5 [.ld 0] [(37,.map<|some mr),(38,i_ ci)]<|aG<|cC (some 39) _ (kg (kt:=3) (et:=289) (enck:=(λk:Int=>i_ k)) (encv:=(λy:SR=>(.agg #[u_ y.sp,u_ y.sb,u_ y.sr,u_ y.sw,u_ y.sg]))) (b:=mr) (kv:=rv) (k:=ci) (d0:=di) (λw s=>s.mem (i:=3) rfl) rfl rfl rfl (by kernel_rfl) iS (by kernel_rfl) rfl)<|dM [.al,.st 4] [] (λb2=>[(12,p_ b2)]) (λb2=>[]) (λb2=>aA b2 [u_<|((aB rv ci).getD di).sp,u_<|((aB rv ci).getD di).sb,u_<|((aB rv ci).getD di).sr,u_<|((aB rv ci).getD di).sw,u_<|((aB rv ci).getD di).sg] 289) ?_
 intro b2
 refine aC<|bL [.ld 4,.st 4] [] [(4,aA b2 [u_<|wU<|(((aB rv ci).getD di).sp)+1,u_<|((aB rv ci).getD di).sb,u_<|((aB rv ci).getD di).sr,u_<|((aB rv ci).getD di).sw,u_<|((aB rv ci).getD di).sg] 289)]<|aC<|bL [.ld 4,.st 4] [] [(4,aA b2 [u_<|wU<|(((aB rv ci).getD di).sp)+1,u_<|wU<|(((aB rv ci).getD di).sb)+(wU<|nb),u_<|((aB rv ci).getD di).sr,u_<|((aB rv ci).getD di).sw,u_<|((aB rv ci).getD di).sg] 289)]<|aD<|aE [(50,b_ rl)]<|iD rl (λe4=>?_)<|λe4=>?_
 ·refine aM<|bL [.ld 4,.st 4] [] [(4,aA b2 [u_<|wU<|(((aB rv ci).getD di).sp)+1,u_<|wU<|(((aB rv ci).getD di).sb)+(wU<|nb),u_<|wU<|(((aB rv ci).getD di).sr)+1,u_<|((aB rv ci).getD di).sw,u_<|((aB rv ci).getD di).sg] 289)]<|aD<|bY [9] 10<|eR 1 [.ld 4,.ix,.rd [u_ x1]] (rg 0 9) [(62,u_<|wU<|(((aB rv ci).getD di).sw)+(wU<|dn-x1)),(63,q_ b2 3)] (oc (io (0:Int)<|dh iy (by decide) (pZ 2 rfl ci)<|by(simp;omega))<|o1<|ro ((au<|((aB cv ci).getD af).sa).add (0*1))<|dr (vs:=[u_ x1]) iy (pZ 2 rfl ci) hx1 (Nat.le_of_ble_eq_true rfl) rfl) ?_
  refine bF 9 rfl (dQ 4 [u_<|wU<|(((aB rv ci).getD di).sw)+(wU<|dn-x1)] rfl (dV<|aD<|bY [9] 10 ?_))
  refine eR 1 [.ld 4,.ix,.rd [u_ x1]] (rg 0 9) [(11,.slice (((aB cv ci).getD af).sa) (((aB cv ci).getD af).sx.length)<|((aB cv ci).getD af).sc),(12,p_ b2),(71,u_<|bV (((aB rv ci).getD di).sg)<|wU<|dn-x1),(72,q_ b2 4)] (oc (io (0:Int)<|dh iy (by decide) (pZ 2 rfl ci)<|by(simp;omega))<|o1<|ro ((au<|((aB cv ci).getD af).sa).add (0*1))<|dr (vs:=[u_ x1]) iy (pZ 2 rfl ci) hx1 (Nat.le_of_ble_eq_true rfl) rfl)<|bF 9 rfl (dQ 4 [u_<|bV (((aB rv ci).getD di).sg)<|wU<|dn-x1] rfl ?_)
  refine dV<|aD<|bY [6] 7<|cQ 1 [.ld 0,.ld 4] (rg 0 6) [(76,.map<|some mr),(77,i_ ci),(78,.agg #[u_<|wU<|(((aB rv ci).getD di).sp)+1,u_<|wU<|(((aB rv ci).getD di).sb)+(wU<|nb),u_<|wU<|(((aB rv ci).getD di).sr)+1,u_<|wU<|(((aB rv ci).getD di).sw)+(wU<|dn-x1),u_<|bV (((aB rv ci).getD di).sg)<|wU<|dn-x1])] ?_
  refine bF 6 rfl (gV 3 289 3 ci (⟨wU<|(((aB rv ci).getD di).sp)+1,wU<|(((aB rv ci).getD di).sb)+(wU<|nb),wU<|(((aB rv ci).getD di).sr)+1,wU<|(((aB rv ci).getD di).sw)+(wU<|dn-x1),bV (((aB rv ci).getD di).sg)<|wU<|dn-x1⟩:SR) rfl iS ?_)
  refine dV<|aD<|bY [7] 8<|cQ 2 [.ld 0] (rg 0 6) [(82,.map<|some mc),(83,i_ ci),(84,.slice (((aB cv ci).getD af).sa) (((aB cv ci).getD af).sx.length)<|((aB cv ci).getD af).sc)]<|lG 6 (some 85) (.slice (ij (((aB cv ci).getD af).sa) (((aB cv ci).getD af).sc) 1 1) (((((aB cv ci).getD af).sx).drop 1).length)<|((aB cv ci).getD af).sc-1) rfl (by kernel_rfl) (by kernel_rfl) (DR (e:=40) (xs:=(((aB cv ci).getD af).sx)) (sz:=1) 1 rfl rfl rfl (by kernel_rfl) (by kernel_rfl) (by omega) (IZ 2 rfl ci)) ?_
  refine bF 7 rfl (gV 3 233 1 ci ⟨ij (((aB cv ci).getD af).sa) (((aB cv ci).getD af).sc) 1 1,(((aB cv ci).getD af).sc-1),((((aB cv ci).getD af).sx).drop 1)⟩ rfl iS ?_)
  refine eQ [2] [fF 40 iO<|aJ cv ci ⟨ij (((aB cv ci).getD af).sa) (((aB cv ci).getD af).sc) 1 1,(((aB cv ci).getD af).sc-1),((((aB cv ci).getD af).sx).drop 1)⟩] rfl (λw hs=>JK (λ_=>rfl) cv ci (by omega) hs) ?_
  refine dV<|aE [(10,i_ 0)]<|aF ?_
  rw[show aJ cv ci ⟨ij (((aB cv ci).getD af).sa) (((aB cv ci).getD af).sc) 1 1,(((aB cv ci).getD af).sc-1),((((aB cv ci).getD af).sx).drop 1)⟩=(aJ cv ci<|xp<|(aB cv ci).getD af) from by rfl]
  rw[show aJ rv ci (⟨IntKind.u64.wrap<|(((aB rv ci).getD di).sp)+1,IntKind.u64.wrap<|(((aB rv ci).getD di).sb)+(IntKind.u64.wrap<|nb),IntKind.u64.wrap<|(((aB rv ci).getD di).sr)+1,IntKind.u64.wrap<|(((aB rv ci).getD di).sw)+(IntKind.u64.wrap<|dn-x1),bV (((aB rv ci).getD di).sg)<|IntKind.u64.wrap<|dn-x1⟩:SR)=(aJ rv ci<|yA ((aB rv ci).getD di) (((aB cv ci).getD af).sx.headD 0) dn nb rl) from by(unfold yA;rw[Ih ‹_›];simp_all;done)]
  refine bR [1,1,0,0] [i_ 0] () ?_ ?_
  ·rfl
  trivial
 refine az<|bY [9] 10<|eR 1 [.ld 4,.ix,.rd [u_ x1]] (rg 0 9) [(62,u_<|wU<|(((aB rv ci).getD di).sw)+(wU<|dn-x1)),(63,q_ b2 3)] (oc (io (0:Int)<|dh iy (by decide) (pZ 2 rfl ci)<|by(simp;omega))<|o1<|ro ((au<|((aB cv ci).getD af).sa).add (0*1))<|dr (vs:=[u_ x1]) iy (pZ 2 rfl ci) hx1 (Nat.le_of_ble_eq_true rfl) rfl)<|bF 9 rfl (dQ 4 [u_<|wU<|(((aB rv ci).getD di).sw)+(wU<|dn-x1)] rfl (dV<|aD<|bY [9] 10 ?_))
 refine eR 1 [.ld 4,.ix,.rd [u_ x1]] (rg 0 9) [(11,.slice (((aB cv ci).getD af).sa) (((aB cv ci).getD af).sx.length)<|((aB cv ci).getD af).sc),(12,p_ b2),(71,u_<|bV (((aB rv ci).getD di).sg)<|wU<|dn-x1),(72,q_ b2 4)] (oc (io (0:Int)<|dh iy (by decide) (pZ 2 rfl ci)<|by(simp;omega))<|o1<|ro ((au<|((aB cv ci).getD af).sa).add (0*1))<|dr (vs:=[u_ x1]) iy (pZ 2 rfl ci) hx1 (Nat.le_of_ble_eq_true rfl) rfl)<|bF 9 rfl (dQ 4 [u_<|bV (((aB rv ci).getD di).sg)<|wU<|dn-x1] rfl (cb ?_))
 refine eN<|aD<|bY [6] 7<|cQ 1 [.ld 0,.ld 4] (rg 0 6) [(76,.map<|some mr),(77,i_ ci),(78,.agg #[u_<|wU<|(((aB rv ci).getD di).sp)+1,u_<|wU<|(((aB rv ci).getD di).sb)+(wU<|nb),u_<|((aB rv ci).getD di).sr,u_<|wU<|(((aB rv ci).getD di).sw)+(wU<|dn-x1),u_<|bV (((aB rv ci).getD di).sg)<|wU<|dn-x1])] ?_
 refine bF 6 rfl (gV 3 289 3 ci (⟨wU<|(((aB rv ci).getD di).sp)+1,wU<|(((aB rv ci).getD di).sb)+(wU<|nb),((aB rv ci).getD di).sr,wU<|(((aB rv ci).getD di).sw)+(wU<|dn-x1),bV (((aB rv ci).getD di).sg)<|wU<|dn-x1⟩:SR) rfl iS (cb ?_))
 refine eN<|aD<|bY [7] 8<|cQ 2 [.ld 0] (rg 0 6) [(82,.map<|some mc),(83,i_ ci),(84,.slice (((aB cv ci).getD af).sa) (((aB cv ci).getD af).sx.length)<|((aB cv ci).getD af).sc)]<|lG 6 (some 85) (.slice (ij (((aB cv ci).getD af).sa) (((aB cv ci).getD af).sc) 1 1) (((((aB cv ci).getD af).sx).drop 1).length)<|((aB cv ci).getD af).sc-1) rfl (by kernel_rfl) (by kernel_rfl) (DR (e:=40) (xs:=(((aB cv ci).getD af).sx)) (sz:=1) 1 rfl rfl rfl (by kernel_rfl) (by kernel_rfl) (by omega) (IZ 2 rfl ci)) ?_
 refine bF 7 rfl (gV 3 233 1 ci ⟨ij (((aB cv ci).getD af).sa) (((aB cv ci).getD af).sc) 1 1,(((aB cv ci).getD af).sc-1),((((aB cv ci).getD af).sx).drop 1)⟩ rfl iS ?_)
 refine eQ [2] [fF 40 iO<|aJ cv ci ⟨ij (((aB cv ci).getD af).sa) (((aB cv ci).getD af).sc) 1 1,(((aB cv ci).getD af).sc-1),((((aB cv ci).getD af).sx).drop 1)⟩] rfl (λw hs=>JK (λ_=>rfl) cv ci (by omega) hs) ?_
 refine dV<|aE [(10,i_ 0)]<|aF ?_
 rw[show aJ cv ci ⟨ij (((aB cv ci).getD af).sa) (((aB cv ci).getD af).sc) 1 1,(((aB cv ci).getD af).sc-1),((((aB cv ci).getD af).sx).drop 1)⟩=(aJ cv ci<|xp<|(aB cv ci).getD af) from by rfl]
 rw[show aJ rv ci (⟨IntKind.u64.wrap<|(((aB rv ci).getD di).sp)+1,IntKind.u64.wrap<|(((aB rv ci).getD di).sb)+(IntKind.u64.wrap<|nb),((aB rv ci).getD di).sr,IntKind.u64.wrap<|(((aB rv ci).getD di).sw)+(IntKind.u64.wrap<|dn-x1),bV (((aB rv ci).getD di).sg)<|IntKind.u64.wrap<|dn-x1⟩:SR)=(aJ rv ci<|yA ((aB rv ci).getD di) (((aB cv ci).getD af).sx.headD 0) dn nb rl) from by(unfold yA;rw[Ih ‹_›];simp_all;done)]
 refine bR [1,1,0,0] [i_ 0] () ?_ ?_
 ·rfl
 trivial
end Go.Proofs.YtobgjpigngoggaaGreat
namespace Go.Proofs.YtobgjpigngoggaaGreat
open Go V
open Go.RowKit Go.Maps Go.Shelf
def Tryz.cloneA_ren:Go.Shelf.Ren:=⟨λ|5=>131|7=>168|n=>n,λ|23=>183|25=>3|3=>62|4=>4|20=>20|n=>n,λ|n=>n⟩
theorem Tryz.cloneA:Go.Proofs.SlLaysW.n5 Tryz.prog Tryz.cloneA_ren:={
 mixed:=by kernel_rfl,
 f5:=⟨Tryz.f131.name,by decide,Tryz.func131.trans<|congrArg some<|by kernel_rfl⟩,
 f7:=Tryz.func168.trans<|congrArg some<|by kernel_rfl,
 t4:=Tryz.underlying4,
 a4:=Tryz.isAgg4,
 z4:=Tryz.sizeOf4,
 v4:=Tryz.zeroValue4,
 t20:=Tryz.underlying20,
 a20:=Tryz.isAgg20,
 z20:=Tryz.sizeOf20,
 v20:=Tryz.zeroValue20,
 t23:=Tryz.underlying183,
 a23:=Tryz.isAgg183,
 z23:=Tryz.sizeOf183,
 v23:=Tryz.zeroValue183}
theorem PC(mb:Nat)(kv:hV Cl)(w:World)(r0:(cN mb kv).holds w)(hs:HI w []):
  CV 131 #[.map<|some mb] w [] (λ(mc:Nat)=>(.map<|some mc)) (λ_=>True) λmc=>[cN mc kv]:=by
 obtain⟨⟨es,clock,hp,hr⟩,hk⟩:=id r0
 refine(AnyW.maps_Clone Tryz.cloneA mb es clock w hp).mono ?_
 rintro e w' ⟨rfl,rfl⟩
 refine⟨w.heap.size,rfl,trivial,⟨Fr.alloc _ _ _,?_,by simp[aN,bH],by simp[aN,bH]⟩⟩
 intro it hi;simp only[List.mem_singleton] at hi;subst hi
 exact⟨⟨es,clock,(MapKept.heap_alloc w _).1,hr⟩,hk⟩
set_option maxHeartbeats 4000000 in
set_option maxRecDepth 100000 in
theorem J9(bt mb:Nat)(kv:hV Cl)(w:World)(r0:(aA bt [.map<|some mb] 185).holds w)(r1:(cN mb kv).holds w)(hs:HI w []):
  CV 91 #[p_ bt] w [] (λ((bc,mc):Nat×Nat)=>(p_ bc)) (λ_=>True) λ(bc,mc)=>[aA bc [.map<|some mc] 185,cN mc kv]:=by
 refine aU Tryz.func91 rfl hs (dW [(0,p_ bt)] [] (by exact⟨rfl,trivial⟩) rfl (aD<|bZ []<|aD<|aD<|bZ [(4,b_ false)]<|oW rfl (az<|aM<|eI 4 [.rd [.map<|some mb]] [(8,.map<|some mb)] (o1<|ro ⟨bt,0,none⟩ (vs:=[.map<|some mb])<|cE r0 rfl)<|aG<|dH (some 9) [] (λw s h=>PC mb kv w (bK s r1) h) ?_)))
 rintro mc1-
 refine dM [.al] [] (λb2=>[(2,p_ b2)]) (λ_=>[]) (λb2=>aA b2 [.map<|some mc1] 185) ?_
 intro b2
 refine aF<|cP [1,0] [p_ b2] (λ_ w r s=>⟨cw r rfl,trivial⟩) (b2,mc1) ?_ ?_<|by kernel_rfl
 ·rfl
 ·trivial
end Go.Proofs.YtobgjpigngoggaaGreat
namespace Go.Proofs.YtobgjpigngoggaaGreat
open Go V
def nH(v:Int):Int:=v/18446744073709551616
def nL(v:Int):Int:=v%18446744073709551616
def bX:Int:=340282366920938463463374607431768211456
theorem zr(x y:Nat):(x&&&y)/9223372036854775808=(x/9223372036854775808)&&&(y/9223372036854775808):=by
 have:=Nat.shiftRight_and_distrib (a:=x) (b:=y) (i:=63)
 simpa[Nat.shiftRight_eq_div_pow] using this
theorem FA(x y:Nat):(x|||y)/9223372036854775808=(x/9223372036854775808)|||(y/9223372036854775808):=by
 have:=Nat.shiftRight_or_distrib (a:=x) (b:=y) (i:=63)
 simpa[Nat.shiftRight_eq_div_pow] using this
theorem P5(a b s c:Nat)(ha:a<18446744073709551616)(hb:b<18446744073709551616)(hc:c≤1)(hs:s=(a+b+c)%18446744073709551616):
  ((a&&&b)|||((a|||b)&&&(18446744073709551615-s)))/9223372036854775808=(a+b+c)/18446744073709551616:=by
 have hs2:s<18446744073709551616:=by rw[hs];omega
 rw[FA,zr,zr,FA]
 have e:(18446744073709551615-s)/9223372036854775808=1-s/9223372036854775808:=by omega
 rw[e]
 have hA:a/9223372036854775808=0∨a/9223372036854775808=1:=by omega
 have hB:b/9223372036854775808=0∨b/9223372036854775808=1:=by omega
 have hS:s/9223372036854775808=0∨s/9223372036854775808=1:=by omega
 rcases hA with hA|hA<;>rcases hB with hB|hB<;>rcases hS with hS|hS<;>rw[hA,hB,hS]<;>simp<;>omega
theorem P6{a b c s:Int}(ha:0≤a∧a<18446744073709551616)(hb:0≤b∧b<18446744073709551616)(hc:0≤c∧c≤1)(hs:s=(a+b+c)%18446744073709551616):
  ag .or .u64 (ag .and .u64 a b) (ag .andNot .u64 (ag .or .u64 a b) s)/9223372036854775808=(a+b+c)/18446744073709551616:=by
 obtain⟨A,rfl⟩:=Int.eq_ofNat_of_zero_le ha.1
 obtain⟨B,rfl⟩:=Int.eq_ofNat_of_zero_le hb.1
 obtain⟨C,rfl⟩:=Int.eq_ofNat_of_zero_le hc.1
 obtain⟨T,rfl⟩:=Int.eq_ofNat_of_zero_le (show 0≤s by omega)
 have h1:ag .and .u64 (A:Int) (B:Int)=((A&&&B:Nat):Int):=u64_and_nat A B (by omega)<|by omega
 have h2:ag .or .u64 (A:Int) (B:Int)=((A|||B:Nat):Int):=u64_or_nat A B (by omega)<|by omega
 have hl:A|||B<2^64:=Nat.or_lt_two_pow (by omega)<|by omega
 have h3:ag .andNot .u64 ((A|||B:Nat):Int) (T:Int)=(((A|||B)&&&(18446744073709551615-T):Nat):Int):=u64_andNot_nat (A|||B) T (by omega)<|by omega
 have hl2:A&&&B<2^64:=Nat.and_lt_two_pow _<|by omega
 have hl3:(A|||B)&&&(18446744073709551615-T)<2^64:=Nat.and_lt_two_pow _<|by omega
 have h4:ag .or .u64 ((A&&&B:Nat):Int) (((A|||B)&&&(18446744073709551615-T):Nat):Int)=(((A&&&B)|||((A|||B)&&&(18446744073709551615-T)):Nat):Int):=u64_or_nat _ _ (by omega)<|by omega
 rw[h1,h2,h3,h4]
 have:=P5 A B T C (by omega) (by omega) (by omega)<|by omega
 omega
variable{x:Int}
theorem nf(h:0≤x∧x<18446744073709551616):ag .and .u64 x 4294967295=x%4294967296:=by
 obtain⟨A,rfl⟩:=Int.eq_ofNat_of_zero_le h.1
 have h1:ag .and .u64 (A:Int) ((4294967295:Nat):Int)=((A&&&4294967295:Nat):Int):=u64_and_nat A 4294967295 (by omega)<|by omega
 have h2:=Nat.and_two_pow_sub_one_eq_mod A 32
 show ag .and .u64 (A:Int) ((4294967295:Nat):Int)=_
 rw[h1,show(4294967295:Nat)=2^32-1 by decide,h2];omega
theorem EK(p:Nat)(hp:p<64){y:Int}(hx:0≤x∧x<18446744073709551616)(hy:0≤y∧y<(2:Int)^p)(hm:x%(2:Int)^p=0):ag .or .u64 x y=x+y:=by
 obtain⟨A,rfl⟩:=Int.eq_ofNat_of_zero_le hx.1
 obtain⟨B,rfl⟩:=Int.eq_ofNat_of_zero_le hy.1
 have h2:(2:Int)^p=((2^p:Nat):Int):=by simp
 rw[h2] at hm hy
 have hB:B<2^p:=by omega
 have hp2:2^p<2^64:=Nat.pow_lt_pow_right (by decide) hp
 have hA:A%2^p=0:=by omega
 obtain⟨q,hq⟩:=Nat.dvd_of_mod_eq_zero hA
 have h1:ag .or .u64 (A:Int) (B:Int)=((A|||B:Nat):Int):=u64_or_nat A B (by omega)<|by omega
 rw[h1,hq,←Nat.two_pow_add_eq_or_of_lt hB];simp
theorem FB(a b:Int)(ha:0≤a∧a<18446744073709551616)(hb:0≤b∧b<18446744073709551616):
  a*b=(a/4294967296)*(b/4294967296)*18446744073709551616+((a/4294967296)*(b%4294967296)+(a%4294967296)*(b/4294967296))*4294967296+(a%4294967296)*(b%4294967296):=by
 have e1:=Int.mul_ediv_add_emod a 4294967296
 have e2:=Int.mul_ediv_add_emod b 4294967296
 generalize a/4294967296=ah at*;generalize a%4294967296=al at*
 generalize b/4294967296=bh at*;generalize b%4294967296=bl at*
 subst e1;subst e2
 simp only[Int.mul_add,Int.add_mul]
 have c1:4294967296*ah*(4294967296*bh)=ah*bh*18446744073709551616:=by
  rw[Int.mul_assoc,Int.mul_left_comm ah,←Int.mul_assoc,Int.mul_comm];rfl
 have c2:al*(4294967296*bh)=al*bh*4294967296:=by rw[Int.mul_left_comm,Int.mul_comm]
 have c3:4294967296*ah*bl=ah*bl*4294967296:=by rw[Int.mul_assoc,Int.mul_comm]
 rw[c1,c2,c3];omega
theorem nC{y:Int}(hx:0≤x∧x<4294967296)(hy:0≤y∧y<4294967296):0≤x*y∧x*y≤18446744065119617025:=by
 refine⟨Int.mul_nonneg hx.1 hy.1,?_⟩
 have h1:=Int.mul_le_mul_of_nonneg_left (show y≤4294967295 by omega) hx.1
 have h2:=Int.mul_le_mul_of_nonneg_right (show x≤4294967295 by omega) (show(0:Int)≤4294967295 by decide)
 omega
def oC(a b:Int):Int:=if a<b then-1 else if a=b then 0 else 1
theorem Kx{v:Int}(h:0≤v∧v<bX):0≤nH v∧nH v<18446744073709551616:=by unfold nH;unfold bX at h;omega
theorem Ky(v:Int):0≤nL v∧nL v<18446744073709551616:=by unfold nL;omega
theorem Kz{r p:Int}(hr:0≤r)(hp:0≤p):ag .or .u64 (IntKind.u64.wrap<|r*4294967296) (p%4294967296)=(r%4294967296)*4294967296+p%4294967296:=by
 rw[IntKind.wrap_u64,EK 32 (by decide) (by omega) (by omega)<|by omega];omega
theorem xd(a b c:Int):mV a b c=(a+b+c)%18446744073709551616:=by unfold mV;rw[IntKind.wrap_u64,IntKind.wrap_u64];omega
theorem LA{a b c:Int}(ha:0≤a∧a<18446744073709551616)(hb:0≤b∧b<18446744073709551616)(hc:0≤c∧c≤1):jm a b c=(a+b+c)/18446744073709551616:=
 P6 ha hb hc (xd a b c)
theorem P7(a b:Int)(ha:0≤a∧a<bX)(hb:0≤b∧b<bX)(w:World):
  CW 229 #[.agg #[u_<|nH a,u_<|nL a],.agg #[u_<|nH b,u_<|nL b]] w (i_<|oC a b):=by
 have h:=Fq ⟨nH a,nL a⟩ ⟨nH b,nL b⟩ w
 rw[show ly ⟨nH a,nL a⟩ ⟨nH b,nL b⟩=oC a b by unfold ly oC nH nL;unfold bX at*;dsimp only;(repeat' split)<;>omega] at h
 exact h
theorem IB(a b:Int)(ha:0≤a∧a<18446744073709551616)(hb:0≤b∧b<18446744073709551616)(w:World):
  CW 205 #[u_ a,u_ b] w (.agg #[u_<|nH<|a*b,u_<|nL<|a*b]):=by
 have e0:=FB a b ha hb
 have p1:=nC (x:=a%4294967296) (y:=b%4294967296) (by omega) (by omega);have p2:=nC (x:=a/4294967296) (y:=b%4294967296) (by omega) (by omega);have p3:=nC (x:=a%4294967296) (y:=b/4294967296) (by omega) (by omega);have p4:=nC (x:=a/4294967296) (y:=b/4294967296) (by omega)<|by omega
 have h:=sK a b w
 have l:lz a b=a%4294967296*(b%4294967296):=by unfold lz;rw[nf ha,nf hb,wrap_u64<|by omega]
 have d:kV a b=a/4294967296*(b%4294967296)+lz a b/4294967296:=by unfold kV;rw[nf hb,wrap_u64 (e:=a/4294967296*(b%4294967296))<|by omega,wrap_u64<|by omega]
 have r:om a b=a%4294967296*(b/4294967296)+kV a b%4294967296:=by unfold om;rw[nf ha,nf (x:=kV a b)<|by omega,wrap_u64 (e:=a%4294967296*(b/4294967296))<|by omega,wrap_u64<|by omega]
 rw[show aH a b=⟨nH<|a*b,nL<|a*b⟩ by
  unfold aH;rw[nf (x:=lz a b)<|by omega,Kz (by omega)<|by omega,wrap_u64 (e:=a/4294967296*(b/4294967296))<|by omega,wrap_u64 (e:=_+kV a b/4294967296)<|by omega,wrap_u64<|by omega,e0]
  unfold nH nL;rw[Nm.mk.injEq];omega] at h
 exact h
end Go.Proofs.YtobgjpigngoggaaGreat
namespace Go.Proofs.YtobgjpigngoggaaGreat
open Go V
def fm(x:Int):List Value:=[u_ x]
theorem rO(x:Int):(fm x).length=1:=rfl
theorem zI(x:Int):(fm x).all Value.oneCell'=true:=rfl
theorem mK{α:Type}{l:List α}{k:Nat}{x:α}(hx:l[k]? =some x):l.take (k+1)=l.take k++[x]:=by rw[List.take_add_one,hx];rfl
def oD(t:Int)(l:List Cv):Int:=0
namespace V
theorem OC{P:Program}{n:Nat}{env:aT}{H:List V.aI}{fn:Func}{w:World}{v:Value}(vs:Za)(hv: ∀a w1,Rep n env a→HS w [] H w1→qG P w1 a fn.results.toList vs)(hx:mS vs=v):
 V.A n env w [] H (bodyPost P fn (λe w'=>e= .returned v∧Fr [] w w') .normal):=u0 vs hv λ_ s=>⟨by rw[hx],s.fr⟩
end V
open Go.RowKit Go.Shelf
def Tryz.lenA_ren:Go.Shelf.Ren:=⟨λ|8=>140|19=>192|20=>193|n=>n,λ|32=>263|3=>3|44=>312|46=>40|4=>4|5=>5|9=>9|n=>n,λ|n=>n⟩
theorem Tryz.lenA:Go.Proofs.SlLaysM.n8 Tryz.prog Tryz.lenA_ren:={
 mixed:=by kernel_rfl,
 f8:=Tryz.func140.trans<|congrArg some<|by kernel_rfl,
 f19:=Tryz.func192.trans<|congrArg some<|by kernel_rfl,
 f20:=Tryz.func193.trans<|congrArg some<|by kernel_rfl,
 t3:=Tryz.underlying3,
 a3:=Tryz.isAgg3,
 z3:=Tryz.sizeOf3,
 v3:=Tryz.zeroValue3,
 t4:=Tryz.underlying4,
 a4:=Tryz.isAgg4,
 z4:=Tryz.sizeOf4,
 v4:=Tryz.zeroValue4,
 t5:=Tryz.underlying5,
 a5:=Tryz.isAgg5,
 z5:=Tryz.sizeOf5,
 v5:=Tryz.zeroValue5,
 t9:=Tryz.underlying9,
 a9:=Tryz.isAgg9,
 z9:=Tryz.sizeOf9,
 v9:=Tryz.zeroValue9,
 t32:=Tryz.underlying263,
 a32:=Tryz.isAgg263,
 z32:=Tryz.sizeOf263,
 v32:=Tryz.zeroValue263,
 t44:=Tryz.underlying312,
 a44:=Tryz.isAgg312,
 z44:=Tryz.sizeOf312,
 v44:=Tryz.zeroValue312,
 t46:=Tryz.underlying40,
 a46:=Tryz.isAgg40,
 z46:=Tryz.sizeOf40,
 v46:=Tryz.zeroValue40}
theorem Qd(n:Nat)(hn:n<18446744073709551616)(w:World):
  CW 140 #[u_ (n:Int)] w (i_ (Lib.bitLen n:Int)):=by
 refine(calls_of_every_depth λD=>AnySM.bits_LenIn Tryz.lenA D (n:Int) w (by omega)<|by omega).mono ?_
 rintro e w' ⟨rfl,rfl⟩
 exact⟨by simp,Fr.refl _ _⟩
theorem YN(w:World):Calls Tryz.prog 140 #[u_ 0] w λe w'=>e= .returned (i_ 0)∧Fr [] w w':=Qd 0 (by decide) w
theorem YO(w:World):
  CQ Tryz.prog 272 #[e_,i_ 0,i_ 0] w (.tuple #[]):=by
 refine aU Tryz.func272 rfl (HS.nil w) ?_
 refine aC<|aQ [(6,i_ 1)]<|aR<|i4 400<|cd (m:=399)<|bS<|aQ [(12,b_ false)]<|bM<|bg<|OC [] (λ_ w r s=>trivial) ?_
 rfl
theorem YP(w:World):
  CQ Tryz.prog 259 #[e_,i_ 0,i_ 0,i_ 0] w (.tuple #[]):=by
 refine aU Tryz.func259 rfl (HS.nil w) ?_
 refine aC<|aQ [(8,b_ true)]<|aC<|aQ [(9,b_ true)]<|aR<|i4 400<|cd (m:=399)<|aR<|aC<|aQ [(10,i_ 0)]<|bS<|aQ [(23,b_ true)]<|dU<|aC<|aj [.cq<|.tuple #[]] [] (o1<|qw YO)<|aF<|fE [] (λ_ w r s=>trivial) ?_
 rfl
theorem YQ(w:World):
  CQ Tryz.prog 227 #[e_] w (.tuple #[]):=by
 refine aU Tryz.func227 rfl (HS.nil w) ?_
 refine dW [(0,e_)] [] ⟨rfl,trivial⟩ rfl (aC<|aQ [(0,e_),(2,i_ 0)]<|aM<|aj [.cq<|i_ 0,.cq<|.tuple #[]] [] (oc (qw YN)<|o1<|qw YP)<|OC [] (λ_ w r s=>trivial) ?_)
 rfl
theorem YR(w:World):
  CQ Tryz.prog 228 #[e_] w e_:=by
 refine aU Tryz.func228 rfl (HS.nil w) ?_
 refine aC<|aQ []<|bS<|aQ [(8,b_ true)]<|dU<|aC<|aQ [(2,e_)]<|aF<|bJ [e_] ?_
 rfl
theorem YS(al:k0)(cl:Nat)(w:World):
  CQ Tryz.prog 177 #[.slice al 0 cl] w e_:=by
 refine aU Tryz.func177 rfl (HS.nil w) ?_
 refine aC<|aQ []<|aC<|aQ [(3,e_)]<|bS<|aQ [(7,.slice al 0 cl),(8,i_ 0),(9,i_ 0)]<|aR<|i4 400<|cd (m:=399)<|aC<|aQ [(10,b_ false)]<|aD<|bM<|bg<|aC<|aj [.cq<|.tuple #[]] [] (o1<|qw YQ)<|aC<|aj [.cq e_] [(2,e_)] (o1<|qw YR)<|aF<|bJ [e_] ?_
 rfl
theorem YT(al:k0)(cl:Nat)(w:World):
  CQ Tryz.prog 182 #[.slice al 0 cl] w (.agg #[u_ 0,u_ 0]):=by
 refine aU Tryz.func182 rfl (HS.nil w) ?_
 refine aC<|dL [.al] [] (λb1=>[(2,p_ b1)]) (λb1=>aA b1 [u_ 0,u_ 0] 213) ?_
 intro b1
 refine aC<|cV [.p] [(3,.slice al 0 cl)]<|aG<|eM (some 4) [.slice al 0 cl,.func (.func 234) #[] #[]] Tryz.func231 rfl (aC<|dL [.al] [] (λb2=>[(4,p_ b2)]) (λb2=>aA b2 [u_ 0,u_ 0] 213) ?_)
 intro b2
 refine aC<|dL [.al] [] (λb3=>[(5,p_ b3)]) (λb3=>aA b3 [u_ 0,u_ 0] 213) ?_
 intro b3
 refine bS<|aQ [(8,.slice al 0 cl),(9,i_ 0),(10,i_ 0)]<|aR<|i4 400<|cd (m:=399)<|aC<|aQ [(11,b_ false)]<|aD<|bM<|bg<|aC<|bL [.ld 2,.st 1] [] []<|aF<|tH [.agg #[u_ 0,u_ 0]] (λ_ w r s=>⟨dS 1 r s,trivial⟩)<|pG (by kernel_rfl)<|j6 [aA b1 [u_ 0,u_ 0] 213] (sd [2,1])<|bL [.st 0] [(2,p_ b1)] [(0,aA b1 [u_ 0,u_ 0] 213)]<|aF<|ez 0 [u_ 0,u_ 0] ?_
 rfl
abbrev FC(p0):=([u_<|wU<|(nH<|0*(wU<|p0))+(wU<|0*(wU<|p0)),u_<|nL<|0*(wU<|p0)]:Za)
theorem YU(t:Int)(ht:1≤t∧t≤65536)(w:World):
  CQ Tryz.prog 230 #[.agg #[u_ 0,u_ 0],i_ t] w (.agg #[u_ 0,u_ 0]):=by
 refine aU Tryz.func230 rfl (HS.nil w) ?_
 refine aC<|iK [.al,.al] [] (λb1 b2=>[(2,p_ b1),(4,p_ b2)]) (λb1 b2=>[aA b1 [u_ 0,u_ 0] 213,aA b2 [u_ 0,u_ 0] 213]) ?_
 intro b1 b2
 refine aC<|jI [.ld 0,.cq<|.agg #[u_<|nH<|0*(IntKind.u64.wrap<|t),u_<|nL<|0*(IntKind.u64.wrap<|t)],.al,.st 2] [] (λb3=>[(5,p_ b3)]) (λb3=>[]) (λb3=>aA b3 [u_<|nH<|0*(IntKind.u64.wrap<|t),u_<|nL<|0*(IntKind.u64.wrap<|t)] 213) (λb3=>o1<|qo<|λw s=>IB 0 (IntKind.u64.wrap<|t) (by omega) (by(rw[IntKind.wrap_u64];omega)) w) ?_
 intro b3
 refine aC<|bL [.ld 2,.ld 0,.st 2] [] [(2,aA b3 (FC t) 213)]<|aC<|bL [.ld 2,.st 1] [] [(1,aA b2 (FC t) 213)]<|aF<|ez 1 (FC t) ?_
 show((.agg #[u_<|IntKind.u64.wrap<|(nH<|0*(IntKind.u64.wrap<|t))+(IntKind.u64.wrap<|0*(IntKind.u64.wrap<|t)),u_<|nL<|0*(IntKind.u64.wrap<|t)]):Value)=(.agg #[u_ 0,u_ 0])
 (rw[Int.zero_mul];rfl)
theorem YV(t:Int)(ht:1≤t∧t≤65536)(w:World):
  CQ Tryz.prog 180 #[.agg #[u_ 0,u_ 0],i_ t,u_ 1] w (b_ false):=by
 refine aU Tryz.func180 rfl (HS.nil w) ?_
 refine aC<|dL [.al] [] (λb1=>[(3,p_ b1)]) (λb1=>aA b1 [u_ 0,u_ 0] 213) ?_
 intro b1
 refine aC<|aj [.ld 0,.cq<|.agg #[u_ 0,u_ 0],.cq<|.agg #[u_<|nH<|65536*1,u_<|nL<|65536*1],.cq<|i_<|oC 0<|65536*1] [(6,b_<|decide ((oC 0<|65536*1)>0))] (oc (qo<|λw s=>YU t ‹_› w)<|oc (qw<|IB 65536 1 (by omega)<|by omega)<|o1<|qw<|P7 0 (65536*1) (by(unfold bX;omega))<|by(unfold bX;omega))<|aF<|bJ [b_<|decide ((oC 0<|65536*1)>0)] ?_
 show((b_<|decide ((oC 0<|65536*1)>0)):Value)=(b_ false)
 rfl
theorem N6(al:k0)(cl:Nat)(t:Int)(ht:1≤t∧t≤65536)(w:World):
  CQ Tryz.prog 136 #[i_ t,.slice al 0 cl] w (i_ 0):=by
 refine aU Tryz.func136 rfl (HS.nil w) ?_
 refine aC<|aQ []<|aD<|aR<|aC<|bB [.o,.cl] [(5,b_<|(decide (t<1))||(decide (t>65536)))]<|aL rfl (λe1=>?_) (λe1=>?_)
 ·exact absurd e1<|by(intro h_;simp at h_;omega)
 refine aC<|cV [.p] [(13,.slice al 0 cl)] ?_
 refine aG<|eM (some 14) [.slice al 0 cl,.func (.func 175) #[] #[]] Tryz.func174 rfl (aC<|aQ []<|aC<|an 2 [] [(5,.slice al 0 cl),(6,.func (.func 175) #[] #[])]<|aG<|eM (some 7) [.slice al 0 cl,.func (.func 175) #[] #[]] Tryz.func226 rfl (aC<|aQ []<|bS<|aQ [(7,i_ 0),(8,i_ 0)]<|aR<|i4 400<|cd (m:=399)<|aC<|aQ [(9,b_ false)]<|aD<|bM<|bg<|aC<|aQ [(4,i_ (-1))]<|aF<|d6 [i_ (-1)]<|aQ [(4,b_ false)]<|aF<|d6 [b_ false]<|aQ [(12,b_ false)]<|bM<|aO<|aC<|aQ [(4,i_ 0)]<|aF<|bJ [i_ 0] ?_))
 rfl
theorem YW(al:k0)(cl:Nat)(t:Int)(ht:1≤t∧t≤65536)(w:World):
  CQ Tryz.prog 137 #[i_ t,.slice al 0 cl] w (.tuple #[u_ 0,b_ false]):=by
 refine aU Tryz.func137 rfl (HS.nil w) ?_
 refine aC<|iK [.al,.al] [] (λb1 b2=>[(2,p_ b1),(3,p_ b2)]) (λb1 b2=>[aA b1 [i_ t] 3,aA b2 [.slice al 0 cl] 125]) ?_
 intro b1 b2
 refine bS<|aj [.ld 0,.ld 1,.cq<|i_ 0] [(11,b_ false)] (o1<|qo<|λw s=>N6 al cl t ‹_› w)<|bM<|aO<|aC<|aj [.ld 1,.cq e_] [(6,e_)] (o1<|qw<|YS al cl)<|aC<|an 2 [] [(14,e_),(15,.func (.func 179) #[] #[p_ b2,p_ b1])]<|aG<|eM (some 16) [e_,.func (.func 179) #[] #[p_ b2,p_ b1]] Tryz.func178 rfl (aC<|aQ []<|bS<|aQ [(7,i_ 0),(8,i_ 0)]<|aR<|i4 400<|cd (m:=399)<|aC<|aQ [(9,b_ false)]<|aD<|bM<|bg<|aC<|aQ [(4,i_ (-1))]<|aF<|d6 [i_ (-1)]<|aQ [(2,p_ b1),(3,p_ b2),(6,e_),(7,i_ (-1))]<|bS<|aQ [(18,b_ false)]<|bM<|az<|jw [.ld 1,.cq<|.agg #[u_ 0,u_ 0],.ld 0,.cq<|b_ false] (rg 0 6) [] [(4,u_ 0),(5,b_ false)] (oc (qw<|YT al cl)<|o1<|qo<|λw s=>YV t ‹_› w)<|aF<|bJ [u_ 0,b_ false] ?_)
 rfl
theorem XR(al:k0)(cl:Nat)(t:Int)(ht:1≤t∧t≤65536)(w:World):
  CQ Tryz.prog 93 #[i_ t,.slice al 0 cl] w (i_ 0):=by
 refine aU Tryz.func93 rfl (HS.nil w) ?_
 refine aC<|aQ []<|bS<|aj [.cq<|i_ 0] [(5,i_ 0)] (o1<|qo<|λw s=>N6 al cl t ‹_› w)<|aC<|aQ [(12,b_ false)]<|bM<|aO<|bS<|aj [.cq<|.tuple #[u_ 0,b_ false]] [(7,b_ false)] (o1<|qo<|λw s=>YW al cl t ‹_› w)<|aC<|aQ [(20,b_ false)]<|iD false (λe1=>?_)<|λe1=>?_
 ·refine aC<|aQ [(4,i_ 22)]<|aF<|bJ [i_ 22] ?_
  show((i_ 22):Value)=(i_ 0)
  simp_all
 refine aO<|aC<|aQ [(4,i_ 0)] ?_
 refine aF<|bJ [i_ 0] ?_
 rfl
theorem IC(t:Int)(al:k0)(l:List Cv)(cl:Nat)(hl0:l=[])(ht:1≤t∧t≤65536)(w:World):CW 93 #[i_ t,vS al l cl] w (i_<|oD t l):=by
 subst hl0;exact XR al cl t ht w
end Go.Proofs.YtobgjpigngoggaaGreat
namespace Go.Proofs.YtobgjpigngoggaaGreat
open Go V
structure Zc where
 zk:Int
 zi:Int
 zp:Int
 zl:Bool
 ya:Int
 yb:Int
 yc:Int
 va:Int
 vb:Int
 vc:Int
 wa:Int
 wb:Int
 wc:Int
 zn:Int
 zq:Int
 deriving Inhabited,DecidableEq
def gv(x:Zc):List Value:=[(i_ x.zk),(i_ x.zi),(i_ x.zp),(b_ x.zl),(u_ x.ya),(u_ x.yb),(u_ x.yc),(u_ x.va),(u_ x.vb),(u_ x.vc),(u_ x.wa),(u_ x.wb),(u_ x.wc),(i_ x.zn),(i_ x.zq)]
theorem tN(x:Zc):(gv x).length=15:=rfl
def iQ(x:Zc):Prop:=((-9223372036854775808)≤x.zk∧x.zk≤9223372036854775807)∧((-9223372036854775808)≤x.zi∧x.zi≤9223372036854775807)∧((-9223372036854775808)≤x.zp∧x.zp≤9223372036854775807)∧True∧(0≤x.ya∧x.ya≤18446744073709551615)∧(0≤x.yb∧x.yb≤18446744073709551615)∧(0≤x.yc∧x.yc≤18446744073709551615)∧(0≤x.va∧x.va≤18446744073709551615)∧(0≤x.vb∧x.vb≤18446744073709551615)∧(0≤x.vc∧x.vc≤18446744073709551615)∧(0≤x.wa∧x.wa≤18446744073709551615)∧(0≤x.wb∧x.wb≤18446744073709551615)∧(0≤x.wc∧x.wc≤18446744073709551615)∧((-9223372036854775808)≤x.zn∧x.zn≤9223372036854775807)∧((-9223372036854775808)≤x.zq∧x.zq≤9223372036854775807)
def N7:List FK:=[.int .i64,.int .i64,.int .i64,.bool,.int .u64,.int .u64,.int .u64,.int .u64,.int .u64,.int .u64,.int .u64,.int .u64,.int .u64,.int .i64,.int .i64]
theorem VW(cs:Za)(h:nq N7 cs): ∃x,cs=gv x∧iQ x:=by
 unfold N7 at h
 obtain⟨v0,cs0,rfl,h0,g0⟩:=fx h
 obtain⟨a0,rfl,r0⟩:=pV h0
 obtain⟨v1,cs1,rfl,h1,g1⟩:=fx g0
 obtain⟨a1,rfl,r1⟩:=pV h1
 obtain⟨v2,cs2,rfl,h2,g2⟩:=fx g1
 obtain⟨a2,rfl,r2⟩:=pV h2
 obtain⟨v3,cs3,rfl,h3,g3⟩:=fx g2
 obtain⟨a3,rfl⟩:=QH h3
 obtain⟨v4,cs4,rfl,h4,g4⟩:=fx g3
 obtain⟨a4,rfl,r4⟩:=o6 h4
 obtain⟨v5,cs5,rfl,h5,g5⟩:=fx g4
 obtain⟨a5,rfl,r5⟩:=o6 h5
 obtain⟨v6,cs6,rfl,h6,g6⟩:=fx g5
 obtain⟨a6,rfl,r6⟩:=o6 h6
 obtain⟨v7,cs7,rfl,h7,g7⟩:=fx g6
 obtain⟨a7,rfl,r7⟩:=o6 h7
 obtain⟨v8,cs8,rfl,h8,g8⟩:=fx g7
 obtain⟨a8,rfl,r8⟩:=o6 h8
 obtain⟨v9,cs9,rfl,h9,g9⟩:=fx g8
 obtain⟨a9,rfl,r9⟩:=o6 h9
 obtain⟨v10,cs10,rfl,h10,g10⟩:=fx g9
 obtain⟨a10,rfl,r10⟩:=o6 h10
 obtain⟨v11,cs11,rfl,h11,g11⟩:=fx g10
 obtain⟨a11,rfl,r11⟩:=o6 h11
 obtain⟨v12,cs12,rfl,h12,g12⟩:=fx g11
 obtain⟨a12,rfl,r12⟩:=o6 h12
 obtain⟨v13,cs13,rfl,h13,g13⟩:=fx g12
 obtain⟨a13,rfl,r13⟩:=pV h13
 obtain⟨v14,cs14,rfl,h14,g14⟩:=fx g13
 obtain⟨a14,rfl,r14⟩:=pV h14
 obtain rfl:=u5 g14
 exact⟨⟨a0,a1,a2,a3,a4,a5,a6,a7,a8,a9,a10,a11,a12,a13,a14⟩,rfl,r0,r1,r2,trivial,r4,r5,r6,r7,r8,r9,r10,r11,r12,r13,r14⟩
def oO(z:Zc):Cl:=⟨z.zi,z.zp,z.zl,z.ya,z.yb,z.yc,z.va,z.vb,z.vc,z.wa,z.wb,z.wc,z.zn,z.zq⟩
def gG(kv:List (Int×Cl))(z:Zc):Int:=if z.zk=1 then ik kv (oO z) else if z.zk=3 then il kv (oO z) else if z.zk=2 then kE kv z.zi else 1
def iZ(kv:List (Int×Cl))(z:Zc):List (Int×Cl):=if z.zk=1 then mW kv (oO z) else if z.zk=3 then mC kv (oO z) else if z.zk=2 then py kv z.zi else kv
def fw(kv:List (Int×Cl)):List Zc→Int
 |[]=>0
 |z::l=>if gG kv z≠0 then gG kv z else fw (iZ kv z) l
def vy(kv:List (Int×Cl)):List Zc→Nat
 |[]=>0
 |z::l=>if gG kv z≠0 then 0 else vy (iZ kv z) l+1
def bQ(kv:List (Int×Cl)):List Zc→List (Int×Cl)
 |[]=>kv
 |z::l=>bQ (iZ kv z) l
theorem D6(z:Zc): ∀(l:List Zc)(kv:hV Cl),bQ kv (l++[z])=iZ (bQ kv l) z
 |[],kv=>rfl
 |y::l,kv=>D6 z l<|iZ kv y
theorem D7(z:Zc): ∀(l:List Zc)(kv:hV Cl),fw kv l=0→fw kv (l++[z])=gG (bQ kv l) z
 |[],kv,_=>by show(if gG kv z≠0 then gG kv z else 0)=gG kv z;split<;>simp_all
 |y::l,kv,h=>by
  unfold fw at h;split at h
  ·exact absurd h ‹_›
  ·rename_i h1;show(if gG kv y≠0 then gG kv y else fw (iZ kv y)<|l++[z])=_;rw[if_neg h1];exact D7 z l (iZ kv y) h
theorem BU: ∀{l:List Zc}{kv:hV Cl}{k:Nat}{z:Zc},l[k]? =some z→fw kv (l.take k)=0→gG (bQ kv<|l.take k) z≠0→fw kv l=gG (bQ kv<|l.take k) z∧vy kv l=k
 |[],kv,k,z,h,_,_=>by simp at h
 |y::l,kv,0,z,h,h0,h1=>by
  simp at h;subst h;simp only[List.take_zero,bQ] at h1⊢;unfold fw vy;rw[if_pos h1,if_pos h1];exact⟨rfl,rfl⟩
 |y::l,kv,k+1,z,h,h0,h1=>by
  simp only[List.take_succ_cons,bQ,fw] at h0 h1⊢
  have h2: ¬gG kv y≠0:=λh2=>by rw[if_pos h2] at h0;exact h2 h0
  rw[if_neg h2] at h0
  have:=BU (l:=l) (kv:=iZ kv y) (by simpa using h) h0 h1
  unfold vy;rw[if_neg h2,if_neg h2,this.1,this.2];exact⟨rfl,rfl⟩
variable{l:List Zc}{kv:hV Cl}{k:Nat}{z:Zc}
theorem zu(h:l[k]? =some z)(h0:fw kv (l.take k)=0)(h1:gG (bQ kv<|l.take k) z=0):fw kv (l.take<|k+1)=0∧bQ kv (l.take<|k+1)=iZ (bQ kv<|l.take k) z:=by
 have e:l.take (k+1)=l.take k++[z]:=by rw[List.take_add_one,h];rfl
 rw[e,D7 _ _ _ h0,D6];exact⟨h1,rfl⟩
def iH(kv:List (Int×Cl))(t:Int)(l:List Zc):Int:=if t<1∨t>65536 then 1 else if 32<l.length then 2 else if fw kv l≠0 then fw kv l else oD t<|fg<|bQ kv l
def jv(kv:List (Int×Cl))(t:Int)(l:List Zc):Int:=if t<1∨t>65536 then 0 else if 32<l.length then 0 else if fw kv l≠0 then(vy kv l:Int) else 0
def oP(kv:List (Int×Cl)):Prop:= ∃R,KR kv R
theorem xO(h:cB kv)(z:Zc):cB (iZ kv z):=by
 unfold iZ;split
 ·exact PV h _
 ·split
  ·exact PW h _
  ·split
   ·exact PX h _
   ·exact h
theorem LC(h:iQ z):mX (oO z):=h.2
theorem FD(h:oP kv)(hL:cB kv)(hz:iQ z):oP (iZ kv z):=by
 obtain⟨R,hR⟩:=h
 unfold iZ;split
 ·exact⟨_,SI hR hL<|LC hz⟩
 ·split
  ·exact⟨_,SJ hR hL<|LC hz⟩
  ·split
   ·exact⟨_,SK hR _⟩
   ·exact⟨R,hR⟩
theorem EL: ∀{l:List Zc}{kv:hV Cl},cB kv→cB (bQ kv l)
 |[],kv,h=>h
 |z::l,kv,h=>EL (l:=l)<|xO h z
theorem LD: ∀{l:List Zc}{kv:hV Cl},oP kv→cB kv→(∀z∈l,iQ z)→oP (bQ kv l)
 |[],kv,h,_,_=>h
 |z::l,kv,h,hL,hz=>LD (l:=l) (FD h hL<|hz z<|by simp) (xO hL z)<|λy hy=>hz y<|by simp[hy]
variable{t:Int}
theorem G1(h:t<1∨t>65536):iH kv t l=1∧jv kv t l=0:=by unfold iH jv;rw[if_pos h,if_pos h];exact⟨rfl,rfl⟩
theorem G2(h: ¬(t<1∨t>65536))(h2:32<l.length):iH kv t l=2∧jv kv t l=0:=by unfold iH jv;rw[if_neg h,if_neg h,if_pos h2,if_pos h2];exact⟨rfl,rfl⟩
theorem N8(h: ¬(t<1∨t>65536))(h2: ¬32<l.length){e:Int}(h3:fw kv l=e∧vy kv l=k)(he:e≠0):iH kv t l=e∧jv kv t l=k:=by
 unfold iH jv;rw[if_neg h,if_neg h,if_neg h2,if_neg h2,h3.1,h3.2,if_pos he,if_pos he];exact⟨rfl,rfl⟩
theorem G3(h: ¬(t<1∨t>65536))(h2: ¬32<l.length)(h3:fw kv l=0):iH kv t l=oD t (fg<|bQ kv l)∧jv kv t l=0:=by
 unfold iH jv;rw[if_neg h,if_neg h,if_neg h2,if_neg h2,h3];simp
abbrev vN(p0)(p1):=(aA p0 [.map<|some p1] 185:V.aI)
abbrev FG(p0)(p1:Zc):=(i_ (il p0 (⟨p1.zi,p1.zp,p1.zl,p1.ya,p1.yb,p1.yc,p1.va,p1.vb,p1.vc,p1.wa,p1.wb,p1.wc,p1.zn,p1.zq⟩:Cl)):Value)
abbrev FH(p0)(p1:Zc):=(i_ (ik p0 (⟨p1.zi,p1.zp,p1.zl,p1.ya,p1.yb,p1.yc,p1.va,p1.vb,p1.vc,p1.wa,p1.wb,p1.wc,p1.zn,p1.zq⟩:Cl)):Value)
abbrev Aq(p0:Zc):=(.agg #[i_ p0.zi,i_ p0.zp,b_ p0.zl,u_ p0.ya,u_ p0.yb,u_ p0.yc,u_ p0.va,u_ p0.vb,u_ p0.vc,u_ p0.wa,u_ p0.wb,u_ p0.wc,i_ p0.zn,i_ p0.zq]:Value)
theorem Ii(bt mb:Nat)(kv:hV Cl)(z:Zc)(hL:cB kv):
  CS 92 #[p_ bt,.agg (gv z).toArray] [vN bt mb,cN mb kv] (λ(kv':(hV Cl))=>(i_<|gG kv z)) (λkv'=>kv'=iZ kv z) λkv'=>[vN bt mb,cN mb kv']:=by
 intro w hs
 refine aU Tryz.func92 rfl hs (aC<|iK [.al,.al] [] (λb1 b2=>[(2,p_ b1),(3,p_ b2)]) (λb1 b2=>[aA b1 [p_ bt] 131,aA b2 (gv z) 84]) ?_)
 intro b1 b2
 refine aE []<|bS<|bB [.ld 3] [(7,i_ z.zk)]<|aR<|aE [(8,b_<|z.zk==1)]<|aL rfl (λe1=>?_) (λe1=>?_)
 ·have p1:=e1;try simp only[cR] at p1
  refine aM<|bB [.ld 2] [(5,.func (.func 132) #[p_ bt] #[])]<|aC<|an 3 [.ld 3] [(19,.func (.func 132) #[p_ bt] #[]),(21,Aq z)]<|aG<|b0 (some 22) [0,0] (Ui bt mb kv (⟨z.zi,z.zp,z.zl,z.ya,z.yb,z.yc,z.va,z.vb,z.vc,z.wa,z.wb,z.wc,z.zn,z.zq⟩:Cl) hL.dep hL.len) ?_
  rintro kv'3 hz2
  refine aQ [(4,FH kv z)]<|aF<|bR [0,0] [FH kv z] (kv'3) ?_ ?_
  ·show((FH kv z):Value)=(i_<|gG kv z)
   refine congrArg (Value.int .i64) ?_;unfold gG;(simp[*];rfl)
  show kv'3=iZ kv z
  unfold iZ;(simp[*];rfl)
 have p1:=e1;try simp only[cR] at p1
 refine aE [(12,b_<|z.zk==3)]<|aL rfl (λe3=>?_) (λe3=>?_)
 ·have p3:=e3;try simp only[cR] at p3
  refine aM<|bB [.ld 2] [(5,.func (.func 133) #[p_ bt] #[])]<|aC<|an 3 [.ld 3] [(19,.func (.func 133) #[p_ bt] #[]),(21,Aq z)]<|aG<|b0 (some 22) [0,0] (Ul bt mb kv (⟨z.zi,z.zp,z.zl,z.ya,z.yb,z.yc,z.va,z.vb,z.vc,z.wa,z.wb,z.wc,z.zn,z.zq⟩:Cl)<|by(have h_:=hL.len;omega)) ?_
  rintro kv'4 hz4
  refine aQ [(4,FG kv z)]<|aF<|bR [0,0] [FG kv z] (kv'4) ?_ ?_
  ·show((FG kv z):Value)=(i_<|gG kv z)
   refine congrArg (Value.int .i64) ?_;unfold gG;(simp[*];rfl)
  show kv'4=iZ kv z
  unfold iZ;(simp[*];rfl)
 have p3:=e3;try simp only[cR] at p3
 refine aE [(16,b_<|z.zk==2)]<|aL rfl (λe5=>?_) (λe5=>?_)
 ·have p5:=e5;try simp only[cR] at p5
  refine bZ [(5,.func (.func 134) #[] #[p_ b1])]<|aC<|an 3 [.ld 3] [(19,.func (.func 134) #[] #[p_ b1]),(21,Aq z)]<|aG<|eM (some 22) [Aq z,p_ b1] Tryz.func134 rfl (aC<|dL [.al] [] (λb5=>[(2,p_ b5)]) (λb5=>aA b5 [i_ z.zi,i_ z.zp,b_ z.zl,u_ z.ya,u_ z.yb,u_ z.yc,u_ z.va,u_ z.vb,u_ z.vc,u_ z.wa,u_ z.wb,u_ z.wc,i_ z.zn,i_ z.zq] 62) ?_)
  intro b5
  refine aC<|an 3 [.ld 2,.ld 4] [(4,p_ bt),(6,i_ z.zi)]<|aG<|b0 (some 7) [0,0] (Uj bt mb kv z.zi<|by(have h_:=hL.len;omega)) ?_
  rintro kv'6 hz6
  refine aQ [(3,i_<|kE kv z.zi)]<|aF<|d6 [i_<|kE kv z.zi]<|j6 [vN bt mb,cN mb kv'6,aA b1 [p_ bt] 131] (sd [4,3])<|aQ [(4,i_<|kE kv z.zi)]<|aF<|bR [0,0] [i_<|kE kv z.zi] (kv'6) ?_ ?_
  ·show((i_<|kE kv z.zi):Value)=(i_<|gG kv z)
   refine congrArg (Value.int .i64) ?_;unfold gG;(simp[*];done)
  show kv'6=iZ kv z
  unfold iZ;(simp[*];done)
 have p5:=e5;try simp only[cR] at p5
 refine aE [(4,i_ 1)]<|aF<|bR [0,0] [i_ 1] (kv) ?_ ?_
 ·show((i_ 1):Value)=(i_<|gG kv z)
  refine congrArg (Value.int .i64) ?_;unfold gG;(simp[*];done)
 show kv=iZ kv z
 unfold iZ;(simp[*];done)
theorem LF{kw:hV Cl}(h:fw kv l=0→fg (bQ kv l)=[])(hw:kw=bQ kv (l.take k))(h0:fw kv (l.take k)=0)(hk:l.length≤k):fg kw=[]:=by
 rw[List.take_of_length_le hk] at hw h0;rw[hw];exact h h0
theorem Sj(bt mb:Nat)(kv:hV Cl)(t:Int)(al:k0)(l:List Zc)(cl:Nat)(hL:cB kv)(hK:oP kv)(hz: ∀z∈l,iQ z)(hNR:fw kv l=0→fg (bQ kv l)=[])(hok:iH kv t l≠0)(w:World)(r0:(aA bt [.map<|some mb] 185).holds w)(r1:(cN mb kv).holds w)(r2:dR w al (V.aP gv l)):
  CW 66 #[p_ bt,i_ t,vS al l cl] w (.tuple #[n_,i_<|jv kv t l,i_<|iH kv t l]):=by
 refine aU Tryz.func66 rfl (HS.nil w) (aE []<|aD<|aR<|aE [(14,b_ false)]<|bM<|aC<|bB [.o,.cl] [(17,b_<|(decide (t<1))||(decide (t>65536)))]<|aL rfl (λe1=>?_) (λe1=>?_))
 ·have p1:=e1;try simp only[cR] at p1
  refine aE [(6,n_),(7,i_ 0),(8,i_ 1)]<|aF<|bJ [n_,i_ 0,i_ 1] ?_
  show((.tuple #[n_,i_ 0,i_ 1]):Value)=(.tuple #[n_,i_<|jv kv t l,i_<|iH kv t l])
  rw[(G1 (kv:=kv) (l:=l)<|by omega).1,(G1 (kv:=kv) (l:=l)<|by omega).2]
 have p1:=e1;try simp only[cR] at p1
 refine aE [(24,b_<|decide ((l.length:Int)>32))]<|aL rfl (λe2=>?_) (λe2=>?_)
 ·have p2:=Zg e2
  refine aE [(6,n_),(7,i_ 0),(8,i_ 2)]<|aF<|bJ [n_,i_ 0,i_ 2] ?_
  show((.tuple #[n_,i_ 0,i_ 2]):Value)=(.tuple #[n_,i_<|jv kv t l,i_<|iH kv t l])
  rw[(G2 (kv:=kv) (by omega)<|by omega).1,(G2 (kv:=kv) (by omega)<|by omega).2]
 have p2:=Zh e2
 refine aO<|aC<|cV [.p] [(28,p_ bt)]<|aG<|dH (some 29) [] (λw s h=>J9 bt mb kv w (bK s r0) (bK s r1) h) ?_
 rintro⟨bc1,mc2⟩-
 refine aQ [(9,p_ bc1)]<|aD<|aE [(30,vS al l cl),(31,c_ l.length),(32,i_ 0)]<|aR<|iC (σ:=Nat×(hV Cl)) [] (λ(k,kw)=>[(32,c_ k)]) [0,0] (λ(k,kw)=>[aA bc1 [.map<|some mc2] 185,cN mc2 kw]) (λ(k,kw)=>(k≤l.length)∧(kw=bQ kv (l.take k))∧(fw kv (l.take k)=0)∧(cB kw)∧(oP kw)) (λ(k,kw)=>l.length-k) (0,kv) ⟨(by omega),(by rfl),(by rfl),‹_›,‹_›⟩ ?_ ?_
 ·exact cX [0,0]
 rintro⟨k,kw⟩ ⟨hk,hw,h0,hLw,hKw⟩
 refine aE [(33,b_<|decide ((k:Int)<(l.length:Int)))]<|aD<|aL rfl (λe4=>?_) (λe4=>?_)
 ·have p4:=Zg e4
  refine az<|aR<|aC<|eI 2 [.ix] [(34,c_ k),(35,.pointer<|some<|(au al).add (k*15))] (o1<|io (k:Int)<|dh tN (by decide) (cL r2<|by simp[aN])<|by omega) ?_
  obtain⟨x3,hx3⟩: ∃x,(l)[k]? =some x:=⟨_,Ze<|by omega⟩
  refine jI [.rd<|gv x3,.al,.st 2] [] (λb4=>[(11,p_ b4),(10,c_ k)]) (λb4=>[]) (λb4=>aA b4 (gv x3) 84) (λb4=>o1<|ro ((au al).add (k*15))<|dr (vs:=(gv x3)) tN (cL r2<|by simp[aN]) hx3 (Nat.le_of_ble_eq_true rfl) rfl) ?_
  intro b4
  refine aC<|an 2 [.ld 2] [(37,p_ bc1),(38,.agg (gv x3).toArray)]<|aG<|b0 (some 39) [0,0] (Ii bc1 mc2 kw x3 ‹_›) ?_
  rintro kv'5 hz5
  refine aQ [(12,i_<|gG kw x3)]<|aE [(41,b_<|(gG kw x3)!=0)]<|aL rfl (λe6=>?_) (λe6=>?_)
  ·have p6:=e6;try simp only[cR] at p6
   refine aE [(6,n_),(7,c_ k),(8,i_<|gG kw x3)]<|aF<|bJ [n_,c_ k,i_<|gG kw x3] ?_
   show((.tuple #[n_,c_ k,i_<|gG kw x3]):Value)=(.tuple #[n_,i_<|jv kv t l,i_<|iH kv t l])
   (subst hw;obtain⟨g1_,g2_⟩:=N8 (t:=t) (by omega) (by omega) (BU ‹_› h0 ‹_›) ‹_›;rw[g1_,g2_])
  have p6:=e6;try simp only[cR] at p6
  refine aO<|aM<|aj [.w<|(k:Int)+1] [(9,p_ bc1),(30,vS al l cl),(31,c_ l.length),(32,i_<|(k:Int)+1)] (o1<|wj ((k:Int)+1)<|by omega)<|bN (k+1,kv'5) ⟨(by omega),(by(subst_vars;exact(zu ‹_› h0 ‹_›).2.symm)),(by(subst hw;exact(zu ‹_› h0 ‹_›).1)),(by(subst_vars;exact xO hLw _)),(by(subst_vars;exact FD hKw hLw<|hz _<|Zd ‹_›))⟩ (by(show l.length-(k+1)<l.length-k;omega)) ?_
  exact cX [0,0]
 have p4:=Zh e4
 refine bg<|bS<|an 2 [] [(45,i_ t),(46,p_ bc1)]<|aG<|dH (some 47) [] (λw s h=>I3 bc1 mc2 kw (by(have h_:=hLw.len;omega)) w (s.mem (i:=0) rfl) (s.mem (i:=1) rfl) h) ?_
 rintro⟨al'6,cl'7⟩-
 refine aj [.cq<|i_<|oD t<|fg kw] [(13,i_<|oD t<|fg kw)] (o1<|qo<|λw s=>IC t al'6 (fg kw) cl'7 (LF hNR hw h0<|by omega) (by omega) w)<|aE [(50,b_<|(oD t<|fg kw)!=0)]<|aL rfl (λe8=>?_) (λe8=>?_)
 ·have p8:=e8;try simp only[cR] at p8
  refine aE [(6,n_),(7,i_ 0),(8,i_<|oD t<|fg kw)]<|aF<|bJ [n_,i_ 0,i_<|oD t<|fg kw] ?_
  show((.tuple #[n_,i_ 0,i_<|oD t<|fg kw]):Value)=(.tuple #[n_,i_<|jv kv t l,i_<|iH kv t l])
  have hk2_:l.take k=l:=List.take_of_length_le<|by omega
  rw[hk2_] at hw h0
  obtain⟨g1_,g2_⟩:=G3 (t:=t) (by omega) (by omega) h0
  (subst hw;rw[g1_,g2_])
 have p8:=e8;try simp only[cR] at p8
 refine aO<|aE [(6,p_ bc1),(7,i_ 0),(8,i_ 0)]<|aF<|bJ [p_ bc1,i_ 0,i_ 0] ?_
 show((.tuple #[p_ bc1,i_ 0,i_ 0]):Value)=(.tuple #[n_,i_<|jv kv t l,i_<|iH kv t l])
 have hk2_:l.take k=l:=List.take_of_length_le<|by omega
 rw[hk2_] at hw h0
 obtain⟨g1_,g2_⟩:=G3 (t:=t) (by omega) (by omega) h0
 (subst hw;exact absurd (g1_.trans ‹_›) hok)
theorem VX(bt mb:Nat)(kv:hV Cl)(t:Int)(al:k0)(l:List Zc)(cl:Nat)(hL:cB kv)(hK:oP kv)(hz: ∀z∈l,iQ z)(hNR:fw kv l=0→fg (bQ kv l)=[])(hok:iH kv t l=0)(w:World)(r0:(vN bt mb).holds w)(r1:(cN mb kv).holds w)(r2:dR w al (V.aP gv l))(hs:HI w []):
  CV 66 #[p_ bt,i_ t,vS al l cl] w [] (λ((bc,mc):Nat×Nat)=>(.tuple #[p_ bc,i_ 0,i_ 0])) (λ_=>True) λ(bc,mc)=>[vN bc mc,cN mc<|bQ kv l]:=by
 refine aU Tryz.func66 rfl hs (aE []<|aD<|aR<|aE [(14,b_ false)]<|bM<|aC<|bB [.o,.cl] [(17,b_<|(decide (t<1))||(decide (t>65536)))]<|aL rfl (λe1=>?_) (λe1=>?_))
 ·exact absurd e1<|by(intro h_;exact absurd ((G1 (kv:=kv) (l:=l) (by simp at h_;omega)).1.symm.trans hok)<|by decide)
 have p1:=e1;try simp only[cR] at p1
 refine aE [(24,b_<|decide ((l.length:Int)>32))]<|aL rfl (λe2=>?_) (λe2=>?_)
 ·exact absurd e2<|by(intro h_;exact absurd ((G2 (kv:=kv) (t:=t) (l:=l) (by omega) (by simp at h_;omega)).1.symm.trans hok)<|by decide)
 have p2:=Zh e2
 refine aO<|aC<|cV [.p] [(28,p_ bt)]<|aG<|dH (some 29) [] (λw s h=>J9 bt mb kv w (bK s r0) (bK s r1) h) ?_
 rintro⟨bc1,mc2⟩-
 refine aQ [(9,p_ bc1)]<|aD<|aE [(30,vS al l cl),(31,c_ l.length),(32,i_ 0)]<|aR<|iC (σ:=Nat×(hV Cl)) [] (λ(k,kw)=>[(32,c_ k)]) [0,0] (λ(k,kw)=>[vN bc1 mc2,cN mc2 kw]) (λ(k,kw)=>(k≤l.length)∧(kw=bQ kv (l.take k))∧(fw kv (l.take k)=0)∧(cB kw)∧(oP kw)) (λ(k,kw)=>l.length-k) (0,kv) ⟨(by omega),(by rfl),(by rfl),‹_›,‹_›⟩ ?_ ?_
 ·exact cX [0,0]
 rintro⟨k,kw⟩ ⟨hk,hw,h0,hLw,hKw⟩
 refine aE [(33,b_<|decide ((k:Int)<(l.length:Int)))]<|aD<|aL rfl (λe4=>?_) (λe4=>?_)
 ·have p4:=Zg e4
  refine az<|aR<|aC<|eI 2 [.ix] [(34,c_ k),(35,.pointer<|some<|(au al).add (k*15))] (o1<|io (k:Int)<|dh tN (by decide) (cL r2<|by simp[aN])<|by omega) ?_
  obtain⟨x3,hx3⟩: ∃x,(l)[k]? =some x:=⟨_,Ze<|by omega⟩
  refine jI [.rd<|gv x3,.al,.st 2] [] (λb4=>[(11,p_ b4),(10,c_ k)]) (λb4=>[]) (λb4=>aA b4 (gv x3) 84) (λb4=>o1<|ro ((au al).add (k*15))<|dr (vs:=(gv x3)) tN (cL r2<|by simp[aN]) hx3 (Nat.le_of_ble_eq_true rfl) rfl) ?_
  intro b4
  refine aC<|an 2 [.ld 2] [(37,p_ bc1),(38,.agg (gv x3).toArray)]<|aG<|b0 (some 39) [0,0] (Ii bc1 mc2 kw x3 ‹_›) ?_
  rintro kv'5 hz5
  refine aQ [(12,i_<|gG kw x3)]<|aE [(41,b_<|(gG kw x3)!=0)]<|aL rfl (λe6=>?_) (λe6=>?_)
  ·exact absurd e6<|by(intro h_;have h2_: ¬gG kw x3=0:=(by simpa using h_);rw[hw] at h2_;exact absurd ((N8 (by omega) (by omega) (BU ‹_› h0 h2_) h2_).1.symm.trans hok) h2_)
  have p6:=e6;try simp only[cR] at p6
  refine aO<|aM<|aj [.w<|(k:Int)+1] [(9,p_ bc1),(30,vS al l cl),(31,c_ l.length),(32,i_<|(k:Int)+1)] (o1<|wj ((k:Int)+1)<|by omega)<|bN (k+1,kv'5) ⟨(by omega),(by(subst_vars;exact(zu ‹_› h0 ‹_›).2.symm)),(by(subst hw;exact(zu ‹_› h0 ‹_›).1)),(by(subst_vars;exact xO hLw _)),(by(subst_vars;exact FD hKw hLw<|hz _<|Zd ‹_›))⟩ (by(show l.length-(k+1)<l.length-k;omega)) ?_
  exact cX [0,0]
 have p4:=Zh e4
 refine bg<|bS<|an 2 [] [(45,i_ t),(46,p_ bc1)]<|aG<|dH (some 47) [] (λw s h=>I3 bc1 mc2 kw (by(have h_:=hLw.len;omega)) w (s.mem (i:=0) rfl) (s.mem (i:=1) rfl) h) ?_
 rintro⟨al'6,cl'7⟩-
 refine aj [.cq<|i_<|oD t<|fg kw] [(13,i_<|oD t<|fg kw)] (o1<|qo<|λw s=>IC t al'6 (fg kw) cl'7 (LF hNR hw h0<|by omega) (by omega) w)<|aE [(50,b_<|(oD t<|fg kw)!=0)]<|aL rfl (λe8=>?_) (λe8=>?_)
 ·exact absurd e8<|by(intro h_;have hk2_:l.take k=l:=List.take_of_length_le (by omega);rw[hk2_] at hw h0;rw[hw] at h_;simp at h_;exact absurd ((G3 (by omega) (by omega) h0).1.symm.trans hok) h_)
 refine aO<|aE [(6,p_ bc1),(7,i_ 0),(8,i_ 0)]<|aF ?_
 rw[show kw=(bQ kv l) from by grind]
 refine bR [1,1] [p_ bc1,i_ 0,i_ 0] (bc1,mc2) ?_ ?_
 ·rfl
 trivial
variable{P:Program}{t ti e:TypeId}{k:IntKind}
theorem OO{ty:TypeId}{i:TypeInfo}{z:Value}{n:Nat}(w:World)(ht:P.underlying t=some (.slice e))(hti:P.underlying ti=some (.int k))(hi:P.info? e=some i)(hz:i.zero=some z)(hzs:z.cells.size=i.size)(hsz:0<i.size)
  (hn:0<n)(h63:n≤maxLen)(hbytes:n*i.bytes≤140737488355328):
  ∃b c' w',(Builtin.append_ #[t,ti] ty #[.slice none 0 0,.int .i64 n]).run P w= .ok (.slice (some ⟨b,0,none⟩) n c') w'∧(sl (some ⟨b,0,none⟩) 0 c' e i.size []).holds w'∧Fr [] w w'∧w.heap.size≤b:=by
 have hge:=grownCap_ge w n 0 e
 have hcm':grownCap w n 0 e≤maxLen:=grownCap_le_maxLen w n 0 e h63
 obtain⟨w',hw'⟩: ∃w',w'=(World.drew w).alloc (.cells (Builtin.zeroCells z.cells n++Builtin.zeroCells z.cells (grownCap w n 0 e-n)) e):=⟨_,rfl⟩
 refine⟨w.heap.size,grownCap w n 0 e,w',?_,⟨by simp,Nat.zero_le _,hcm',.inr ⟨w.heap.size,0,_,rfl,by rw[hw'];exact heap_alloc_new w.drew _,?_,by simp⟩⟩,?_,Nat.le_refl _⟩
 ·subst hw'
  have h48: ¬(Builtin.nextslicecap n 0*i.bytes>2^48):=by
   have h2:=growslice_fits (need:=n) (old:=0) (by omega) hbytes
   omega
  have hmax:IntKind.i64.max=9223372036854775807:=by decide
  have hm63:n≤9223372036854775807:=by simp only[maxLen] at h63;omega
  have hwr:IntKind.i64.wrap (n:Int)=n:=nB (e:=(n:Int)) (by constructor<;>omega)
  have hb48: ¬((n:Int)*(i.bytes:Int)>2^48):=by
   have:n*i.bytes≤2^48:=by omega
   have h2:((n*i.bytes:Nat):Int)≤2^48:=by exact_mod_cast this
   rw[Int.natCast_mul] at h2;omega
  have hn0: ¬((n:Int)<0):=by omega
  have hn1:n≠0:=by omega
  simp only[Builtin.append_]
  simp[run_underlying ht,run_underlying hti,sizeOf,typeInfo,zeroValue,hi,hz,Builtin.lenOf,h48,Question.forced,newRow,grownCap,asInt,asIntOf,hwr,hb48,hn0,hn1,Builtin.firstCells]
  have q1: ¬(281474976710656<(n:Int)*(i.bytes:Int)):=by omega
  have q2: ¬(9223372036854775807<(n:Int)):=by omega
  have q3: ¬(n*i.size=0):=Nat.ne_of_gt<|Nat.mul_pos hn hsz
  rw[if_neg q1,if_neg q2,if_neg q3]
 ·simp only[Array.size_append,size_zeroCells,hzs]
  rw[←Nat.add_mul,Nat.zero_add]
  apply Nat.le_of_eq;congr 1;omega
 ·subst hw'
  exact⟨rfl,rfl,rfl,by simp,λk hk _=>heap_alloc_old w.drew _ hk⟩
theorem ZC{n:Nat}{env:aT}{w0:World}{S:E6}{H:List V.aI}{ops:Zb}{o:Oper}{K:Wy}(d:Nat){x y:Operand}{z:Value}{sz by_ m:Nat}
  (hok:ff ops n env o (some d)=true)(ho:o.op= .call {callee:= .builtin .append,args:=#[x,y],argTypes:=#[t,ti]})(hx:ev env x=some (.slice none 0 0))(hy:ev env y=some (.int .i64 m))
  (ht:P.underlying t=some (.slice e))(hti:P.underlying ti=some (.int k))(hinf:(P.info? e).map (λi=>(i.zero,i.size,i.bytes))=some (some z,sz,by_))(hzs:z.cells.size=sz)(hsz:0<sz)(hm:0<m)(h63:m≤maxLen)(hbytes:m*by_≤140737488355328)
  (H':Nat→Nat→List V.aI)(hH: ∀b c,H++[sl (some ⟨b,0,none⟩) 0 c e sz []]=H' b c)
  (h: ∀b c,V.A n ((d,.slice (some ⟨b,0,none⟩) m c)::env) w0 S (H' b c) K):V.A n env w0 S H (cz P ops o K):=by
 intro a w r s
 obtain⟨h1',h2,h3,h4⟩:=jf hok
 unfold cz
 rw[if_pos<|ic r h1']
 simp only[Option.map_eq_some_iff,Prod.mk.injEq] at hinf
 obtain⟨inf,hinf,hz,hs1,hs2⟩:=hinf
 subst hs1;subst hs2
 obtain⟨b,c,w',hrun,hsl,hfr,hb⟩:=OO (P:=P) (ty:=o.type) w ht hti hinf hz hzs hsz hm h63 hbytes
 unfold Oper.wp execOp
 simp only[ho,resolve,invoke,builtin,Sem.run_bind,Sem.run_pure,Result.andThen_ok,List.map_toArray,List.map_cons,List.map_nil,r.ev hx,r.ev hy,hrun,Oper.upon,h2]
 refine h b c _ _ (r.put<|h3 d rfl) ?_
 rw[←hH]
 exact s.add hfr hsl (show(fZ<|some ⟨b,0,none⟩).Nodup from CG _)<|by simpa[sl,fZ] using hb
set_option maxHeartbeats 1000000 in
set_option maxRecDepth 100000 in
theorem P8(n:Nat)(hn:n≤1000)(w:World)(hs:HS w (aN []) [] w):
  Calls Tryz.prog 138 #[.slice none 0 0,c_ n] w λe w'=> ∃zz:k0×Nat,e= .returned ((λzz=>match zz with|(al',cl')=>vS al' ([]:Wx) cl') zz)∧(λzz=>match zz with|(al',cl')=>True) zz∧Turn [] ((λzz=>match zz with|(al',cl')=>[sI al' ([]:Wx) cl']) zz) w w':=by
 refine aU Tryz.func138 rfl hs (dW [(0,.slice none 0 0),(1,c_ n)] [] ⟨rfl,rfl,trivial⟩ rfl (aE [(0,.slice none 0 0),(1,c_ n),(4,.slice none 0 0)]<|aD<|aE [(6,b_<|decide ((n:Int)<0))]<|aL (E:=decide ((n:Int)<0)) rfl (λe1=>?_) (λe1=>?_)))
 ·exact absurd e1<|by simp
 refine az<|dF [.p,.p,.p,.p,.p,.p,.w<|(n:Int)-0] [(1,i_<|(n:Int)-0)] (o1<|wj ((n:Int)-0)<|by omega)<|aD<|ei [(0,.slice none 0 0),(1,c_ n)] ⟨rfl,congrArg (λz_=>some<|i_ z_)<|Int.sub_zero _,trivial⟩<|bZ [(1,c_ n),(16,b_<|decide ((n:Int)>0))]<|aL (E:=decide ((n:Int)>0)) rfl (λe2=>?_) (λe2=>?_)
 ·have hn0:0<n:=by have:=Zg e2;omega
  refine aM<|an 5 [] [(20,.slice none 0 0),(21,c_ n)]<|aG<|ZC 22 (t:=65) (ti:=3) (e:=3) (k:= .i64) (z:=i_ 0) (sz:=1) (by_:=8) (m:=n) (by kernel_rfl) rfl rfl rfl (by kernel_rfl) (by kernel_rfl) (by kernel_rfl) (by rfl) (by decide) hn0 (by unfold maxLen;omega) (by omega) (λb c=>[sI (some ⟨b,0,none⟩) ([]:Wx) c]) (λ_ _=>rfl) ?_
  intro b c
  refine k9 [.p,.p] [(22,.slice (some ⟨b,0,none⟩) n c),(24,i_ 0)] (aG (cC (some 25) (.slice (if c=0 then some ⟨b,0,none⟩ else(some ⟨b,0,none⟩:k0).map (·.add 0)) 0 c) (Rh (k:=0) (el:=3) (sz:=1) rfl rfl rfl (by kernel_rfl) (by kernel_rfl) (Nat.zero_le _)) (aQ [(0,.slice (if c=0 then some ⟨b,0,none⟩ else(some ⟨b,0,none⟩:k0).map (·.add 0)) 0 c)]<|ei [(0,vS (some ⟨b,0,none⟩) ([]:Wx) c)] (by exact⟨congrArg (λz_=>some<|Value.slice z_ 0 c) (by split<;>rfl),trivial⟩) ?_)))
  refine aE [(4,vS (some ⟨b,0,none⟩) ([]:Wx) c)]<|aF<|cP [0] [vS (some ⟨b,0,none⟩) ([]:Wx) c] (λ_ w r s=>⟨cw r rfl,trivial⟩) (some ⟨b,0,none⟩,c) rfl trivial (by kernel_rfl)
 ·refine aO<|aC<|da [] [(4,.slice none 0 0)]<|gW 3 1 [sI none ([]:Wx) 0] rfl (aF<|cP [0] [.slice none 0 0] (λ_ w r s=>⟨cw r rfl,trivial⟩) (none,0) rfl trivial (by kernel_rfl))
theorem Oj(bs:Nat)(ax:k0)(xs:Wx)(cx:Nat)(ay:k0)(ys:Wx)(cy:Nat)(hx:xs.length≤200)(hy:ys.length≤200)(w:World)(r0:(aA bs [vS ax xs cx,vS ay ys cy] 65).holds w)(r1:dR w ax (V.aP gq xs))(r2:dR w ay (V.aP gq ys))(hs:HI w []):
  CV 95 #[.slice (some ⟨bs,0,none⟩) 2 2] w [] (λ((al',cl'):(k0)×Nat)=>(vS al' (xs++ys) cl')) (λ_=>True) λ(al',cl')=>[sI al' (xs++ys) cl']:=by
 refine aU Tryz.func95 rfl hs (aE []<|aE [(3,i_ 0)]<|aD<|aE [(9,.slice (some ⟨bs,0,none⟩) 2 2),(10,i_ 2),(11,i_ 0)]<|aR<|i4 400<|cd (m:=399)<|aE [(12,b_ true)]<|aD<|dU<|az<|aR<|aC<|aG<|cC (some 13) (p_ bs) (lJ (off:=0) (sz:=1) (el:=65) (e:=0) (len:=2) rfl rfl rfl (by kernel_rfl) (by kernel_rfl) (by omega))<|aj [.rd [vS ax xs cx]] [(5,vS ax xs cx)] (o1<|ro ⟨bs,0,none⟩ (vs:=[vS ax xs cx])<|cE r0 rfl)<|dF [.w<|0+(xs.length:Int)] [(3,i_<|0+(xs.length:Int))] (o1<|wj (0+(xs.length:Int))<|by omega)<|aE [(20,b_<|decide ((0+(xs.length:Int))<0))]<|aL rfl (λe1=>?_) (λe1=>?_))
 ·exact absurd e1<|by(intro h_;have h2_:=Zg h_;omega)
 have p1:=Zh e1
 refine aO<|bZ [(11,i_ 1)]<|cd (m:=398)<|aE [(12,b_ true)]<|aD<|dU<|az<|aR<|aC<|aG<|cC (some 13) (q_ bs 1) (lJ (off:=0) (sz:=1) (el:=65) (e:=1) (len:=2) rfl rfl rfl (by kernel_rfl) (by kernel_rfl) (by omega))<|aj [.rd [vS ay ys cy]] [(5,vS ay ys cy)] (o1<|ro ⟨bs,1,none⟩ (vs:=[vS ay ys cy])<|cE r0 rfl)<|dF [.w<|(0+(xs.length:Int))+(ys.length:Int)] [(3,i_<|(0+(xs.length:Int))+(ys.length:Int))] (o1<|wj ((0+(xs.length:Int))+(ys.length:Int))<|by omega)<|aE [(20,b_<|decide (((0+(xs.length:Int))+(ys.length:Int))<0))]<|aL rfl (λe2=>?_) (λe2=>?_)
 ·exact absurd e2<|by(intro h_;have h2_:=Zg h_;omega)
 have p2:=Zh e2
 refine aO<|bZ [(11,i_ 2)]<|cd (m:=397)<|aE [(12,b_ false)]<|aD<|bM<|bg<|aD<|dO 3 (c_ (xs.length+ys.length:Nat)) (qI<|by(show(0+(xs.length:Int))+(ys.length:Int)=((xs.length+ys.length:Nat):Int);omega))<|aM<|cV [.p] [(23,c_ (xs.length+ys.length:Nat))]<|aG<|b0 (some 24) [] (P8 (xs.length+ys.length:Nat)<|by omega) ?_
 rintro⟨al'1,cl'2⟩-
 refine aQ [(6,vS al'1 ([]:Wx) cl'2)]<|aD<|aE [(25,.slice (some ⟨bs,0,none⟩) 2 2),(26,i_ 2),(27,i_ 0)]<|aR<|i4 400<|cd (m:=399)<|aE [(28,b_ true)]<|aD<|dU<|az<|aR<|aC<|aG<|cC (some 29) (p_ bs) (lJ (off:=0) (sz:=1) (el:=65) (e:=0) (len:=2) rfl rfl rfl (by kernel_rfl) (by kernel_rfl) (by omega))<|aj [.rd [vS ax xs cx]] [(8,vS ax xs cx)] (o1<|ro ⟨bs,0,none⟩ (vs:=[vS ax xs cx])<|cE r0 rfl)<|aM<|an 2 [] [(31,vS al'1 ([]:Wx) cl'2),(32,vS ax xs cx)]<|aG<|iJ gq ([]:Wx) xs 0 33 (i_ 0) 8 dG j9 (cL r1<|by simp[aN]) (by((simp;omega))) ?_
 intro A4 c4
 refine aQ [(6,vS A4 xs c4)]<|bZ [(27,i_ 1)]<|cd (m:=398)<|aE [(28,b_ true)]<|aD<|dU<|az<|aR<|aC<|aG<|cC (some 29) (q_ bs 1) (lJ (off:=0) (sz:=1) (el:=65) (e:=1) (len:=2) rfl rfl rfl (by kernel_rfl) (by kernel_rfl) (by omega))<|aj [.rd [vS ay ys cy]] [(8,vS ay ys cy)] (o1<|ro ⟨bs,1,none⟩ (vs:=[vS ay ys cy])<|cE r0 rfl)<|aM<|an 2 [] [(31,vS A4 xs c4),(32,vS ay ys cy)]<|aG<|iJ gq xs ys 0 33 (i_ 0) 8 dG j9 (cL r2<|by simp[aN]) (by((simp;omega))) ?_
 intro A5 c5
 refine aQ [(6,vS A5 (xs++ys) c5)]<|bZ [(27,i_ 2)]<|cd (m:=397)<|aE [(28,b_ false)]<|aD<|bM<|bg<|aE [(2,vS A5 (xs++ys) c5)]<|aF<|bR [0] [vS A5 (xs++ys) c5] (A5,c5) ?_ ?_
 ·rfl
 trivial
end Go.Proofs.YtobgjpigngoggaaGreat
namespace Go.Proofs.YtobgjpigngoggaaGreat
open Go V
def kr(kv kw:List (Int×Cl))(i:Int):Bool:=decide (aB kv i≠aB kw i)
abbrev jr(kv:hV Cl):Wx:=aV kv<|λv_=>true
def fa(kv kw:List (Int×Cl))(k:Nat):List Int:=((jr kv++jr kw).take k).filter (kr kv kw)
def dE(kv kw:List (Int×Cl)):List Int:=Go.Lib.compact<|gb<|(jr kv++jr kw).filter (kr kv kw)
variable{kv kw:hV Cl}{k:Nat}
theorem LG{i:Int}(h:(jr kv++jr kw)[k]? =some i)(hd:kr kv kw i=true):fa kv kw k++[i]=fa kv kw (k+1):=by
 unfold fa;rw[List.take_add_one,h,List.filter_append];simp[hd]
theorem LH{i:Int}(h:(jr kv++jr kw)[k]? =some i)(hd:kr kv kw i=false):fa kv kw k=fa kv kw (k+1):=by
 unfold fa;rw[List.take_add_one,h,List.filter_append];simp[hd]
theorem Qe(kv kw:hV Cl)(k:Nat):(fa kv kw k).length≤k:=Nat.le_trans (List.length_filter_le _ _) (by simp;omega)
theorem Ij(h:(jr kv++jr kw).length≤k):fa kv kw k=(jr kv++jr kw).filter (kr kv kw):=by unfold fa;rw[List.take_of_length_le h]
theorem zJ(kv:hV Cl):(jr kv).length≤kv.length:=rM _ _
theorem HJ(l:Wx):(Go.Lib.compact l).length≤l.length:=by
 unfold Go.Lib.compact Go.Lib.compactUpTo;rw[List.length_map];exact Nat.le_trans (List.length_filter_le _ _)<|by simp
open Go.RowKit Go.Sort Go.Shelf Go.Proofs
def Tryz.laysNm220_ren:Go.Shelf.Ren:=⟨λ|20=>97|n=>n,λ|22=>65|3=>3|4=>4|0=>0|n=>n,λ|n=>n⟩
theorem Tryz.laysNm220:Go.Proofs.Lays2.n20 Tryz.prog Tryz.laysNm220_ren:={
 mixed:=by kernel_rfl
 f20:=Tryz.func97.trans<|congrArg some<|by kernel_rfl
 t0:=Tryz.underlying0
 a0:=Tryz.isAgg0
 z0:=Tryz.sizeOf0
 v0:=Tryz.zeroValue0
 t3:=Tryz.underlying3
 a3:=Tryz.isAgg3
 z3:=Tryz.sizeOf3
 v3:=Tryz.zeroValue3
 t4:=Tryz.underlying4
 a4:=Tryz.isAgg4
 z4:=Tryz.sizeOf4
 v4:=Tryz.zeroValue4
 t22:=Tryz.underlying65
 a22:=Tryz.isAgg65
 z22:=Tryz.sizeOf65
 v22:=Tryz.zeroValue65
 i3:=by kernel_rfl}
theorem PD(A:k0)(l:Wx)(c:Nat)(hl:l.length≤100000):
  CS 97 #[vS A l c] [sI A l c] (λ(zz:Unit)=>(vS A (Go.Lib.compact l) c)) (λ_=>True) λ_=>[sI A (Go.Lib.compact l) c]:=by
 intro w hs
 have h0:(sI A l c).holds w:=hs.all _<|by simp
 cases A with
 |none=>
  have hl0:l=[]:=by
   obtain⟨_,h2,_,⟨_,h4⟩|⟨_,_,_,h4,_⟩⟩:=h0
   ·exact List.eq_nil_of_length_eq_zero<|by omega
   ·cases h4
  subst hl0
  refine(Any.slices_Compact_int_empty Tryz.laysNm220 none c w).mono ?_
  rintro e w' ⟨rfl,rfl⟩
  exact⟨(),rfl,trivial,Turn.of hs<|.refl _⟩
 |some a=>
  obtain⟨g,off,rfl⟩: ∃g off,a=⟨g,off,none⟩:=by
   obtain⟨_,_,_,⟨h4,_⟩|⟨g,off,_,h4,_⟩⟩:=id h0
   ·cases h4
   ·cases h4;exact⟨g,off,rfl⟩
  obtain⟨hH,hlt⟩:=PT (λ_=>rfl) h0
  refine(Any.slices_Compact_int Tryz.laysNm220 g off c l w hH (by omega) h0.2.1).mono ?_
  rintro e w' ⟨rfl,q,rfl⟩
  exact⟨(),rfl,trivial,UE (λ_=>rfl) (by have:=HJ l;simp;omega) h0⟩
abbrev LI(p0)(p1):=((.tuple #[.agg (aX<|aK p0 p1).toArray,i_<|fN p0 p1]):Value)
theorem LJ(bt mb:Nat)(kv:hV Cl)(bu mc:Nat)(kw:hV Cl)(hl:kv.length≤64)(hm:kw.length≤64)(w:World)(r0:(aA bt [.map<|some mb] 185).holds w)(r1:(cN mb kv).holds w)(r2:(aA bu [.map<|some mc] 185).holds w)(r3:(cN mc kw).holds w)(hs:HI w []):
  CV 67 #[p_ bt,p_ bu] w [] (λ((al',cl'):(k0)×Nat)=>(vS al' (dE kv kw) cl')) (λ_=>True) λ(al',cl')=>[sI al' (dE kv kw) cl']:=by
 have hk1:=zJ kv;have hk2:=zJ kw;unfold jr at hk1 hk2;have hk3:((aV kv<|λv_=>true)++(aV kw<|λv_=>true)).length≤128:=by rw[List.length_append];omega
 refine aU Tryz.func67 rfl hs (aE []<|aE [(5,e_)]<|bS<|cV [.p] [(12,p_ bt)]<|aG<|dH (some 13) [] (λw s h=>Et bt mb kv (by omega) w (bK s r0) (bK s r1) h) ?_)
 rintro⟨al'1,cl'2⟩-
 refine cV [.p] [(13,vS al'1 (aV kv<|λv_=>true) cl'2),(14,p_ bu)]<|aG<|dH (some 15) [] (λw s h=>Et bu mc kw (by omega) w (bK s r2) (bK s r3) h) ?_
 rintro⟨al'4,cl'5⟩-
 refine aG<|eB 16 (e:=65) [vS al'1 (aV kv<|λv_=>true) cl'2,vS al'4 (aV kw<|λv_=>true) cl'5] (by kernel_rfl) rfl (λ_=>by kernel_rfl) _ (λ_=>rfl) ?_
 intro b7
 refine aG<|dH (some 17) [] (λw s h=>Oj b7 al'1 (aV kv<|λv_=>true) cl'2 al'4 (aV kw<|λv_=>true) cl'5 (by omega) (by omega) w (s.mem (i:=2) rfl) ((bW (i:=1) rfl) w s) ((bW (i:=0) rfl) w s) h) ?_
 rintro⟨al'8,cl'9⟩-
 refine aQ [(17,vS al'8 ((aV kv<|λv_=>true)++(aV kw<|λv_=>true)) cl'9),(18,i_ (((aV kv<|λv_=>true)++(aV kw<|λv_=>true)).length:Int)),(19,i_ 0)]<|aR<|gW 3 1 [sI al'8 ((aV kv<|λv_=>true)++(aV kw<|λv_=>true)) cl'9,sI al'4 (aV kw<|λv_=>true) cl'5,sI al'1 (aV kv<|λv_=>true) cl'2,aA b7 [vS al'1 (aV kv<|λv_=>true) cl'2,vS al'4 (aV kw<|λv_=>true) cl'5] 65,sI none ([]:Wx) 0] rfl (ca 4 (sI none (fa kv kw 0) 0) rfl (eJ (by rfl:([]:Wx)=(fa kv kw 0))) (dO 5 (vS none (fa kv kw 0) 0) (congrArg (λz_:Wx=>some<|Value.slice none z_.length 0) (by rfl:([]:Wx)=(fa kv kw 0)))<|iC (σ:=Nat×(k0)×Nat) [] (λ(k,ao,co)=>[(19,c_ k),(5,vS ao (fa kv kw k) co)]) [4] (λ(k,ao,co)=>[sI ao (fa kv kw k) co]) (λ(k,ao,co)=>(k≤((aV kv<|λv_=>true)++(aV kw<|λv_=>true)).length)) (λ(k,ao,co)=>((aV kv<|λv_=>true)++(aV kw<|λv_=>true)).length-k) (0,none,0) (by omega) ?_ ?_))
 ·exact cX [4,0,0,0,0]
 rintro⟨k,ao,co⟩ hk
 have hk:k≤((aV kv<|λv_=>true)++(aV kw<|λv_=>true)).length:=hk
 have htl:=Qe kv kw k
 refine aE [(20,b_<|decide ((k:Int)<(((aV kv<|λv_=>true)++(aV kw<|λv_=>true)).length:Int)))]<|aD<|aL rfl (λe4=>?_) (λe4=>?_)
 ·have p4:=Zg e4
  refine az<|aR<|aC<|jJ [.ix] [(21,.pointer<|some<|(au al'8).add (k*1))] (o1<|jV 1 k dG rfl (by omega)) ?_
  obtain⟨x12,hx12⟩: ∃x,(((aV kv<|λv_=>true)++(aV kw<|λv_=>true)))[k]? =some x:=⟨_,Ze<|by omega⟩
  refine aj [.rd [i_ x12]] [(7,i_ x12)] (o1<|ro ((au al'8).add (k*1))<|dr (vs:=[i_ x12]) dG (bW (i:=1) rfl) hx12 (Nat.le_of_ble_eq_true rfl) rfl)<|aC<|jI [.cq<|LI kv x12,.al,.st 5] [] (λb13=>[(8,p_ b13),(9,i_<|fN kv x12)]) (λb13=>[]) (λb13=>aA b13 (aX<|aK kv x12) 62) (λb13=>o1<|qo<|λw s=>tu bt mb kv x12 w (bK s r0)<|bK s r1) ?_
  intro b13
  refine aC<|jI [.cq<|LI kw x12,.al,.st 6] [] (λb14=>[(10,p_ b14),(11,i_<|fN kw x12)]) (λb14=>[]) (λb14=>aA b14 (aX<|aK kw x12) 62) (λb14=>o1<|qo<|λw s=>tu bu mc kw x12 w (bK s r2)<|bK s r3) ?_
  intro b14
  refine aC<|bB [.p,.p,.p,.p,.eq,.p,.o,.ld 5,.ld 6,.eq,.cl] [(44,b_<|(!(((fN kv x12)==0)==((fN kw x12)==0)))||(!((((aK kv x12).hi)==((aK kw x12).hi))&&((((aK kv x12).hp)==((aK kw x12).hp))&&((((aK kv x12).hl)==((aK kw x12).hl))&&(((((aK kv x12).ra)==((aK kw x12).ra))&&((((aK kv x12).rb)==((aK kw x12).rb))&&(((aK kv x12).rc)==((aK kw x12).rc))))&&(((((aK kv x12).la)==((aK kw x12).la))&&((((aK kv x12).lb)==((aK kw x12).lb))&&(((aK kv x12).lc)==((aK kw x12).lc))))&&(((((aK kv x12).ua)==((aK kw x12).ua))&&((((aK kv x12).ub)==((aK kw x12).ub))&&(((aK kv x12).uc)==((aK kw x12).uc))))&&((((aK kv x12).hk)==((aK kw x12).hk))&&(((aK kv x12).hq)==((aK kw x12).hq)))))))))))]<|aL rfl (λe5=>?_) (λe5=>?_)
  ·have hdf:kr kv kw x12=true:=by
    revert e5;unfold kr;cases h1_:aB kv x12 with
    |none=>cases h2_:aB kw x12 with
     |none=>simp[fN,aK,h1_,h2_,cG]
     |some v_=>simp[fN,aK,h1_,h2_,cG]
    |some u_=>cases h2_:aB kw x12 with
     |none=>simp[fN,aK,h1_,h2_,cG]
     |some v_=>obtain⟨_,_,_,_,_,_,_,_,_,_,_,_,_,_⟩:=u_;obtain⟨_,_,_,_,_,_,_,_,_,_,_,_,_,_⟩:=v_;simp[fN,aK,h1_,h2_];try(grind)
   refine aM<|an 2 [] [(45,vS ao (fa kv kw k) co),(46,i_ x12)]<|aG<|eB 47 (e:=3) [i_ x12] (by kernel_rfl) rfl (λ_=>by kernel_rfl) _ (λ_=>rfl) ?_
   intro b15
   refine aG<|iJ gq (fa kv kw k) ([x12]) 0 48 (i_ 0) 8 dG j9 (ef (i:=7) rfl) (by((simp;omega))) ?_
   intro A16 c16
   refine aQ [(5,vS A16 ((fa kv kw k)++([x12])) c16)]<|aM<|aj [.w<|(k:Int)+1] [(18,i_ (((aV kv<|λv_=>true)++(aV kw<|λv_=>true)).length:Int)),(19,i_<|(k:Int)+1),(5,vS A16 ((fa kv kw k)++([x12])) c16)] (o1<|wj ((k:Int)+1)<|by omega)<|ca 0 (sI A16 (fa kv kw<|k+1) c16) rfl (eJ (LG ‹_› hdf:(fa kv kw k)++([x12])=(fa kv kw<|k+1))) (dO 5 (vS A16 (fa kv kw<|k+1) c16) (kJ<|LG ‹_› hdf)<|bN (k+1,A16,c16) (by omega) (by(have h_:=(Zf.1 (by assumption:((aV kv<|λv_=>true)++(aV kw<|λv_=>true))[k]? =some _)).1;show((aV kv<|λv_=>true)++(aV kw<|λv_=>true)).length-(k+1)<((aV kv<|λv_=>true)++(aV kw<|λv_=>true)).length-k;omega)) ?_)
   exact cX [0,0,0,0,0]
  have hdf:kr kv kw x12=false:=by
   revert e5;unfold kr;cases h1_:aB kv x12 with
   |none=>cases h2_:aB kw x12 with
    |none=>simp[fN,aK,h1_,h2_,cG]
    |some v_=>simp[fN,aK,h1_,h2_,cG]
   |some u_=>cases h2_:aB kw x12 with
    |none=>simp[fN,aK,h1_,h2_,cG]
    |some v_=>obtain⟨_,_,_,_,_,_,_,_,_,_,_,_,_,_⟩:=u_;obtain⟨_,_,_,_,_,_,_,_,_,_,_,_,_,_⟩:=v_;simp[fN,aK,h1_,h2_];try(grind)
  refine aO<|aM<|aj [.w<|(k:Int)+1] [(19,i_<|(k:Int)+1)] (o1<|wj ((k:Int)+1)<|by omega)<|ca 0 (sI ao (fa kv kw<|k+1) co) rfl (eJ (LH ‹_› hdf:(fa kv kw k)=(fa kv kw<|k+1))) (dO 5 (vS ao (fa kv kw<|k+1) co) (kJ<|LH ‹_› hdf)<|bN (k+1,ao,co) (by omega) (by(have h_:=(Zf.1 (by assumption:((aV kv<|λv_=>true)++(aV kw<|λv_=>true))[k]? =some _)).1;show((aV kv<|λv_=>true)++(aV kw<|λv_=>true)).length-(k+1)<((aV kv<|λv_=>true)++(aV kw<|λv_=>true)).length-k;omega)) ?_)
  exact cX [0,0,0,0,0]
 have p4:=Zh e4
 refine bg<|aC<|cV [.p] [(50,vS ao (fa kv kw k) co)]<|aG<|b0 (some 51) [0] (w8 ao (fa kv kw k) co<|by omega) ?_
 rintro⟨⟩-
 refine eE<|aD<|dO 5 (vS ao (gb<|fa kv kw k) co) (uW<|by rw[pM])<|dO 50 (vS ao (gb<|fa kv kw k) co) (uW<|by rw[pM])<|aM<|cV [.p] [(52,vS ao (gb<|fa kv kw k) co)]<|aG<|b0 (some 53) [0] (PD ao (gb<|fa kv kw k) co<|by(rw[pM];omega)) ?_
 rintro⟨⟩-
 refine aQ [(4,vS ao (Go.Lib.compact<|gb<|fa kv kw k) co)]<|aF<|ca 0 (sI ao (dE kv kw) co) rfl (eJ (by(unfold dE;rw[Ij (show((aV kv<|λv_=>true)++(aV kw<|λv_=>true)).length≤k from by omega)];done):(Go.Lib.compact<|gb<|fa kv kw k)=(dE kv kw))) (bR [0] [vS ao (Go.Lib.compact<|gb<|fa kv kw k) co] (ao,co) ?_ ?_)
 ·show((vS ao (Go.Lib.compact<|gb<|fa kv kw k) co):Value)=(vS ao (dE kv kw) co)
  unfold dE;rw[Ij (show((aV kv<|λv_=>true)++(aV kw<|λv_=>true)).length≤k from by omega)]
 trivial
end Go.Proofs.YtobgjpigngoggaaGreat
namespace Go.Proofs.YtobgjpigngoggaaGreat
open Go V
def oG(kv kw:List (Int×Cl))(i:Int):Bool:=decide ((ai (aK kv i).ra (aK kv i).rb (aK kv i).rc)>1)||decide ((ai (aK kw i).ra (aK kw i).rb (aK kw i).rc)>1)
variable{l:Wx}{f:Int→Bool}{k:Nat}
theorem VY{i:Int}(h:l[k]? =some i)(hf:f i=true):l.any f=true:=List.any_eq_true.2 ⟨i,Zd h,hf⟩
theorem VZ(hn: ∀x∈l.take k,f x=false)(hk:l.length≤k):l.any f=false:=by
 rw[List.take_of_length_le hk] at hn;rw[List.any_eq_false];intro x hx;simp[hn x hx]
theorem V0{i:Int}(hn: ∀x∈l.take k,f x=false)(h:l[k]? =some i)(hf:f i=false): ∀x∈l.take (k+1),f x=false:=by
 rw[List.take_add_one,h];intro x hx
 rcases List.mem_append.1 hx with hx|hx
 ·exact hn x hx
 ·simp at hx;subst hx;exact hf
theorem EM(kv kw:hV Cl):(dE kv kw).length≤kv.length+kw.length:=by
 unfold dE
 refine Nat.le_trans (HJ _) ?_
 rw[pM]
 refine Nat.le_trans (List.length_filter_le _ _) ?_
 rw[List.length_append];have h1:=zJ kv;have h2:=zJ kw;omega
abbrev LK(p0)(p1):=((.tuple #[.agg (aX<|aK p0 p1).toArray,i_<|fN p0 p1]):Value)
abbrev FI(p0)(p1)(p2):=(b_ ((decide ((ai (aK p0 p1).ra (aK p0 p1).rb (aK p0 p1).rc)>1))||(decide ((ai (aK p2 p1).ra (aK p2 p1).rb (aK p2 p1).rc)>1))):Value)
theorem P9(ci:Int)(ba bb:Nat)(bt mb:Nat)(kv:hV Cl)(bu mc:Nat)(kw:hV Cl)(w:World)(r0:(aA ba [p_ bt] 131).holds w)(r1:(aA bb [p_ bu] 131).holds w)(r2:(aA bt [.map<|some mb] 185).holds w)(r3:(cN mb kv).holds w)(r4:(aA bu [.map<|some mc] 185).holds w)(r5:(cN mc kw).holds w):
  CW 102 #[i_ ci,p_ ba,p_ bb] w (b_<|oG kv kw ci):=by
 refine aU Tryz.func102 rfl (HS.nil w) (aE []<|aC<|jI [.rd [p_ bt],.cq<|LK kv ci,.al,.st 0] [] (λb1=>[(5,p_ b1)]) (λb1=>[]) (λb1=>aA b1 (aX<|aK kv ci) 62) (λb1=>oc (ro ⟨ba,0,none⟩ (vs:=[p_ bt])<|cE r0 rfl)<|o1<|qo<|λw s=>tu bt mb kv ci w (bK s r2)<|bK s r3) ?_)
 intro b1
 refine aC<|jI [.rd [p_ bu],.cq<|LK kw ci,.al,.st 1] [] (λb2=>[(7,p_ b2)]) (λb2=>[]) (λb2=>aA b2 (aX<|aK kw ci) 62) (λb2=>oc (ro ⟨bb,0,none⟩ (vs:=[p_ bu])<|cE r1 rfl)<|o1<|qo<|λw s=>tu bu mc kw ci w (bK s r4)<|bK s r5) ?_
 intro b2
 refine dF [.ld 0,.cq<|b_<|decide ((ai (aK kv ci).ra (aK kv ci).rb (aK kv ci).rc)>1),.o,.ld 1,.cq<|b_<|decide ((ai (aK kw ci).ra (aK kw ci).rb (aK kw ci).rc)>1),.cl] [(4,FI kv ci kw)] (oc (qw<|tL<|aK kv ci)<|o1<|go (true&&((decide ((ai (aK kv ci).ra (aK kv ci).rb (aK kv ci).rc)>1))==false)) λh_=>(qw<|tL<|aK kw ci))<|aF<|bJ [FI kv ci kw] ?_
 show((FI kv ci kw):Value)=(b_<|oG kv kw ci)
 rfl
abbrev xe(p0):=(b_ (decide ((p0:Int)≥0)):Value)
theorem V1(bt mb:Nat)(kv:hV Cl)(bu mc:Nat)(kw:hV Cl)(hl:kv.length≤64)(hm:kw.length≤64)(w:World)(r0:(aA bt [.map<|some mb] 185).holds w)(r1:(cN mb kv).holds w)(r2:(aA bu [.map<|some mc] 185).holds w)(r3:(cN mc kw).holds w):
  CW 70 #[p_ bt,p_ bu] w (b_<|(dE kv kw).any (oG kv kw)):=by
 have htl0:=EM kv kw
 refine aU Tryz.func70 rfl (HS.nil w) (aC<|iK [.al,.al] [] (λb1 b2=>[(2,p_ b1),(3,p_ b2)]) (λb1 b2=>[aA b1 [p_ bt] 131,aA b2 [p_ bu] 131]) ?_)
 intro b1 b2
 refine aC<|cV [.ld 0,.ld 1] [(5,p_ bt),(6,p_ bu)]<|aG<|dH (some 7) [] (λw s h=>LJ bt mb kv bu mc kw ‹_› ‹_› w (bK s r0) (bK s r1) (bK s r2) (bK s r3) h) ?_
 rintro⟨al'3,cl'4⟩-
 refine cV [.p] [(7,vS al'3 (dE kv kw) cl'4),(8,.func (.func 102) #[] #[p_ b1,p_ b2])]<|aG<|eM (some 9) [vS al'3 (dE kv kw) cl'4,.func (.func 102) #[] #[p_ b1,p_ b2]] Tryz.func68 rfl (aE []<|aC<|an 2 [] [(5,vS al'3 (dE kv kw) cl'4),(6,.func (.func 102) #[] #[p_ b1,p_ b2])]<|aG<|eM (some 7) [vS al'3 (dE kv kw) cl'4,.func (.func 102) #[] #[p_ b1,p_ b2]] Tryz.func98 rfl (aE []<|aD<|aE [(7,i_ ((dE kv kw).length:Int)),(8,i_ 0)]<|aR<|iC (σ:=Nat) [] (λk=>[(8,c_ k)]) [] (λk=>[]) (λk=>(k≤(dE kv kw).length)∧(∀x∈(dE kv kw).take k,oG kv kw x=false)) (λk=>(dE kv kw).length-k) (0:Nat) ⟨(by omega),(by simp)⟩ ?_ ?_))
 ·exact cX [0,0,0]
 rintro k ⟨hk,hn⟩
 have htl:=EM kv kw
 refine aE [(9,b_<|decide ((k:Int)<((dE kv kw).length:Int)))]<|aD<|aL rfl (λe2=>?_) (λe2=>?_)
 ·have p2:=Zg e2
  refine az<|aR<|aE [(5,c_ k)]<|aC<|eI 4 [.ix] [(11,.func (.func 102) #[] #[p_ b1,p_ b2]),(14,.pointer<|some<|(au al'3).add (k*1))] (o1<|jV 0 k dG rfl (by omega)) ?_
  obtain⟨x6,hx6⟩: ∃x,((dE kv kw))[k]? =some x:=⟨_,Ze<|by omega⟩
  refine aj [.rd [i_ x6],.cq<|b_<|oG kv kw x6] [(16,b_<|oG kv kw x6)] (oc (ro ((au al'3).add (k*1))<|dr (vs:=[i_ x6]) dG (bW (i:=0) rfl) hx6 (Nat.le_of_ble_eq_true rfl) rfl)<|o1<|qo<|λw s=>P9 x6 b1 b2 bt mb kv bu mc kw w (s.mem (i:=1) rfl) (s.mem (i:=2) rfl) (bK s r0) (bK s r1) (bK s r2)<|bK s r3)<|aL rfl (λe3=>?_) (λe3=>?_)
  ·refine aE [(4,c_ k)]<|aF<|d6 [c_ k]<|da [] [(4,xe k)]<|aF<|d6 [xe k]<|da [] [(4,xe k)]<|aF<|bJ [xe k] ?_
   show((xe k):Value)=(b_<|(dE kv kw).any (oG kv kw))
   refine congrArg Value.bool ?_;(rw[VY ‹_› ‹_›];rfl)
  have p3:=e3
  refine aO<|aM<|aj [.w<|(k:Int)+1] [(8,i_<|(k:Int)+1)] (o1<|wj ((k:Int)+1)<|by omega)<|bN (k+1) ⟨(by omega),(V0 hn ‹_› ‹_›)⟩ (by(show(dE kv kw).length-(k+1)<(dE kv kw).length-k;omega)) ?_
  exact cX [0,0,0]
 have p2:=Zh e2
 refine bg<|aE [(4,i_ (-1))]<|aF<|d6 [i_ (-1)]<|da [] [(4,b_ false)]<|aF<|d6 [b_ false]<|da [] [(4,b_ false)]<|aF<|bJ [b_ false] ?_
 show((b_ false):Value)=(b_<|(dE kv kw).any (oG kv kw))
 refine congrArg Value.bool ?_;(rw[VZ hn<|by omega];done)
def qg(l:List Int):List Int:=l.mergeSort λx y=>decide (x≤y)
def xq(l:List Int):List Int:=Go.Lib.compactUpTo l.toArray l.toArray.size
def vz(R:List Int):Prop:=R.Pairwise (· < ·)
theorem Qg{A:Wx}{y:Int}(h:vz A)(hy: ∀a∈A,a<y):vz (A++[y]):=List.pairwise_append.2 ⟨h,by simp,λa ha b hb=>by simp at hb;subst hb;exact hy a ha⟩
theorem LL{d:Array Int}(hd: ∀i,i+1<d.size→d[i]! ≤d[i+1]!): ∀m,m≤d.size→(∀y,y∈Go.Lib.compactUpTo d m↔ ∃j,j<m∧d[j]! =y)∧vz (Go.Lib.compactUpTo d m)∧ ∀y∈Go.Lib.compactUpTo d m,y≤d[m-1]!
 |0,_=>⟨λy=>by simp[Go.Lib.compactUpTo],by simp[Go.Lib.compactUpTo,vz],λy h=>by simp[Go.Lib.compactUpTo] at h⟩
 |m+1,hm=>by
  obtain⟨h1,h2,h3⟩:=LL hd m<|by omega
  rw[Go.Lib.compactUpTo_succ]
  have hstep: ∀y∈Go.Lib.compactUpTo d m,y≤d[m]! :=λy hy=>by
   have hy2:=h3 y hy
   cases m with
   |zero=>simp[Go.Lib.compactUpTo] at hy
   |succ q=>have:=hd q (by omega);simp at hy2;omega
  by_cases hk:Go.Lib.keeps d m=true
  ·rw[if_pos hk]
   refine⟨λy=>?_,?_,λy hy=>?_⟩
   ·rw[List.mem_append,h1,List.mem_singleton];constructor
    ·rintro(⟨j,hj,e⟩|e)
     ·exact⟨j,by omega,e⟩
     ·exact⟨m,by omega,e.symm⟩
    ·rintro⟨j,hj,e⟩
     by_cases g:j=m
     ·subst g;exact .inr e.symm
     ·exact .inl ⟨j,by omega,e⟩
   ·refine Qg h2 λy hy=>?_
    have h4:=hstep y hy
    cases m with
    |zero=>simp[Go.Lib.compactUpTo] at hy
    |succ q=>
     have h5:=h3 y hy;have h6:=hd q<|by omega
     simp[Go.Lib.keeps] at hk
     simp at h5
     have h7:d[q+1]! ≠d[q]! :=λe=>hk e
     omega
   ·rcases List.mem_append.1 hy with hy|hy
    ·exact hstep y hy
    ·simp at hy;subst hy;simp
  ·rw[if_neg hk,List.append_nil]
   have hq:m≠0∧d[m]! =d[m-1]! :=by simp[Go.Lib.keeps] at hk;exact hk
   refine⟨λy=>?_,h2,λy hy=>hstep y hy⟩
   rw[h1];constructor
   ·rintro⟨j,hj,e⟩;exact⟨j,by omega,e⟩
   ·rintro⟨j,hj,e⟩
    by_cases g:j=m
    ·subst g;exact⟨j-1,by omega,by rw[←hq.2];exact e⟩
    ·exact⟨j,by omega,e⟩
theorem PE(l:Wx):(qg l).Perm l:=List.mergeSort_perm _ _
theorem Qh(l:Wx):(qg l).Pairwise (· ≤ ·):=by
 have tr: ∀a b c:Int,decide (a≤b)=true→decide (b≤c)=true→decide (a≤c)=true:=λa b c h1 h2=>by simp only[decide_eq_true_eq] at*;omega
 have to: ∀a b:Int,(decide (a≤b)||decide (b≤a))=true:=λa b=>by simp only[Bool.or_eq_true,decide_eq_true_eq];omega
 exact(List.pairwise_mergeSort tr to l).imp λh=>by simpa using h
theorem Qi(l:Wx):vz (xq<|qg l)∧ ∀y,y∈xq (qg l)↔y∈l:=by
 have hd: ∀i,i+1<(qg l).toArray.size→(qg l).toArray[i]! ≤(qg l).toArray[i+1]! :=λi hi=>by
  rw[getElem!_pos _ i<|by omega,getElem!_pos _ (i+1) hi]
  simpa using List.pairwise_iff_getElem.1 (Qh l) i (i+1) (by simp at hi;omega) (by simpa using hi) (by omega)
 obtain⟨h1,h2,_⟩:=LL hd (qg l).toArray.size (Nat.le_refl _)
 refine⟨h2,λy=>?_⟩
 unfold xq;rw[h1,←(PE l).mem_iff,List.mem_iff_getElem]
 constructor
 ·rintro⟨j,hj,e⟩
  refine⟨j,by simpa using hj,?_⟩
  rw[getElem!_pos _ j hj] at e;simpa using e
 ·rintro⟨j,hj,e⟩
  refine⟨j,by simpa using hj,?_⟩
  rw[getElem!_pos _ j<|by simpa using hj];simpa using e
theorem xP(kv kw:hV Cl):vz (dE kv kw)∧ ∀z,z∈dE kv kw↔(z∈jr kv∨z∈jr kw)∧kr kv kw z=true:=by
 have h:=Qi<|(jr kv++jr kw).filter (kr kv kw)
 have e:dE kv kw=xq (qg<|(jr kv++jr kw).filter (kr kv kw)):=by unfold dE xq Go.Lib.compact;rfl
 rw[e];refine⟨h.1,λz=>?_⟩
 rw[h.2,List.mem_filter,List.mem_append]
end Go.Proofs.YtobgjpigngoggaaGreat
namespace Go.Proofs.YtobgjpigngoggaaGreat.V
open Go
def co(l:List aI):aI where
 foot:=aN l
 holds w:= ∀it∈l,it.holds w
 loc w w' h hw it hi:=it.loc w w' (λc hc=>h c<|Hk hi hc)<|hw it hi
 here w hw c hc:=by
  obtain⟨it,hi,hc⟩:=List.mem_flatMap.1 hc
  exact it.here w (hw it hi) c hc
theorem nj(l R:List aI):aN (co l::R)=aN (l++R):=by simp[aN,co]
variable{w:World}{l R:List aI}
theorem HS.coO{w0:World}{S:E6}(h:HS w0 S (co l::R) w):HS w0 S (l++R) w:=
 ⟨h.fr,λit hi=>(List.mem_append.1 hi).elim (λhi=>h.all _ (List.mem_cons_self ..) it hi) λhi=>h.all _<|List.mem_cons_of_mem _ hi,by have:=h.nodup;rwa[nj] at this,by have:=h.own;rwa[nj] at this⟩
variable{Is Os X Y:List aI}{w':World}
theorem Turn.coI(h:Turn (Is++X) (Os++Y) w w'):Turn (co Is::X) (co Os::Y) w w':=
 ⟨by rw[nj];exact h.fr,λit hi=>(List.mem_cons.1 hi).elim (λe=>e▸λit hi=>h.all it<|List.mem_append.2<|.inl hi) λhi=>h.all it<|List.mem_append.2<|.inr hi,by rw[nj];exact h.nodup,by rw[nj,nj];exact h.own⟩
theorem Turn.coR(h:Turn X (Os++Y) w w'):Turn X (co Os::Y) w w':=
 ⟨h.fr,λit hi=>(List.mem_cons.1 hi).elim (λe=>e▸λit hi=>h.all it<|List.mem_append.2<|.inl hi) λhi=>h.all it<|List.mem_append.2<|.inr hi,by rw[nj];exact h.nodup,by rw[nj];exact h.own⟩
section
variable{β σ:Type}{f:β→List aI}{kv:List (Int×β)}{k:Int}{m:β}
theorem Turn.bag{ek:Int→Value}{ev:β→Value}{b:Nat}{m':β}(hs:HS w (aN [co [bH ek ev b kv,df f kv]]) [co [bH ek ev b kv,df f kv]] w)(hm:aB kv k=some m)(hf:f m=Is++R)(hf':f m'=Os++R)(he:ev m'=ev m)
  (h:HS w (aN Is) Is w→Turn Is Os w w'):Turn [co [bH ek ev b kv,df f kv]] [co [bH ek ev b<|aJ kv k m',df f<|aJ kv k m']] w w':=by
 have h0:=hs.coO
 have hmp:(bH ek ev b kv).holds w:=h0.all _<|by simp
 have hb:(df f kv).holds w:=h0.all _<|by simp
 have hp1:(aN<|Is++(R++[bH ek ev b kv,df f<|aW kv k])).Perm (aN<|[bH ek ev b kv,df f kv]++[]):=by
  have:=(sJ hm).flatMap_right (λp:Int×β=>aN<|f p.2)
  simp only[List.flatMap_cons,hf,lW] at this
  refine List.perm_iff_count.2 λa=>?_
  have:=List.perm_iff_count.1 this a
  simp only[aN,df,lq,bH,List.flatMap_cons,List.flatMap_nil,List.append_nil,List.flatMap_append,List.count_append] at this⊢
  omega
 have h1:HS w (aN [co [bH ek ev b kv,df f kv]]) (Is++(R++[bH ek ev b kv,df f<|aW kv k])) w:=by
  refine⟨Fr.refl _ _,λit hi=>?_,hp1.nodup_iff.2 h0.nodup,λc hc=> .inl ?_⟩
  ·rcases List.mem_append.1 hi with hi|hi
   ·exact hb (k,m) (o0 hm) it (by rw[hf];exact List.mem_append.2<|.inl hi)
   rcases List.mem_append.1 hi with hi|hi
   ·exact hb (k,m) (o0 hm) it (by rw[hf];exact List.mem_append.2<|.inr hi)
   ·simp only[List.mem_cons,List.not_mem_nil,or_false] at hi
    rcases hi with rfl|rfl
    ·exact hmp
    ·exact λp hq=>hb p<|(sJ hm).mem_iff.2 (by simp[hq])
  ·have:=hp1.mem_iff.1 hc;rw[nj];exact this
 have h2:=h1.turned (List.Perm.refl _)<|h<|h1.focus<|List.Perm.refl _
 have hq:(aN<|[bH ek ev b<|aJ kv k m',df f<|aJ kv k m']++[]).Perm (aN<|Os++(R++[bH ek ev b kv,df f<|aW kv k])):=by
  have:=(qe k m' kv).flatMap_right (λp:Int×β=>aN<|f p.2)
  simp only[List.flatMap_cons,hf',lW] at this
  refine List.perm_iff_count.2 λa=>?_
  have:=List.perm_iff_count.1 this a
  simp only[aN,df,lq,bH,List.flatMap_cons,List.flatMap_nil,List.append_nil,List.flatMap_append,List.count_append] at this⊢
  omega
 refine Turn.coR ⟨h2.fr,λit hi=>?_,hq.nodup_iff.2 h2.nodup,λc hc=>h2.own c<|hq.mem_iff.1 hc⟩
 simp only[List.append_nil,List.mem_cons,List.not_mem_nil,or_false] at hi
 rcases hi with rfl|rfl
 ·exact Hl (h2.all (bH ek ev b kv)<|by simp)<|DW he hm
 ·intro p hq it hi
  rcases List.mem_cons.1 ((qe k _ kv).mem_iff.1 hq) with rfl|hq
  ·rw[hf'] at hi
   rcases List.mem_append.1 hi with hi|hi
   ·exact h2.all it<|List.mem_append.2<|.inl hi
   ·exact h2.all it<|List.mem_append.2<|.inr<|List.mem_append.2<|.inl hi
  ·exact(show(df f<|aW kv k).holds w' from h2.all _<|by simp) p hq it hi
end
section
variable{P:Program}{n:Nat}{env:aT}{w0:World}{S:E6}{H R H':List aI}{o:Oper}{G:Wy}{β:Type}
variable{encv:β→Value}{x y:Operand}{t kt et:TypeId}
theorem kP{κ:Type}[DecidableEq κ]{enck:κ→Value}{b:Nat}{kv:List (κ×β)}{k:κ}{m:β}{ok:Bool}{v:Value}(hit: ∀w,HS w0 S H w→(bH enck encv b kv).holds w)(hm:aB kv k=some m)(ho:o.op= .lookup t x y ok)(hx:ev env x=some (.map<|some b))(hy:ev env y=some (enck k))
  (ht:P.underlying t=some (.map kt et))(hk:jk P kt enck)(hv:(bif ok then .tuple #[encv m,.bool true] else encv m)=v):Qt P n env w0 S H o v:=
 gr λa w r s=>by
  subst hv
  obtain⟨⟨es,clock,hb,hE,_⟩,hn⟩:=hit w s
  rcases ud hk hE hn k w with⟨i,v,_,_,hg,hf⟩|⟨hg,_,hf⟩
  ·rw[hm] at hg;cases hg
   cases ok<;>simp[execOp,ho,r.ev hx,r.ev hy,Instr.lookup,run_underlying ht,Go.MapKept.run_getObj_map hb,hk.check,hf]
  ·rw[hm] at hg;cases hg
theorem PG{κ:Type}[DecidableEq κ]{enck:κ→Value}{b:Nat}{kv:List (κ×β)}{k:κ}{ok:Bool}{z v:Value}(hit: ∀w,HS w0 S H w→(bH enck encv b kv).holds w)(hm:aB kv k=none)(ho:o.op= .lookup t x y ok)(hx:ev env x=some (.map<|some b))(hy:ev env y=some (enck k))
  (ht:P.underlying t=some (.map kt et))(hk:jk P kt enck)(hz:(P.info? et).bind (·.zero)=some z)(hv:(bif ok then .tuple #[z,.bool false] else z)=v):Qt P n env w0 S H o v:=
 gr λa w r s=>by
  subst hv
  obtain⟨⟨es,clock,hb,hE,_⟩,hn⟩:=hit w s
  simp only[Option.bind_eq_some_iff] at hz
  obtain⟨inf,hinf,hz⟩:=hz
  rcases ud hk hE hn k w with⟨i,v,_,_,hg,hf⟩|⟨hg,_,hf⟩
  ·rw[hm] at hg;cases hg
  ·cases ok<;>simp[execOp,ho,r.ev hx,r.ev hy,Instr.lookup,run_underlying ht,Go.MapKept.run_getObj_map hb,hk.check,hf,zeroValue,typeInfo,hinf,hz]
theorem OL(i:Nat)(hp:fh [i] H=some ([co l],R))(hH:l++R=H')(h:V.A n env w0 S H' G):V.A n env w0 S H G:=
 yT [i] (Os:=l) hp (λw hw it hi=>hw _ (List.mem_singleton.2 rfl) it hi) (by rw[show[co l]=co l::[] from rfl,nj];simp) hH h
end
end Go.Proofs.YtobgjpigngoggaaGreat.V
namespace Go.Proofs.YtobgjpigngoggaaGreat
open Go V
structure Qu where
 br:Nat
 ar:Option Addr
 sx:List Pk
 cp:Nat
 f:Nat
 n:Nat
 rm:Int
 bs:Int
 k1:Int
 k2:Int
 k3:Int
 k4:Int
 k5:Int
 k6:Int
instance:Inhabited Qu:=⟨⟨0,none,[],0,0,0,0,0,0,0,0,0,0,0⟩⟩
def rC(b:Nat)(q:Qu):List V.aI:=[aA b [p_ q.br,i_ q.rm,i_ q.bs,u_ q.k1,u_ q.k2,u_ q.k3,u_ q.k4,u_ q.k5,u_ q.k6] 269,aA q.br [.slice q.ar q.sx.length q.cp,i_ (q.f:Int),i_ (q.n:Int)] 315,sl q.ar q.sx.length q.cp 45 6<|V.aP gm q.sx]
def iu(b:Option Nat)(q:Qu):V.aI:=match b with|none=>co []|some b=>co<|rC b q
def qp(b:Option Nat):Value:=match b with|none=>n_|some b=>p_ b
def mE(q:Qu):Prop:=q.f<q.sx.length∧q.n≤q.sx.length∧q.sx.length≤64
def qC(q:Qu):List Pk:=(List.range q.n).map λj=>q.sx.getD ((q.f+j)%q.sx.length) default
theorem nl(q:Qu):(qC q).length=q.n:=by simp[qC]
variable{q:Qu}
theorem Sl{p:Pk}(h:mE q)(hn:q.n<q.sx.length)(r:Qu)(e1:r.sx=q.sx.set ((q.f+q.n)%q.sx.length) p)(e2:r.f=q.f)(e3:r.n=q.n+1):qC r=qC q++[p]:=by
 have h0:0<q.sx.length:=by omega
 unfold qC;rw[e1,e2,e3,List.range_succ,List.map_append,List.length_set]
 congr 1
 ·refine List.map_congr_left λj hj=>?_
  have hj:=List.mem_range.1 hj
  have:(q.f+q.n)%q.sx.length≠(q.f+j)%q.sx.length:=λe=>by
   have h1:=h.1
   rcases Nat.lt_or_ge (q.f+q.n) q.sx.length with h2|h2
   ·rw[Nat.mod_eq_of_lt h2,Nat.mod_eq_of_lt<|by omega] at e;omega
   ·rw[Nat.mod_eq_sub_mod h2,Nat.mod_eq_of_lt<|by omega] at e
    rcases Nat.lt_or_ge (q.f+j) q.sx.length with h3|h3
    ·rw[Nat.mod_eq_of_lt h3] at e;omega
    ·rw[Nat.mod_eq_sub_mod h3,Nat.mod_eq_of_lt<|by omega] at e;omega
  simp[List.getD,List.getElem?_set_ne this]
 ·have:=Nat.mod_lt (q.f+q.n) h0
  simp[List.getD,List.getElem?_set_self this]
theorem V2{x:Pk}(h:mE q)(h0:0<q.n)(hx:q.sx[q.f]? =some x)(r:Qu)(e1:r.sx=q.sx.set q.f default)(e2:r.f=(q.f+1)%q.sx.length)(e3:r.n=q.n-1):qC q=x::qC r:=by
 have hf:=h.1
 unfold qC;rw[e1,e2,e3,List.length_set]
 obtain⟨m,hm⟩: ∃m,q.n=m+1:=⟨q.n-1,by omega⟩
 rw[hm,List.range_succ_eq_map,List.map_cons,List.map_map,Nat.add_sub_cancel]
 congr 1
 ·simp[Nat.mod_eq_of_lt hf,List.getD,hx]
 ·refine List.map_congr_left λj hj=>?_
  have hj:=List.mem_range.1 hj
  have hn:=h.2.1
  have e:((q.f+1)%q.sx.length+j)%q.sx.length=(q.f+(j+1))%q.sx.length:=by rw[Nat.mod_add_mod];congr 1;omega
  have hne:q.f≠(q.f+(j+1))%q.sx.length:=λe=>by
   rcases Nat.lt_or_ge (q.f+(j+1)) q.sx.length with h2|h2
   ·rw[Nat.mod_eq_of_lt h2] at e;omega
   ·rw[Nat.mod_eq_sub_mod h2,Nat.mod_eq_of_lt<|by omega] at e;omega
  show(q.sx.getD ((q.f+(j+1))%q.sx.length) default)=(q.sx.set q.f default).getD (((q.f+1)%q.sx.length+j)%q.sx.length) default
  rw[e];simp[List.getD,List.getElem?_set_ne hne]
theorem XS(b:Option Nat)(q:Qu)(h0:b=none→q.n=0)(w:World)(r:(iu b q).holds w):Calls Tryz.prog 107 #[qp b] w λe w'=>e= .returned (i_ ((qC q).length:Int))∧Fr [] w w':=by
 rw[nl]
 cases b with
 |none=>rw[h0 rfl];exact HQ w
 |some b=>exact Ed b q.br q.ar q.sx q.cp q.f q.n q.rm q.bs q.k1 q.k2 q.k3 q.k4 q.k5 q.k6 w (r _<|by simp[rC])<|r _<|by simp[rC]
variable{l:List V.aI}{w:World}
theorem HS.coS(h:HS w (aN [co l]) [co l] w):HS w (aN l) l w:=by
 have:=h.coO;rw[List.append_nil,nj,List.append_nil] at this;exact this
variable{w':World}
theorem Turn.coS{k:List V.aI}(h:Turn l k w w'):Turn [co l] [co k] w w':=Turn.coI<|by simpa using h
def BV(q:Qu)(p:Pk):Prop:=p.qn≤IntKind.i64.wrap (q.rm-q.bs)∧q.n<q.sx.length
def nI(q:Qu)(p:Pk)(r:Qu)(e:Int):Prop:=mE r∧r.rm=q.rm∧r.sx.length=q.sx.length∧((BV q p∧e=0∧qC r=qC q++[p]∧r.bs=IntKind.i64.wrap (q.bs+p.qn))∨(¬BV q p∧e=30∧qC r=qC q∧r.bs=q.bs))
def yB(q:Qu)(x:Pk)(r:Qu):Prop:=mE r∧qC q=x::qC r∧r.rm=q.rm∧r.sx.length=q.sx.length∧r.bs=IntKind.i64.wrap (q.bs-x.qn)
theorem V3(b:Nat)(q:Qu)(hk:mE q)(p:Pk)(hp:1≤p.qn∧p.qn≤16384)(w:World)(hs:HS w (aN [iu (some b) q]) [iu (some b) q] w):Calls Tryz.prog 112 #[p_ b,.agg #[u_ p.qi,i_ p.qn,w_ p.qa,w_ p.qb,w_ p.qc,w_ p.qd]] w λe w'=> ∃zz:Qu×Int,e= .returned (i_ zz.2)∧nI q p zz.1 zz.2∧Turn [iu (some b) q] [iu (some b) zz.1] w w':=by
 have hs':=HS.coS hs
 by_cases hd:p.qn≤IntKind.i64.wrap (q.rm-q.bs)
 ·by_cases hn:q.n<q.sx.length
  ·refine(SA b q.br q.ar q.sx q.cp q.f q.n q.rm q.bs q.k1 q.k2 q.k3 q.k4 q.k5 q.k6 p hp hd hk.1 hn hk.2.2 w hs').mono ?_
   rintro e w' ⟨⟨z1,z4⟩,rfl,-,ht⟩
   exact⟨({q with sx:=q.sx.set ((q.f+q.n)%q.sx.length) p,n:=q.n+1,bs:=_,k1:=z1,k4:=z4},0),rfl,⟨⟨by simpa using hk.1,by simp;omega,by simpa using hk.2.2⟩,rfl,by simp,.inl ⟨⟨hd,hn⟩,rfl,Sl hk hn _ rfl rfl rfl,rfl⟩⟩,Turn.coS ht⟩
  ·refine(O1 b q.br q.ar q.sx q.cp q.f q.n q.rm q.bs q.k1 q.k2 q.k3 q.k4 q.k5 q.k6 p hp hd (by have:=hk.2.1;omega) w hs').mono ?_
   rintro e w' ⟨⟨z3,z6⟩,rfl,-,ht⟩
   exact⟨({q with k3:=z3,k6:=z6},_),rfl,⟨hk,rfl,rfl,.inr ⟨λh=>hn h.2,rfl,rfl,rfl⟩⟩,Turn.coS ht⟩
 ·refine(O0 b q.br q.ar q.sx q.cp q.f q.n q.rm q.bs q.k1 q.k2 q.k3 q.k4 q.k5 q.k6 p hp (by omega) w hs').mono ?_
  rintro e w' ⟨⟨z3,z6⟩,rfl,-,ht⟩
  exact⟨({q with k3:=z3,k6:=z6},_),rfl,⟨hk,rfl,rfl,.inr ⟨λh=>hd h.1,rfl,rfl,rfl⟩⟩,Turn.coS ht⟩
theorem XT(b:Nat)(q:Qu)(hk:mE q)(h0:qC q≠[])(w:World)(hs:HS w (aN [iu (some b) q]) [iu (some b) q] w):Calls Tryz.prog 153 #[p_ b] w λe w'=> ∃zz:Qu×Pk,e= .returned (.tuple #[.agg #[u_ zz.2.qi,i_ zz.2.qn,w_ zz.2.qa,w_ zz.2.qb,w_ zz.2.qc,w_ zz.2.qd],i_ 0])∧yB q zz.2 zz.1∧Turn [iu (some b) q] [iu (some b) zz.1] w w':=by
 have h0:0<q.n:=by rw[←nl];exact List.length_pos_iff.2 h0
 refine(UO b q.br q.ar q.sx q.cp q.f q.n q.rm q.bs q.k1 q.k2 q.k3 q.k4 q.k5 q.k6 hk.1 hk.2.1 hk.2.2 h0 w<|HS.coS hs).mono ?_
 rintro e w' ⟨⟨x,z2,z5⟩,rfl,hx,ht⟩
 exact⟨({q with sx:=q.sx.set q.f default,f:=(q.f+1)%q.sx.length,n:=q.n-1,bs:=_,k2:=z2,k5:=z5},x),rfl,⟨⟨by simpa using Nat.mod_lt _ (by have:=hk.1;omega),by simp;have:=hk.2.1;omega,by simpa using hk.2.2⟩,V2 hk h0 hx _ rfl rfl rfl,rfl,by simp,rfl⟩,Turn.coS ht⟩
def dx(b:Option Nat)(q:Qu):Int:=if b=none∨q.n=0 then 0 else(q.sx.getD q.f default).qn
theorem V4(b:Option Nat)(q:Qu)(hk:b.isSome=true→mE q)(w:World)(r:(iu b q).holds w):Calls Tryz.prog 214 #[qp b] w λe w'=>e= .returned (i_<|dx b q)∧Fr [] w w':=by
 cases b with
 |none=>exact Of w
 |some b=>
  have hk:=hk rfl
  by_cases hn:q.n=0
  ·rw[show dx (some b) q=0 from if_pos<|.inr hn]
   exact OZ b q.br q.ar q.sx q.cp q.f q.n q.rm q.bs q.k1 q.k2 q.k3 q.k4 q.k5 q.k6 hn w (r _<|by simp[rC]) (r _<|by simp[rC])<|r _<|by simp[rC]
  ·rw[show dx (some b) q=(q.sx.getD q.f default).qn from if_neg<|by simp[hn]]
   exact Rz b q.br q.ar q.sx q.cp q.f q.n q.rm q.bs q.k1 q.k2 q.k3 q.k4 q.k5 q.k6 hk.1 hk.2.1 hk.2.2 (by omega) w (r _<|by simp[rC]) (r _<|by simp[rC])<|tq<|r (sl q.ar q.sx.length q.cp 45 6<|V.aP gm q.sx)<|by simp[rC]
theorem XU(m:Nat)(rm:Int)(h1:1≤m)(h2:m≤64)(h3:1≤rm∧rm≤1048576)(w:World)(hs:HS w (aN []) [] w):Calls Tryz.prog 108 #[i_ (m:Int),i_ rm] w λe w'=> ∃zz:Nat×Qu,e= .returned (.tuple #[p_ zz.1,i_ 0])∧(mE zz.2∧qC zz.2=[]∧zz.2.rm=rm∧zz.2.bs=0∧zz.2.sx.length=m)∧Turn [] [iu (some zz.1) zz.2] w w':=by
 refine(UK m rm h1 h2 h3 w hs).mono ?_
 rintro e w' ⟨⟨bq,br,al⟩,rfl,-,ht⟩
 exact⟨(bq,⟨br,al,List.replicate m default,m,0,0,rm,0,0,0,0,0,0,0⟩),rfl,⟨⟨by simp;omega,by simp,by simpa using h2⟩,rfl,rfl,rfl,by simp⟩,Turn.coR (Y:=[]) (by rw[List.append_nil];exact ht)⟩
structure En where
 eb:Nat
 qb:Option Nat
 q:Qu
 ec:Cl
 tot:Int
 du:Du
 sh:Sh
 li:Li
 deriving Inhabited
def pq(m:En):List Value:=qp m.qb::(aX m.ec++u_ m.tot::(fO m.du++iE m.sh++gu m.li))
def fj(m:En):List V.aI:=[iu m.qb m.q,aA m.eb (pq m) 225]
abbrev uY(b:Nat)(kb:hV En):V.aI:=bH (λk:Int=>i_ k) (λm:En=>p_ m.eb) b kb
def dj(b:Nat)(kb:List (Int×En)):V.aI:=co [uY b kb,df fj kb]
variable{b:Nat}{kb:hV En}
theorem nm(h:(dj b kb).holds w):(uY b kb).holds w:=h _<|by simp
variable{i:Int}{m:En}
theorem fk(h:(dj b kb).holds w)(hm:aB kb i=some m):(aA m.eb (pq m) 225).holds w:=xY (h (df fj kb)<|by simp) hm _<|by simp[fj]
theorem NA(h:(dj b kb).holds w)(hm:aB kb i=some m):(iu m.qb m.q).holds w:=xY (h (df fj kb)<|by simp) hm _<|by simp[fj]
structure lE(m:En):Prop where
 lf:m.ec.hl=true↔m.qb.isSome=true
 no:m.qb=none→m.q.n=0
 qu:m.qb.isSome=true→mE m.q
theorem xr(b:Nat)(kb:hV En)(i:Int)(m:En)(qx:Value)(hm:aB kb i=some m)(hq:qp m.qb=qx)(ho:lE m)(w:World)(r:(dj b kb).holds w):Calls Tryz.prog 107 #[qx] w λe w'=>e= .returned (i_ ((qC m.q).length:Int))∧Fr [] w w':=
 hq▸XS m.qb m.q ho.no w (NA r hm)
theorem Ja(hm:aB kb i=some m)(hs:HS w (aN [dj b kb]) [dj b kb] w)(h:HS w (aN [iu m.qb m.q]) [iu m.qb m.q] w→Turn [iu m.qb m.q] [iu m.qb q] w w'):Turn [dj b kb] [dj b<|aJ kb i {m with q:=q}] w w':=
 Turn.bag (f:=fj) (m':={m with q:=q}) (R:=[aA m.eb (pq m) 225]) hs hm rfl rfl rfl h
theorem Ik(hm:aB kb i=some m)(hs:HS w (aN [dj b kb]) [dj b kb] w):HS w (aN [iu m.qb m.q]) [iu m.qb m.q] w:=by
 have h:=(HS.coS hs).all (df fj kb) (by simp)
 refine HS.start w _ (λit hi=>by rw[List.mem_singleton] at hi;subst hi;exact xY h hm _<|by simp[fj]) ?_
 have hn:=(HS.coS hs).nodup
 rw[show[uY b kb,df fj kb]=[uY b kb]++[df fj kb] from rfl,lW] at hn
 have hn:=(List.nodup_append.1 hn).2.1
 rw[show aN [df fj kb]=lq fj kb by simp[aN,df]] at hn
 have:=((sJ hm).flatMap_right (λp:Int×En=>aN<|fj p.2)).nodup_iff.1 hn
 simp only[List.flatMap_cons] at this
 have:=(List.nodup_append.1 this).1
 rw[show fj m=[iu m.qb m.q]++[aA m.eb (pq m) 225] from rfl,lW] at this
 exact(List.nodup_append.1 this).1
theorem V5(b:Nat)(kb:hV En)(i:Int)(m:En)(qx:Value)(c:Nat)(p:Pk)(hm:aB kb i=some m)(hc:m.qb=some c)(hq:qp m.qb=qx)(ho:lE m)(hp:1≤p.qn∧p.qn≤16384)(w:World)(hs:HS w (aN [dj b kb]) [dj b kb] w):Calls Tryz.prog 112 #[qx,.agg #[u_ p.qi,i_ p.qn,w_ p.qa,w_ p.qb,w_ p.qc,w_ p.qd]] w λe w'=> ∃zz:Qu×Int,e= .returned (i_ zz.2)∧nI m.q p zz.1 zz.2∧Turn [dj b kb] [dj b<|aJ kb i {m with q:=zz.1}] w w':=by
 subst hq
 have hf:=Ik hm hs
 rw[hc] at hf
 rw[show qp m.qb=p_ c by rw[hc];rfl]
 refine(V3 c m.q (ho.qu (by rw[hc];rfl)) p hp w hf).mono ?_
 rintro e w' ⟨zz,h1,h2,h3⟩
 exact⟨zz,h1,h2,Ja hm hs λ_=>by rw[hc];exact h3⟩
theorem XV(b:Nat)(kb:hV En)(i:Int)(m:En)(qx:Value)(hm:aB kb i=some m)(hq:qp m.qb=qx)(ho:lE m)(h0:qC m.q≠[])(w:World)(hs:HS w (aN [dj b kb]) [dj b kb] w):Calls Tryz.prog 153 #[qx] w λe w'=> ∃zz:Qu×Pk,e= .returned (.tuple #[.agg #[u_ zz.2.qi,i_ zz.2.qn,w_ zz.2.qa,w_ zz.2.qb,w_ zz.2.qc,w_ zz.2.qd],i_ 0])∧yB m.q zz.2 zz.1∧Turn [dj b kb] [dj b<|aJ kb i {m with q:=zz.1}] w w':=by
 subst hq
 have hf:=Ik hm hs
 rcases hc:m.qb with _|c
 ·exact absurd (List.eq_nil_of_length_eq_zero (by rw[nl];exact ho.no hc)) h0
 ·rw[hc] at hf
  rw[←hc,show qp m.qb=p_ c by rw[hc];rfl]
  refine(XT c m.q (ho.qu (by rw[hc];rfl)) h0 w hf).mono ?_
  rintro e w' ⟨zz,h1,h2,h3⟩
  exact⟨zz,h1,h2,Ja hm hs λ_=>by rw[hc];exact h3⟩
theorem Jb(b:Nat)(kb:hV En)(i:Int)(m:En)(qx:Value)(hq:qp m.qb=qx)(ho:lE m)(w:World)(r:(co [bH (λk:Int=>i_ k) (λm:En=>p_ m.eb) b kb,df fj<|aW kb i,iu m.qb m.q]).holds w):Calls Tryz.prog 214 #[qx] w λe w'=>e= .returned (i_<|dx m.qb m.q)∧Fr [] w w':=
 hq▸V4 m.qb m.q ho.qu w (r _<|by simp)
section
variable{P:Program}{n:Nat}{env:aT}{w0:World}{S:E6}{H R H':List V.aI}{G:Wy}
def rD(b:Nat)(kb:List (Int×En))(i:Int)(m:En):V.aI:=co [uY b kb,df fj<|aW kb i,iu m.qb m.q]
theorem u2(j:Nat)(hp:fh [j] H=some ([dj b kb],R))(hm:aB kb i=some m)(hH:rD b kb i m::aA m.eb (pq m) 225::R=H')(h:V.A n env w0 S H' G):V.A n env w0 S H G:=by
 refine yT [j] (Os:=[rD b kb i m,aA m.eb (pq m) 225]) hp ?_ ?_ hH h
 ·intro w hw it hi
  have hb:(dj b kb).holds w:=hw _<|List.mem_singleton.2 rfl
  have hg:(df fj kb).holds w:=hb _<|by simp
  simp only[List.mem_cons,List.not_mem_nil,or_false] at hi
  rcases hi with rfl|rfl
  ·intro it hi
   simp only[List.mem_cons,List.not_mem_nil,or_false] at hi
   rcases hi with rfl|rfl|rfl
   ·exact nm hb
   ·exact λp hq=>hg p<|(sJ hm).mem_iff.2 (by simp[hq])
   ·exact NA hb hm
  ·exact fk hb hm
 ·have:=(sJ hm).flatMap_right (λp:Int×En=>aN<|fj p.2)
  simp only[List.flatMap_cons] at this
  simp only[rD,dj,aN,co,df,lq,bH,fj,aA,List.flatMap_cons,List.flatMap_nil,List.append_nil] at this⊢
  refine List.Perm.trans ?_<|(List.Perm.refl [b]).append this.symm
  rw[List.append_assoc]
  refine(List.Perm.refl [b]).append ?_
  rw[List.append_assoc]
  exact List.perm_append_comm
theorem u3{m':En}{t:Za}(is:E6)(hp:fh is H=some ([rD b kb i m,aA m.eb t 225],R))(hm:aB kb i=some m)(he:m'.eb=m.eb∧m'.qb=m.qb∧m'.q=m.q)(ht:pq m'=t)(hH:dj b (aJ kb i m')::R=H')(h:V.A n env w0 S H' G):V.A n env w0 S H G:=by
 obtain⟨h1,h2,h3⟩:=he
 refine yT is (Os:=[dj b<|aJ kb i m']) hp ?_ ?_ hH h
 ·intro w hw it hi
  have hr:(rD b kb i m).holds w:=hw _<|by simp
  have hk:(aA m.eb t 225).holds w:=hw _<|by simp
  rw[List.mem_singleton] at hi;subst hi
  intro it hi
  simp only[List.mem_cons,List.not_mem_nil,or_false] at hi
  rcases hi with rfl|rfl
  ·exact Hl (hr (uY b kb)<|by simp)<|DW (ev:=λm:En=>p_ m.eb) (show p_ m'.eb=p_ m.eb by rw[h1]) hm
  ·intro p hq it hi
   rcases List.mem_cons.1 ((qe i _ kb).mem_iff.1 hq) with rfl|hq
   ·simp only[fj,List.mem_cons,List.not_mem_nil,or_false] at hi
    rcases hi with rfl|rfl
    ·show(iu m'.qb m'.q).holds w
     rw[h2,h3];exact hr _<|by simp
    ·show(aA m'.eb (pq m') 225).holds w
     rw[h1,ht];exact hk
   ·exact(show(df fj<|aW kb i).holds w from hr _<|by simp) p hq it hi
 ·have:=(qe i m' kb).flatMap_right (λp:Int×En=>aN<|fj p.2)
  simp only[List.flatMap_cons] at this
  simp only[rD,dj,aN,co,df,lq,bH,fj,aA,List.flatMap_cons,List.flatMap_nil,List.append_nil,h1,h2,h3] at this⊢
  refine List.perm_iff_count.2 λa=>?_
  have:=List.perm_iff_count.1 this a
  simp only[List.count_append] at this⊢
  omega
end
theorem Sr(h:(rD b kb i m).holds w):(uY b kb).holds w:=h _<|by simp
theorem ie{β:Type}(kv:List (Int×β))(k:Int)(v:β):aB (aJ kv k v) k=some v:=by rw[ed,if_pos rfl]
theorem Su(bs mb mo mk:Nat)(ym:hV Pl)(on:hV Int)(kv:hV MB)(ci:Int)(hno:jT ym ci=false)(w:World)(r0:(aA bs [.map<|some mb,.map<|some mo,.map<|some mk] 197).holds w)(r1:(iY mb ym).holds w)(r2:(fq mo on).holds w)(r3:(hJ mk kv).holds w)(r4:(ee kv).holds w):
  CW 74 #[p_ bs,i_ ci] w (.tuple #[e_,i_ 6]):=by
 refine aU Tryz.func74 rfl (HS.nil w) (aE []<|aD<|aR<|aE [(10,b_ false)]<|bM<|aC<|eI 5 [.rd [.map<|some mb]] [(17,.map<|some mb),(18,i_ ci)] (o1<|ro ⟨bs,0,none⟩ (vs:=[.map<|some mb])<|cE r0 rfl)<|aG<|cC (some 19) _ (qL 3 200 ci ak (λw s=>bK s r1) eG)<|aQ [(13,b_<|(((aB ym ci).getD ak).pf)==0)]<|aL rfl (λe1=>?_) (λe1=>?_))
 ·refine aE [(4,e_),(5,i_ 6)]<|aF<|bJ [e_,i_ 6] ?_
  rfl
 exact absurd e1<|by(intro h_;unfold jT at hno;simp at h_ hno;exact h_ hno)
theorem Sv(bs mb mo mk:Nat)(ym:hV Pl)(on:hV Int)(kv:hV MB)(ci:Int)(hlf:jT ym ci=true)(his:fA on kv ci=true)(w:World)(r0:(aA bs [.map<|some mb,.map<|some mo,.map<|some mk] 197).holds w)(r1:(iY mb ym).holds w)(r2:(fq mo on).holds w)(r3:(hJ mk kv).holds w)(r4:(ee kv).holds w):
  CW 74 #[p_ bs,i_ ci] w (.tuple #[e_,i_ 8]):=by
 refine aU Tryz.func74 rfl (HS.nil w) (aE []<|aD<|aR<|aE [(10,b_ false)]<|bM<|aC<|eI 5 [.rd [.map<|some mb]] [(17,.map<|some mb),(18,i_ ci)] (o1<|ro ⟨bs,0,none⟩ (vs:=[.map<|some mb])<|cE r0 rfl)<|aG<|cC (some 19) _ (qL 3 200 ci ak (λw s=>bK s r1) eG)<|aQ [(13,b_<|(((aB ym ci).getD ak).pf)==0)]<|aL rfl (λe1=>?_) (λe1=>?_))
 ·exact absurd e1<|by(intro h_;unfold jT at hlf;simp at h_ hlf;exact hlf h_)
 refine dF [.cq<|b_<|fA on kv ci] [(22,b_<|fA on kv ci)] (o1<|qo<|λw s=>xo bs mb mo mk ym on kv ci w (bK s r0) (bK s r1) (bK s r2) (bK s r3)<|bK s r4)<|aL rfl (λe2=>?_) (λe2=>?_)
 ·refine aE [(4,e_),(5,i_ 8)]<|aF<|bJ [e_,i_ 8] ?_
  rfl
 exact absurd e2<|by(rw[his];simp)
theorem XX(bs mb mo mk:Nat)(ym:List (Int×Pl))(on:List (Int×Int))(kv:List (Int×MB))(ci:Int)(hlf:jT ym ci=true)(his:fA on kv ci=false)(hd0:jR ym 40 ci):
  CS 74 #[p_ bs,i_ ci] [aA bs [.map<|some mb,.map<|some mo,.map<|some mk] 197,iY mb ym,fq mo on,hJ mk kv,ee kv] (λ((kv',al',cl'):(List<|Int×MB)×(Option Addr)×Nat)=>(.tuple #[vS al' ((fD ym (kx kv) 40 ci).1) cl',i_ 0])) (λ(kv',al',cl')=>kx kv'=(fD ym (kx kv) 40 ci).2) λ(kv',al',cl')=>[aA bs [.map<|some mb,.map<|some mo,.map<|some mk] 197,iY mb ym,fq mo<|aJ on ci<|bU ym ci,hJ mk kv',ee kv',sI al' ((fD ym (kx kv) 40 ci).1) cl']:=by
 intro w hs
 refine aU Tryz.func74 rfl hs (aE []<|aD<|aR<|aE [(10,b_ false)]<|bM<|aC<|an 5 [.ld 0] [(17,.map<|some mb),(18,i_ ci)]<|aG<|cC (some 19) _ (kg (kt:=3) (et:=200) (enck:=(λk:Int=>i_ k)) (encv:=(λv_:Pl=>(.agg (sL v_).toArray))) (b:=mb) (kv:=ym) (k:=ci) (d0:=ak) (λw s=>s.mem (i:=1) rfl) rfl rfl rfl (by kernel_rfl) eG (by kernel_rfl) rfl)<|aQ [(13,b_<|(((aB ym ci).getD ak).pf)==0)]<|aL rfl (λe1=>?_) (λe1=>?_))
 ·exact absurd e1<|by(intro h_;unfold jT at hlf;simp at h_ hlf;exact hlf h_)
 refine dF [.cq<|b_<|fA on kv ci] [(22,b_<|fA on kv ci)] (o1<|qo<|λw s=>xo bs mb mo mk ym on kv ci w (s.mem (i:=0) rfl) (s.mem (i:=1) rfl) (s.mem (i:=2) rfl) (s.mem (i:=3) rfl)<|s.mem (i:=4) rfl)<|aL rfl (λe2=>?_) (λe2=>?_)
 ·exact absurd e2<|by(rw[his];simp)
 refine aO<|aD<|bY [12] 13<|cQ 3 [.ld 0,.ld 0] (rg 0 10) [(29,.map<|some mo),(30,i_ ci),(34,.map<|some mb),(35,i_ ci)]<|lG 10 (some 36) (.agg (sL<|(aB ym ci).getD ak).toArray) rfl (by kernel_rfl) (by kernel_rfl) (kg (kt:=3) (et:=200) (enck:=(λk:Int=>i_ k)) (encv:=(λv_:Pl=>(.agg (sL v_).toArray))) (b:=mb) (kv:=ym) (k:=ci) (d0:=ak) (λw s=>s.mem (i:=1) rfl) rfl rfl rfl (by kernel_rfl) eG (by kernel_rfl) rfl) (wN 1 [] [11] [(0,p_ bs),(1,i_ ci),(29,.map<|some mo),(30,i_ ci),(37,i_<|((aB ym ci).getD ak).pp)]<|bF 12 rfl (gV 3 3 2 ci (((aB ym ci).getD ak).pp) rfl eG (cb<|eN<|aC<|cV [.p] [(38,i_ ci)]<|aG<|eB 39 (e:=3) [i_ ci] (by kernel_rfl) rfl (λ_=>by kernel_rfl) _ (λ_=>rfl) ?_)))
 intro b1
 refine aQ [(6,.slice (some ⟨b1,0,none⟩) 1 1)]<|aD<|yU 5 (b:=b1) 1 1 [aA bs [.map<|some mb,.map<|some mo,.map<|some mk] 197,iY mb ym,fq mo<|aJ on ci<|((aB ym ci).getD ak).pp,hJ mk kv,ee kv,sI (some ⟨b1,0,none⟩) ([ci]) 1] rfl rfl (by decide) rfl (bZ [(6,vS (some ⟨b1,0,none⟩) ([ci]) 1),(7,i_ ci)]<|aR<|ca 5 (sI (some ⟨b1,0,none⟩) (([]:List Int)++[ci]) 1) rfl (eJ (by rfl:[ci]=(([]:List Int)++[ci]))) (dO 6 (vS (some ⟨b1,0,none⟩) (([]:List Int)++[ci]) 1) (kJ<|by rfl)<|iC (σ:=Int×Nat×(List Int)×(List<|Int×MB)×(Option Addr)×Nat) [] (λ(i,n,pre,kvk,ao,co)=>[(7,i_ i),(6,vS ao (pre++[i]) co)]) [0,0,0,0,0,0] (λ(i,n,pre,kvk,ao,co)=>[aA bs [.map<|some mb,.map<|some mo,.map<|some mk] 197,iY mb ym,fq mo<|aJ on ci<|((aB ym ci).getD ak).pp,hJ mk kvk,ee kvk,sI ao (pre++[i]) co]) (λ(i,n,pre,kvk,ao,co)=>((pre++(fD ym (kx kvk) n i).1,(fD ym (kx kvk) n i).2)=fD ym (kx kv) 40 ci)∧(jR ym n i)∧(pre.length+n≤40)) (λ(i,n,pre,kvk,ao,co)=>n) (ci,40,([]:List Int),kv,some ⟨b1,0,none⟩,1) ⟨(by rfl),‹_›,(by simp)⟩ ?_ ?_))
 ·exact cX [0,0,0,0,0,0]
 rintro⟨i,n,pre,kvk,ao,co⟩ ⟨hp,hd,hl⟩
 obtain⟨n,rfl⟩: ∃m,n=m+1:=by cases n with|zero=>exact hd.elim|succ m=>exact⟨m,rfl⟩
 refine aR<|aC<|an 5 [.ld 0] [(44,.map<|some mb),(45,i_ i)]<|aG<|cC (some 46) _ (kg (kt:=3) (et:=200) (enck:=(λk:Int=>i_ k)) (encv:=(λv_:Pl=>(.agg (sL v_).toArray))) (b:=mb) (kv:=ym) (k:=i) (d0:=ak) (λw s=>s.mem (i:=1) rfl) rfl rfl rfl (by kernel_rfl) eG (by kernel_rfl) rfl)<|aQ [(8,i_<|((aB ym i).getD ak).pp)]<|aC<|an 5 [.ld 0] [(51,.map<|some mk),(52,i_<|((aB ym i).getD ak).pp)] ?_
 rcases hk2:aB kvk (((aB ym i).getD ak).pp) with _|m2
 ·have hx2:=Ds hk2
  refine aG<|cC (some 53) (.map none) (jC (zX hk2)<|qL 3 194 (((aB ym i).getD ak).pp) m0 (qM 3 rfl) eG)<|aG<|cC (some 54) (i_ 0) (DV (kt:=3) (et:=3) rfl rfl (by kernel_rfl))<|aQ [(9,i_ 0)]<|aD<|aE [(56,b_ true)]<|dU<|aM<|an 5 [.ld 0] [(60,.map<|some mk),(61,i_<|((aB ym i).getD ak).pp)]<|aG<|nU (λk:Int=>i_ k) (λx:Int=>i_ x) 62 (by kernel_rfl) rfl (λm3=>[aA bs [.map<|some mb,.map<|some mo,.map<|some mk] 197,iY mb ym,fq mo<|aJ on ci<|((aB ym ci).getD ak).pp,hJ mk kvk,ee kvk,sI ao (pre++[i]) co,fq m3 ([]:List (Int×Int))]) (λ_=>rfl) ?_
  intro m3
  refine aG<|Gp (kt:=3) (et:=194) (enck:=(λk:Int=>i_ k)) (encv:=pj) (kv:=kvk) (k:=((aB ym i).getD ak).pp) 3 (⟨some m3,([]:List (Int×Int))⟩:MB) [aA bs [.map<|some mb,.map<|some mo,.map<|some mk] 197,iY mb ym,fq mo<|aJ on ci<|((aB ym ci).getD ak).pp,hJ mk<|aJ kvk (((aB ym i).getD ak).pp) (⟨some m3,([]:List (Int×Int))⟩:MB),ee kvk,sI ao (pre++[i]) co,fq m3 ([]:List (Int×Int))] (by kernel_rfl) rfl rfl rfl rfl (by kernel_rfl) eG rfl rfl (Bo [aA bs [.map<|some mb,.map<|some mo,.map<|some mk] 197,iY mb ym,fq mo<|aJ on ci<|((aB ym ci).getD ak).pp,hJ mk<|aJ kvk (((aB ym i).getD ak).pp) (⟨some m3,([]:List (Int×Int))⟩:MB),ee<|aW kvk<|((aB ym i).getD ak).pp,sI ao (pre++[i]) co,fq m3 ([]:List (Int×Int))] (by rw[vh hk2]) ?_)
  have hk4:aB (aJ kvk (((aB ym i).getD ak).pp) (⟨some m3,([]:List (Int×Int))⟩:MB)) (((aB ym i).getD ak).pp)=some (⟨some m3,([]:List (Int×Int))⟩:MB):=by rw[ig,if_pos rfl]
  refine eE<|aC<|an 5 [.ld 0] [(7,i_ i),(6,vS ao (pre++[i]) co),(8,i_<|((aB ym i).getD ak).pp),(9,i_ 0),(66,.map<|some mk),(67,i_<|((aB ym i).getD ak).pp)]<|aG<|cC (some 68) (.map<|some m3) (jC (tZ hk4 rfl)<|qL 3 194 (((aB ym i).getD ak).pp) m0 (qM 3 rfl) eG)<|cV [.p] [(69,i_ i)]<|aG<|gV 3 3 6 i 1 rfl eG (eE<|aD<|aD<|eQ [3,3,4] [hJ mk<|aJ kvk (((aB ym i).getD ak).pp) (⟨some m3,aJ ([]:List (Int×Int)) i 1⟩:MB),ee<|aJ kvk (((aB ym i).getD ak).pp) (⟨some m3,aJ ([]:List (Int×Int)) i 1⟩:MB)] rfl (λw hs=>wq mk (aJ kvk (((aB ym i).getD ak).pp) (⟨some m3,([]:List (Int×Int))⟩:MB)) kvk (((aB ym i).getD ak).pp) m3 (aJ ([]:List (Int×Int)) i 1) _ (by rw[DT]) (hk4) hs) ?_)
  have hq:kx (aJ kvk (((aB ym i).getD ak).pp) (⟨some m3,aJ ([]:List (Int×Int)) i 1⟩:MB))=mY (kx kvk) (bU ym i) i:=by funext q;rw[xX];unfold mY;simp only[];split<;>simp_all[bU]
  refine bZ [(73,i_<|((aB ym i).getD ak).pp),(74,b_<|(((aB ym i).getD ak).pp)==0),(75,b_<|(((aB ym i).getD ak).pp)==0)]<|aL rfl (λe3=>?_) (λe3=>?_)
  ·have p3:=e3;try simp only[cR] at p3
   refine aD ?_
   have hs_:kx kvk (bU ym i)≠[]∨bU ym i=0:=by unfold bU;(right;assumption)
   refine bZ [(4,vS ao (pre++[i]) co),(5,i_ 0)]<|aF<|?_
   rw[show aJ on ci (((aB ym ci).getD ak).pp)=(aJ on ci<|bU ym ci) from by rfl]
   refine ca 5 (sI ao ((fD ym (kx kv) 40 ci).1) co) rfl (eJ (by(rw[←hp,pW hs_]):(pre++[i])=((fD ym (kx kv) 40 ci).1))) (bR [2,2,2,0,0,0] [vS ao (pre++[i]) co,i_ 0] ((aJ kvk (((aB ym i).getD ak).pp) (⟨some m3,aJ ([]:List (Int×Int)) i 1⟩:MB)),ao,co) ?_ ?_)
   ·show((.tuple #[vS ao (pre++[i]) co,i_ 0]):Value)=(.tuple #[vS ao ((fD ym (kx kv) 40 ci).1) co,i_ 0])
    (rw[←hp,pW hs_])
   show kx (aJ kvk (((aB ym i).getD ak).pp) (⟨some m3,aJ ([]:List (Int×Int)) i 1⟩:MB))=(fD ym (kx kv) 40 ci).2
   (rw[hq,←hp,pW hs_])
  refine az ?_
  have hg_: ¬(kx kvk (bU ym i)≠[]∨bU ym i=0):=by unfold bU;rw[hx2];(simp_all;done)
  refine aM<|an 2 [] [(77,vS ao (pre++[i]) co),(78,i_<|((aB ym i).getD ak).pp)]<|aG<|eB 79 (e:=3) [i_<|((aB ym i).getD ak).pp] (by kernel_rfl) rfl (λ_=>by kernel_rfl) _ (λ_=>rfl) ?_
  intro b5
  refine aG<|iJ gq (pre++[i]) ([((aB ym i).getD ak).pp]) 5 80 (i_ 0) 8 dG j9 (ef (i:=6) rfl) (by(simp;omega)) ?_
  intro A6 c6
  refine aQ [(6,vS A6 ((pre++[i])++([((aB ym i).getD ak).pp])) c6)]<|bZ [(7,i_<|((aB ym i).getD ak).pp)] ?_
  have hnx:((pre++[i])++(fD ym (kx<|aJ kvk (((aB ym i).getD ak).pp) (⟨some m3,aJ ([]:List (Int×Int)) i 1⟩:MB)) n<|bU ym i).1,(fD ym (kx<|aJ kvk (((aB ym i).getD ak).pp) (⟨some m3,aJ ([]:List (Int×Int)) i 1⟩:MB)) n<|bU ym i).2)=fD ym (kx kv) 40 ci∧jR ym n (bU ym i):=by rw[hq,←hp,BS hg_];exact⟨by simp,hd.resolve_left λh_=>hg_<|.inr h_⟩
  refine ca 5 (sI A6 ((pre++[i])++[((aB ym i).getD ak).pp]) c6) rfl (eJ (by rfl:(pre++[i])++([((aB ym i).getD ak).pp])=((pre++[i])++[((aB ym i).getD ak).pp]))) (dO 6 (vS A6 ((pre++[i])++[((aB ym i).getD ak).pp]) c6) (kJ<|by rfl)<|bN (((aB ym i).getD ak).pp,n,pre++[i],aJ kvk (((aB ym i).getD ak).pp) (⟨some m3,aJ ([]:List (Int×Int)) i 1⟩:MB),A6,c6) ⟨hnx.1,hnx.2,(by(simp;omega))⟩ (by(simp;done)) ?_)
  exact cX [2,2,2,0,0,0]
 have hx2:=Dt hk2
 refine OE [4] (λb2:Nat=>m2.mb=some b2) (λb2=>[ee<|aW kvk<|((aB ym i).getD ak).pp,fq b2 m2.mx]) (λw hs=>I0 kvk (((aB ym i).getD ak).pp) hk2 hs) rfl (λb2 hm2=>?_)
 refine aG<|cC (some 53) (.map<|some b2) (jC (tZ hk2 hm2)<|qL 3 194 (((aB ym i).getD ak).pp) m0 (qM 5 rfl) eG)<|aG<|cC (some 54) (c_ m2.mx.length) (u7 (kt:=3) (et:=3) (enck:=(λk:Int=>i_ k)) (encv:=(λx:Int=>i_ x)) (b:=b2) (kv:=m2.mx) (qM 1 rfl) rfl rfl (by kernel_rfl))<|aQ [(7,i_ i),(6,vS ao (pre++[i]) co),(8,i_<|((aB ym i).getD ak).pp),(9,c_ m2.mx.length)]<|aD<|aE [(56,b_<|(m2.mx.length:Int)==0)]<|aL rfl (λe4=>?_) (λe4=>?_)
 ·refine aM<|an 5 [.ld 2] [(60,.map<|some mk),(61,i_<|((aB ym i).getD ak).pp)]<|aG<|nU (λk:Int=>i_ k) (λx:Int=>i_ x) 62 (by kernel_rfl) rfl (λm7=>[ee<|aW kvk<|((aB ym i).getD ak).pp,fq b2 m2.mx,aA bs [.map<|some mb,.map<|some mo,.map<|some mk] 197,iY mb ym,fq mo<|aJ on ci<|((aB ym ci).getD ak).pp,hJ mk kvk,sI ao (pre++[i]) co,fq m7 ([]:List (Int×Int))]) (λ_=>rfl) ?_
  intro m7
  refine aG<|gV 3 194 5 (((aB ym i).getD ak).pp) (⟨some m7,([]:List (Int×Int))⟩:MB) rfl eG ?_
  have hk8:aB (aJ kvk (((aB ym i).getD ak).pp) (⟨some m7,([]:List (Int×Int))⟩:MB)) (((aB ym i).getD ak).pp)=some (⟨some m7,([]:List (Int×Int))⟩:MB):=by rw[ig,if_pos rfl]
  refine eE<|aC<|an 5 [.ld 2] [(66,.map<|some mk),(67,i_<|((aB ym i).getD ak).pp)]<|aG<|cC (some 68) (.map<|some m7) (jC (tZ hk8 rfl)<|qL 3 194 (((aB ym i).getD ak).pp) m0 (qM 5 rfl) eG)<|cV [.p] [(69,i_ i)]<|aG<|gV 3 3 7 i 1 rfl eG (eE<|aD<|aD<|eQ [5,0,5] [hJ mk<|aJ kvk (((aB ym i).getD ak).pp) (⟨some m7,aJ ([]:List (Int×Int)) i 1⟩:MB),ee<|aJ kvk (((aB ym i).getD ak).pp) (⟨some m7,aJ ([]:List (Int×Int)) i 1⟩:MB)] rfl (λw hs=>wq mk (aJ kvk (((aB ym i).getD ak).pp) (⟨some m7,([]:List (Int×Int))⟩:MB)) kvk (((aB ym i).getD ak).pp) m7 (aJ ([]:List (Int×Int)) i 1) _ (by rw[DT]) (hk8) hs) ?_)
  have hq:kx (aJ kvk (((aB ym i).getD ak).pp) (⟨some m7,aJ ([]:List (Int×Int)) i 1⟩:MB))=mY (kx kvk) (bU ym i) i:=by funext q;rw[xX];unfold mY;simp only[];split<;>simp_all[bU]
  refine aM<|bB [.o,.cl] [(75,b_<|(decide ((m2.mx.length:Int)>0))||((((aB ym i).getD ak).pp)==0))]<|aL rfl (λe5=>?_) (λe5=>?_)
  ·refine aD ?_
   have hs_:kx kvk (bU ym i)≠[]∨bU ym i=0:=by unfold bU;(simp_all;done)
   refine bZ [(4,vS ao (pre++[i]) co),(5,i_ 0)]<|aF<|?_
   rw[show aJ on ci (((aB ym ci).getD ak).pp)=(aJ on ci<|bU ym ci) from by rfl]
   refine ca 6 (sI ao ((fD ym (kx kv) 40 ci).1) co) rfl (eJ (by(rw[←hp,pW hs_]):(pre++[i])=((fD ym (kx kv) 40 ci).1))) (bR [3,3,3,0,0,1] [vS ao (pre++[i]) co,i_ 0] ((aJ kvk (((aB ym i).getD ak).pp) (⟨some m7,aJ ([]:List (Int×Int)) i 1⟩:MB)),ao,co) ?_ ?_)
   ·show((.tuple #[vS ao (pre++[i]) co,i_ 0]):Value)=(.tuple #[vS ao ((fD ym (kx kv) 40 ci).1) co,i_ 0])
    (rw[←hp,pW hs_])
   show kx (aJ kvk (((aB ym i).getD ak).pp) (⟨some m7,aJ ([]:List (Int×Int)) i 1⟩:MB))=(fD ym (kx kv) 40 ci).2
   (rw[hq,←hp,pW hs_])
  refine az ?_
  have hg_: ¬(kx kvk (bU ym i)≠[]∨bU ym i=0):=by unfold bU;rw[hx2];(simp_all;done)
  refine aM<|an 2 [] [(77,vS ao (pre++[i]) co),(78,i_<|((aB ym i).getD ak).pp)]<|aG<|eB 79 (e:=3) [i_<|((aB ym i).getD ak).pp] (by kernel_rfl) rfl (λ_=>by kernel_rfl) _ (λ_=>rfl) ?_
  intro b9
  refine aG<|iJ gq (pre++[i]) ([((aB ym i).getD ak).pp]) 6 80 (i_ 0) 8 dG j9 (ef (i:=7) rfl) (by(simp;omega)) ?_
  intro A10 c10
  refine aQ [(6,vS A10 ((pre++[i])++([((aB ym i).getD ak).pp])) c10)]<|bZ [(7,i_<|((aB ym i).getD ak).pp)] ?_
  have hnx:((pre++[i])++(fD ym (kx<|aJ kvk (((aB ym i).getD ak).pp) (⟨some m7,aJ ([]:List (Int×Int)) i 1⟩:MB)) n<|bU ym i).1,(fD ym (kx<|aJ kvk (((aB ym i).getD ak).pp) (⟨some m7,aJ ([]:List (Int×Int)) i 1⟩:MB)) n<|bU ym i).2)=fD ym (kx kv) 40 ci∧jR ym n (bU ym i):=by rw[hq,←hp,BS hg_];exact⟨by simp,hd.resolve_left λh_=>hg_<|.inr h_⟩
  refine ca 6 (sI A10 ((pre++[i])++[((aB ym i).getD ak).pp]) c10) rfl (eJ (by rfl:(pre++[i])++([((aB ym i).getD ak).pp])=((pre++[i])++[((aB ym i).getD ak).pp]))) (dO 6 (vS A10 ((pre++[i])++[((aB ym i).getD ak).pp]) c10) (kJ<|by rfl)<|bN (((aB ym i).getD ak).pp,n,pre++[i],aJ kvk (((aB ym i).getD ak).pp) (⟨some m7,aJ ([]:List (Int×Int)) i 1⟩:MB),A10,c10) ⟨hnx.1,hnx.2,(by(simp;omega))⟩ (by(simp;done)) ?_)
  exact cX [3,3,3,0,0,1]
 refine aO<|aC<|an 5 [.ld 2] [(66,.map<|some mk),(67,i_<|((aB ym i).getD ak).pp)]<|aG<|cC (some 68) (.map<|some b2) (jC (tZ hk2 hm2)<|qL 3 194 (((aB ym i).getD ak).pp) m0 (qM 5 rfl) eG)<|cV [.p] [(69,i_ i)]<|aG<|gV 3 3 1 i 1 rfl eG (eE<|aD<|aD<|eQ [5,0,0] [hJ mk<|aJ kvk (((aB ym i).getD ak).pp) (⟨some b2,aJ m2.mx i 1⟩:MB),ee<|aJ kvk (((aB ym i).getD ak).pp) (⟨some b2,aJ m2.mx i 1⟩:MB)] rfl (λw hs=>wq mk kvk kvk (((aB ym i).getD ak).pp) b2 (aJ m2.mx i 1) _ (by rfl) (hk2.trans<|congrArg some<|E9 hm2) hs) ?_)
 have hq:kx (aJ kvk (((aB ym i).getD ak).pp) (⟨some b2,aJ m2.mx i 1⟩:MB))=mY (kx kvk) (bU ym i) i:=by funext q;rw[xX];unfold mY;simp only[];split<;>simp_all[bU]
 refine aM<|bB [.o,.cl] [(75,b_<|(decide ((m2.mx.length:Int)>0))||((((aB ym i).getD ak).pp)==0))]<|aL rfl (λe6=>?_) (λe6=>?_)
 ·refine aD ?_
  have hs_:kx kvk (bU ym i)≠[]∨bU ym i=0:=by unfold bU;(left;rw[hx2];intro h_;simp[h_] at*;done)
  refine bZ [(4,vS ao (pre++[i]) co),(5,i_ 0)]<|aF<|?_
  rw[show aJ on ci (((aB ym ci).getD ak).pp)=(aJ on ci<|bU ym ci) from by rfl]
  refine ca 5 (sI ao ((fD ym (kx kv) 40 ci).1) co) rfl (eJ (by(rw[←hp,pW hs_]):(pre++[i])=((fD ym (kx kv) 40 ci).1))) (bR [2,2,2,0,0,0] [vS ao (pre++[i]) co,i_ 0] ((aJ kvk (((aB ym i).getD ak).pp) (⟨some b2,aJ m2.mx i 1⟩:MB)),ao,co) ?_ ?_)
  ·show((.tuple #[vS ao (pre++[i]) co,i_ 0]):Value)=(.tuple #[vS ao ((fD ym (kx kv) 40 ci).1) co,i_ 0])
   (rw[←hp,pW hs_])
  show kx (aJ kvk (((aB ym i).getD ak).pp) (⟨some b2,aJ m2.mx i 1⟩:MB))=(fD ym (kx kv) 40 ci).2
  (rw[hq,←hp,pW hs_])
 refine az ?_
 have hg_: ¬(kx kvk (bU ym i)≠[]∨bU ym i=0):=by unfold bU;rw[hx2];(simp_all;done)
 refine aM<|an 2 [] [(77,vS ao (pre++[i]) co),(78,i_<|((aB ym i).getD ak).pp)]<|aG<|eB 79 (e:=3) [i_<|((aB ym i).getD ak).pp] (by kernel_rfl) rfl (λ_=>by kernel_rfl) _ (λ_=>rfl) ?_
 intro b11
 refine aG<|iJ gq (pre++[i]) ([((aB ym i).getD ak).pp]) 5 80 (i_ 0) 8 dG j9 (ef (i:=6) rfl) (by(simp;omega)) ?_
 intro A12 c12
 refine aQ [(6,vS A12 ((pre++[i])++([((aB ym i).getD ak).pp])) c12)]<|bZ [(7,i_<|((aB ym i).getD ak).pp)] ?_
 have hnx:((pre++[i])++(fD ym (kx<|aJ kvk (((aB ym i).getD ak).pp) (⟨some b2,aJ m2.mx i 1⟩:MB)) n<|bU ym i).1,(fD ym (kx<|aJ kvk (((aB ym i).getD ak).pp) (⟨some b2,aJ m2.mx i 1⟩:MB)) n<|bU ym i).2)=fD ym (kx kv) 40 ci∧jR ym n (bU ym i):=by rw[hq,←hp,BS hg_];exact⟨by simp,hd.resolve_left λh_=>hg_<|.inr h_⟩
 refine ca 5 (sI A12 ((pre++[i])++[((aB ym i).getD ak).pp]) c12) rfl (eJ (by rfl:(pre++[i])++([((aB ym i).getD ak).pp])=((pre++[i])++[((aB ym i).getD ak).pp]))) (dO 6 (vS A12 ((pre++[i])++[((aB ym i).getD ak).pp]) c12) (kJ<|by rfl)<|bN (((aB ym i).getD ak).pp,n,pre++[i],aJ kvk (((aB ym i).getD ak).pp) (⟨some b2,aJ m2.mx i 1⟩:MB),A12,c12) ⟨hnx.1,hnx.2,(by(simp;omega))⟩ (by(simp;done)) ?_)
 exact cX [2,2,2,0,0,0]
def eA(kv:List (Int×Cl))(i:Int):Bool:=decide ((ai (aK kv i).la (aK kv i).lb (aK kv i).lc)>1)
def qF(kv:List (Int×Cl))(ym:List (Int×Pl))(i:Int):List (Int×Pl):=if eA kv i=true then aJ ym i ⟨(aK kv i).hp,if(aK kv i).hl=true then 1 else 0⟩ else ym
def vq(kv:List (Int×Cl))(k:Nat):List (Int×Pl):=((aV kv<|λv_=>true).take k).foldl (qF kv) []
def eu(kv:List (Int×Cl)):List (Int×Pl):=(aV kv<|λv_=>true).foldl (qF kv) []
variable{kv:hV Cl}
theorem DK{k:Nat}(h:(aV kv<|λv_=>true)[k]? =some i):vq kv (k+1)=qF kv (vq kv k) i:=by
 unfold vq;rw[List.take_add_one,h];simp
theorem Qj{k:Nat}(h:(aV kv<|λv_=>true).length≤k):vq kv k=eu kv:=by unfold vq eu;rw[List.take_of_length_le h]
set_option maxHeartbeats 4000000 in
set_option maxRecDepth 100000 in
theorem Sz(bt mc:Nat)(kc:hV Cl)(hl:kc.length≤1000)(w:World)(r0:(aA bt [.map<|some mc] 185).holds w)(r1:(cN mc kc).holds w)(hs:HI w []):
  CV 62 #[p_ bt] w [] (λ((bs,mb,mo,mk):Nat×Nat×Nat×Nat)=>(p_ bs)) (λ_=>True) λ(bs,mb,mo,mk)=>[aA bs [.map<|some mb,.map<|some mo,.map<|some mk] 197,iY mb<|eu kc,fq mo ([]:hV Int),hJ mk ([]:hV MB),ee ([]:hV MB)]:=by
 have hkl:=rM kc<|λv_=>true
 refine aU Tryz.func62 rfl hs (dW [(0,p_ bt)] [] ⟨rfl,trivial⟩ rfl (aE []<|aC<|aG<|nU (λk:Int=>i_ k) (λv_:Pl=>(.agg (sL v_).toArray)) 9 (by kernel_rfl) rfl (λm1=>[iY m1 ([]:hV Pl)]) (λ_=>rfl) ?_))
 intro m1
 refine aG<|nU (λk:Int=>i_ k) (λx:Int=>i_ x) 10 (by kernel_rfl) rfl (λm2=>[iY m1 ([]:hV Pl),fq m2 ([]:hV Int)]) (λ_=>rfl) ?_
 intro m2
 refine aG<|nU (λk:Int=>i_ k) pj 11 (by kernel_rfl) rfl (λm3=>[iY m1 ([]:hV Pl),fq m2 ([]:hV Int),hJ m3 ([]:hV MB)]) (λ_=>rfl) ?_
 intro m3
 refine dM [.al] [] (λb4=>[(3,p_ b4)]) (λ_=>[]) (λb4=>aA b4 [.map<|some m1,.map<|some m2,.map<|some m3] 197) ?_
 intro b4
 refine bS<|cV [.p] [(14,p_ bt)]<|aG<|dH (some 15) [] (λw s h=>Et bt mc kc (by first|assumption|omega) w (bK s r0) (bK s r1) h) ?_
 rintro⟨al'5,cl'6⟩-
 refine aQ [(16,i_ ((aV kc<|λv_=>true).length:Int)),(17,i_ 0)]<|aR<|fY (λ(zz:Nat×(hV Pl))=>match zz with|(k,ymk)=>[(0,p_ bt),(3,p_ b4),(15,vS al'5 (aV kc<|λv_=>true) cl'6),(16,i_ ((aV kc<|λv_=>true).length:Int)),(17,c_ k)]) (λ(zz:Nat×(hV Pl))=>match zz with|(k,ymk)=>[aA b4 [.map<|some m1,.map<|some m2,.map<|some m3] 197,iY m1 ymk,fq m2 ([]:hV Int),hJ m3 ([]:hV MB),sI al'5 (aV kc<|λv_=>true) cl'6]) (λ(zz:Nat×(hV Pl))=>match zz with|(k,ymk)=>(k≤(aV kc<|λv_=>true).length)∧(ymk=vq kc k)) (λ(zz:Nat×(hV Pl))=>match zz with|(k,ymk)=>(aV kc<|λv_=>true).length-k) (0,([]:hV Pl)) ⟨(by omega),(by rfl)⟩ ?_ ?_
 ·exact bw [4,1,1,1,0] ⟨rfl,rfl,rfl,rfl,rfl,trivial⟩<|by kernel_rfl
 ·rintro⟨k,ymk⟩ ⟨hk,hy⟩
  refine dW [(0,p_ bt),(3,p_ b4),(15,vS al'5 (aV kc<|λv_=>true) cl'6),(16,i_ ((aV kc<|λv_=>true).length:Int)),(17,c_ k)] [aA b4 [.map<|some m1,.map<|some m2,.map<|some m3] 197,iY m1 ymk,fq m2 ([]:hV Int),hJ m3 ([]:hV MB),sI al'5 (aV kc<|λv_=>true) cl'6] ⟨rfl,rfl,rfl,rfl,rfl,trivial⟩ rfl (aE [(17,c_ k),(18,b_<|decide ((k:Int)<((aV kc<|λv_=>true).length:Int)))]<|aD<|aL (E:=decide ((k:Int)<((aV kc<|λv_=>true).length:Int))) rfl (λe2=>?_) (λe2=>?_))
  ·skip
   have p2:=Zg e2
   refine az<|aR<|aC<|Bv [.ix] [(0,p_ bt),(3,p_ b4),(15,vS al'5 (aV kc<|λv_=>true) cl'6),(16,i_ ((aV kc<|λv_=>true).length:Int)),(17,c_ k),(19,.pointer<|some<|(au al'5).add (k*1))] (o1<|jV 4 k dG rfl (by first|omega|(simp;omega)|(simp;done))) ?_
   obtain⟨x8,hx8⟩: ∃x,((aV kc<|λv_=>true))[k]? =some x:=⟨_,Ze<|by omega⟩
   refine aj [.rd [i_ x8]] [(5,i_ x8)] (o1<|ro ((au al'5).add (k*1))<|dr (vs:=[i_ x8]) dG (bW (i:=4) rfl) hx8 (Nat.le_of_ble_eq_true rfl) rfl)<|aC<|iI [.p,.p,.cq<|.tuple #[.agg (aX<|aK kc x8).toArray,i_<|fN kc x8],.p,.p,.p,.al,.st 5,.p] [0,3,15,16,17,5,6] (λb9=>[(0,p_ bt),(3,p_ b4),(15,vS al'5 (aV kc<|λv_=>true) cl'6),(16,i_ ((aV kc<|λv_=>true).length:Int)),(17,c_ k),(5,i_ x8),(6,p_ b9)]) (λb9=>[aA b4 [.map<|some m1,.map<|some m2,.map<|some m3] 197,iY m1 ymk,fq m2 ([]:hV Int),hJ m3 ([]:hV MB),sI al'5 (aV kc<|λv_=>true) cl'6,aA b9 (aX<|aK kc x8) 62]) (λb9=>[b9]) (λ_=>(λκ=>κ.call 72 [p_ bt,i_ x8] (.tuple #[.agg (aX<|aK kc x8).toArray,i_<|fN kc x8])∧True)) (λ_=>by kernel_rfl) (λb9=>⟨(λw s=>tu bt mc kc x8 w (bK s r0)<|bK s r1),trivial⟩) ?_
   intro b9
   refine aD<|dF [.ld 5,.cq<|b_<|decide ((ai (aK kc x8).la (aK kc x8).lb (aK kc x8).lc)>1)] [(6,p_ b9),(29,b_ (!(decide ((ai (aK kc x8).la (aK kc x8).lb (aK kc x8).lc)>1))))] (o1<|qw<|pI<|aK kc x8)<|aL (E:= !(decide ((ai (aK kc x8).la (aK kc x8).lb (aK kc x8).lc)>1))) rfl (λe3=>?_) (λe3=>?_)
   ·skip
    refine bg<|aM<|aj [.w<|(k:Int)+1] [(17,i_<|(k:Int)+1)] (o1<|wj ((k:Int)+1)<|by omega)<|bN (k+1,ymk) ⟨(by omega),(by(rw[DK ‹_›];unfold qF eA;subst hy;first|(simp_all;done)|(simp[*];done)|grind))⟩ (by(show(aV kc<|λv_=>true).length-(k+1)<(aV kc<|λv_=>true).length-k;omega)) ?_
    exact bw [0,0,0,0,0] ⟨rfl,rfl,rfl,rfl,rfl,trivial⟩<|by kernel_rfl
   ·skip
    refine aO<|aC<|dM [.ld 5,.al,.st 6] [] (λb10=>[(8,p_ b10)]) (λ_=>[]) (λb10=>aA b10 [i_<|(aK kc x8).hp,i_ 0] 200) ?_
    intro b10
    refine bS<|bB [.ld 5] [(34,b_<|(aK kc x8).hl)]<|aL (E:=(aK kc x8).hl) rfl (λe4=>?_) (λe4=>?_)
    ·skip
     refine aM<|bL [.st 6] [] [(6,aA b10 [i_<|(aK kc x8).hp,i_ 1] 200)]<|bY [6] 7<|wN 1 [.ld 0,.ld 6] (rg 0 6) [(0,p_ bt),(3,p_ b4),(15,vS al'5 (aV kc<|λv_=>true) cl'6),(16,i_ ((aV kc<|λv_=>true).length:Int)),(17,c_ k),(39,.map<|some m1),(40,i_ x8),(41,.agg #[i_<|(aK kc x8).hp,i_ 1])]<|bF 6 rfl (gV 3 200 1 x8 (⟨(aK kc x8).hp,1⟩:Pl) rfl eG (dV<|(aM<|aj [.w<|(k:Int)+1] [(17,i_<|(k:Int)+1)] (o1<|wj ((k:Int)+1)<|by omega)<|bN (k+1,aJ ymk x8 (⟨(aK kc x8).hp,1⟩:Pl)) ⟨(by omega),(by(rw[DK ‹_›];unfold qF eA;subst hy;first|(simp_all;done)|(simp[*];done)|grind))⟩ (by(show(aV kc<|λv_=>true).length-(k+1)<(aV kc<|λv_=>true).length-k;omega)) ?_)))
     exact bw [0,0,0,0,0] ⟨rfl,rfl,rfl,rfl,rfl,trivial⟩<|by kernel_rfl
    ·skip
     refine aO<|bY [6] 7<|cQ 1 [.ld 0,.ld 6] (rg 0 6) [(39,.map<|some m1),(40,i_ x8),(41,.agg #[i_<|(aK kc x8).hp,i_ 0])]<|bF 6 rfl (gV 3 200 1 x8 (⟨(aK kc x8).hp,0⟩:Pl) rfl eG (dV<|(aM<|jK [.w<|(k:Int)+1] [(0,p_ bt),(3,p_ b4),(15,vS al'5 (aV kc<|λv_=>true) cl'6),(16,i_ ((aV kc<|λv_=>true).length:Int)),(17,i_<|(k:Int)+1)] (o1<|wj ((k:Int)+1)<|by omega)<|bN (k+1,aJ ymk x8 (⟨(aK kc x8).hp,0⟩:Pl)) ⟨(by omega),(by(rw[DK ‹_›];unfold qF eA;subst hy;first|(simp_all;done)|(simp[*];done)|grind))⟩ (by(show(aV kc<|λv_=>true).length-(k+1)<(aV kc<|λv_=>true).length-k;omega)) ?_)))
     exact bw [0,0,0,0,0] ⟨rfl,rfl,rfl,rfl,rfl,trivial⟩<|by kernel_rfl
  ·skip
   have p2:=Zh e2
   refine bg<|aD<|Yx [aA b4 [.map<|some m1,.map<|some m2,.map<|some m3] 197,iY m1 ymk,fq m2 ([]:hV Int),hJ m3 ([]:hV MB),sI al'5 (aV kc<|λv_=>true) cl'6,ee ([]:hV MB)] rfl (aM<|da [] [(2,p_ b4)]<|aF ?_)
   rw[show ymk=(eu kc) from by first|rfl|(rw[hy,Qj<|by omega])]
   refine cP [0,0,0,0,1] [p_ b4] (λ_ w r s=>⟨cw r rfl,trivial⟩) (b4,m1,m2,m3) ?_ ?_<|by kernel_rfl
   ·rfl
   ·trivial
end Go.Proofs.YtobgjpigngoggaaGreat
