/- A script that comes in, opened: its link, its operations, the changes and rules of each. -/
import Derived.ProofKit
import Derived.OpenShut
import Derived.Below
import Derived.Lib.SmallJoins
import Derived.Test.YtobgjpigngoggaaGreatJ6
namespace Go.Proofs.YtobgjpigngoggaaGreat
open Go V
open Go.ChangeShapes Go.WideShapes Go.ChangeAt Go.RowKit
set_option linter.unusedVariables false
set_option linter.unusedSimpArgs false
set_option maxRecDepth 100000
section
variable{H:Type}{enc:TypeId×Value→H}{P:Program}{w:World}{base:Nat}{spare:Nat→Bool}{held:Bool}
theorem zK{α:Type}{ea:α→List Value}{ok:α→Prop}{sz fu:Nat}{t e:TypeId}{cs:List Value}{x:DataW H×List MemPlace}(ht:P.underlying t=some (.slice e))(hs:P.cellsOf e=sz)(hlen: ∀x,(ea x).length=sz)(hp:0<sz)
  (ho: ∀fu cs x,DataW.trod enc P w base spare held fu e cs=some x→ ∃y,cs=ea y∧ok y)(h:DataW.trod enc P w base spare held fu t cs=some x): ∃(A0:Option Addr)(cap:Nat)(xs:List α),cs=[.slice A0 xs.length cap]∧ez w A0 (dJ ea xs)∧ ∀x∈xs,ok x:=by
 rcases Go.Deep.open_slice ht h with⟨rfl,-⟩|⟨a,len,cap,m,n,D,Pl,rfl,hb,h1,h2,h3,-,hx⟩
 ·exact⟨none,0,[],rfl,by intro j u hu;simp[dJ] at hu,by simp⟩
 ·have hlm:len≤m:=by rw[h3];split<;>omega
  have key: ∀j,j≤len→ ∃xs:List α,xs.length=j∧ez w (some a) (dJ ea xs)∧ ∀x∈xs,ok x:=by
   intro j
   induction j with
   |zero=>intro _;exact⟨[],rfl,by intro j u hu;simp[dJ] at hu,by simp⟩
   |succ j ih=>
    intro hj
    obtain⟨xs,hxl,hxa,hxo⟩:=ih (by omega)
    obtain⟨cs',hc,htr⟩:=hx j (by omega)
    obtain⟨y,rfl,hy⟩:=ho _ _ _ htr
    refine⟨xs++[y],by simp[hxl],?_,by intro z hz;simp at hz;rcases hz with hz|rfl;exact hxo z hz;exact hy⟩
    intro i u hu
    rw[yI] at hu
    by_cases hi:i<(dJ ea xs).length
    ·rw[List.getElem?_append_left hi] at hu;exact hxa i u hu
    ·rw[List.getElem?_append_right (by omega)] at hu
     have hfl:=qP hlen xs
     rw[hxl] at hfl
     rw[show dJ ea [y]=ea y by simp[dJ]] at hu
     obtain⟨-,-,hcell⟩:=World.cells?_some hc
     have hlt:i-(dJ ea xs).length<sz:=by
      have:=(List.getElem?_eq_some_iff.1 hu).1;rw[hlen y] at this;exact this
     have h8:=hcell (i-(dJ ea xs).length) (by rw[hs];exact hlt)
     refine⟨rfl,?_⟩
     simp only[dV,Option.getD_some]
     rw[Addr.add_add,hs] at h8
     rw[show j*sz+(i-(dJ ea xs).length)=i by omega] at h8
     rw[h8,hu]
  obtain⟨xs,h4,h5,h6⟩:=key len (Nat.le_refl _)
  exact⟨some a,cap,xs,by rw[h4],h5,h6⟩
def JJ(w:World)(x:fS):Prop:=ez w x.za (V.dJ jL x.zl)∧ez w x.ra (V.dJ fU x.rl)∧(∀z∈x.zl,jD z)∧(∀y∈x.rl,jx y)∧jw (gI x.op)∧0≤x.tk
theorem S5{cs:List Value}(h:cs.length=10):cs=(cs.drop 0).take 1++((cs.drop 1).take 1++((cs.drop 2).take 1++((cs.drop 3).take 6++(cs.drop 9).take 1))):=by
 match cs,h with
 |[a,b,c,d,e,f,g,h,i,j],_=>rfl
theorem Qe(fu:Nat)(cs:List Value)(x:DataW H×List MemPlace)(h:DataW.trod enc Tryz.prog w base spare held fu 47 cs=some x): ∃o:fS,cs=oP o∧JJ w o:=by
 obtain⟨xs,n,-,-,hl,hlen,hf⟩:=DataW.trod_struct Tryz.underlying47 h
 have hl:cs.length=10:=hl.trans (by kernel_rfl)
 have g0:=hf 0 _ rfl;have g1:=hf 1 _ rfl;have g2:=hf 2 _ rfl;have g3:=hf 3 _ rfl;have g4:=hf 4 _ rfl
 match xs,hlen with
 |[y0,y1,y2,y3,y4],_=>
  change DataW.trod enc Tryz.prog w base spare held n 3 ((cs.drop 0).take (Tryz.prog.cellsOf 3))=some y0 at g0
  change DataW.trod enc Tryz.prog w base spare held n 38 ((cs.drop 1).take (Tryz.prog.cellsOf 38))=some y1 at g1
  change DataW.trod enc Tryz.prog w base spare held n 39 ((cs.drop 2).take (Tryz.prog.cellsOf 39))=some y2 at g2
  change DataW.trod enc Tryz.prog w base spare held n 45 ((cs.drop 3).take (Tryz.prog.cellsOf 45))=some y3 at g3
  change DataW.trod enc Tryz.prog w base spare held n 40 ((cs.drop 9).take (Tryz.prog.cellsOf 40))=some y4 at g4
  rw[show Tryz.prog.cellsOf 3=1 by kernel_rfl] at g0
  rw[show Tryz.prog.cellsOf 38=1 by kernel_rfl] at g1
  rw[show Tryz.prog.cellsOf 39=1 by kernel_rfl] at g2
  rw[show Tryz.prog.cellsOf 45=6 by kernel_rfl] at g3
  rw[show Tryz.prog.cellsOf 40=1 by kernel_rfl] at g4
  obtain⟨v0,c0,e0,f0,z0⟩:=gW (rL 9 n 3 [.int .i64] _ _ (by kernel_rfl) g0)
  obtain⟨k,rfl,-⟩:=nM f0
  obtain⟨za,zc,zl,e1,a1,o1⟩:=zK (ea:=jL) (ok:=jD) (sz:=15) Tryz.underlying38 (by kernel_rfl) t7 (by decide) (fun fu cs x h=>RE cs (rL 9 fu 84 _ _ _ (by kernel_rfl) h)) g1
  obtain⟨ra,rc,rl,e2,a2,o2⟩:=zK (ea:=fU) (ok:=jx) (sz:=9) Tryz.underlying39 (by kernel_rfl) lA (by decide) (fun fu cs x h=>QO cs (rL 9 fu 86 _ _ _ (by kernel_rfl) h)) g2
  obtain⟨p0,c1,e3,f1,z1⟩:=gW (rL 9 n 45 [.int .u64,.int .i64,.int .u16,.int .u16,.int .u16,.int .u16] _ _ (by kernel_rfl) g3)
  obtain⟨qi,rfl,-⟩:=m8 f1
  obtain⟨p1,c2,rfl,f2,z2⟩:=gW z1
  obtain⟨qn,rfl,-⟩:=nM f2
  obtain⟨p2,c3,rfl,f3,z3⟩:=gW z2
  obtain⟨qa,rfl,r1⟩:=mB f3
  obtain⟨p3,c4,rfl,f4,z4⟩:=gW z3
  obtain⟨qb,rfl,r2⟩:=mB f4
  obtain⟨p4,c5,rfl,f5,z5⟩:=gW z4
  obtain⟨qc,rfl,r3⟩:=mB f5
  obtain⟨p5,c6,rfl,f6,z6⟩:=gW z5
  obtain⟨qd,rfl,r4⟩:=mB f6
  obtain⟨v4,c7,e4,f7,z7⟩:=gW (rL 9 n 40 [.int .u64] _ _ (by kernel_rfl) g4)
  obtain⟨tk,rfl,r5⟩:=m8 f7
  rw[rK z0] at e0;rw[rK z6] at e3;rw[rK z7] at e4
  refine⟨⟨k,za,zl,zc,ra,rl,rc,⟨qi,qn,qa,qb,qc,qd⟩,tk⟩,?_,a1,a2,o1,o2,⟨r1,r2,r3,r4⟩,r5.1⟩
  rw[S5 hl,e0,e1,e2,e3,e4];rfl
theorem MR{v:Value}{d:DataW H}{ps:List MemPlace}(hv: ∃cs,v= .agg cs∧cs.size=Tryz.prog.cellsOf 26)(h:DataW.Trod enc Tryz.prog w base spare held 26 v d ps):
  ∃(t lm:Int)(al:Option Addr)(ops:List fS)(cl:Nat),v= .agg #[i_ t,i_ lm,vS al ops cl]∧ez w al (V.dJ oP ops)∧qw w ops:=by
 obtain⟨cs,rfl,hcs⟩:=hv
 have hcs:cs.size=3:=hcs.trans (by kernel_rfl)
 obtain⟨fu,h⟩:=h
 change DataW.trod enc Tryz.prog w base spare held fu 26 cs.toList=_ at h
 obtain⟨xs,n,-,-,hl,hlen,hf⟩:=DataW.trod_struct Tryz.underlying26 h
 have g0:=hf 0 _ rfl;have g1:=hf 1 _ rfl
 match xs,hlen with
 |[y0,y1],_=>
  change DataW.trod enc Tryz.prog w base spare held n 23 ((cs.toList.drop 0).take (Tryz.prog.cellsOf 23))=some y0 at g0
  change DataW.trod enc Tryz.prog w base spare held n 24 ((cs.toList.drop 2).take (Tryz.prog.cellsOf 24))=some y1 at g1
  rw[show Tryz.prog.cellsOf 23=2 by kernel_rfl] at g0
  rw[show Tryz.prog.cellsOf 24=1 by kernel_rfl] at g1
  obtain⟨v0,c0,e0,f0,z0⟩:=gW (rL 9 n 23 [.int .i64,.int .i64] _ _ (by kernel_rfl) g0)
  obtain⟨t,rfl,-⟩:=nM f0
  obtain⟨v1,c1,rfl,f1,z1⟩:=gW z0
  obtain⟨lm,rfl,-⟩:=nM f1
  rw[rK z1] at e0
  obtain⟨al,cl,ops,e1,a1,o1⟩:=zK (ea:=oP) (ok:=JJ w) (sz:=10) Tryz.underlying24 (by kernel_rfl) qH (by decide) Qe g1
  refine⟨t,lm,al,ops,cl,?_,a1,o1⟩
  congr 1
  apply Array.ext'
  have hl3:cs.toList.length=3:=by simpa using hcs
  generalize cs.toList=l at e0 e1 hl3
  match l,hl3 with
  |[a,b,c],_=>simp at e0 e1;obtain⟨rfl,rfl⟩:=e0;subst e1;rfl
end
end Go.Proofs.YtobgjpigngoggaaGreat
