/- The functions of the scheduler, layer by layer, proved operation by operation for all arguments, under the conditions that each theorem states: part 4. -/
import Derived.Sort.LotA
import Derived.Sort.LotB
import Derived.Sort.LotC
import Derived.Sort.LotD1
import Derived.Sort.LotD3
import Derived.Sort.LotD4
import Derived.Test.YtobgjpigngoggaaGreatProg
import Derived.Shelf.SortM.Plain
import Derived.Ground.SlgmProg
import Derived.Shelf.SlicesE.Compact
import Derived.Ground.SlgnProg
import Derived.Shelf.Slices.CompactI
import Derived.Test.YtobgjpigngoggaaGreatJ3
set_option linter.unusedVariables false
set_option linter.unusedSimpArgs false
set_option maxHeartbeats 4000000
set_option maxRecDepth 100000
namespace Go.Proofs.YtobgjpigngoggaaGreat
open Go V Go.Sort
variable{d:Array Int}{hi F r:Nat}
theorem Kv(h:hi≤2*r+1):siftDown ltInt hi F r d=d:=by rw[siftDown,dif_pos (by omega)]
variable{c q2 s:Nat}{y2 z:Int}
theorem OU{p q:Nat}{x y:Int}(hc:c=2*r+2)(h:c<hi)(h1:d.toList[p]? =some x)(hp:p=F+(2*r+1))(h2:d.toList[q]? =some y)(hq:q=F+(2*r+1)+1)(hlt:x<y)
  (h3:d.toList[s]? =some z)(hs:s=F+r)(h4:d.toList[q2]? =some y2)(hq2:q2=F+c)(hlt2:z<y2):siftDown ltInt hi F r d=siftDown ltInt hi F c (swp d s q2):=by
 have e:q2=q:=by omega
 have ey:y2=y:=by rw[e,h2] at h4;cases h4;rfl
 subst hp;subst hc
 rw[siftDown,dif_neg (by omega),if_pos (by rw[iR h1];rw[←hq,iR h2];simp[ltInt];omega),if_neg (by rw[←hs,iR h3,←hq2,iR h4];simp[ltInt];omega),dif_pos (by omega),hs,hq2]
theorem OV{p q:Nat}{x y:Int}(hc:c=2*r+2)(h:c<hi)(h1:d.toList[p]? =some x)(hp:p=F+(2*r+1))(h2:d.toList[q]? =some y)(hq:q=F+(2*r+1)+1)(hlt:x<y)
  (h3:d.toList[s]? =some z)(hs:s=F+r)(h4:d.toList[q2]? =some y2)(hq2:q2=F+c)(hlt2: ¬z<y2):siftDown ltInt hi F r d=d:=by
 have e:q2=q:=by omega
 have ey:y2=y:=by rw[e,h2] at h4;cases h4;rfl
 subst hp;subst hc
 rw[siftDown,dif_neg (by omega),if_pos (by rw[iR h1];rw[←hq,iR h2];simp[ltInt];omega),if_pos (by rw[←hs,iR h3,←hq2,iR h4];simp[ltInt];omega)]
theorem Gg(hc:c=2*r+1)(h:c<hi)(hn: ¬(c+1<hi)∨ ∃p q x y,d.toList[p]? =some x∧p=F+(2*r+1)∧d.toList[q]? =some y∧q=F+(2*r+1)+1∧ ¬x<y)
  (h3:d.toList[s]? =some z)(hs:s=F+r)(h4:d.toList[q2]? =some y2)(hq2:q2=F+c)(hlt2:z<y2):siftDown ltInt hi F r d=siftDown ltInt hi F c (swp d s q2):=by
 subst hc
 have hk:(decide (2*r+1+1<hi)&&ltInt d[F+(2*r+1)]! d[F+(2*r+1)+1]!)=false:=by
  rcases hn with g|⟨p,q,x,y,g1,rfl,g2,g3,g4⟩
  ·simp[g]
  ·rw[iR g1,←g3,iR g2];simp[ltInt];intro _;omega
 rw[siftDown,dif_neg (by omega),if_neg (by rw[hk];decide),if_neg (by rw[←hs,iR h3,←hq2,iR h4];simp[ltInt];omega),hs,hq2]
theorem Gh(hc:c=2*r+1)(h:c<hi)(hn: ¬(c+1<hi)∨ ∃p q x y,d.toList[p]? =some x∧p=F+(2*r+1)∧d.toList[q]? =some y∧q=F+(2*r+1)+1∧ ¬x<y)
  (h3:d.toList[s]? =some z)(hs:s=F+r)(h4:d.toList[q2]? =some y2)(hq2:q2=F+c)(hlt2: ¬z<y2):siftDown ltInt hi F r d=d:=by
 subst hc
 have hk:(decide (2*r+1+1<hi)&&ltInt d[F+(2*r+1)]! d[F+(2*r+1)+1]!)=false:=by
  rcases hn with g|⟨p,q,x,y,g1,rfl,g2,g3,g4⟩
  ·simp[g]
  ·rw[iR g1,←g3,iR g2];simp[ltInt];intro _;omega
 rw[siftDown,dif_neg (by omega),if_neg (by rw[hk];decide),if_pos (by rw[←hs,iR h3,←hq2,iR h4];simp[ltInt];omega)]
variable{k:Nat}
theorem OW(h:1≤k):heapBuild ltInt hi F k d=heapBuild ltInt hi F (k-1) (siftDown ltInt hi F (k-1) d):=by
 obtain⟨j,rfl⟩: ∃j,k=j+1:=⟨k-1,by omega⟩
 rfl
theorem OX(h:1≤k):heapPop ltInt F k d=heapPop ltInt F (k-1) (siftDown ltInt (k-1) F 0 (swp d F (F+(k-1)))):=by
 obtain⟨j,rfl⟩: ∃j,k=j+1:=⟨k-1,by omega⟩
 rfl
theorem MY(al:Option Addr)(d:Array Int)(cl:Nat)(a b:Nat)(hb:a<b∧b≤d.size)(hS:d.size≤100000):
  CS 275 #[vS al d.toList cl,c_ a,c_ b] [sU al d.toList cl] (fun(zz:Unit)=>(.tuple #[i_ ((rawPivot ltInt d a b).1:Int),i_ (hintCode (hintOf (rawPivot ltInt d a b).2))])) (fun _=>True) fun _=>[sU al d.toList cl]:=by
 intro w hs
 refine A.C Tryz.func275 rfl hs (A.c (A.g [.p,.p] [] [] (A.c (A.k [.p,.p,.w ((b-a:Nat):Int),.p] [2] [(8,c_ (b-a:Nat))] [] (o1 (wi ((b:Int)-(a:Int)) ((b-a:Nat):Int) (by omega))) (A.c (A.n1 [.al] [] (fun b1=>[(9,p_ b1)]) (fun b1=>cz b1 [i_ 0] 3) ?_))))))
 intro b1
 refine A.c (A.k [.p,.p,.w (((b-a)/4:Nat):Int),.w ((((b-a)/4)*1:Nat):Int),.w ((a+(((b-a)/4)*1):Nat):Int),.p] [] [(10,c_ (a+(((b-a)/4)*1):Nat))] [] (oc (wo ((lD (e:=((b-a:Nat):Int).tdiv 4) (by(rw[uW];constructor<;>omega))).trans (by rfl:(((b-a:Nat):Int).tdiv 4:Int)=(((b-a)/4:Nat):Int)))) (oc (wi ((((b-a)/4:Nat):Int)*1) ((((b-a)/4)*1:Nat):Int) (by omega)) (o1 (wi ((a:Int)+((((b-a)/4)*1:Nat):Int)) ((a+(((b-a)/4)*1):Nat):Int) (by omega))))) ?_)
 refine A.c (A.k [.p,.p,.w (((b-a)/4:Nat):Int),.w ((((b-a)/4)*2:Nat):Int),.w ((a+(((b-a)/4)*2):Nat):Int),.p] [] [(11,c_ (a+(((b-a)/4)*2):Nat))] [] (oc (wo ((lD (e:=((b-a:Nat):Int).tdiv 4) (by(rw[uW];constructor<;>omega))).trans (by rfl:(((b-a:Nat):Int).tdiv 4:Int)=(((b-a)/4:Nat):Int)))) (oc (wi ((((b-a)/4:Nat):Int)*2) ((((b-a)/4)*2:Nat):Int) (by omega)) (o1 (wi ((a:Int)+((((b-a)/4)*2:Nat):Int)) ((a+(((b-a)/4)*2):Nat):Int) (by omega))))) ?_)
 refine A.c (A.k [.p,.p,.w (((b-a)/4:Nat):Int),.w ((((b-a)/4)*3:Nat):Int),.w ((a+(((b-a)/4)*3):Nat):Int),.p] [1] [(12,c_ (a+(((b-a)/4)*3):Nat))] [] (oc (wo ((lD (e:=((b-a:Nat):Int).tdiv 4) (by(rw[uW];constructor<;>omega))).trans (by rfl:(((b-a:Nat):Int).tdiv 4:Int)=(((b-a)/4:Nat):Int)))) (oc (wi ((((b-a)/4:Nat):Int)*3) ((((b-a)/4)*3:Nat):Int) (by omega)) (o1 (wi ((a:Int)+((((b-a)/4)*3:Nat):Int)) ((a+(((b-a)/4)*3):Nat):Int) (by omega))))) ?_)
 refine A.d (A.c (A.g [.p,.p] [] [(32,b_ (decide (((b-a:Nat):Int)≥8)))] (A.v rfl (fun e1=> ?_) (fun e1=> ?_))))
 ·have p1:=of_decide_eq_true e1
  refine A.d (A.c (A.g [.p,.p] [8,32] [(34,b_ (decide (((b-a:Nat):Int)≥50)))] (A.v rfl (fun e2=> ?_) (fun e2=> ?_))))
  ·have p2:=of_decide_eq_true e2
   refine A.c (A.O [.p,.p] [34] [(35,vS al d.toList cl),(36,c_ (a+(((b-a)/4)*1):Nat))] (A.j (A.J (some 37) [0,0] (fun ww ss hh=>yh al d cl (a+(((b-a)/4)*1):Nat) b1 0 (by omega) ‹_› (by omega) ww hh) ?_)))
   rintro⟨m'2,t'3⟩ hz3
   have hz3m:=medianAdjacent_mem ltInt d (a+(((b-a)/4)*1):Nat) 0;rw[hz3] at hz3m;simp only[] at hz3m;have hz3c:=medianAdjacent_count (lt:=ltInt) d (a+(((b-a)/4)*1):Nat) 0;rw[hz3] at hz3c;simp only[] at hz3c
   refine A.g [.p] [35,36,37] [(10,c_ m'2)] (A.c (A.O [.p,.p] [] [(38,vS al d.toList cl),(39,c_ (a+(((b-a)/4)*2):Nat))] (A.j (A.J (some 40) [0,0] (fun ww ss hh=>yh al d cl (a+(((b-a)/4)*2):Nat) b1 t'3 (by omega) ‹_› (by omega) ww hh) ?_))))
   rintro⟨m'4,t'5⟩ hz4
   have hz4m:=medianAdjacent_mem ltInt d (a+(((b-a)/4)*2):Nat) t'3;rw[hz4] at hz4m;simp only[] at hz4m;have hz4c:=medianAdjacent_count (lt:=ltInt) d (a+(((b-a)/4)*2):Nat) t'3;rw[hz4] at hz4c;simp only[] at hz4c
   refine A.g [.p] [38,39,40] [(11,c_ m'4)] (A.s (A.O [.p,.p] [] [(41,vS al d.toList cl),(42,c_ (a+(((b-a)/4)*3):Nat))] (A.j (A.J (some 43) [0,0] (fun ww ss hh=>yh al d cl (a+(((b-a)/4)*3):Nat) b1 t'5 (by omega) ‹_› (by omega) ww hh) ?_))))
   rintro⟨m'6,t'7⟩ hz5
   have hz5m:=medianAdjacent_mem ltInt d (a+(((b-a)/4)*3):Nat) t'5;rw[hz5] at hz5m;simp only[] at hz5m;have hz5c:=medianAdjacent_count (lt:=ltInt) d (a+(((b-a)/4)*3):Nat) t'5;rw[hz5] at hz5c;simp only[] at hz5c
   refine A.g [.p] [41,42,43] [(12,c_ m'6)] (A.s (A.hp [.p,.p,.p,.p] [(9,p_ b1),(11,c_ m'4),(44,vS al d.toList cl),(45,c_ m'2),(46,c_ m'4),(47,c_ m'6)] [] (A.j (A.J (some 48) [0,0] (fun ww ss hh=>zM al d cl m'2 m'4 m'6 b1 t'7 (by omega) (by omega) (by omega) ‹_› (by omega) ww hh) ?_))))
   rintro⟨m'8,t'9⟩ hz6
   have hz6m:=median_mem ltInt d m'2 m'4 m'6 t'7;rw[hz6] at hz6m;simp only[] at hz6m;have hz6c:=median_count (lt:=ltInt) d m'2 m'4 m'6 t'7;rw[hz6] at hz6c;simp only[] at hz6c
   refine A.g [.p] [44,45,46,47,48] [(11,c_ m'8)] (A.c (A.gl [.ld 1] [9] [(49,c_ t'9)] [b1] (A.y (A.c (A.g [.p,.p] [] [(51,b_ ((t'9:Int)==0))] (A.v rfl (fun e7=> ?_) (fun e7=> ?_)))))))
   ·have p7:=e7;try simp only[de] at p7
    refine A.c (A.g [.p,.p,.p] [11,49,51] [(6,c_ m'8),(7,i_ 1)] (A.e (A.Y [0] [c_ m'8,i_ 1] () ?_ ?_)))
    ·show((.tuple #[c_ m'8,i_ 1]):Value)=(.tuple #[i_ ((rawPivot ltInt d a b).1:Int),i_ (hintCode (hintOf (rawPivot ltInt d a b).2))])
     have hr_:rawPivot ltInt d a b=(m'8,t'9):=(by unfold rawPivot;(rw[if_pos (by omega),if_pos (by omega)];simp only[*];done));rw[hr_];have hh_:hintCode (hintOf t'9)=1:=(by unfold hintOf;rw[if_pos (by omega)];rfl);simp only[];rw[hh_]
    trivial
   have p7:=e7;try simp only[de] at p7
   refine A.c (A.g [.p,.p] [49,51] [(54,b_ ((t'9:Int)==12))] (A.v rfl (fun e8=> ?_) (fun e8=> ?_)))
   ·have p8:=e8;try simp only[de] at p8
    refine A.c (A.g [.p,.p,.p] [11,54] [(6,c_ m'8),(7,i_ 2)] (A.e (A.Y [0] [c_ m'8,i_ 2] () ?_ ?_)))
    ·show((.tuple #[c_ m'8,i_ 2]):Value)=(.tuple #[i_ ((rawPivot ltInt d a b).1:Int),i_ (hintCode (hintOf (rawPivot ltInt d a b).2))])
     have hr_:rawPivot ltInt d a b=(m'8,t'9):=(by unfold rawPivot;(rw[if_pos (by omega),if_pos (by omega)];simp only[*];done));rw[hr_];have hh_:hintCode (hintOf t'9)=2:=(by unfold hintOf;rw[if_neg (by omega),if_pos (by omega)];rfl);simp only[];rw[hh_]
    trivial
   have p8:=e8;try simp only[de] at p8
   refine A.c (A.g [.p,.p,.p] [11,54] [(6,c_ m'8),(7,i_ 0)] (A.e (A.Y [0] [c_ m'8,i_ 0] () ?_ ?_)))
   ·show((.tuple #[c_ m'8,i_ 0]):Value)=(.tuple #[i_ ((rawPivot ltInt d a b).1:Int),i_ (hintCode (hintOf (rawPivot ltInt d a b).2))])
    have hr_:rawPivot ltInt d a b=(m'8,t'9):=(by unfold rawPivot;(rw[if_pos (by omega),if_pos (by omega)];simp only[*];done));rw[hr_];have hh_:hintCode (hintOf t'9)=0:=(by unfold hintOf;rw[if_neg (by omega),if_neg (by omega)];rfl);simp only[];rw[hh_]
   trivial
  have p2:=of_decide_eq_false e2
  refine A.p (A.s (A.O [.p,.p,.p,.p] [0,10,12,34] [(44,vS al d.toList cl),(45,c_ (a+(((b-a)/4)*1):Nat)),(46,c_ (a+(((b-a)/4)*2):Nat)),(47,c_ (a+(((b-a)/4)*3):Nat))] (A.j (A.J (some 48) [0,0] (fun ww ss hh=>zM al d cl (a+(((b-a)/4)*1):Nat) (a+(((b-a)/4)*2):Nat) (a+(((b-a)/4)*3):Nat) b1 0 (by omega) (by omega) (by omega) ‹_› (by omega) ww hh) ?_))))
  rintro⟨m'10,t'11⟩ hz9
  have hz9m:=median_mem ltInt d (a+(((b-a)/4)*1):Nat) (a+(((b-a)/4)*2):Nat) (a+(((b-a)/4)*3):Nat) 0;rw[hz9] at hz9m;simp only[] at hz9m;have hz9c:=median_count (lt:=ltInt) d (a+(((b-a)/4)*1):Nat) (a+(((b-a)/4)*2):Nat) (a+(((b-a)/4)*3):Nat) 0;rw[hz9] at hz9c;simp only[] at hz9c
  refine A.g [.p] [44,45,46,47,48] [(11,c_ m'10)] (A.c (A.gl [.ld 1] [9] [(49,c_ t'11)] [b1] (A.y (A.c (A.g [.p,.p] [] [(51,b_ ((t'11:Int)==0))] (A.v rfl (fun e10=> ?_) (fun e10=> ?_)))))))
  ·have p10:=e10;try simp only[de] at p10
   refine A.c (A.g [.p,.p,.p] [11,49,51] [(6,c_ m'10),(7,i_ 1)] (A.e (A.Y [0] [c_ m'10,i_ 1] () ?_ ?_)))
   ·show((.tuple #[c_ m'10,i_ 1]):Value)=(.tuple #[i_ ((rawPivot ltInt d a b).1:Int),i_ (hintCode (hintOf (rawPivot ltInt d a b).2))])
    have hr_:rawPivot ltInt d a b=(m'10,t'11):=(by unfold rawPivot;(rw[if_pos (by omega),if_neg (by omega)];simp only[*];done));rw[hr_];have hh_:hintCode (hintOf t'11)=1:=(by unfold hintOf;rw[if_pos (by omega)];rfl);simp only[];rw[hh_]
   trivial
  have p10:=e10;try simp only[de] at p10
  refine A.c (A.g [.p,.p] [49,51] [(54,b_ ((t'11:Int)==12))] (A.v rfl (fun e11=> ?_) (fun e11=> ?_)))
  ·have p11:=e11;try simp only[de] at p11
   refine A.c (A.g [.p,.p,.p] [11,54] [(6,c_ m'10),(7,i_ 2)] (A.e (A.Y [0] [c_ m'10,i_ 2] () ?_ ?_)))
   ·show((.tuple #[c_ m'10,i_ 2]):Value)=(.tuple #[i_ ((rawPivot ltInt d a b).1:Int),i_ (hintCode (hintOf (rawPivot ltInt d a b).2))])
    have hr_:rawPivot ltInt d a b=(m'10,t'11):=(by unfold rawPivot;(rw[if_pos (by omega),if_neg (by omega)];simp only[*];done));rw[hr_];have hh_:hintCode (hintOf t'11)=2:=(by unfold hintOf;rw[if_neg (by omega),if_pos (by omega)];rfl);simp only[];rw[hh_]
   trivial
  have p11:=e11;try simp only[de] at p11
  refine A.c (A.g [.p,.p,.p] [11,54] [(6,c_ m'10),(7,i_ 0)] (A.e (A.Y [0] [c_ m'10,i_ 0] () ?_ ?_)))
  ·show((.tuple #[c_ m'10,i_ 0]):Value)=(.tuple #[i_ ((rawPivot ltInt d a b).1:Int),i_ (hintCode (hintOf (rawPivot ltInt d a b).2))])
   have hr_:rawPivot ltInt d a b=(m'10,t'11):=(by unfold rawPivot;(rw[if_pos (by omega),if_neg (by omega)];simp only[*];done));rw[hr_];have hh_:hintCode (hintOf t'11)=0:=(by unfold hintOf;rw[if_neg (by omega),if_neg (by omega)];rfl);simp only[];rw[hh_]
  trivial
 have p1:=of_decide_eq_false e1
 refine A.p (A.c (A.gl [.ld 1] [0,8,9,10,12,32] [(49,i_ 0)] [b1] (A.y (A.c (A.g [.p,.p] [] [(51,b_ true)] (A.ct (A.c (A.g [.p,.p,.p] [11,49,51] [(6,c_ (a+(((b-a)/4)*2):Nat)),(7,i_ 1)] (A.e (A.Y [0] [c_ (a+(((b-a)/4)*2):Nat),i_ 1] () ?_ ?_))))))))))
 ·show((.tuple #[c_ (a+(((b-a)/4)*2):Nat),i_ 1]):Value)=(.tuple #[i_ ((rawPivot ltInt d a b).1:Int),i_ (hintCode (hintOf (rawPivot ltInt d a b).2))])
  have hr_:rawPivot ltInt d a b=((a+(((b-a)/4)*2)),0):=(by unfold rawPivot;(rw[if_neg (by omega)];done));rw[hr_];have hh_:hintCode (hintOf 0)=1:=(by unfold hintOf;rw[if_pos (by omega)];rfl);simp only[];rw[hh_]
 trivial
abbrev AK(p0)(p1:Array Int)(p2)(p3)(p4)(p5)(p6):=((vS p0 ((p1.toList.set (p2+p3:Nat) p4).set (p2+(((2*p3)+1)+1):Nat) p5) p6):Value)
abbrev Gi(p0)(p1:Array Int)(p2)(p3)(p4)(p5)(p6):=([(57,vS p0 p1.toList p2),(60,c_ (p3+((2*p4)+1):Nat)),(66,u_ p5),(72,u_ p6),(73,.pointer (some ((dV p0).add ((p3+p4:Nat)*1))))]:dQ)
abbrev wQ(p0)(p1:Array Int)(p2)(p3)(p4)(p5)(p6):=((vS p0 ((p1.toList.set (p2+p3:Nat) p4).set (p2+((2*p3)+1):Nat) p5) p6):Value)
abbrev nN(p0)(p1:Array Int)(p2)(p3)(p4)(p5):=((vS p0 (p1.toList.set (p2+p3:Nat) p4) p5):Value)
theorem EM(al:Option Addr)(d:Array Int)(cl:Nat)(lo hi F:Nat)(hb:F+hi≤d.size)(hS:d.size≤100000∧lo≤100000):
  CS 284 #[vS al d.toList cl,c_ lo,c_ hi,c_ F] [sU al d.toList cl] (fun(d':(Array Int))=>(.tuple #[])) (fun d'=>d'=siftDown ltInt hi F lo d∧d'.size=d.size) fun d'=>[sU al d'.toList cl]:=by
 intro w hs
 refine A.C Tryz.func284 rfl hs (A.c (A.g [.p,.p] [1] [(8,c_ lo)] (A.y (A.lp (σ:=Nat×(Array Int)) [] (fun(r,d2)=>[(8,c_ r),(0,vS al d2.toList cl)]) [0] (fun(r,d2)=>[sU al d2.toList cl]) (fun(r,d2)=>(siftDown ltInt hi F r d2=siftDown ltInt hi F lo d)∧(d2.size=d.size)∧(r≤100000)) (fun(r,d2)=>hi-r) (lo,d) ⟨(by rfl),(by rfl),(by omega)⟩ ?_ ?_))))
 ·exact A.I [0]
 rintro⟨r,d2⟩ ⟨he,hz,hr⟩
 refine A.y (A.c (A.k [.p,.w ((2*r:Nat):Int),.w (((2*r)+1:Nat):Int),.p] [] [(9,c_ ((2*r)+1:Nat))] [] (oc (wi (2*(r:Int)) ((2*r:Nat):Int) (by omega)) (o1 (wi (((2*r:Nat):Int)+1) (((2*r)+1:Nat):Int) (by omega)))) (A.d (A.c (A.g [.p,.p,.p] [] [(16,b_ (decide ((((2*r)+1:Nat):Int)≥(hi:Int))))] (A.v rfl (fun e1=> ?_) (fun e1=> ?_)))))))
 ·have p1:=of_decide_eq_true e1
  refine A.aB (A.te (A.bm rfl ((A.aQ [0] [] (fun aa ww rr ss=>trivial) (d2) ?_ ?_ (by kernel_rfl)))))
  ·rfl
  (rw[Kv (by omega)] at he;exact⟨he,hz⟩)
 have p1:=of_decide_eq_false e1
 refine A.p (A.d (A.d (A.W [] 20 (A.kd 15 [.p,.w ((((2*r)+1)+1:Nat):Int),.p,.p,.p] [0,1,2,3,4] [16] [(21,b_ (decide (((((2*r)+1)+1:Nat):Int)<(hi:Int))))] [] (o1 (wi ((((2*r)+1:Nat):Int)+1) ((((2*r)+1)+1:Nat):Int) (by omega))) (A.aR (decide (((((2*r)+1)+1:Nat):Int)<(hi:Int))) (fun e2=> ?_) (fun e2=> ?_))))))
 ·have p2:=of_decide_eq_true e2
  refine A.D 21 (b_ true) (gw e2) ?_
  obtain⟨x1,hx1⟩: ∃x,(d2.toList)[(F+((2*r)+1):Nat)]? =some x:=⟨_,List.getElem?_eq_getElem (by(simp;omega))⟩
  obtain⟨x2,hx2⟩: ∃x,(d2.toList)[((F+((2*r)+1))+1:Nat)]? =some x:=⟨_,List.getElem?_eq_getElem (by(simp;omega))⟩
  refine A.kd 0 [.p,.p,.p,.w ((F+((2*r)+1):Nat):Int),.ix,.rd [u_ x1],.p,.p,.p,.w ((F+((2*r)+1):Nat):Int),.w (((F+((2*r)+1))+1:Nat):Int),.ix,.rd [u_ x2],.cq (b_ (decide (x1<x2))),.p] [5,6,7,8,9,10,11,12,13,14,15,16,17,18,19] [21] [(22,vS al d2.toList cl),(23,c_ F),(24,c_ ((2*r)+1:Nat)),(25,c_ (F+((2*r)+1):Nat)),(26,.pointer (some ((dV al).add ((F+((2*r)+1):Nat)*1)))),(27,u_ x1),(28,vS al d2.toList cl),(29,c_ F),(30,c_ ((2*r)+1:Nat)),(31,c_ (F+((2*r)+1):Nat)),(32,c_ ((F+((2*r)+1))+1:Nat)),(33,.pointer (some ((dV al).add (((F+((2*r)+1))+1:Nat)*1)))),(34,u_ x2),(35,b_ (decide (x1<x2))),(36,b_ (decide (x1<x2)))] [] (oc (wi ((F:Int)+(((2*r)+1:Nat):Int)) ((F+((2*r)+1):Nat):Int) (by omega)) (oc (dY 0 (F+((2*r)+1):Nat) dK rfl (by(simp;omega))) (oc (eK 0 (F+((2*r)+1):Nat) [u_ x1] dK rfl hx1) (oc (wi ((F:Int)+(((2*r)+1:Nat):Int)) ((F+((2*r)+1):Nat):Int) (by omega)) (oc (wi (((F+((2*r)+1):Nat):Int)+1) (((F+((2*r)+1))+1:Nat):Int) (by omega)) (oc (dY 0 ((F+((2*r)+1))+1:Nat) dK rfl (by(simp;omega))) (oc (eK 0 ((F+((2*r)+1))+1:Nat) [u_ x2] dK rfl hx2) (o1 (qo (fun ww ss=>jd x1 x2 ww)))))))))) (A.M (A.v rfl (fun e3=> ?_) (fun e3=> ?_)))
  ·have p3:=of_decide_eq_true e3
   refine A.s (A.k [.p,.w ((((2*r)+1)+1:Nat):Int),.p] [36] [(9,c_ (((2*r)+1)+1:Nat))] [] (o1 (wi ((((2*r)+1:Nat):Int)+1) ((((2*r)+1)+1:Nat):Int) (by omega))) (A.d (A.d ?_)))
   obtain⟨x3,hx3⟩: ∃x,(d2.toList)[(F+r:Nat)]? =some x:=⟨_,List.getElem?_eq_getElem (by(simp;omega))⟩
   obtain⟨x4,hx4⟩: ∃x,(d2.toList)[(F+(((2*r)+1)+1):Nat)]? =some x:=⟨_,List.getElem?_eq_getElem (by(simp;omega))⟩
   refine A.ka [.p,.p,.p,.w ((F+r:Nat):Int),.ix,.rd [u_ x3],.p,.p,.p,.w ((F+(((2*r)+1)+1):Nat):Int),.ix,.rd [u_ x4],.cq (b_ (decide (x3<x4))),.p] [0,1,2,3,4,5,6,7,8,9,10,11,12,13] [] [(52,b_ (!(decide (x3<x4))))] [] (oc (wi ((F:Int)+(r:Int)) ((F+r:Nat):Int) (by omega)) (oc (dY 0 (F+r:Nat) dK rfl (by(simp;omega))) (oc (eK 0 (F+r:Nat) [u_ x3] dK rfl hx3) (oc (wi ((F:Int)+((((2*r)+1)+1:Nat):Int)) ((F+(((2*r)+1)+1):Nat):Int) (by omega)) (oc (dY 0 (F+(((2*r)+1)+1):Nat) dK rfl (by(simp;omega))) (oc (eK 0 (F+(((2*r)+1)+1):Nat) [u_ x4] dK rfl hx4) (o1 (qo (fun ww ss=>jd x3 x4 ww))))))))) (A.v rfl (fun e4=> ?_) (fun e4=> ?_))
   ·have p4:=e4;try simp only[de] at p4
    refine A.e (?_)
    have hst_:siftDown ltInt hi F r d2=_:=(OV (c:=2*r+2) (by omega) (by omega) hx1 (by omega) hx2 (by omega) (by omega) hx3 (by omega) hx4 (by omega) (by omega))
    refine A.aG [0] [] (fun aa ww rr ss=>trivial) (d2) ?_ ?_ (by kernel_rfl)
    ·rfl
    exact⟨hst_.symm.trans he,hz⟩
   have p4:=e4;try simp only[de] at p4
   refine A.p (A.d (A.W [21,23] 24 (A.kd 3 [.p,.p,.p,.w ((F+r:Nat):Int),.p,.p,.p,.w ((F+(((2*r)+1)+1):Nat):Int),.p,.p,.p,.w ((F+(((2*r)+1)+1):Nat):Int),.ix,.rd [u_ x4],.p,.p,.p,.w ((F+r:Nat):Int),.ix,.rd [u_ x3],.ix] [0,1,2,3,4,5,6,7,8,9,10,11,12,13,14,15,16,17,18,19,20] [8,52] [(57,vS al d2.toList cl),(60,c_ (F+(((2*r)+1)+1):Nat)),(66,u_ x4),(72,u_ x3),(73,.pointer (some ((dV al).add ((F+r:Nat)*1))))] [] (oc (wi ((F:Int)+(r:Int)) ((F+r:Nat):Int) (by omega)) (oc (wi ((F:Int)+((((2*r)+1)+1:Nat):Int)) ((F+(((2*r)+1)+1):Nat):Int) (by omega)) (oc (wi ((F:Int)+((((2*r)+1)+1:Nat):Int)) ((F+(((2*r)+1)+1):Nat):Int) (by omega)) (oc (dY 0 (F+(((2*r)+1)+1):Nat) dK rfl (by(simp;omega))) (oc (eK 0 (F+(((2*r)+1)+1):Nat) [u_ x4] dK rfl hx4) (oc (wi ((F:Int)+(r:Int)) ((F+r:Nat):Int) (by omega)) (oc (dY 0 (F+r:Nat) dK rfl (by(simp;omega))) (oc (eK 0 (F+r:Nat) [u_ x3] dK rfl hx3) (o1 (dY 0 (F+r:Nat) dK rfl (by(simp;omega)))))))))))) (A.F 21 rfl (A.sS 0 (F+r:Nat) x4 rfl dK (by(simp;omega)) (A.D 0 (nN al d2 F r x4 cl) (dm (by simp)) (A.D 22 (nN al d2 F r x4 cl) (dm (by simp)) (A.D 28 (nN al d2 F r x4 cl) (dm (by simp)) (A.D 57 (nN al d2 F r x4 cl) (dm (by simp)) (A.E (A.kd 1 [.ix] [22] [57,60,66,73] [(74,.pointer (some ((dV al).add ((F+(((2*r)+1)+1):Nat)*1))))] [] (o1 (dY 0 (F+(((2*r)+1)+1):Nat) dK rfl (by(simp;omega)))) (A.F 23 rfl (A.sS 0 (F+(((2*r)+1)+1):Nat) x3 rfl dK (by(simp;omega)) (A.D 0 (AK al d2 F r x4 x3 cl) (dm (by simp)) (A.D 22 (AK al d2 F r x4 x3 cl) (dm (by simp)) (A.D 28 (AK al d2 F r x4 x3 cl) (dm (by simp)) (A.E (A.M ?_))))))))))))))))))
   have hcv5:((d2.toList.set (F+r:Nat) x4).set (F+(((2*r)+1)+1):Nat) x3)=(swp d2 (F+r:Nat) (F+(((2*r)+1)+1):Nat)).toList:=by exact rS hx3 hx4
   refine A.su 0 (sU al ((swp d2 (F+r:Nat) (F+(((2*r)+1)+1):Nat)).toList) cl) rfl (eI hcv5) (A.D 0 (vS al ((swp d2 (F+r:Nat) (F+(((2*r)+1)+1):Nat)).toList) cl) (fJ hcv5) (A.D 22 (vS al ((swp d2 (F+r:Nat) (F+(((2*r)+1)+1):Nat)).toList) cl) (fJ hcv5) (A.D 28 (vS al ((swp d2 (F+r:Nat) (F+(((2*r)+1)+1):Nat)).toList) cl) (fJ hcv5) (A.s (A.g [.p,.p] [9,72,74] [(8,c_ (((2*r)+1)+1:Nat))] ?_)))))
   have hst_:siftDown ltInt hi F r d2=_:=(OU (c:=2*r+2) (by omega) (by omega) hx1 (by omega) hx2 (by omega) (by omega) hx3 (by omega) hx4 (by omega) (by omega))
   refine A.aA ((((2*r)+1)+1:Nat),swp d2 (F+r:Nat) (F+(((2*r)+1)+1):Nat)) ⟨(hst_.symm.trans he),(by(rw[jA];omega)),(by omega)⟩ (by(simp;omega)) ?_
   exact A.I [0]
  have p3:=of_decide_eq_false e3
  refine A.p (A.d (A.d ?_))
  obtain⟨x6,hx6⟩: ∃x,(d2.toList)[(F+r:Nat)]? =some x:=⟨_,List.getElem?_eq_getElem (by(simp;omega))⟩
  refine A.ka [.p,.p,.p,.w ((F+r:Nat):Int),.ix,.rd [u_ x6],.p,.p,.p,.w ((F+((2*r)+1):Nat):Int),.ix,.rd [u_ x1],.cq (b_ (decide (x6<x1))),.p] [0,1,2,3,4,5,6,7,8,9,10,11,12,13] [36] [(52,b_ (!(decide (x6<x1))))] [] (oc (wi ((F:Int)+(r:Int)) ((F+r:Nat):Int) (by omega)) (oc (dY 0 (F+r:Nat) dK rfl (by(simp;omega))) (oc (eK 0 (F+r:Nat) [u_ x6] dK rfl hx6) (oc (wi ((F:Int)+(((2*r)+1:Nat):Int)) ((F+((2*r)+1):Nat):Int) (by omega)) (oc (dY 0 (F+((2*r)+1):Nat) dK rfl (by(simp;omega))) (oc (eK 0 (F+((2*r)+1):Nat) [u_ x1] dK rfl hx1) (o1 (qo (fun ww ss=>jd x6 x1 ww))))))))) (A.v rfl (fun e5=> ?_) (fun e5=> ?_))
  ·have p5:=e5;try simp only[de] at p5
   refine A.e (?_)
   have hst_:siftDown ltInt hi F r d2=_:=(Gh (c:=2*r+1) (by omega) (by omega) (.inr ⟨_,_,_,_,hx1,by omega,hx2,by omega,by omega⟩) hx6 (by omega) hx1 (by omega) (by omega))
   refine A.aG [0] [] (fun aa ww rr ss=>trivial) (d2) ?_ ?_ (by kernel_rfl)
   ·rfl
   exact⟨hst_.symm.trans he,hz⟩
  have p5:=e5;try simp only[de] at p5
  refine A.p (A.d (A.W [21,23] 24 (A.kd 3 [.p,.p,.p,.w ((F+r:Nat):Int),.p,.p,.p,.w ((F+((2*r)+1):Nat):Int),.p,.p,.p,.w ((F+((2*r)+1):Nat):Int),.ix,.rd [u_ x1],.p,.p,.p,.w ((F+r:Nat):Int),.ix,.rd [u_ x6],.ix] [0,1,2,3,4,5,6,7,8,9,10,11,12,13,14,15,16,17,18,19,20] [8,52] (Gi al d2 cl F r x1 x6) [] (oc (wi ((F:Int)+(r:Int)) ((F+r:Nat):Int) (by omega)) (oc (wi ((F:Int)+(((2*r)+1:Nat):Int)) ((F+((2*r)+1):Nat):Int) (by omega)) (oc (wi ((F:Int)+(((2*r)+1:Nat):Int)) ((F+((2*r)+1):Nat):Int) (by omega)) (oc (dY 0 (F+((2*r)+1):Nat) dK rfl (by(simp;omega))) (oc (eK 0 (F+((2*r)+1):Nat) [u_ x1] dK rfl hx1) (oc (wi ((F:Int)+(r:Int)) ((F+r:Nat):Int) (by omega)) (oc (dY 0 (F+r:Nat) dK rfl (by(simp;omega))) (oc (eK 0 (F+r:Nat) [u_ x6] dK rfl hx6) (o1 (dY 0 (F+r:Nat) dK rfl (by(simp;omega)))))))))))) (A.F 21 rfl (A.sS 0 (F+r:Nat) x1 rfl dK (by(simp;omega)) (A.D 0 (nN al d2 F r x1 cl) (dm (by simp)) (A.D 22 (nN al d2 F r x1 cl) (dm (by simp)) (A.D 28 (nN al d2 F r x1 cl) (dm (by simp)) (A.D 57 (nN al d2 F r x1 cl) (dm (by simp)) (A.E (A.kd 1 [.ix] [22] [57,60,66,73] [(74,.pointer (some ((dV al).add ((F+((2*r)+1):Nat)*1))))] [] (o1 (dY 0 (F+((2*r)+1):Nat) dK rfl (by(simp;omega)))) (A.F 23 rfl (A.sS 0 (F+((2*r)+1):Nat) x6 rfl dK (by(simp;omega)) (A.D 0 (wQ al d2 F r x1 x6 cl) (dm (by simp)) (A.D 22 (wQ al d2 F r x1 x6 cl) (dm (by simp)) (A.D 28 (wQ al d2 F r x1 x6 cl) (dm (by simp)) (A.E (A.M ?_))))))))))))))))))
  have hcv7:((d2.toList.set (F+r:Nat) x1).set (F+((2*r)+1):Nat) x6)=(swp d2 (F+r:Nat) (F+((2*r)+1):Nat)).toList:=by exact rS hx6 hx1
  refine A.su 0 (sU al ((swp d2 (F+r:Nat) (F+((2*r)+1):Nat)).toList) cl) rfl (eI hcv7) (A.D 0 (vS al ((swp d2 (F+r:Nat) (F+((2*r)+1):Nat)).toList) cl) (fJ hcv7) (A.D 22 (vS al ((swp d2 (F+r:Nat) (F+((2*r)+1):Nat)).toList) cl) (fJ hcv7) (A.D 28 (vS al ((swp d2 (F+r:Nat) (F+((2*r)+1):Nat)).toList) cl) (fJ hcv7) (A.s (A.g [.p,.p] [9,72,74] [(8,c_ ((2*r)+1:Nat))] ?_)))))
  have hst_:siftDown ltInt hi F r d2=_:=(Gg (c:=2*r+1) (by omega) (by omega) (.inr ⟨_,_,_,_,hx1,by omega,hx2,by omega,by omega⟩) hx6 (by omega) hx1 (by omega) (by omega))
  refine A.aA (((2*r)+1:Nat),swp d2 (F+r:Nat) (F+((2*r)+1):Nat)) ⟨(hst_.symm.trans he),(by(rw[jA];omega)),(by omega)⟩ (by(simp;omega)) ?_
  exact A.I [0]
 have p2:=of_decide_eq_false e2
 refine A.D 21 (b_ false) (gw e2) (A.dT 0 [.sk,.sk,.sk,.sk,.sk,.sk,.sk,.sk,.sk,.sk,.sk,.sk,.sk,.sk,.p] [5,6,7,8,9,10,11,12,13,14,15,16,17,18,19] [21] [(36,b_ false)] [] (A.M (A.Z (A.p (A.d (A.d ?_))))))
 obtain⟨x8,hx8⟩: ∃x,(d2.toList)[(F+r:Nat)]? =some x:=⟨_,List.getElem?_eq_getElem (by(simp;omega))⟩
 obtain⟨x9,hx9⟩: ∃x,(d2.toList)[(F+((2*r)+1):Nat)]? =some x:=⟨_,List.getElem?_eq_getElem (by(simp;omega))⟩
 refine A.ka [.p,.p,.p,.w ((F+r:Nat):Int),.ix,.rd [u_ x8],.p,.p,.p,.w ((F+((2*r)+1):Nat):Int),.ix,.rd [u_ x9],.cq (b_ (decide (x8<x9))),.p] [0,1,2,3,4,5,6,7,8,9,10,11,12,13] [36] [(52,b_ (!(decide (x8<x9))))] [] (oc (wi ((F:Int)+(r:Int)) ((F+r:Nat):Int) (by omega)) (oc (dY 0 (F+r:Nat) dK rfl (by(simp;omega))) (oc (eK 0 (F+r:Nat) [u_ x8] dK rfl hx8) (oc (wi ((F:Int)+(((2*r)+1:Nat):Int)) ((F+((2*r)+1):Nat):Int) (by omega)) (oc (dY 0 (F+((2*r)+1):Nat) dK rfl (by(simp;omega))) (oc (eK 0 (F+((2*r)+1):Nat) [u_ x9] dK rfl hx9) (o1 (qo (fun ww ss=>jd x8 x9 ww))))))))) (A.v rfl (fun e6=> ?_) (fun e6=> ?_))
 ·have p6:=e6;try simp only[de] at p6
  refine A.e (?_)
  have hst_:siftDown ltInt hi F r d2=_:=(Gh (c:=2*r+1) (by omega) (by omega) (.inl (by omega)) hx8 (by omega) hx9 (by omega) (by omega))
  refine A.aG [0] [] (fun aa ww rr ss=>trivial) (d2) ?_ ?_ (by kernel_rfl)
  ·rfl
  exact⟨hst_.symm.trans he,hz⟩
 have p6:=e6;try simp only[de] at p6
 refine A.p (A.d (A.W [21,23] 24 (A.kd 3 [.p,.p,.p,.w ((F+r:Nat):Int),.p,.p,.p,.w ((F+((2*r)+1):Nat):Int),.p,.p,.p,.w ((F+((2*r)+1):Nat):Int),.ix,.rd [u_ x9],.p,.p,.p,.w ((F+r:Nat):Int),.ix,.rd [u_ x8],.ix] [0,1,2,3,4,5,6,7,8,9,10,11,12,13,14,15,16,17,18,19,20] [8,52] (Gi al d2 cl F r x9 x8) [] (oc (wi ((F:Int)+(r:Int)) ((F+r:Nat):Int) (by omega)) (oc (wi ((F:Int)+(((2*r)+1:Nat):Int)) ((F+((2*r)+1):Nat):Int) (by omega)) (oc (wi ((F:Int)+(((2*r)+1:Nat):Int)) ((F+((2*r)+1):Nat):Int) (by omega)) (oc (dY 0 (F+((2*r)+1):Nat) dK rfl (by(simp;omega))) (oc (eK 0 (F+((2*r)+1):Nat) [u_ x9] dK rfl hx9) (oc (wi ((F:Int)+(r:Int)) ((F+r:Nat):Int) (by omega)) (oc (dY 0 (F+r:Nat) dK rfl (by(simp;omega))) (oc (eK 0 (F+r:Nat) [u_ x8] dK rfl hx8) (o1 (dY 0 (F+r:Nat) dK rfl (by(simp;omega)))))))))))) (A.F 21 rfl (A.sS 0 (F+r:Nat) x9 rfl dK (by(simp;omega)) (A.D 0 (nN al d2 F r x9 cl) (dm (by simp)) (A.D 57 (nN al d2 F r x9 cl) (dm (by simp)) (A.E (A.kd 1 [.ix] [22] [57,60,66,73] [(74,.pointer (some ((dV al).add ((F+((2*r)+1):Nat)*1))))] [] (o1 (dY 0 (F+((2*r)+1):Nat) dK rfl (by(simp;omega)))) (A.F 23 rfl (A.sS 0 (F+((2*r)+1):Nat) x8 rfl dK (by(simp;omega)) (A.D 0 (wQ al d2 F r x9 x8 cl) (dm (by simp)) (A.E (A.M ?_))))))))))))))
 have hcv10:((d2.toList.set (F+r:Nat) x9).set (F+((2*r)+1):Nat) x8)=(swp d2 (F+r:Nat) (F+((2*r)+1):Nat)).toList:=by exact rS hx8 hx9
 refine A.su 0 (sU al ((swp d2 (F+r:Nat) (F+((2*r)+1):Nat)).toList) cl) rfl (eI hcv10) (A.D 0 (vS al ((swp d2 (F+r:Nat) (F+((2*r)+1):Nat)).toList) cl) (fJ hcv10) (A.s (A.g [.p,.p] [9,72,74] [(8,c_ ((2*r)+1:Nat))] ?_)))
 have hst_:siftDown ltInt hi F r d2=_:=(Gg (c:=2*r+1) (by omega) (by omega) (.inl (by omega)) hx8 (by omega) hx9 (by omega) (by omega))
 refine A.aA (((2*r)+1:Nat),swp d2 (F+r:Nat) (F+((2*r)+1):Nat)) ⟨(hst_.symm.trans he),(by(rw[jA];omega)),(by omega)⟩ (by(simp;omega)) ?_
 exact A.I [0]
theorem KB(al:Option Addr)(d:Array Int)(cl:Nat)(a b:Nat)(hb:a<b∧b≤d.size)(hS:d.size≤100000):
  CS 273 #[vS al d.toList cl,c_ a,c_ b] [sU al d.toList cl] (fun(d':(Array Int))=>(.tuple #[])) (fun d'=>d'=heapSort ltInt d a b∧d'.size=d.size) fun d'=>[sU al d'.toList cl]:=by
 intro w hs
 refine A.C Tryz.func273 rfl hs (A.c (A.g [.p,.p] [] [(6,c_ a)] (A.c (A.g [.p] [] [(7,i_ 0)] (A.c (A.k [.p,.p,.w ((b-a:Nat):Int),.p] [1,2] [(8,c_ (b-a:Nat))] [] (o1 (wi ((b:Int)-(a:Int)) ((b-a:Nat):Int) (by omega))) (A.d (A.c (A.k [.p,.w (((b-a)-1:Nat):Int),.w ((((b-a)-1)/2:Nat):Int),.p] [] [(9,c_ (((b-a)-1)/2:Nat))] [] (oc (wi (((b-a:Nat):Int)-1) (((b-a)-1:Nat):Int) (by omega)) (o1 (wo ((lD (e:=(((b-a)-1:Nat):Int).tdiv 2) (by(rw[Qo];constructor<;>omega))).trans (by rfl:((((b-a)-1:Nat):Int).tdiv 2:Int)=((((b-a)-1)/2:Nat):Int)))))) ?_)))))))))
 refine A.y (A.D 9 (i_ ((((b-a-1)/2+1:Nat):Int)-1)) (l0 (by omega)) (A.lp (σ:=Nat×(Array Int)) [] (fun(k,d2)=>[(9,i_ ((k:Int)-1)),(0,vS al d2.toList cl)]) [0] (fun(k,d2)=>[sU al d2.toList cl]) (fun(k,d2)=>(heapBuild ltInt (b-a) a k d2=heapBuild ltInt (b-a) a ((b-a-1)/2+1) d)∧(d2.size=d.size)∧(k≤(b-a-1)/2+1)) (fun(k,d2)=>k) (((b-a-1)/2+1:Nat),d) ⟨(by rfl),(by rfl),(by omega)⟩ ?_ ?_))
 ·exact A.I [0]
 rintro⟨k,d2⟩ ⟨he,hz,hk⟩
 refine A.d (A.c (A.g [.p,.p] [] [(19,b_ (decide (((k:Int)-1)≥0)))] (A.v rfl (fun e1=> ?_) (fun e1=> ?_))))
 ·have p1:=of_decide_eq_true e1
  refine A.p (A.d (A.y (A.D 9 (c_ (k-1:Nat)) (l0 (by omega)) (A.s (A.O [.p,.p,.p,.p] [19] [(22,vS al d2.toList cl),(23,c_ (k-1:Nat)),(24,c_ (b-a:Nat)),(25,c_ a)] (A.j (A.J (some 26) [0] (fun ww ss hh=>EM al d2 cl (k-1:Nat) (b-a:Nat) a (by omega) (by omega) ww hh) ?_)))))))
  rintro d'1 hz2
  refine A.D 0 (vS al d'1.toList cl) (dm (by(simp only[Array.length_toList];exact hz2.2.symm))) (A.D 22 (vS al d'1.toList cl) (dm (by(simp only[Array.length_toList];exact hz2.2.symm))) (A.aC (A.s (A.k [.p,.w (((k-1:Nat):Int)-1),.p] [22,23,24,25,26] [(9,i_ (((k-1:Nat):Int)-1))] [] (o1 (wj (((k-1:Nat):Int)-1) (by omega))) (A.aA ((k-1:Nat),d'1) ⟨(by(have h_:=(by assumption:_=siftDown ltInt (b-a) a (k-1) d2∧_);rw[OW (by omega),←h_.1] at he;exact he)),(by(have h_:=(by assumption:_=siftDown ltInt (b-a) a (k-1) d2∧_).2;omega)),(by omega)⟩ (by(simp;omega)) ?_)))))
  exact A.I [0]
 have p1:=of_decide_eq_false e1
 refine A.aB (A.c (A.k [.p,.w (((b-a)-1:Nat):Int),.p] [8,9,19] [(10,c_ ((b-a)-1:Nat))] [] (o1 (wi (((b-a:Nat):Int)-1) (((b-a)-1:Nat):Int) (by omega))) (A.y (A.D 10 (i_ (((b-a:Nat):Int)-1)) (l0 (by omega)) (A.lp (σ:=Nat×(Array Int)) [] (fun(k9,d3)=>[(10,i_ ((k9:Int)-1)),(0,vS al d3.toList cl)]) [0] (fun(k9,d3)=>[sU al d3.toList cl]) (fun(k9,d3)=>(heapPop ltInt a k9 d3=heapSort ltInt d a b)∧(d3.size=d.size)∧(k9≤b-a)) (fun(k9,d3)=>k9) ((b-a:Nat),d2) ⟨(by(unfold heapSort;rw[←he];(rw[show k=0 by omega];rfl))),(by omega),(by omega)⟩ ?_ ?_)))))
 ·exact A.I [0]
 rintro⟨k9,d3⟩ ⟨he3,hz3,hk9⟩
 refine A.d (A.c (A.g [.p,.p] [] [(30,b_ (decide (((k9:Int)-1)≥0)))] (A.v rfl (fun e3=> ?_) (fun e3=> ?_))))
 ·have p3:=of_decide_eq_true e3
  refine A.p (A.d (A.y (A.d (A.D 10 (c_ (k9-1:Nat)) (l0 (by omega)) (A.W [17,19] 20 ?_)))))
  obtain⟨x2,hx2⟩: ∃x,(d3.toList)[(a+(k9-1):Nat)]? =some x:=⟨_,List.getElem?_eq_getElem (by(simp;omega))⟩
  obtain⟨x3,hx3⟩: ∃x,(d3.toList)[a]? =some x:=⟨_,List.getElem?_eq_getElem (by(simp;omega))⟩
  refine A.kd 3 [.p,.p,.p,.p,.p,.w ((a+(k9-1):Nat):Int),.p,.p,.p,.w ((a+(k9-1):Nat):Int),.ix,.rd [u_ x2],.p,.p,.ix,.rd [u_ x3],.ix] [0,1,2,3,4,5,6,7,8,9,10,11,12,13,14,15,16] [30] [(35,vS al d3.toList cl),(38,c_ (a+(k9-1):Nat)),(44,u_ x2),(48,u_ x3),(49,.pointer (some ((dV al).add (a*1))))] [] (oc (wi ((a:Int)+((k9-1:Nat):Int)) ((a+(k9-1):Nat):Int) (by omega)) (oc (wi ((a:Int)+((k9-1:Nat):Int)) ((a+(k9-1):Nat):Int) (by omega)) (oc (dY 0 (a+(k9-1):Nat) dK rfl (by(simp;omega))) (oc (eK 0 (a+(k9-1):Nat) [u_ x2] dK rfl hx2) (oc (dY 0 a dK rfl (by(simp;omega))) (oc (eK 0 a [u_ x3] dK rfl hx3) (o1 (dY 0 a dK rfl (by(simp;omega)))))))))) (A.F 17 rfl (A.sS 0 a x2 rfl dK (by(simp;omega)) (A.D 0 (vS al (d3.toList.set a x2) cl) (dm (by simp)) (A.D 35 (vS al (d3.toList.set a x2) cl) (dm (by simp)) (A.E (A.kd 1 [.ix] [18] [35,38,44,49] [(50,.pointer (some ((dV al).add ((a+(k9-1):Nat)*1))))] [] (o1 (dY 0 (a+(k9-1):Nat) dK rfl (by(simp;omega)))) (A.F 19 rfl (A.sS 0 (a+(k9-1):Nat) x3 rfl dK (by(simp;omega)) (A.D 0 (vS al ((d3.toList.set a x2).set (a+(k9-1):Nat) x3) cl) (dm (by simp)) (A.E (A.M ?_)))))))))))
  have hcv4:((d3.toList.set a x2).set (a+(k9-1):Nat) x3)=(swp d3 a (a+(k9-1):Nat)).toList:=by exact rS hx3 hx2
  refine A.su 0 (sU al ((swp d3 a (a+(k9-1):Nat)).toList) cl) rfl (eI hcv4) (A.D 0 (vS al ((swp d3 a (a+(k9-1):Nat)).toList) cl) (fJ hcv4) (A.s (A.O [.p,.p,.p,.p] [48,50] [(51,vS al ((swp d3 a (a+(k9-1):Nat)).toList) cl),(52,i_ 0),(53,c_ (k9-1:Nat)),(54,c_ a)] (A.j (A.J (some 55) [0] (fun ww ss hh=>EM al (swp d3 a (a+(k9-1):Nat)) cl 0 (k9-1:Nat) a (by(rw[jA];omega)) (by(rw[jA];omega)) ww hh) ?_)))))
  rintro d'5 hz4
  refine A.D 0 (vS al d'5.toList cl) (dm (by(simp only[Array.length_toList];exact hz4.2.symm))) (A.D 51 (vS al d'5.toList cl) (dm (by(simp only[Array.length_toList];exact hz4.2.symm))) (A.aC (A.s (A.k [.p,.w (((k9-1:Nat):Int)-1),.p] [51,52,53,54,55] [(10,i_ (((k9-1:Nat):Int)-1))] [] (o1 (wj (((k9-1:Nat):Int)-1) (by omega))) (A.aA ((k9-1:Nat),d'5) ⟨(by(have h_:=(by assumption:_=siftDown ltInt (k9-1) a 0 (swp d3 a (a+(k9-1)))∧_);rw[OX (by omega),←h_.1] at he3;exact he3)),(by(have h_:=(by assumption:_=siftDown ltInt (k9-1) a 0 (swp d3 a (a+(k9-1)))∧_).2;rw[jA] at h_;omega)),(by omega)⟩ (by(simp;omega)) ?_)))))
  exact A.I [0]
 have p3:=of_decide_eq_false e3
 refine A.aB (A.aQ [0] [] (fun aa ww rr ss=>trivial) (d3) ?_ ?_ (by kernel_rfl))
 ·rfl
 (rw[show k9=0 by omega] at he3;exact⟨he3,hz3⟩)
variable{i:Nat}
theorem fC(h:i<d.size):d.toList[i]? =some d[i]! :=by
 rw[Array.getElem?_toList,getElem!_pos d i h];exact Array.getElem?_eq_getElem h
theorem lB(d:Array Int)(i j:Nat):(d.toList.set i d[j]!).set j d[i]! =(swp d i j).toList:=by unfold swp;simp[Array.toList_setIfInBounds]
variable{p:Int→Bool}{j:Nat}
theorem CL(h:(decide ((i:Int)≤(j:Int))&&p d[i]!)=true):scanUp p d j i=scanUp p d j (i+1):=by
 rw[Bool.and_eq_true,decide_eq_true_eq] at h
 rw[scanUp,if_pos (by rw[h.2];simp;omega)]
theorem CM(h:(decide ((i:Int)≤(j:Int))&&p d[i]!)=false):scanUp p d j i=i:=by
 rw[scanUp,if_neg];intro g
 rw[Bool.and_eq_true,decide_eq_true_eq] at g
 rw[g.2] at h;simp at h;omega
theorem CN(hj:1≤j)(h:(decide ((i:Int)≤(j:Int))&&p d[j]!)=true):scanDown p d i j=scanDown p d i (j-1):=by
 obtain⟨k,rfl⟩: ∃k,j=k+1:=⟨j-1,by omega⟩
 rw[Bool.and_eq_true,decide_eq_true_eq] at h
 rw[scanDown,if_pos (by rw[h.2];simp;omega)];rfl
theorem CO(h:(decide ((i:Int)≤(j:Int))&&p d[j]!)=false):scanDown p d i j=j:=by
 cases j with
 |zero=>rfl
 |succ k=>
  rw[scanDown,if_neg];intro g
  rw[Bool.and_eq_true,decide_eq_true_eq] at g
  rw[g.2] at h;simp at h;omega
variable{a i2 j2:Nat}
theorem OY(hI:scanUp (fun x=>ltInt x d[a]!) d j i=i2)(hJ:scanDown (fun x=> !ltInt x d[a]!) d i2 j=j2)(h:i2>j2):partLoop ltInt a i j d=(j2,d):=by
 rw[partLoop_eq,hI,hJ,if_pos h]
theorem OZ(hI:scanUp (fun x=>ltInt x d[a]!) d j i=i2)(hJ:scanDown (fun x=> !ltInt x d[a]!) d i2 j=j2)(h: ¬i2>j2):partLoop ltInt a i j d=partLoop ltInt a (i2+1) (j2-1) (swp d i2 j2):=by
 rw[partLoop_eq,hI,hJ,if_neg h]
theorem O0(hI:scanUp (fun x=> !ltInt d[a]! x) d j i=i2)(hJ:scanDown (fun x=>ltInt d[a]! x) d i2 j=j2)(h:i2>j2):partEqLoop ltInt a i j d=(i2,d):=by
 rw[partEqLoop_eq,hI,hJ,if_pos h]
theorem O1(hI:scanUp (fun x=> !ltInt d[a]! x) d j i=i2)(hJ:scanDown (fun x=>ltInt d[a]! x) d i2 j=j2)(h: ¬i2>j2):partEqLoop ltInt a i j d=partEqLoop ltInt a (i2+1) (j2-1) (swp d i2 j2):=by
 rw[partEqLoop_eq,hI,hJ,if_neg h]
variable{d1:Array Int}{b:Nat}
theorem Qq{p:Nat}(h1:d1=swp d a p)(hI:scanUp (fun x=>ltInt x d1[a]!) d1 (b-1) (a+1)=i)(hJ:scanDown (fun x=> !ltInt x d1[a]!) d1 i (b-1)=j)(h:i>j):partition ltInt d a b p=(j,true,swp d1 j a):=by
 unfold partition;simp only[←h1,hI,hJ,if_pos h]
theorem Qr{p:Nat}{r:Nat×Array Int}(h1:d1=swp d a p)(hI:scanUp (fun x=>ltInt x d1[a]!) d1 (b-1) (a+1)=i)(hJ:scanDown (fun x=> !ltInt x d1[a]!) d1 i (b-1)=j)(h: ¬i>j)(hr:partLoop ltInt a (i+1) (j-1) (swp d1 i j)=r):partition ltInt d a b p=(r.1,false,swp r.2 r.1 a):=by
 unfold partition;simp only[←h1,hI,hJ,if_neg h,hr]
theorem TF(h:(decide ((i:Int)<(b:Int))&& !decide (d[i]! <d[i-1]!))=true):scanSorted ltInt d b i=scanSorted ltInt d b (i+1):=by
 rw[Bool.and_eq_true,decide_eq_true_eq] at h
 rw[scanSorted,if_pos];unfold ltInt;rw[h.2];simp;omega
theorem TG(h:(decide ((i:Int)<(b:Int))&& !decide (d[i]! <d[i-1]!))=false):scanSorted ltInt d b i=i:=by
 rw[scanSorted,if_neg];intro g
 rw[Bool.and_eq_true,decide_eq_true_eq] at g
 unfold ltInt at g;rw[g.2] at h;simp at h;omega
theorem S7(hj:1≤j)(h:d[j]! <d[j-1]!):shiftDown ltInt j d=shiftDown ltInt (j-1) (swp d j (j-1)):=by
 obtain⟨k,rfl⟩: ∃k,j=k+1:=⟨j-1,by omega⟩
 rw[Nat.add_sub_cancel] at h⊢
 rw[shiftDown,if_neg];simp[ltInt,h]
theorem S8(hj:1≤j)(h: ¬d[j]! <d[j-1]!):shiftDown ltInt j d=d:=by
 obtain⟨k,rfl⟩: ∃k,j=k+1:=⟨j-1,by omega⟩
 rw[Nat.add_sub_cancel] at h
 rw[shiftDown,if_pos];simp[ltInt];omega
theorem Bv(hj:j<b)(h:d[j]! <d[j-1]!):shiftUp ltInt b j d=shiftUp ltInt b (j+1) (swp d j (j-1)):=by
 rw[shiftUp,if_pos hj,if_neg];simp[ltInt,h]
theorem Bw(hj:j<b)(h: ¬d[j]! <d[j-1]!):shiftUp ltInt b j d=d:=by
 rw[shiftUp,if_pos hj,if_pos];simp[ltInt];omega
theorem By(hj: ¬j<b):shiftUp ltInt b j d=d:=by rw[shiftUp,if_neg hj]
theorem o7{d2 d3:Array Int}(hI:scanSorted ltInt d b i=i2)(h: ¬i2=b)(h5: ¬b-a<50)(h2:d2=fixDown ltInt a i2 (swp d i2 (i2-1)))(h3:d3=fixUp ltInt b i2 d2):partialIns ltInt a b (s+1) i d=partialIns ltInt a b s i2 d3:=by
 rw[partialIns_succ,hI,if_neg h,if_neg h5,←h2,←h3]
theorem TI(hI:scanSorted ltInt d b i=i2)(h:i2=b):partialIns ltInt a b (s+1) i d=(d,true):=by rw[partialIns_succ,hI,if_pos h]
theorem TJ(hI:scanSorted ltInt d b i=i2)(h: ¬i2=b)(h5:b-a<50):partialIns ltInt a b (s+1) i d=(d,false):=by rw[partialIns_succ,hI,if_neg h,if_pos h5]
theorem mX(h:k<5):partialIns ltInt a b (5-k) i d=partialIns ltInt a b ((5-(k+1))+1) i d:=by rw[show 5-(k+1)+1=5-k by omega]
theorem Ii{J:Nat}{v:Int}(hJ:j≤J)(h1:(decide ((i:Int)≤(J:Int))&&decide (d[i]! <v))=false)(h2:(decide ((i:Int)≤(j:Int))&& !decide (d[j]! <v))=false):i≤j→i<j:=by
 intro g
 have e:decide ((i:Int)≤(j:Int))=true:=by simp;omega
 have e2:decide ((i:Int)≤(J:Int))=true:=by simp;omega
 rw[e2] at h1;rw[e] at h2;simp at h1 h2
 rcases Nat.lt_or_eq_of_le g with q|q
 ·exact q
 ·subst q;omega
theorem ne_eq{J:Nat}{v:Int}(hJ:j≤J)(h1:(decide ((i:Int)≤(J:Int))&& !decide (v<d[i]!))=false)(h2:(decide ((i:Int)≤(j:Int))&&decide (v<d[j]!))=false):i≤j→i<j:=by
 intro g
 have e:decide ((i:Int)≤(j:Int))=true:=by simp;omega
 have e2:decide ((i:Int)≤(J:Int))=true:=by simp;omega
 rw[e2] at h1;rw[e] at h2;simp at h1 h2
 rcases Nat.lt_or_eq_of_le g with q|q
 ·exact q
 ·subst q;omega
abbrev uG(p0)(p1:Array Int)(p2)(p3)(p4):=((vS p0 ((p1.toList.set p2 (p1[p3]!)).set p3 (p1[p2]!)) p4):Value)
abbrev Tn(p0)(p1:Array Int)(p2)(p3)(p4):=([sU p0 ((p1.toList.set p2 (p1[p3]!)).set p3 (p1[p2]!)) p4]:List V.dC)
theorem Kw(al:Option Addr)(d:Array Int)(cl:Nat)(a b p:Nat)(hb:a≤p∧p<b∧b≤d.size)(hS:d.size≤100000):
  CS 279 #[vS al d.toList cl,c_ a,c_ b,c_ p] [sU al d.toList cl] (fun((m',q',d'):Nat×Bool×(Array Int))=>(.tuple #[c_ m',b_ q'])) (fun(m',q',d')=>partition ltInt d a b p=(m',q',d')∧d'.size=d.size) fun(m',q',d')=>[sU al d'.toList cl]:=by
 intro w hs
 refine A.C Tryz.func279 rfl hs (A.c (A.g [.p,.p] [] [(8,i_ 0),(9,b_ false)] (A.d (A.W [13,15] 16 (A.kd 3 [.p,.p,.p,.p,.p,.p,.ix,.rd [u_ (d[p]!)],.p,.p,.ix,.rd [u_ (d[a]!)],.ix] [0,1,2,3,4,5,6,7,8,9,10,11,12] [] [(14,vS al d.toList cl),(15,c_ p),(19,u_ (d[p]!)),(23,u_ (d[a]!)),(24,.pointer (some ((dV al).add (a*1))))] [] (oc (dY 0 p dK rfl (by(simp;omega))) (oc (eK 0 p [u_ (d[p]!)] dK rfl (fC (by omega))) (oc (dY 0 a dK rfl (by(simp;omega))) (oc (eK 0 a [u_ (d[a]!)] dK rfl (fC (by omega))) (o1 (dY 0 a dK rfl (by(simp;omega)))))))) (A.F 13 rfl (A.sS 0 a (d[p]!) rfl dK (by(simp;omega)) (A.D 0 (vS al (d.toList.set a (d[p]!)) cl) (dm (by simp)) (A.D 14 (vS al (d.toList.set a (d[p]!)) cl) (dm (by simp)) (A.E (A.kd 1 [.ix] [14] [14,15,19,24] [(25,.pointer (some ((dV al).add (p*1))))] [] (o1 (dY 0 p dK rfl (by(simp;omega)))) (A.F 15 rfl (A.sS 0 p (d[a]!) rfl dK (by(simp;omega)) (A.D 0 (uG al d a p cl) (dm (by simp)) (A.E (A.M ?_))))))))))))))))
 obtain⟨d101,hdd101⟩: ∃z,z=swp d a p:=⟨_,rfl⟩;have hszd101:d101.size=d.size:=(by rw[hdd101];exact jA _ _ _)
 have hcv2:((d.toList.set a (d[p]!)).set p (d[a]!))=d101.toList:=by rw[hdd101];exact lB _ _ _
 refine A.su 0 (sU al d101.toList cl) rfl (eI hcv2) (A.D 0 (vS al d101.toList cl) (fJ hcv2) (A.c (A.k [.p,.w ((a+1:Nat):Int),.p,.w ((b-1:Nat):Int),.p,.p] [23,25] [(10,c_ (a+1:Nat)),(11,c_ (b-1:Nat))] [] (oc (wi ((a:Int)+1) ((a+1:Nat):Int) (by omega)) (o1 (wi ((b:Int)-1) ((b-1:Nat):Int) (by omega)))) (A.d (A.y (A.lp (σ:=Nat) [2,3] (fun i1=>[(10,c_ i1)]) [] (fun i1=>[]) (fun i1=>(scanUp (fun x=>ltInt x d101[a]!) d101 (b-1) i1=scanUp (fun x=>ltInt x d101[a]!) d101 (b-1) (a+1))∧((a+1)≤i1∧i1≤(b-1)+1)) (fun i1=>(b-1)+1-i1) ((a+1:Nat):Nat) ⟨(by rfl),(by omega)⟩ ?_ ?_))))))
 ·exact A.I [0]
 rintro i1 ⟨hu1,hi1⟩
 refine A.d (A.d (A.ka [.p,.p,.p,.p,.o,.p,.p,.ix,.rd [u_ (d101[i1]!)],.p,.p,.ix,.rd [u_ (d101[a]!)],.cq (b_ (decide ((d101[i1]!)<(d101[a]!)))),.cl] [0,1,2,3,4,5,6,7,8,9,10,11,12,13] [] [(43,b_ ((decide ((i1:Int)≤((b-1:Nat):Int)))&&(decide ((d101[i1]!)<(d101[a]!)))))] [] (oc (go (true&&((decide ((i1:Int)≤((b-1:Nat):Int)))==true)) fun h_=>(dY 0 i1 dK rfl (by(simp at h_⊢;omega)))) (oc (go (true&&((decide ((i1:Int)≤((b-1:Nat):Int)))==true)) fun h_=>(eK 0 i1 [u_ (d101[i1]!)] dK rfl (fC (by(simp at h_;omega))))) (oc (go (true&&((decide ((i1:Int)≤((b-1:Nat):Int)))==true)) fun h_=>(dY 0 a dK rfl (by(simp;omega)))) (oc (go (true&&((decide ((i1:Int)≤((b-1:Nat):Int)))==true)) fun h_=>(eK 0 a [u_ (d101[a]!)] dK rfl (fC (by omega)))) (o1 (go (true&&((decide ((i1:Int)≤((b-1:Nat):Int)))==true)) fun h_=>(qo (fun ww ss=>jd (d101[i1]!) (d101[a]!) ww)))))))) (A.v rfl (fun e1=> ?_) (fun e1=> ?_))))
 ·have p1:=e1;try simp only[de] at p1
  refine A.p (A.y (A.s (A.k [.p,.w ((i1+1:Nat):Int),.p] [] [(10,c_ (i1+1:Nat))] [] (o1 (wi ((i1:Int)+1) ((i1+1:Nat):Int) (by omega))) ?_)))
  have hst_:scanUp (fun x=>ltInt x d101[a]!) d101 (b-1) i1=_:=CL (p:=(fun x=>ltInt x d101[a]!)) e1
  refine A.aA ((i1+1:Nat)) ⟨(hst_.symm.trans hu1),(by omega)⟩ (by omega) ?_
  exact A.I [0]
 refine A.aB (A.d (A.y (A.lp (σ:=Nat) [43] (fun j1=>[(11,c_ j1)]) [] (fun j1=>[]) (fun j1=>(scanDown (fun x=> !ltInt x d101[a]!) d101 i1 j1=scanDown (fun x=> !ltInt x d101[a]!) d101 i1 (b-1))∧(i1≤j1+1∧j1≤(b-1))) (fun j1=>j1) ((b-1:Nat):Nat) ⟨(by rfl),(by omega)⟩ ?_ ?_)))
 ·exact A.I [0]
 rintro j1 ⟨hv1,hj1⟩
 refine A.d (A.d (A.ka [.p,.p,.p,.p,.o,.p,.p,.ix,.rd [u_ (d101[j1]!)],.p,.p,.ix,.rd [u_ (d101[a]!)],.cq (b_ (decide ((d101[j1]!)<(d101[a]!)))),.p,.cl] [0,1,2,3,4,5,6,7,8,9,10,11,12,13,14] [] [(60,b_ ((decide ((i1:Int)≤(j1:Int)))&&(!(decide ((d101[j1]!)<(d101[a]!))))))] [] (oc (go (true&&((decide ((i1:Int)≤(j1:Int)))==true)) fun h_=>(dY 0 j1 dK rfl (by(simp;omega)))) (oc (go (true&&((decide ((i1:Int)≤(j1:Int)))==true)) fun h_=>(eK 0 j1 [u_ (d101[j1]!)] dK rfl (fC (by omega)))) (oc (go (true&&((decide ((i1:Int)≤(j1:Int)))==true)) fun h_=>(dY 0 a dK rfl (by(simp;omega)))) (oc (go (true&&((decide ((i1:Int)≤(j1:Int)))==true)) fun h_=>(eK 0 a [u_ (d101[a]!)] dK rfl (fC (by omega)))) (o1 (go (true&&((decide ((i1:Int)≤(j1:Int)))==true)) fun h_=>(qo (fun ww ss=>jd (d101[j1]!) (d101[a]!) ww)))))))) (A.v rfl (fun e2=> ?_) (fun e2=> ?_))))
 ·have p2:=e2;try simp only[de] at p2
  refine A.p (A.y (A.s (A.k [.p,.w ((j1-1:Nat):Int),.p] [] [(11,c_ (j1-1:Nat))] [] (o1 (wi ((j1:Int)-1) ((j1-1:Nat):Int) (by omega))) ?_)))
  have hst_:scanDown (fun x=> !ltInt x d101[a]!) d101 i1 j1=_:=CN (p:=(fun x=> !ltInt x d101[a]!)) (by omega) e2
  refine A.aA ((j1-1:Nat)) ⟨(hst_.symm.trans hv1),(by omega)⟩ (by omega) ?_
  exact A.I [0]
 refine A.aB (A.d (A.d ?_))
 have hI1:scanUp (fun x=>ltInt x d101[a]!) d101 (b-1) (a+1)=i1:=(by rw[←hu1];exact CM (p:=(fun x=>ltInt x d101[a]!)) e1)
 have hne1:=Ii (by omega) e1 e2
 have hJ1:scanDown (fun x=> !ltInt x d101[a]!) d101 i1 (b-1)=j1:=(by rw[←hv1];exact CO (p:=(fun x=> !ltInt x d101[a]!)) e2)
 refine A.s (A.g [.p,.p,.p] [] [(65,b_ (decide ((i1:Int)>(j1:Int))))] (A.v rfl (fun e3=> ?_) (fun e3=> ?_)))
 ·have p3:=of_decide_eq_true e3
  refine A.d (A.W [13,15] 16 (A.kd 3 [.p,.p,.p,.p,.p,.p,.ix,.rd [u_ (d101[a]!)],.p,.p,.ix,.rd [u_ (d101[j1]!)],.ix] [0,1,2,3,4,5,6,7,8,9,10,11,12] [] [(68,vS al d101.toList cl),(69,c_ a),(73,u_ (d101[a]!)),(77,u_ (d101[j1]!)),(78,.pointer (some ((dV al).add (j1*1))))] [] (oc (dY 0 a dK rfl (by(simp;omega))) (oc (eK 0 a [u_ (d101[a]!)] dK rfl (fC (by omega))) (oc (dY 0 j1 dK rfl (by(simp;omega))) (oc (eK 0 j1 [u_ (d101[j1]!)] dK rfl (fC (by omega))) (o1 (dY 0 j1 dK rfl (by(simp;omega)))))))) (A.F 13 rfl (A.sS 0 j1 (d101[a]!) rfl dK (by(simp;omega)) (A.D 0 (vS al (d101.toList.set j1 (d101[a]!)) cl) (dm (by simp)) (A.D 68 (vS al (d101.toList.set j1 (d101[a]!)) cl) (dm (by simp)) (A.E (A.kd 1 [.ix] [14] [68,69,73,78] [(79,.pointer (some ((dV al).add (a*1))))] [] (o1 (dY 0 a dK rfl (by(simp;omega)))) (A.F 15 rfl (A.sS 0 a (d101[j1]!) rfl dK (by(simp;omega)) (A.D 0 (uG al d101 j1 a cl) (dm (by simp)) (A.E (A.M ?_)))))))))))))
  obtain⟨d103,hdd103⟩: ∃z,z=swp d101 j1 a:=⟨_,rfl⟩;have hszd103:d103.size=d101.size:=(by rw[hdd103];exact jA _ _ _)
  have hcv4:((d101.toList.set j1 (d101[a]!)).set a (d101[j1]!))=d103.toList:=by rw[hdd103];exact lB _ _ _
  refine A.su 0 (sU al d103.toList cl) rfl (eI hcv4) (A.D 0 (vS al d103.toList cl) (fJ hcv4) (A.c (A.g [.p,.p,.p] [77,79] [(8,c_ j1),(9,b_ true)] (A.e (?_)))))
  have hP:=Qq (b:=b) hdd101 hI1 hJ1 (by omega)
  refine A.Y [0] [c_ j1,b_ true] (j1,true,d103) ?_ ?_
  ·rfl
  exact⟨by rw[hP];simp only[*],by omega⟩
 have p3:=of_decide_eq_false e3
 refine A.p (A.d (A.W [13,15] 16 (A.kd 3 [.p,.p,.p,.p,.p,.p,.ix,.rd [u_ (d101[j1]!)],.p,.p,.ix,.rd [u_ (d101[i1]!)],.ix] [0,1,2,3,4,5,6,7,8,9,10,11,12] [] [(83,vS al d101.toList cl),(84,c_ j1),(88,u_ (d101[j1]!)),(92,u_ (d101[i1]!)),(93,.pointer (some ((dV al).add (i1*1))))] [] (oc (dY 0 j1 dK rfl (by(simp;omega))) (oc (eK 0 j1 [u_ (d101[j1]!)] dK rfl (fC (by omega))) (oc (dY 0 i1 dK rfl (by(simp;omega))) (oc (eK 0 i1 [u_ (d101[i1]!)] dK rfl (fC (by omega))) (o1 (dY 0 i1 dK rfl (by(simp;omega)))))))) (A.F 13 rfl (A.sS 0 i1 (d101[j1]!) rfl dK (by(simp;omega)) (A.D 0 (vS al (d101.toList.set i1 (d101[j1]!)) cl) (dm (by simp)) (A.D 83 (vS al (d101.toList.set i1 (d101[j1]!)) cl) (dm (by simp)) (A.E (A.kd 1 [.ix] [14] [83,84,88,93] [(94,.pointer (some ((dV al).add (j1*1))))] [] (o1 (dY 0 j1 dK rfl (by(simp;omega)))) (A.F 15 rfl (A.sS 0 j1 (d101[i1]!) rfl dK (by(simp;omega)) (A.D 0 (uG al d101 i1 j1 cl) (dm (by simp)) (A.E (A.M ?_))))))))))))))
 obtain⟨d105,hdd105⟩: ∃z,z=swp d101 i1 j1:=⟨_,rfl⟩;have hszd105:d105.size=d101.size:=(by rw[hdd105];exact jA _ _ _)
 have hcv6:((d101.toList.set i1 (d101[j1]!)).set j1 (d101[i1]!))=d105.toList:=by rw[hdd105];exact lB _ _ _
 refine A.su 0 (sU al d105.toList cl) rfl (eI hcv6) (A.D 0 (vS al d105.toList cl) (fJ hcv6) (A.c (A.k [.p,.w ((i1+1:Nat):Int),.p] [92,94] [(10,c_ (i1+1:Nat))] [] (o1 (wi ((i1:Int)+1) ((i1+1:Nat):Int) (by omega))) (A.c (A.k [.p,.w ((j1-1:Nat):Int),.p] [] [(11,c_ (j1-1:Nat))] [] (o1 (wi ((j1:Int)-1) ((j1-1:Nat):Int) (by omega))) (A.d (A.y (A.lp (σ:=Nat×Nat×(Array Int)) [60,65] (fun(i2,j2,d3)=>[(10,c_ i2),(11,c_ j2),(0,vS al d3.toList cl)]) [0] (fun(i2,j2,d3)=>[sU al d3.toList cl]) (fun(i2,j2,d3)=>(partLoop ltInt a i2 j2 d3=partLoop ltInt a (i1+1) (j1-1) d105)∧(d3.size=d.size)∧(a+1≤i2∧i2≤j2+1∧j2<b)) (fun(i2,j2,d3)=>j2+1-i2) ((i1+1:Nat),(j1-1:Nat),d105) ⟨(by rfl),(by omega),(by omega)⟩ ?_ ?_))))))))
 ·exact A.I [0]
 rintro⟨i2,j2,d3⟩ ⟨he,hz,hi⟩
 refine A.y (A.d (A.y (A.lp (σ:=Nat) [] (fun i3=>[(10,c_ i3)]) [] (fun i3=>[]) (fun i3=>(scanUp (fun x=>ltInt x d3[a]!) d3 j2 i3=scanUp (fun x=>ltInt x d3[a]!) d3 j2 i2)∧(i2≤i3∧i3≤j2+1)) (fun i3=>j2+1-i3) (i2:Nat) ⟨(by rfl),(by omega)⟩ ?_ ?_)))
 ·exact A.I [0]
 rintro i3 ⟨hu3,hi3⟩
 refine A.d (A.d (A.ka [.p,.p,.p,.p,.o,.p,.p,.ix,.rd [u_ (d3[i3]!)],.p,.p,.ix,.rd [u_ (d3[a]!)],.cq (b_ (decide ((d3[i3]!)<(d3[a]!)))),.cl] [0,1,2,3,4,5,6,7,8,9,10,11,12,13] [] [(112,b_ ((decide ((i3:Int)≤(j2:Int)))&&(decide ((d3[i3]!)<(d3[a]!)))))] [] (oc (go (true&&((decide ((i3:Int)≤(j2:Int)))==true)) fun h_=>(dY 0 i3 dK rfl (by(simp at h_⊢;omega)))) (oc (go (true&&((decide ((i3:Int)≤(j2:Int)))==true)) fun h_=>(eK 0 i3 [u_ (d3[i3]!)] dK rfl (fC (by(simp at h_;omega))))) (oc (go (true&&((decide ((i3:Int)≤(j2:Int)))==true)) fun h_=>(dY 0 a dK rfl (by(simp;omega)))) (oc (go (true&&((decide ((i3:Int)≤(j2:Int)))==true)) fun h_=>(eK 0 a [u_ (d3[a]!)] dK rfl (fC (by omega)))) (o1 (go (true&&((decide ((i3:Int)≤(j2:Int)))==true)) fun h_=>(qo (fun ww ss=>jd (d3[i3]!) (d3[a]!) ww)))))))) (A.v rfl (fun e4=> ?_) (fun e4=> ?_))))
 ·have p4:=e4;try simp only[de] at p4
  refine A.p (A.y (A.s (A.k [.p,.w ((i3+1:Nat):Int),.p] [] [(10,c_ (i3+1:Nat))] [] (o1 (wi ((i3:Int)+1) ((i3+1:Nat):Int) (by omega))) ?_)))
  have hst_:scanUp (fun x=>ltInt x d3[a]!) d3 j2 i3=_:=CL (p:=(fun x=>ltInt x d3[a]!)) e4
  refine A.aA ((i3+1:Nat)) ⟨(hst_.symm.trans hu3),(by omega)⟩ (by omega) ?_
  exact A.I [0]
 refine A.aB (A.d (A.y (A.lp (σ:=Nat) [112] (fun j3=>[(11,c_ j3)]) [] (fun j3=>[]) (fun j3=>(scanDown (fun x=> !ltInt x d3[a]!) d3 i3 j3=scanDown (fun x=> !ltInt x d3[a]!) d3 i3 j2)∧(i3≤j3+1∧j3≤j2)) (fun j3=>j3) (j2:Nat) ⟨(by rfl),(by omega)⟩ ?_ ?_)))
 ·exact A.I [0]
 rintro j3 ⟨hv3,hj3⟩
 refine A.d (A.d (A.ka [.p,.p,.p,.p,.o,.p,.p,.ix,.rd [u_ (d3[j3]!)],.p,.p,.ix,.rd [u_ (d3[a]!)],.cq (b_ (decide ((d3[j3]!)<(d3[a]!)))),.p,.cl] [0,1,2,3,4,5,6,7,8,9,10,11,12,13,14] [] [(129,b_ ((decide ((i3:Int)≤(j3:Int)))&&(!(decide ((d3[j3]!)<(d3[a]!))))))] [] (oc (go (true&&((decide ((i3:Int)≤(j3:Int)))==true)) fun h_=>(dY 0 j3 dK rfl (by(simp;omega)))) (oc (go (true&&((decide ((i3:Int)≤(j3:Int)))==true)) fun h_=>(eK 0 j3 [u_ (d3[j3]!)] dK rfl (fC (by omega)))) (oc (go (true&&((decide ((i3:Int)≤(j3:Int)))==true)) fun h_=>(dY 0 a dK rfl (by(simp;omega)))) (oc (go (true&&((decide ((i3:Int)≤(j3:Int)))==true)) fun h_=>(eK 0 a [u_ (d3[a]!)] dK rfl (fC (by omega)))) (o1 (go (true&&((decide ((i3:Int)≤(j3:Int)))==true)) fun h_=>(qo (fun ww ss=>jd (d3[j3]!) (d3[a]!) ww)))))))) (A.v rfl (fun e5=> ?_) (fun e5=> ?_))))
 ·have p5:=e5;try simp only[de] at p5
  refine A.p (A.y (A.s (A.k [.p,.w ((j3-1:Nat):Int),.p] [] [(11,c_ (j3-1:Nat))] [] (o1 (wi ((j3:Int)-1) ((j3-1:Nat):Int) (by omega))) ?_)))
  have hst_:scanDown (fun x=> !ltInt x d3[a]!) d3 i3 j3=_:=CN (p:=(fun x=> !ltInt x d3[a]!)) (by omega) e5
  refine A.aA ((j3-1:Nat)) ⟨(hst_.symm.trans hv3),(by omega)⟩ (by omega) ?_
  exact A.I [0]
 refine A.aB (A.d (A.d ?_))
 have hI3:scanUp (fun x=>ltInt x d3[a]!) d3 j2 i2=i3:=(by rw[←hu3];exact CM (p:=(fun x=>ltInt x d3[a]!)) e4)
 have hne3:=Ii (by omega) e4 e5
 have hJ3:scanDown (fun x=> !ltInt x d3[a]!) d3 i3 j2=j3:=(by rw[←hv3];exact CO (p:=(fun x=> !ltInt x d3[a]!)) e5)
 refine A.s (A.g [.p,.p,.p] [] [(134,b_ (decide ((i3:Int)>(j3:Int))))] (A.v rfl (fun e6=> ?_) (fun e6=> ?_)))
 ·have p6:=of_decide_eq_true e6
  refine A.aB (A.te (A.bm rfl ((A.d (A.W [13,15] 16 (A.kd 3 [.p,.p,.p,.p,.p,.p,.ix,.rd [u_ (d3[a]!)],.p,.p,.ix,.rd [u_ (d3[j3]!)],.ix] [0,1,2,3,4,5,6,7,8,9,10,11,12] [] [(155,vS al d3.toList cl),(156,c_ a),(160,u_ (d3[a]!)),(164,u_ (d3[j3]!)),(165,.pointer (some ((dV al).add (j3*1))))] [] (oc (dY 0 a dK rfl (by(simp;omega))) (oc (eK 0 a [u_ (d3[a]!)] dK rfl (fC (by omega))) (oc (dY 0 j3 dK rfl (by(simp;omega))) (oc (eK 0 j3 [u_ (d3[j3]!)] dK rfl (fC (by omega))) (o1 (dY 0 j3 dK rfl (by(simp;omega)))))))) (A.F 13 rfl (A.sS 0 j3 (d3[a]!) rfl dK (by(simp;omega)) (A.D 0 (vS al (d3.toList.set j3 (d3[a]!)) cl) (dm (by simp)) (A.D 155 (vS al (d3.toList.set j3 (d3[a]!)) cl) (dm (by simp)) (A.E (A.kd 1 [.ix] [14] [155,156,160,165] [(166,.pointer (some ((dV al).add (a*1))))] [] (o1 (dY 0 a dK rfl (by(simp;omega)))) (A.F 15 rfl (A.sS 0 a (d3[j3]!) rfl dK (by(simp;omega)) (A.D 0 (uG al d3 j3 a cl) (dm (by simp)) (A.E (A.M ?_)))))))))))))))))
  obtain⟨d107,hdd107⟩: ∃z,z=swp d3 j3 a:=⟨_,rfl⟩;have hszd107:d107.size=d3.size:=(by rw[hdd107];exact jA _ _ _)
  have hcv8:((d3.toList.set j3 (d3[a]!)).set a (d3[j3]!))=d107.toList:=by rw[hdd107];exact lB _ _ _
  refine A.su 0 (sU al d107.toList cl) rfl (eI hcv8) (A.D 0 (vS al d107.toList cl) (fJ hcv8) (A.c (A.g [.p,.p,.p] [164,166] [(8,c_ j3)] (A.e ?_))))
  have hP:=Qr (b:=b) (r:=(j3,d3)) hdd101 hI1 hJ1 (by omega) (by rw[←hdd105];exact he.symm.trans (OY hI3 hJ3 (by omega)))
  refine A.Y [0] [c_ j3,b_ false] (j3,false,d107) ?_ ?_
  ·rfl
  exact⟨by rw[hP];simp only[*],by omega⟩
 have p6:=of_decide_eq_false e6
 refine A.p (A.d (A.W [13,15] 16 (A.kd 3 [.p,.p,.p,.p,.p,.p,.ix,.rd [u_ (d3[j3]!)],.p,.p,.ix,.rd [u_ (d3[i3]!)],.ix] [0,1,2,3,4,5,6,7,8,9,10,11,12] [] [(137,vS al d3.toList cl),(138,c_ j3),(142,u_ (d3[j3]!)),(146,u_ (d3[i3]!)),(147,.pointer (some ((dV al).add (i3*1))))] [] (oc (dY 0 j3 dK rfl (by(simp;omega))) (oc (eK 0 j3 [u_ (d3[j3]!)] dK rfl (fC (by omega))) (oc (dY 0 i3 dK rfl (by(simp;omega))) (oc (eK 0 i3 [u_ (d3[i3]!)] dK rfl (fC (by omega))) (o1 (dY 0 i3 dK rfl (by(simp;omega)))))))) (A.F 13 rfl (A.sS 0 i3 (d3[j3]!) rfl dK (by(simp;omega)) (A.D 0 (vS al (d3.toList.set i3 (d3[j3]!)) cl) (dm (by simp)) (A.D 137 (vS al (d3.toList.set i3 (d3[j3]!)) cl) (dm (by simp)) (A.E (A.kd 1 [.ix] [14] [137,138,142,147] [(148,.pointer (some ((dV al).add (j3*1))))] [] (o1 (dY 0 j3 dK rfl (by(simp;omega)))) (A.F 15 rfl (A.sS 0 j3 (d3[i3]!) rfl dK (by(simp;omega)) (A.D 0 (uG al d3 i3 j3 cl) (dm (by simp)) (A.E (A.M ?_))))))))))))))
 obtain⟨d109,hdd109⟩: ∃z,z=swp d3 i3 j3:=⟨_,rfl⟩;have hszd109:d109.size=d3.size:=(by rw[hdd109];exact jA _ _ _)
 have hcv10:((d3.toList.set i3 (d3[j3]!)).set j3 (d3[i3]!))=d109.toList:=by rw[hdd109];exact lB _ _ _
 refine A.su 0 (sU al d109.toList cl) rfl (eI hcv10) (A.D 0 (vS al d109.toList cl) (fJ hcv10) (A.c (A.k [.p,.w ((i3+1:Nat):Int),.p] [146,148] [(10,c_ (i3+1:Nat))] [] (o1 (wi ((i3:Int)+1) ((i3+1:Nat):Int) (by omega))) (A.s (A.k [.p,.w ((j3-1:Nat):Int),.p] [] [(11,c_ (j3-1:Nat))] [] (o1 (wi ((j3:Int)-1) ((j3-1:Nat):Int) (by omega))) ?_)))))
 have hst_:partLoop ltInt a i2 j2 d3=_:=OZ hI3 hJ3 (by omega)
 refine A.aA ((i3+1:Nat),(j3-1:Nat),d109) ⟨(by(rw[hdd109];exact hst_.symm.trans he)),(by omega),(by omega)⟩ (by(simp;omega)) ?_
 exact A.I [0]
end Go.Proofs.YtobgjpigngoggaaGreat
namespace Go.Proofs.YtobgjpigngoggaaGreat
open Go V Go.Sort
theorem yi(x:Nat)(h:1≤x)(hx:x<2^64):2^Lib.bitLen x≤2*x:=by
 induction x using Nat.strongRecOn with
 |ind x ih=>
  rw[Lib.bitLen_half x (by omega) hx]
  by_cases h2:x/2=0
  ·have:x=1:=by omega
   subst this;decide
  ·have:=ih (x/2) (by omega) (by omega) (by omega)
   rw[Nat.pow_add,Nat.pow_one];omega
theorem EN(x:Nat)(h:1≤x)(hx:x≤100000):Lib.bitLen x≤18:=by
 have h1:=yi x h (by omega)
 rcases Nat.lt_or_ge 18 (Lib.bitLen x) with g|g
 ·exfalso
  have:=Nat.pow_le_pow_right (show 0<2 by decide) (show 19≤Lib.bitLen x from g)
  have e:2^19=524288:=by decide
  omega
 ·exact g
theorem Qs(op:BinOp)(a b:Int)(h:op= .xor∨op= .and):0≤dE op .u64 a b∧dE op .u64 a b<18446744073709551616:=by
 rcases h with rfl|rfl<;>(unfold dE;simp only[IntKind.wrap_u64];omega)
theorem FA{x:Int}{m:Nat}(hx:0≤x∧x<18446744073709551616)(hm:1≤m∧m≤1000000): ∃o:Nat,dE .and .u64 x (((m:Int)-1))=(o:Int)∧o<m:=by
 obtain⟨X,rfl⟩:=Int.eq_ofNat_of_zero_le hx.1
 have h1:((m:Int)-1)=((m-1:Nat):Int):=by omega
 rw[h1]
 have h2:dE .and .u64 (X:Int) ((m-1:Nat):Int)=((X&&&(m-1):Nat):Int):=u64_and_nat X (m-1) (by omega) (by omega)
 exact⟨_,h2,by have:=Nat.and_le_right (n:=X) (m:=m-1);omega⟩
theorem FB{d d2:Array Int}{a b i j:Nat}(h:PermIn a b d d2)(hi:a≤i∧i<b)(hj:a≤j∧j<b)(hb:b≤d.size):PermIn a b d (swp d2 i j):=
 permIn_trans _ _ _ a b h (swp_permIn d2 a b i j hi.1 hi.2 hj.1 hj.2 (by rw[h.1];exact hb))
open Go.RowKit Go.Shelf
def Tryz.lenA_ren:Go.Shelf.Ren:=⟨fun|8=>140|19=>192|20=>193|n=>n,fun|32=>263|3=>3|44=>312|46=>40|4=>4|5=>5|9=>9|n=>n,fun|n=>n⟩
theorem Tryz.lenA:Go.Proofs.SlLaysM.n8 Tryz.prog Tryz.lenA_ren:={
 mixed:=by kernel_rfl,
 f8:=Tryz.func140.trans (congrArg some (by kernel_rfl)),
 f19:=Tryz.func192.trans (congrArg some (by kernel_rfl)),
 f20:=Tryz.func193.trans (congrArg some (by kernel_rfl)),
 t3:=Tryz.underlying3,
 a3:=Tryz.isAgg3,
 z3:=Tryz.sizeOf3,
 v3:=Tryz.zeroValue3,
 t4:=Tryz.underlying4,
 a4:=Tryz.isAgg4,
 z4:=Tryz.sizeOf4,
 v4:=Tryz.zeroValue4,
 t5:=Tryz.underlying5,
 a5:=Tryz.isAgg5,
 z5:=Tryz.sizeOf5,
 v5:=Tryz.zeroValue5,
 t9:=Tryz.underlying9,
 a9:=Tryz.isAgg9,
 z9:=Tryz.sizeOf9,
 v9:=Tryz.zeroValue9,
 t32:=Tryz.underlying263,
 a32:=Tryz.isAgg263,
 z32:=Tryz.sizeOf263,
 v32:=Tryz.zeroValue263,
 t44:=Tryz.underlying312,
 a44:=Tryz.isAgg312,
 z44:=Tryz.sizeOf312,
 v44:=Tryz.zeroValue312,
 t46:=Tryz.underlying40,
 a46:=Tryz.isAgg40,
 z46:=Tryz.sizeOf40,
 v46:=Tryz.zeroValue40}
theorem FC(n:Nat)(hn:n<18446744073709551616)(w:World):
  CW 140 #[u_ (n:Int)] w (i_ (Lib.bitLen n:Int)):=by
 refine(calls_of_every_depth fun D=>AnySM.bits_LenIn Tryz.lenA D (n:Int) w (by omega) (by omega)).mono ?_
 rintro e w' ⟨rfl,rfl⟩
 exact⟨by simp,Fr.refl _ _⟩
abbrev wR(p0):=(u_ ((2^Lib.bitLen p0:Nat):Int):Value)
theorem MZ(n:Nat)(hn:1≤n∧n≤100000)(w:World):
  CW 237 #[c_ n] w (wR n):=by
 refine A.C Tryz.func237 rfl (HS.nil w) (A.c (A.g [.p] [] [] (A.c (A.kp [.p,.w (n:Int),.cq (i_ (Lib.bitLen n:Int))] [0] [(5,i_ (Lib.bitLen n:Int))] [] (oc (wv (n:Int) (by omega)) (o1 (qo (fun ww ss=>FC n (by omega) ww)))) (A.j (A.u (some 6) (wR n) (gx (congrArg (Value.int .u64) (by rw[IntKind.wrap_u64,Int.one_mul];have h_:=yi n (by omega) (by omega);have h2_:((2:Int)^Lib.bitLen n)=((2^Lib.bitLen n:Nat):Int):=(by simp);rw[h2_];exact(fun(q_:Nat)(hq_:q_≤2*n)=>(by omega:((q_:Int))%18446744073709551616=(q_:Int))) _ h_)) (Py (m:=Lib.bitLen n) rfl rfl rfl (by show Lib.bitLen n≤64;have h_:=EN n (by omega) (by omega);omega))) (A.g [.p] [5,6] [(2,wR n)] (A.e (A.N [wR n] ?_)))))))))
 rfl
abbrev wS(p0):=(u_ (dE .xor .u64 p0 (IntKind.u64.wrap (p0*8192))):Value)
abbrev Gj(p0):=(u_ (dE .xor .u64 (dE .xor .u64 p0 (IntKind.u64.wrap (p0*8192))) ((dE .xor .u64 p0 (IntKind.u64.wrap (p0*8192)))/128)):Value)
abbrev wT(p0):=(u_ (dE .xor .u64 (dE .xor .u64 (dE .xor .u64 p0 (IntKind.u64.wrap (p0*8192))) ((dE .xor .u64 p0 (IntKind.u64.wrap (p0*8192)))/128)) (IntKind.u64.wrap ((dE .xor .u64 (dE .xor .u64 p0 (IntKind.u64.wrap (p0*8192))) ((dE .xor .u64 p0 (IntKind.u64.wrap (p0*8192)))/128))*131072))):Value)
theorem Kx(br:Nat)(x:Int):
  CS 238 #[p_ br] [cz br [u_ x] 348] (fun(x':Int)=>(u_ x')) (fun x'=>0≤x'∧x'<18446744073709551616) fun x'=>[cz br [u_ x'] 348]:=by
 intro w hs
 refine A.C Tryz.func238 rfl hs ?_
 refine A.c (A.g [.p] [] [] ?_)
 refine A.d (A.W [9] 10 ?_)
 refine A.dT 1 [.p,.p,.ld 0,.p,.p,.ld 0,.p,.p,.p] [0,1,2,3,4,5,6,7,8] [] [(10,wS x),(11,p_ br)] [br,br] ?_
 refine A.F 9 rfl (A.sT 0 [wS x] rfl ?_)
 refine A.E ?_
 refine A.M ?_
 refine A.d (A.W [9] 10 ?_)
 refine A.pT 4 [.p,.p,.ld 0,.p,.p,.ld 0] [0,1,2,3,4,5] [(0,p_ br),(12,p_ br),(14,wS x),(17,wS x)] [br,br] ?_
 refine A.aT 6 (some 18) (u_ ((dE .xor .u64 x (IntKind.u64.wrap (x*8192)))/128)) rfl (by kernel_rfl) (by kernel_rfl) (gx (congrArg (Value.int .u64) (Int.fdiv_eq_ediv_of_nonneg (dE .xor .u64 x (IntKind.u64.wrap (x*8192))) (by decide))) (ia (v:= .int .u64 ((dE .xor .u64 x (IntKind.u64.wrap (x*8192))).fdiv 128)) (by kernel_rfl) fun _=>by kernel_rfl)) ?_
 refine A.pT 1 [.p,.p] [7,8] [(0,p_ br),(19,Gj x),(20,p_ br)] [] ?_
 refine A.F 9 rfl (A.sT 0 [Gj x] rfl ?_)
 refine A.E ?_
 refine A.M ?_
 refine A.d (A.W [9] 10 ?_)
 refine A.pT 1 [.p,.p,.ld 0,.p,.p,.ld 0,.p,.p,.p] [0,1,2,3,4,5,6,7,8] [(0,p_ br),(28,wT x),(29,p_ br)] [br,br] ?_
 refine A.F 9 rfl (A.sT 0 [wT x] rfl ?_)
 refine A.E ?_
 refine A.M ?_
 refine A.c (A.h [.p,.p,.ld 0,.p] [(2,wT x)] [br] ?_)
 refine A.e (A.Y [0] [wT x] (dE .xor .u64 (dE .xor .u64 (dE .xor .u64 x (IntKind.u64.wrap (x*8192))) ((dE .xor .u64 x (IntKind.u64.wrap (x*8192)))/128)) (IntKind.u64.wrap ((dE .xor .u64 (dE .xor .u64 x (IntKind.u64.wrap (x*8192))) ((dE .xor .u64 x (IntKind.u64.wrap (x*8192)))/128))*131072))) ?_ ?_)
 ·rfl
 exact Qs .xor _ _ (.inl rfl)
theorem M1(al:Option Addr)(d:Array Int)(cl:Nat)(a b:Nat)(hb:a+8≤b∧b≤d.size)(hS:d.size≤100000):
  CS 274 #[vS al d.toList cl,c_ a,c_ b] [sU al d.toList cl] (fun(d':(Array Int))=>(.tuple #[])) (fun d'=>PermIn a b d d'∧d'.size=d.size) fun d'=>[sU al d'.toList cl]:=by
 intro w hs
 have hl1:=yi (b-a) (by omega) (by omega);have hl2:1≤2^Lib.bitLen (b-a):=Nat.one_le_two_pow
 refine A.C Tryz.func274 rfl hs (A.c (A.k [.p,.p,.w ((b-a:Nat):Int),.p] [2] [(6,c_ (b-a:Nat))] [] (o1 (wi ((b:Int)-(a:Int)) ((b-a:Nat):Int) (by omega))) (A.c (A.g [.p,.p] [] [(15,b_ (decide (((b-a:Nat):Int)≥8)))] (A.v rfl (fun e1=> ?_) (fun e1=> ?_))))))
 ·have p1:=of_decide_eq_true e1
  refine A.c (A.no [.p,.w ((b-a:Nat):Int),.al,.st 1] [15] (fun b1=>[(7,p_ b1)]) (fun b1=>[]) (fun b1=>cz b1 [u_ ((b-a:Nat):Int)] 348) (fun b1=>[b1]) (fun b1=>o1 (wv ((b-a:Nat):Int) (by omega))) ?_)
  intro b1
  refine A.c (A.k [.p,.cq (u_ ((2^Lib.bitLen (b-a:Nat):Nat):Int)),.p] [] [(8,u_ ((2^Lib.bitLen (b-a:Nat):Nat):Int))] [] (o1 (qo (fun ww ss=>MZ (b-a:Nat) (by omega) ww))) (A.c (A.k [.p,.p,.w (((b-a)/4:Nat):Int),.w ((((b-a)/4)*2:Nat):Int),.w ((a+(((b-a)/4)*2):Nat):Int),.w (((a+(((b-a)/4)*2))-1:Nat):Int),.p] [] [(9,c_ ((a+(((b-a)/4)*2))-1:Nat))] [] (oc (wo ((lD (e:=((b-a:Nat):Int).tdiv 4) (by(rw[uW];constructor<;>omega))).trans (by rfl:(((b-a:Nat):Int).tdiv 4:Int)=(((b-a)/4:Nat):Int)))) (oc (wi ((((b-a)/4:Nat):Int)*2) ((((b-a)/4)*2:Nat):Int) (by omega)) (oc (wi ((a:Int)+((((b-a)/4)*2:Nat):Int)) ((a+(((b-a)/4)*2):Nat):Int) (by omega)) (o1 (wi (((a+(((b-a)/4)*2):Nat):Int)-1) (((a+(((b-a)/4)*2))-1:Nat):Int) (by omega)))))) ?_)))
  refine A.y (A.lp (σ:=Nat×(Array Int)×Int) [] (fun(i,d2,x2)=>[(9,c_ i),(0,vS al d2.toList cl)]) [0,0] (fun(i,d2,x2)=>[sU al d2.toList cl,cz b1 [u_ x2] 348]) (fun(i,d2,x2)=>(PermIn a b d d2)∧(d2.size=d.size)∧(a≤i∧i≤a+(b-a)/4*2+2)) (fun(i,d2,x2)=>a+(b-a)/4*2+2-i) (((a+(((b-a)/4)*2))-1:Nat),d,((b-a:Nat):Int)) ⟨(permIn_refl _ _ _),(by rfl),(by omega)⟩ ?_ ?_)
  ·exact A.I [0,0]
  rintro⟨i,d2,x2⟩ ⟨hp,hz,hi⟩
  refine A.d (A.c (A.k [.p,.p,.p,.w (((b-a)/4:Nat):Int),.w ((((b-a)/4)*2:Nat):Int),.w ((a+(((b-a)/4)*2):Nat):Int),.w (((a+(((b-a)/4)*2))+1:Nat):Int),.p] [] [(33,b_ (decide ((i:Int)≤(((a+(((b-a)/4)*2))+1:Nat):Int))))] [] (oc (wo ((lD (e:=((b-a:Nat):Int).tdiv 4) (by(rw[uW];constructor<;>omega))).trans (by rfl:(((b-a:Nat):Int).tdiv 4:Int)=(((b-a)/4:Nat):Int)))) (oc (wi ((((b-a)/4:Nat):Int)*2) ((((b-a)/4)*2:Nat):Int) (by omega)) (oc (wi ((a:Int)+((((b-a)/4)*2:Nat):Int)) ((a+(((b-a)/4)*2):Nat):Int) (by omega)) (o1 (wi (((a+(((b-a)/4)*2):Nat):Int)+1) (((a+(((b-a)/4)*2))+1:Nat):Int) (by omega)))))) ?_))
  refine A.v rfl (fun e2=> ?_) (fun e2=> ?_)
  ·have p2:=of_decide_eq_true e2
   refine A.p (A.d (A.y (A.c (A.j (A.J (some 36) [1] (fun ww ss hh=>Kx b1 x2 ww hh) ?_)))))
   rintro x'2 hz3
   refine A.k [.p,.w (((2^Lib.bitLen (b-a:Nat):Nat):Int)-1),.p,.w (dE .and .u64 x'2 (((2^Lib.bitLen (b-a:Nat):Nat):Int)-1)),.p] [33,36] [(10,i_ (dE .and .u64 x'2 (((2^Lib.bitLen (b-a:Nat):Nat):Int)-1)))] [] (oc (wv (((2^Lib.bitLen (b-a:Nat):Nat):Int)-1) (by omega)) (o1 (wo (lD (e:=dE .and .u64 x'2 (((2^Lib.bitLen (b-a:Nat):Nat):Int)-1)) (by(obtain⟨o_,ho_,hb_⟩:=FA ‹_› (m:=2^Lib.bitLen (b-a)) ⟨by omega,by omega⟩;rw[ho_];constructor<;>omega)))))) ?_
   refine A.d (A.d ?_)
   obtain⟨o3,ho3,hbo3⟩: ∃o:Nat,dE .and .u64 x'2 (((2^Lib.bitLen (b-a:Nat):Nat):Int)-1)=(o:Int)∧o<2^Lib.bitLen (b-a):=by exact FA ‹_› ⟨by omega,by omega⟩
   refine A.D 10 (c_ o3) (l0 ho3) (A.s (A.g [.p,.p,.p] [] [(43,b_ (decide ((o3:Int)≥((b-a:Nat):Int))))] (A.v rfl (fun e4=> ?_) (fun e4=> ?_))))
   ·have p4:=of_decide_eq_true e4
    refine A.s (A.k [.p,.p,.w ((o3-(b-a):Nat):Int),.p] [43] [(10,c_ (o3-(b-a):Nat))] [] (o1 (wi ((o3:Int)-((b-a:Nat):Int)) ((o3-(b-a):Nat):Int) (by omega))) (A.W [17,19] 20 (A.kd 3 [.p,.p,.p,.p,.p,.w ((a+(o3-(b-a)):Nat):Int),.p,.p,.p,.w ((a+(o3-(b-a)):Nat):Int),.ix,.rd [u_ (d2[(a+(o3-(b-a)):Nat)]!)],.p,.p,.ix,.rd [u_ (d2[i]!)],.ix] [0,1,2,3,4,5,6,7,8,9,10,11,12,13,14,15,16] [10] [(49,vS al d2.toList cl),(52,c_ (a+(o3-(b-a)):Nat)),(58,u_ (d2[(a+(o3-(b-a)):Nat)]!)),(62,u_ (d2[i]!)),(63,.pointer (some ((dV al).add (i*1))))] [] (oc (wi ((a:Int)+((o3-(b-a):Nat):Int)) ((a+(o3-(b-a)):Nat):Int) (by omega)) (oc (wi ((a:Int)+((o3-(b-a):Nat):Int)) ((a+(o3-(b-a)):Nat):Int) (by omega)) (oc (dY 1 (a+(o3-(b-a)):Nat) dK rfl (by(simp;omega))) (oc (eK 1 (a+(o3-(b-a)):Nat) [u_ (d2[(a+(o3-(b-a)):Nat)]!)] dK rfl (fC (by omega))) (oc (dY 1 i dK rfl (by(simp;omega))) (oc (eK 1 i [u_ (d2[i]!)] dK rfl (fC (by omega))) (o1 (dY 1 i dK rfl (by(simp;omega)))))))))) (A.F 17 rfl (A.sS 1 i (d2[(a+(o3-(b-a)):Nat)]!) rfl dK (by(simp;omega)) (A.D 0 (vS al (d2.toList.set i (d2[(a+(o3-(b-a)):Nat)]!)) cl) (dm (by simp)) (A.D 49 (vS al (d2.toList.set i (d2[(a+(o3-(b-a)):Nat)]!)) cl) (dm (by simp)) (A.E (A.kd 1 [.ix] [18] [49,52,58,63] [(64,.pointer (some ((dV al).add ((a+(o3-(b-a)):Nat)*1))))] [] (o1 (dY 1 (a+(o3-(b-a)):Nat) dK rfl (by(simp;omega)))) (A.F 19 rfl (A.sS 1 (a+(o3-(b-a)):Nat) (d2[i]!) rfl dK (by(simp;omega)) (A.D 0 (vS al ((d2.toList.set i (d2[(a+(o3-(b-a)):Nat)]!)).set (a+(o3-(b-a)):Nat) (d2[i]!)) cl) (dm (by simp)) (A.E (A.M ?_))))))))))))))
    obtain⟨d104,hdd104⟩: ∃z,z=swp d2 i (a+(o3-(b-a)):Nat):=⟨_,rfl⟩;have hszd104:d104.size=d2.size:=(by rw[hdd104];exact jA _ _ _)
    have hcv5:((d2.toList.set i (d2[(a+(o3-(b-a)):Nat)]!)).set (a+(o3-(b-a)):Nat) (d2[i]!))=d104.toList:=by rw[hdd104];exact lB _ _ _
    refine A.su 1 (sU al d104.toList cl) rfl (eI hcv5) (A.D 0 (vS al d104.toList cl) (fJ hcv5) (A.s (A.k [.p,.w ((i+1:Nat):Int),.p] [62,64] [(9,c_ (i+1:Nat))] [] (o1 (wi ((i:Int)+1) ((i+1:Nat):Int) (by omega))) ?_)))
    have hp2:PermIn a b d d104:=by rw[hdd104];exact FB hp (by omega) (by omega) (by omega)
    refine A.aA ((i+1:Nat),d104,x'2) ⟨hp2,(by omega),(by omega)⟩ (by(simp;omega)) ?_
    exact A.I [1,0]
   have p4:=of_decide_eq_false e4
   refine A.p (A.W [17,19] 20 (A.kd 3 [.p,.p,.p,.p,.p,.w ((a+o3:Nat):Int),.p,.p,.p,.w ((a+o3:Nat):Int),.ix,.rd [u_ (d2[(a+o3:Nat)]!)],.p,.p,.ix,.rd [u_ (d2[i]!)],.ix] [0,1,2,3,4,5,6,7,8,9,10,11,12,13,14,15,16] [10,43] [(49,vS al d2.toList cl),(52,c_ (a+o3:Nat)),(58,u_ (d2[(a+o3:Nat)]!)),(62,u_ (d2[i]!)),(63,.pointer (some ((dV al).add (i*1))))] [] (oc (wi ((a:Int)+(o3:Int)) ((a+o3:Nat):Int) (by omega)) (oc (wi ((a:Int)+(o3:Int)) ((a+o3:Nat):Int) (by omega)) (oc (dY 1 (a+o3:Nat) dK rfl (by(simp;omega))) (oc (eK 1 (a+o3:Nat) [u_ (d2[(a+o3:Nat)]!)] dK rfl (fC (by omega))) (oc (dY 1 i dK rfl (by(simp;omega))) (oc (eK 1 i [u_ (d2[i]!)] dK rfl (fC (by omega))) (o1 (dY 1 i dK rfl (by(simp;omega)))))))))) (A.F 17 rfl (A.sS 1 i (d2[(a+o3:Nat)]!) rfl dK (by(simp;omega)) (A.D 0 (vS al (d2.toList.set i (d2[(a+o3:Nat)]!)) cl) (dm (by simp)) (A.D 49 (vS al (d2.toList.set i (d2[(a+o3:Nat)]!)) cl) (dm (by simp)) (A.E (A.kd 1 [.ix] [18] [49,52,58,63] [(64,.pointer (some ((dV al).add ((a+o3:Nat)*1))))] [] (o1 (dY 1 (a+o3:Nat) dK rfl (by(simp;omega)))) (A.F 19 rfl (A.sS 1 (a+o3:Nat) (d2[i]!) rfl dK (by(simp;omega)) (A.D 0 (vS al ((d2.toList.set i (d2[(a+o3:Nat)]!)).set (a+o3:Nat) (d2[i]!)) cl) (dm (by simp)) (A.E (A.M ?_)))))))))))))
   obtain⟨d106,hdd106⟩: ∃z,z=swp d2 i (a+o3:Nat):=⟨_,rfl⟩;have hszd106:d106.size=d2.size:=(by rw[hdd106];exact jA _ _ _)
   have hcv7:((d2.toList.set i (d2[(a+o3:Nat)]!)).set (a+o3:Nat) (d2[i]!))=d106.toList:=by rw[hdd106];exact lB _ _ _
   refine A.su 1 (sU al d106.toList cl) rfl (eI hcv7) (A.D 0 (vS al d106.toList cl) (fJ hcv7) (A.s (A.k [.p,.w ((i+1:Nat):Int),.p] [62,64] [(9,c_ (i+1:Nat))] [] (o1 (wi ((i:Int)+1) ((i+1:Nat):Int) (by omega))) ?_)))
   have hp2:PermIn a b d d106:=by rw[hdd106];exact FB hp (by omega) (by omega) (by omega)
   refine A.aA ((i+1:Nat),d106,x'2) ⟨hp2,(by omega),(by omega)⟩ (by(simp;omega)) ?_
   exact A.I [1,0]
  have p2:=of_decide_eq_false e2
  refine A.aB (A.aQ [0] [] (fun aa ww rr ss=>trivial) (d2) ?_ ?_ (by kernel_rfl))
  ·rfl
  exact⟨hp,hz⟩
 exact absurd e1 (by(simp;omega))
end Go.Proofs.YtobgjpigngoggaaGreat
namespace Go.Proofs.YtobgjpigngoggaaGreat
open Go V Go.Sort
theorem KC(al:Option Addr)(d:Array Int)(cl:Nat)(a b p:Nat)(hb:a≤p∧p<b∧b≤d.size)(hS:d.size≤100000):
  CS 278 #[vS al d.toList cl,c_ a,c_ b,c_ p] [sU al d.toList cl] (fun((m',d'):Nat×(Array Int))=>(c_ m')) (fun(m',d')=>partitionEqual ltInt d a b p=(m',d')∧d'.size=d.size) fun(m',d')=>[sU al d'.toList cl]:=by
 intro w hs
 refine A.C Tryz.func278 rfl hs (A.c (A.g [.p] [] [] (A.d (A.W [13,15] 16 (A.kd 3 [.p,.p,.p,.p,.p,.p,.ix,.rd [u_ (d[p]!)],.p,.p,.ix,.rd [u_ (d[a]!)],.ix] [0,1,2,3,4,5,6,7,8,9,10,11,12] [3] [(13,vS al d.toList cl),(14,c_ p),(18,u_ (d[p]!)),(22,u_ (d[a]!)),(23,.pointer (some ((dV al).add (a*1))))] [] (oc (dY 0 p dK rfl (by(simp;omega))) (oc (eK 0 p [u_ (d[p]!)] dK rfl (fC (by omega))) (oc (dY 0 a dK rfl (by(simp;omega))) (oc (eK 0 a [u_ (d[a]!)] dK rfl (fC (by omega))) (o1 (dY 0 a dK rfl (by(simp;omega)))))))) (A.F 13 rfl (A.sS 0 a (d[p]!) rfl dK (by(simp;omega)) (A.D 0 (vS al (d.toList.set a (d[p]!)) cl) (dm (by simp)) (A.D 13 (vS al (d.toList.set a (d[p]!)) cl) (dm (by simp)) (A.E (A.kd 1 [.ix] [14] [13,14,18,23] [(24,.pointer (some ((dV al).add (p*1))))] [] (o1 (dY 0 p dK rfl (by(simp;omega)))) (A.F 15 rfl (A.sS 0 p (d[a]!) rfl dK (by(simp;omega)) (A.D 0 (vS al ((d.toList.set a (d[p]!)).set p (d[a]!)) cl) (dm (by simp)) (A.E (A.M ?_))))))))))))))))
 obtain⟨d101,hdd101⟩: ∃z,z=swp d a p:=⟨_,rfl⟩;have hszd101:d101.size=d.size:=(by rw[hdd101];exact jA _ _ _)
 have hcv2:((d.toList.set a (d[p]!)).set p (d[a]!))=d101.toList:=by rw[hdd101];exact lB _ _ _
 refine A.su 0 (sU al d101.toList cl) rfl (eI hcv2) (A.D 0 (vS al d101.toList cl) (fJ hcv2) (A.c (A.k [.p,.w ((a+1:Nat):Int),.p,.w ((b-1:Nat):Int),.p,.p] [2,22,24] [(9,c_ (a+1:Nat)),(10,c_ (b-1:Nat))] [] (oc (wi ((a:Int)+1) ((a+1:Nat):Int) (by omega)) (o1 (wi ((b:Int)-1) ((b-1:Nat):Int) (by omega)))) (A.d (A.y (A.lp (σ:=Nat×Nat×(Array Int)) [] (fun(i2,j2,d3)=>[(9,c_ i2),(10,c_ j2),(0,vS al d3.toList cl)]) [0] (fun(i2,j2,d3)=>[sU al d3.toList cl]) (fun(i2,j2,d3)=>(partEqLoop ltInt a i2 j2 d3=partEqLoop ltInt a (a+1) (b-1) d101)∧(d3.size=d.size)∧(a+1≤i2∧i2≤j2+1∧j2<b)) (fun(i2,j2,d3)=>j2+1-i2) ((a+1:Nat),(b-1:Nat),d101) ⟨(by rfl),(by omega),(by omega)⟩ ?_ ?_))))))
 ·exact A.I [0]
 rintro⟨i2,j2,d3⟩ ⟨he,hz,hi⟩
 refine A.y (A.d (A.y (A.lp (σ:=Nat) [] (fun i3=>[(9,c_ i3)]) [] (fun i3=>[]) (fun i3=>(scanUp (fun x=> !ltInt d3[a]! x) d3 j2 i3=scanUp (fun x=> !ltInt d3[a]! x) d3 j2 i2)∧(i2≤i3∧i3≤j2+1)) (fun i3=>j2+1-i3) (i2:Nat) ⟨(by rfl),(by omega)⟩ ?_ ?_)))
 ·exact A.I [0]
 rintro i3 ⟨hu3,hi3⟩
 refine A.d (A.d (A.ka [.p,.p,.p,.p,.o,.p,.p,.ix,.rd [u_ (d3[a]!)],.p,.p,.ix,.rd [u_ (d3[i3]!)],.cq (b_ (decide ((d3[a]!)<(d3[i3]!)))),.p,.cl] [0,1,2,3,4,5,6,7,8,9,10,11,12,13,14] [] [(43,b_ ((decide ((i3:Int)≤(j2:Int)))&&(!(decide ((d3[a]!)<(d3[i3]!))))))] [] (oc (go (true&&((decide ((i3:Int)≤(j2:Int)))==true)) fun h_=>(dY 0 a dK rfl (by(simp;omega)))) (oc (go (true&&((decide ((i3:Int)≤(j2:Int)))==true)) fun h_=>(eK 0 a [u_ (d3[a]!)] dK rfl (fC (by omega)))) (oc (go (true&&((decide ((i3:Int)≤(j2:Int)))==true)) fun h_=>(dY 0 i3 dK rfl (by(simp at h_⊢;omega)))) (oc (go (true&&((decide ((i3:Int)≤(j2:Int)))==true)) fun h_=>(eK 0 i3 [u_ (d3[i3]!)] dK rfl (fC (by(simp at h_;omega))))) (o1 (go (true&&((decide ((i3:Int)≤(j2:Int)))==true)) fun h_=>(qo (fun ww ss=>jd (d3[a]!) (d3[i3]!) ww)))))))) (A.v rfl (fun e1=> ?_) (fun e1=> ?_))))
 ·have p1:=e1;try simp only[de] at p1
  refine A.p (A.y (A.s (A.k [.p,.w ((i3+1:Nat):Int),.p] [43] [(9,c_ (i3+1:Nat))] [] (o1 (wi ((i3:Int)+1) ((i3+1:Nat):Int) (by omega))) ?_)))
  have hst_:scanUp (fun x=> !ltInt d3[a]! x) d3 j2 i3=_:=CL (p:=(fun x=> !ltInt d3[a]! x)) e1
  refine A.aA ((i3+1:Nat)) ⟨(hst_.symm.trans hu3),(by omega)⟩ (by omega) ?_
  exact A.I [0]
 refine A.aB (A.d (A.y (A.lp (σ:=Nat) [43] (fun j3=>[(10,c_ j3)]) [] (fun j3=>[]) (fun j3=>(scanDown (fun x=>ltInt d3[a]! x) d3 i3 j3=scanDown (fun x=>ltInt d3[a]! x) d3 i3 j2)∧(i3≤j3+1∧j3≤j2)) (fun j3=>j3) (j2:Nat) ⟨(by rfl),(by omega)⟩ ?_ ?_)))
 ·exact A.I [0]
 rintro j3 ⟨hv3,hj3⟩
 refine A.d (A.d (A.ka [.p,.p,.p,.p,.o,.p,.p,.ix,.rd [u_ (d3[a]!)],.p,.p,.ix,.rd [u_ (d3[j3]!)],.cq (b_ (decide ((d3[a]!)<(d3[j3]!)))),.cl] [0,1,2,3,4,5,6,7,8,9,10,11,12,13] [] [(59,b_ ((decide ((i3:Int)≤(j3:Int)))&&(decide ((d3[a]!)<(d3[j3]!)))))] [] (oc (go (true&&((decide ((i3:Int)≤(j3:Int)))==true)) fun h_=>(dY 0 a dK rfl (by(simp;omega)))) (oc (go (true&&((decide ((i3:Int)≤(j3:Int)))==true)) fun h_=>(eK 0 a [u_ (d3[a]!)] dK rfl (fC (by omega)))) (oc (go (true&&((decide ((i3:Int)≤(j3:Int)))==true)) fun h_=>(dY 0 j3 dK rfl (by(simp;omega)))) (oc (go (true&&((decide ((i3:Int)≤(j3:Int)))==true)) fun h_=>(eK 0 j3 [u_ (d3[j3]!)] dK rfl (fC (by omega)))) (o1 (go (true&&((decide ((i3:Int)≤(j3:Int)))==true)) fun h_=>(qo (fun ww ss=>jd (d3[a]!) (d3[j3]!) ww)))))))) (A.v rfl (fun e2=> ?_) (fun e2=> ?_))))
 ·have p2:=e2;try simp only[de] at p2
  refine A.p (A.y (A.s (A.k [.p,.w ((j3-1:Nat):Int),.p] [59] [(10,c_ (j3-1:Nat))] [] (o1 (wi ((j3:Int)-1) ((j3-1:Nat):Int) (by omega))) ?_)))
  have hst_:scanDown (fun x=>ltInt d3[a]! x) d3 i3 j3=_:=CN (p:=(fun x=>ltInt d3[a]! x)) (by omega) e2
  refine A.aA ((j3-1:Nat)) ⟨(hst_.symm.trans hv3),(by omega)⟩ (by omega) ?_
  exact A.I [0]
 refine A.aB (A.d (A.d ?_))
 have hI3:scanUp (fun x=> !ltInt d3[a]! x) d3 j2 i2=i3:=(by rw[←hu3];exact CM (p:=(fun x=> !ltInt d3[a]! x)) e1)
 have hne3:=ne_eq (by omega) e1 e2
 have hJ3:scanDown (fun x=>ltInt d3[a]! x) d3 i3 j2=j3:=(by rw[←hv3];exact CO (p:=(fun x=>ltInt d3[a]! x)) e2)
 refine A.s (A.g [.p,.p,.p] [59] [(64,b_ (decide ((i3:Int)>(j3:Int))))] (A.v rfl (fun e3=> ?_) (fun e3=> ?_)))
 ·have p3:=of_decide_eq_true e3
  refine A.aB (A.te (A.bm rfl ((A.c (A.g [.p,.p] [1,0,9,10,64] [(8,c_ i3)] (A.e ?_))))))
  have hP:partitionEqual ltInt d a b p=(i3,d3):=by unfold partitionEqual;rw[←hdd101];exact he.symm.trans (O0 hI3 hJ3 (by omega))
  refine A.Y [0] [c_ i3] (i3,d3) ?_ ?_
  ·rfl
  exact⟨hP,by omega⟩
 have p3:=of_decide_eq_false e3
 refine A.p (A.d (A.W [13,15] 16 (A.kd 3 [.p,.p,.p,.p,.p,.p,.ix,.rd [u_ (d3[j3]!)],.p,.p,.ix,.rd [u_ (d3[i3]!)],.ix] [0,1,2,3,4,5,6,7,8,9,10,11,12] [64] [(67,vS al d3.toList cl),(68,c_ j3),(72,u_ (d3[j3]!)),(76,u_ (d3[i3]!)),(77,.pointer (some ((dV al).add (i3*1))))] [] (oc (dY 0 j3 dK rfl (by(simp;omega))) (oc (eK 0 j3 [u_ (d3[j3]!)] dK rfl (fC (by omega))) (oc (dY 0 i3 dK rfl (by(simp;omega))) (oc (eK 0 i3 [u_ (d3[i3]!)] dK rfl (fC (by omega))) (o1 (dY 0 i3 dK rfl (by(simp;omega)))))))) (A.F 13 rfl (A.sS 0 i3 (d3[j3]!) rfl dK (by(simp;omega)) (A.D 0 (vS al (d3.toList.set i3 (d3[j3]!)) cl) (dm (by simp)) (A.D 67 (vS al (d3.toList.set i3 (d3[j3]!)) cl) (dm (by simp)) (A.E (A.kd 1 [.ix] [14] [67,68,72,77] [(78,.pointer (some ((dV al).add (j3*1))))] [] (o1 (dY 0 j3 dK rfl (by(simp;omega)))) (A.F 15 rfl (A.sS 0 j3 (d3[i3]!) rfl dK (by(simp;omega)) (A.D 0 (vS al ((d3.toList.set i3 (d3[j3]!)).set j3 (d3[i3]!)) cl) (dm (by simp)) (A.E (A.M ?_))))))))))))))
 obtain⟨d103,hdd103⟩: ∃z,z=swp d3 i3 j3:=⟨_,rfl⟩;have hszd103:d103.size=d3.size:=(by rw[hdd103];exact jA _ _ _)
 have hcv4:((d3.toList.set i3 (d3[j3]!)).set j3 (d3[i3]!))=d103.toList:=by rw[hdd103];exact lB _ _ _
 refine A.su 0 (sU al d103.toList cl) rfl (eI hcv4) (A.D 0 (vS al d103.toList cl) (fJ hcv4) (A.c (A.k [.p,.w ((i3+1:Nat):Int),.p] [76,78] [(9,c_ (i3+1:Nat))] [] (o1 (wi ((i3:Int)+1) ((i3+1:Nat):Int) (by omega))) (A.s (A.k [.p,.w ((j3-1:Nat):Int),.p] [] [(10,c_ (j3-1:Nat))] [] (o1 (wi ((j3:Int)-1) ((j3-1:Nat):Int) (by omega))) ?_)))))
 have hst_:partEqLoop ltInt a i2 j2 d3=_:=O1 hI3 hJ3 (by omega)
 refine A.aA ((i3+1:Nat),(j3-1:Nat),d103) ⟨(by(rw[hdd103];exact hst_.symm.trans he)),(by omega),(by omega)⟩ (by(simp;omega)) ?_
 exact A.I [0]
abbrev rp(p0):=([(10,c_ (p0+1:Nat))]:dQ)
abbrev AL(p0)(p1):=([(132,.pointer (some ((dV p0).add ((p1-1:Nat)*1))))]:dQ)
abbrev wU(p0)(p1):=(b_ (decide (((p0-p1:Nat):Int)≥2)):Value)
abbrev To(p0)(p1:Array Int)(p2)(p3):=([sU p0 (p1.toList.set p2 (p1[(p2-1:Nat)]!)) p3]:List V.dC)
abbrev uH(p0)(p1:Array Int)(p2)(p3):=((vS p0 ((p1.toList.set p2 (p1[(p2-1:Nat)]!)).set (p2-1:Nat) (p1[p2]!)) p3):Value)
abbrev Tq(p0)(p1:Array Int)(p2)(p3):=([sU p0 ((p1.toList.set p2 (p1[(p2-1:Nat)]!)).set (p2-1:Nat) (p1[p2]!)) p3]:List V.dC)
abbrev AM(p0)(p1:Array Int)(p2)(p3):=([(119,vS p0 p1.toList p2),(121,c_ (p3-1:Nat)),(126,u_ (p1[(p3-1:Nat)]!)),(130,u_ (p1[p3]!)),(131,.pointer (some ((dV p0).add (p3*1))))]:dQ)
abbrev nO(p0)(p1:Array Int)(p2)(p3):=((vS p0 (p1.toList.set p2 (p1[(p2-1:Nat)]!)) p3):Value)
theorem Ky(al:Option Addr)(d:Array Int)(cl:Nat)(a b:Nat)(hb:a<b∧b≤d.size)(hS:d.size≤100000):
  CS 277 #[vS al d.toList cl,c_ a,c_ b] [sU al d.toList cl] (fun((q',d'):Bool×(Array Int))=>(b_ q')) (fun(q',d')=>partialInsertionSort ltInt d a b=(d',q')∧d'.size=d.size) fun(q',d')=>[sU al d'.toList cl]:=by
 intro w hs
 refine A.C Tryz.func277 rfl hs (A.c (A.g [.p] [] [] (A.c (A.k [.p,.w ((a+1:Nat):Int),.p] [] [(7,c_ (a+1:Nat))] [] (o1 (wi ((a:Int)+1) ((a+1:Nat):Int) (by omega))) (A.d (A.c (A.g [.p] [] [(8,i_ 0)] (A.y (A.lp (σ:=Nat×Nat×(Array Int)) [] (fun(k,i1,d1)=>[(8,c_ k),(7,c_ i1),(0,vS al d1.toList cl)]) [0] (fun(k,i1,d1)=>[sU al d1.toList cl]) (fun(k,i1,d1)=>(partialIns ltInt a b (5-k) i1 d1=partialInsertionSort ltInt d a b)∧(d1.size=d.size)∧(a+1≤i1∧i1≤b∧k≤5)) (fun(k,i1,d1)=>5-k) (0,(a+1:Nat),d) ⟨(by rfl),(by rfl),(by omega)⟩ ?_ ?_)))))))))
 ·exact A.I [0]
 rintro⟨k,i1,d1⟩ ⟨he,hz,hi⟩
 refine A.d (A.c (A.g [.p,.p] [] [(14,b_ (decide ((k:Int)<5)))] (A.v rfl (fun e1=> ?_) (fun e1=> ?_))))
 ·have p1:=of_decide_eq_true e1
  refine A.p (A.d (A.y (A.d (A.y (A.lp (σ:=Nat) [14] (fun i2=>[(7,c_ i2)]) [] (fun i2=>[]) (fun i2=>(scanSorted ltInt d1 b i2=scanSorted ltInt d1 b i1)∧(i1≤i2∧i2≤b)) (fun i2=>b-i2) (i1:Nat) ⟨(by rfl),(by omega)⟩ ?_ ?_)))))
  ·exact A.I [0]
  rintro i2 ⟨hs,hi2⟩
  refine A.d (A.d (A.ka [.p,.p,.p,.p,.o,.p,.p,.ix,.rd [u_ (d1[i2]!)],.p,.p,.w ((i2-1:Nat):Int),.ix,.rd [u_ (d1[(i2-1:Nat)]!)],.cq (b_ (decide ((d1[i2]!)<(d1[(i2-1:Nat)]!)))),.p,.cl] [0,1,2,3,4,5,6,7,8,9,10,11,12,13,14,15] [] [(32,b_ ((decide ((i2:Int)<(b:Int)))&&(!(decide ((d1[i2]!)<(d1[(i2-1:Nat)]!))))))] [] (oc (go (true&&((decide ((i2:Int)<(b:Int)))==true)) fun h_=>(dY 0 i2 dK rfl (by(simp at h_⊢;omega)))) (oc (go (true&&((decide ((i2:Int)<(b:Int)))==true)) fun h_=>(eK 0 i2 [u_ (d1[i2]!)] dK rfl (fC (by(simp at h_;omega))))) (oc (go (true&&((decide ((i2:Int)<(b:Int)))==true)) fun h_=>(wi ((i2:Int)-1) ((i2-1:Nat):Int) (by omega))) (oc (go (true&&((decide ((i2:Int)<(b:Int)))==true)) fun h_=>(dY 0 (i2-1:Nat) dK rfl (by(simp;omega)))) (oc (go (true&&((decide ((i2:Int)<(b:Int)))==true)) fun h_=>(eK 0 (i2-1:Nat) [u_ (d1[(i2-1:Nat)]!)] dK rfl (fC (by omega)))) (o1 (go (true&&((decide ((i2:Int)<(b:Int)))==true)) fun h_=>(qo (fun ww ss=>jd (d1[i2]!) (d1[(i2-1:Nat)]!) ww))))))))) (A.v rfl (fun e2=> ?_) (fun e2=> ?_))))
  ·have p2:=e2;try simp only[de] at p2
   refine A.p (A.y (A.s (A.k [.p,.w ((i2+1:Nat):Int),.p] [32] [(7,c_ (i2+1:Nat))] [] (o1 (wi ((i2:Int)+1) ((i2+1:Nat):Int) (by omega))) ?_)))
   have hst_:scanSorted ltInt d1 b i2=_:=TF e2
   refine A.aA ((i2+1:Nat)) ⟨(hst_.symm.trans hs),(by omega)⟩ (by omega) ?_
   exact A.I [0]
  have p2:=e2;try simp only[de] at p2
  refine A.aB (A.d (A.d ?_))
  have hI:scanSorted ltInt d1 b i1=i2:=(by rw[←hs];exact TG e2)
  refine A.s (A.g [.p,.p,.p] [32] [(37,b_ ((i2:Int)==(b:Int)))] (A.v rfl (fun e3=> ?_) (fun e3=> ?_)))
  ·have p3:=e3;try simp only[de] at p3
   refine A.c (A.g [.p] [1,2,8,0,7,37] [(6,b_ true)] (A.e (A.Y [0] [b_ true] (true,d1) ?_ ?_)))
   ·rfl
   (refine⟨?_,by omega⟩;rw[mX (by omega),TI hI (by omega)] at he;exact he.symm)
  have p3:=e3;try simp only[de] at p3
  refine A.p (A.d (A.c (A.k [.p,.p,.w ((b-a:Nat):Int),.p] [37] [(41,b_ (decide (((b-a:Nat):Int)<50)))] [] (o1 (wi ((b:Int)-(a:Int)) ((b-a:Nat):Int) (by omega))) (A.v rfl (fun e4=> ?_) (fun e4=> ?_)))))
  ·have p4:=of_decide_eq_true e4
   refine A.c (A.g [.p] [1,2,8,0,7,41] [(6,b_ false)] (A.e (A.Y [0] [b_ false] (false,d1) ?_ ?_)))
   ·rfl
   (refine⟨?_,by omega⟩;rw[mX (by omega),TJ hI (by omega) (by omega)] at he;exact he.symm)
  have p4:=of_decide_eq_false e4
  refine A.p (A.d (A.W [15,17] 18 (A.kd 3 [.p,.p,.p,.p,.w ((i2-1:Nat):Int),.p,.p,.w ((i2-1:Nat):Int),.ix,.rd [u_ (d1[(i2-1:Nat)]!)],.p,.p,.ix,.rd [u_ (d1[i2]!)],.ix] [0,1,2,3,4,5,6,7,8,9,10,11,12,13,14] [41] [(44,vS al d1.toList cl),(46,c_ (i2-1:Nat)),(51,u_ (d1[(i2-1:Nat)]!)),(55,u_ (d1[i2]!)),(56,.pointer (some ((dV al).add (i2*1))))] [] (oc (wi ((i2:Int)-1) ((i2-1:Nat):Int) (by omega)) (oc (wi ((i2:Int)-1) ((i2-1:Nat):Int) (by omega)) (oc (dY 0 (i2-1:Nat) dK rfl (by(simp;omega))) (oc (eK 0 (i2-1:Nat) [u_ (d1[(i2-1:Nat)]!)] dK rfl (fC (by omega))) (oc (dY 0 i2 dK rfl (by(simp;omega))) (oc (eK 0 i2 [u_ (d1[i2]!)] dK rfl (fC (by omega))) (o1 (dY 0 i2 dK rfl (by(simp;omega)))))))))) (A.F 15 rfl (A.sS 0 i2 (d1[(i2-1:Nat)]!) rfl dK (by(simp;omega)) (A.D 0 (nO al d1 i2 cl) (dm (by simp)) (A.D 44 (nO al d1 i2 cl) (dm (by simp)) (A.E (A.kd 1 [.ix] [16] [44,46,51,56] [(57,.pointer (some ((dV al).add ((i2-1:Nat)*1))))] [] (o1 (dY 0 (i2-1:Nat) dK rfl (by(simp;omega)))) (A.F 17 rfl (A.sS 0 (i2-1:Nat) (d1[i2]!) rfl dK (by(simp;omega)) (A.D 0 (uH al d1 i2 cl) (dm (by simp)) (A.E (A.M ?_))))))))))))))
  obtain⟨d101,hdd101⟩: ∃z,z=swp d1 i2 (i2-1:Nat):=⟨_,rfl⟩;have hszd101:d101.size=d1.size:=(by rw[hdd101];exact jA _ _ _)
  have hcv2:((d1.toList.set i2 (d1[(i2-1:Nat)]!)).set (i2-1:Nat) (d1[i2]!))=d101.toList:=by rw[hdd101];exact lB _ _ _
  refine A.su 0 (sU al d101.toList cl) rfl (eI hcv2) (A.D 0 (vS al d101.toList cl) (fJ hcv2) (A.d (A.c (A.k [.p,.p,.w ((i2-a:Nat):Int),.p] [55,57] [(61,wU i2 a)] [] (o1 (wi ((i2:Int)-(a:Int)) ((i2-a:Nat):Int) (by omega))) (A.v rfl (fun e5=> ?_) (fun e5=> ?_))))))
  ·have p5:=of_decide_eq_true e5
   refine A.c (A.k [.p,.w ((i2-1:Nat):Int),.p] [61] [(9,c_ (i2-1:Nat))] [] (o1 (wi ((i2:Int)-1) ((i2-1:Nat):Int) (by omega))) (A.y (A.lp (σ:=Nat×(Array Int)) [] (fun(j3,d3)=>[(9,c_ j3),(0,vS al d3.toList cl)]) [0] (fun(j3,d3)=>[sU al d3.toList cl]) (fun(j3,d3)=>(shiftDown ltInt j3 d3=shiftDown ltInt (i2-1) d101)∧(d3.size=d.size)∧(j3<b)) (fun(j3,d3)=>j3) ((i2-1:Nat),d101) ⟨(by rfl),(by omega),(by omega)⟩ ?_ ?_)))
   ·exact A.I [0]
   rintro⟨j3,d3⟩ ⟨hsd,hz3,hj3⟩
   refine A.d (A.c (A.g [.p,.p] [] [(65,b_ (decide ((j3:Int)≥1)))] (A.v rfl (fun e6=> ?_) (fun e6=> ?_))))
   ·have p6:=of_decide_eq_true e6
    refine A.p (A.d (A.y (A.d (A.d (A.ka [.p,.p,.ix,.rd [u_ (d3[j3]!)],.p,.p,.w ((j3-1:Nat):Int),.ix,.rd [u_ (d3[(j3-1:Nat)]!)],.cq (b_ (decide ((d3[j3]!)<(d3[(j3-1:Nat)]!)))),.p] [0,1,2,3,4,5,6,7,8,9,10] [65] [(78,b_ (!(decide ((d3[j3]!)<(d3[(j3-1:Nat)]!)))))] [] (oc (dY 0 j3 dK rfl (by(simp;omega))) (oc (eK 0 j3 [u_ (d3[j3]!)] dK rfl (fC (by omega))) (oc (wi ((j3:Int)-1) ((j3-1:Nat):Int) (by omega)) (oc (dY 0 (j3-1:Nat) dK rfl (by(simp;omega))) (oc (eK 0 (j3-1:Nat) [u_ (d3[(j3-1:Nat)]!)] dK rfl (fC (by omega))) (o1 (qo (fun ww ss=>jd (d3[j3]!) (d3[(j3-1:Nat)]!) ww)))))))) (A.v rfl (fun e7=> ?_) (fun e7=> ?_)))))))
    ·have p7:=e7;try simp only[de] at p7
     refine A.aB (A.te (A.bm rfl ((A.d ?_))))
     have hF1:d3=fixDown ltInt a i2 (swp d1 i2 (i2-1)):=(by unfold fixDown;rw[←hdd101];(rw[if_pos (by omega),←hsd,S8 (by omega) (by omega)];done))
     refine A.s (A.k [.p,.p,.w ((b-i2:Nat):Int),.p] [9,78] [(98,wU b i2)] [] (o1 (wi ((b:Int)-(i2:Int)) ((b-i2:Nat):Int) (by omega))) (A.v rfl (fun e8=> ?_) (fun e8=> ?_)))
     ·have p8:=of_decide_eq_true e8
      refine A.c (A.k [.p,.w ((i2+1:Nat):Int),.p] [98] (rp i2) [] (o1 (wi ((i2:Int)+1) ((i2+1:Nat):Int) (by omega))) (A.y (A.lp (σ:=Nat×(Array Int)) [] (fun(j4,d4)=>[(10,c_ j4),(0,vS al d4.toList cl)]) [0] (fun(j4,d4)=>[sU al d4.toList cl]) (fun(j4,d4)=>(shiftUp ltInt b j4 d4=shiftUp ltInt b (i2+1) d3)∧(d4.size=d.size)∧(1≤j4∧j4≤b)) (fun(j4,d4)=>b-j4) ((i2+1:Nat),d3) ⟨(by rfl),(by omega),(by omega)⟩ ?_ ?_)))
      ·exact A.I [0]
      rintro⟨j4,d4⟩ ⟨hsu,hz4,hj4⟩
      refine A.d (A.c (A.h [.p,.p,.p] [(1,c_ a),(2,c_ b),(8,c_ k),(7,c_ i2),(10,c_ j4),(0,vS al d4.toList cl),(103,b_ (decide ((j4:Int)<(b:Int))))] [] (A.v rfl (fun e9=> ?_) (fun e9=> ?_))))
      ·have p9:=of_decide_eq_true e9
       refine A.p (A.d (A.y (A.d (A.d (A.ka [.p,.p,.ix,.rd [u_ (d4[j4]!)],.p,.p,.w ((j4-1:Nat):Int),.ix,.rd [u_ (d4[(j4-1:Nat)]!)],.cq (b_ (decide ((d4[j4]!)<(d4[(j4-1:Nat)]!)))),.p] [0,1,2,3,4,5,6,7,8,9,10] [103] [(116,b_ (!(decide ((d4[j4]!)<(d4[(j4-1:Nat)]!)))))] [] (oc (dY 0 j4 dK rfl (by(simp;omega))) (oc (eK 0 j4 [u_ (d4[j4]!)] dK rfl (fC (by omega))) (oc (wi ((j4:Int)-1) ((j4-1:Nat):Int) (by omega)) (oc (dY 0 (j4-1:Nat) dK rfl (by(simp;omega))) (oc (eK 0 (j4-1:Nat) [u_ (d4[(j4-1:Nat)]!)] dK rfl (fC (by omega))) (o1 (qo (fun ww ss=>jd (d4[j4]!) (d4[(j4-1:Nat)]!) ww)))))))) (A.v rfl (fun e10=> ?_) (fun e10=> ?_)))))))
       ·have p10:=e10;try simp only[de] at p10
        refine A.aB (A.te (A.bm rfl ((A.s (A.k [.p,.w ((k+1:Nat):Int),.p] [10,116] [(8,c_ (k+1:Nat))] [] (o1 (wi ((k:Int)+1) ((k+1:Nat):Int) (by omega))) ?_)))))
        have hF2:d4=fixUp ltInt b i2 d3:=(by unfold fixUp;(rw[if_pos (by omega),←hsu,Bw (by omega) (by omega)];done))
        have hst_:partialIns ltInt a b (5-(k+1)+1) i1 d1=_:=o7 (s:=5-(k+1)) hI (by omega) (by omega) hF1 hF2
        refine A.aA ((k+1:Nat),i2,d4) ⟨(by(rw[mX (by omega)] at he;exact hst_.symm.trans he)),(by omega),(by omega)⟩ (by(simp;omega)) ?_
        exact A.I [0]
       have p10:=e10;try simp only[de] at p10
       refine A.p (A.W [15,17] 18 (A.kd 3 [.p,.p,.p,.p,.w ((j4-1:Nat):Int),.p,.p,.w ((j4-1:Nat):Int),.ix,.rd [u_ (d4[(j4-1:Nat)]!)],.p,.p,.ix,.rd [u_ (d4[j4]!)],.ix] [0,1,2,3,4,5,6,7,8,9,10,11,12,13,14] [116] (AM al d4 cl j4) [] (oc (wi ((j4:Int)-1) ((j4-1:Nat):Int) (by omega)) (oc (wi ((j4:Int)-1) ((j4-1:Nat):Int) (by omega)) (oc (dY 0 (j4-1:Nat) dK rfl (by(simp;omega))) (oc (eK 0 (j4-1:Nat) [u_ (d4[(j4-1:Nat)]!)] dK rfl (fC (by omega))) (oc (dY 0 j4 dK rfl (by(simp;omega))) (oc (eK 0 j4 [u_ (d4[j4]!)] dK rfl (fC (by omega))) (o1 (dY 0 j4 dK rfl (by(simp;omega)))))))))) (A.F 15 rfl (A.sS 0 j4 (d4[(j4-1:Nat)]!) rfl dK (by(simp;omega)) (A.D 0 (nO al d4 j4 cl) (dm (by simp)) (A.D 119 (nO al d4 j4 cl) (dm (by simp)) (A.E (A.kd 1 [.ix] [16] [119,121,126,131] (AL al j4) [] (o1 (dY 0 (j4-1:Nat) dK rfl (by(simp;omega)))) (A.F 17 rfl (A.sS 0 (j4-1:Nat) (d4[j4]!) rfl dK (by(simp;omega)) (A.D 0 (uH al d4 j4 cl) (dm (by simp)) (A.E (A.M ?_)))))))))))))
       obtain⟨d103,hdd103⟩: ∃z,z=swp d4 j4 (j4-1:Nat):=⟨_,rfl⟩;have hszd103:d103.size=d4.size:=(by rw[hdd103];exact jA _ _ _)
       have hcv4:((d4.toList.set j4 (d4[(j4-1:Nat)]!)).set (j4-1:Nat) (d4[j4]!))=d103.toList:=by rw[hdd103];exact lB _ _ _
       refine A.su 0 (sU al d103.toList cl) rfl (eI hcv4) (A.D 0 (vS al d103.toList cl) (fJ hcv4) (A.s (A.k [.p,.w ((j4+1:Nat):Int),.p] [130,132] (rp j4) [] (o1 (wi ((j4:Int)+1) ((j4+1:Nat):Int) (by omega))) ?_)))
       have hst_:shiftUp ltInt b j4 d4=_:=Bv (by omega) (by omega)
       refine A.aA ((j4+1:Nat),d103) ⟨(by(rw[hdd103];exact hst_.symm.trans hsu)),(by omega),(by omega)⟩ (by(simp;omega)) ?_
       exact A.I [0]
      have p9:=of_decide_eq_false e9
      refine A.aB (A.s (A.k [.p,.w ((k+1:Nat):Int),.p] [10,103] [(8,c_ (k+1:Nat))] [] (o1 (wi ((k:Int)+1) ((k+1:Nat):Int) (by omega))) ?_))
      have hF2:d4=fixUp ltInt b i2 d3:=(by unfold fixUp;(rw[if_pos (by omega),←hsu,By (by omega)];done))
      have hst_:partialIns ltInt a b (5-(k+1)+1) i1 d1=_:=o7 (s:=5-(k+1)) hI (by omega) (by omega) hF1 hF2
      refine A.aA ((k+1:Nat),i2,d4) ⟨(by(rw[mX (by omega)] at he;exact hst_.symm.trans he)),(by omega),(by omega)⟩ (by(simp;omega)) ?_
      exact A.I [0]
     have p8:=of_decide_eq_false e8
     refine A.p (A.s (A.k [.p,.w ((k+1:Nat):Int),.p] [98] [(8,c_ (k+1:Nat))] [] (o1 (wi ((k:Int)+1) ((k+1:Nat):Int) (by omega))) ?_))
     have hF2:d3=fixUp ltInt b i2 d3:=(by unfold fixUp;(rw[if_neg (by omega)];done))
     have hst_:partialIns ltInt a b (5-(k+1)+1) i1 d1=_:=o7 (s:=5-(k+1)) hI (by omega) (by omega) hF1 hF2
     refine A.aA ((k+1:Nat),i2,d3) ⟨(by(rw[mX (by omega)] at he;exact hst_.symm.trans he)),(by omega),(by omega)⟩ (by(simp;omega)) ?_
     exact A.I [0]
    have p7:=e7;try simp only[de] at p7
    refine A.p (A.W [15,17] 18 (A.kd 3 [.p,.p,.p,.p,.w ((j3-1:Nat):Int),.p,.p,.w ((j3-1:Nat):Int),.ix,.rd [u_ (d3[(j3-1:Nat)]!)],.p,.p,.ix,.rd [u_ (d3[j3]!)],.ix] [0,1,2,3,4,5,6,7,8,9,10,11,12,13,14] [78] [(81,vS al d3.toList cl),(83,c_ (j3-1:Nat)),(88,u_ (d3[(j3-1:Nat)]!)),(92,u_ (d3[j3]!)),(93,.pointer (some ((dV al).add (j3*1))))] [] (oc (wi ((j3:Int)-1) ((j3-1:Nat):Int) (by omega)) (oc (wi ((j3:Int)-1) ((j3-1:Nat):Int) (by omega)) (oc (dY 0 (j3-1:Nat) dK rfl (by(simp;omega))) (oc (eK 0 (j3-1:Nat) [u_ (d3[(j3-1:Nat)]!)] dK rfl (fC (by omega))) (oc (dY 0 j3 dK rfl (by(simp;omega))) (oc (eK 0 j3 [u_ (d3[j3]!)] dK rfl (fC (by omega))) (o1 (dY 0 j3 dK rfl (by(simp;omega)))))))))) (A.F 15 rfl (A.sS 0 j3 (d3[(j3-1:Nat)]!) rfl dK (by(simp;omega)) (A.D 0 (nO al d3 j3 cl) (dm (by simp)) (A.D 81 (nO al d3 j3 cl) (dm (by simp)) (A.E (A.kd 1 [.ix] [16] [81,83,88,93] [(94,.pointer (some ((dV al).add ((j3-1:Nat)*1))))] [] (o1 (dY 0 (j3-1:Nat) dK rfl (by(simp;omega)))) (A.F 17 rfl (A.sS 0 (j3-1:Nat) (d3[j3]!) rfl dK (by(simp;omega)) (A.D 0 (uH al d3 j3 cl) (dm (by simp)) (A.E (A.M ?_)))))))))))))
    obtain⟨d105,hdd105⟩: ∃z,z=swp d3 j3 (j3-1:Nat):=⟨_,rfl⟩;have hszd105:d105.size=d3.size:=(by rw[hdd105];exact jA _ _ _)
    have hcv6:((d3.toList.set j3 (d3[(j3-1:Nat)]!)).set (j3-1:Nat) (d3[j3]!))=d105.toList:=by rw[hdd105];exact lB _ _ _
    refine A.su 0 (sU al d105.toList cl) rfl (eI hcv6) (A.D 0 (vS al d105.toList cl) (fJ hcv6) (A.s (A.k [.p,.w ((j3-1:Nat):Int),.p] [92,94] [(9,c_ (j3-1:Nat))] [] (o1 (wi ((j3:Int)-1) ((j3-1:Nat):Int) (by omega))) ?_)))
    have hst_:shiftDown ltInt j3 d3=_:=S7 (by omega) (by omega)
    refine A.aA ((j3-1:Nat),d105) ⟨(by(rw[hdd105];exact hst_.symm.trans hsd)),(by omega),(by omega)⟩ (by(simp;omega)) ?_
    exact A.I [0]
   have p6:=of_decide_eq_false e6
   refine A.aB (A.d ?_)
   have hF1:d3=fixDown ltInt a i2 (swp d1 i2 (i2-1)):=(by unfold fixDown;rw[←hdd101];(rw[if_pos (by omega),←hsd,show j3=0 by omega];rfl))
   refine A.s (A.k [.p,.p,.w ((b-i2:Nat):Int),.p] [9,65] [(98,wU b i2)] [] (o1 (wi ((b:Int)-(i2:Int)) ((b-i2:Nat):Int) (by omega))) (A.v rfl (fun e11=> ?_) (fun e11=> ?_)))
   ·have p11:=of_decide_eq_true e11
    refine A.c (A.k [.p,.w ((i2+1:Nat):Int),.p] [98] (rp i2) [] (o1 (wi ((i2:Int)+1) ((i2+1:Nat):Int) (by omega))) (A.y (A.lp (σ:=Nat×(Array Int)) [] (fun(j4,d4)=>[(10,c_ j4),(0,vS al d4.toList cl)]) [0] (fun(j4,d4)=>[sU al d4.toList cl]) (fun(j4,d4)=>(shiftUp ltInt b j4 d4=shiftUp ltInt b (i2+1) d3)∧(d4.size=d.size)∧(1≤j4∧j4≤b)) (fun(j4,d4)=>b-j4) ((i2+1:Nat),d3) ⟨(by rfl),(by omega),(by omega)⟩ ?_ ?_)))
    ·exact A.I [0]
    rintro⟨j4,d4⟩ ⟨hsu,hz4,hj4⟩
    refine A.d (A.c (A.h [.p,.p,.p] [(1,c_ a),(2,c_ b),(8,c_ k),(7,c_ i2),(10,c_ j4),(0,vS al d4.toList cl),(103,b_ (decide ((j4:Int)<(b:Int))))] [] (A.v rfl (fun e12=> ?_) (fun e12=> ?_))))
    ·have p12:=of_decide_eq_true e12
     refine A.p (A.d (A.y (A.d (A.d (A.ka [.p,.p,.ix,.rd [u_ (d4[j4]!)],.p,.p,.w ((j4-1:Nat):Int),.ix,.rd [u_ (d4[(j4-1:Nat)]!)],.cq (b_ (decide ((d4[j4]!)<(d4[(j4-1:Nat)]!)))),.p] [0,1,2,3,4,5,6,7,8,9,10] [103] [(116,b_ (!(decide ((d4[j4]!)<(d4[(j4-1:Nat)]!)))))] [] (oc (dY 0 j4 dK rfl (by(simp;omega))) (oc (eK 0 j4 [u_ (d4[j4]!)] dK rfl (fC (by omega))) (oc (wi ((j4:Int)-1) ((j4-1:Nat):Int) (by omega)) (oc (dY 0 (j4-1:Nat) dK rfl (by(simp;omega))) (oc (eK 0 (j4-1:Nat) [u_ (d4[(j4-1:Nat)]!)] dK rfl (fC (by omega))) (o1 (qo (fun ww ss=>jd (d4[j4]!) (d4[(j4-1:Nat)]!) ww)))))))) (A.v rfl (fun e13=> ?_) (fun e13=> ?_)))))))
     ·have p13:=e13;try simp only[de] at p13
      refine A.aB (A.te (A.bm rfl ((A.s (A.k [.p,.w ((k+1:Nat):Int),.p] [10,116] [(8,c_ (k+1:Nat))] [] (o1 (wi ((k:Int)+1) ((k+1:Nat):Int) (by omega))) ?_)))))
      have hF2:d4=fixUp ltInt b i2 d3:=(by unfold fixUp;(rw[if_pos (by omega),←hsu,Bw (by omega) (by omega)];done))
      have hst_:partialIns ltInt a b (5-(k+1)+1) i1 d1=_:=o7 (s:=5-(k+1)) hI (by omega) (by omega) hF1 hF2
      refine A.aA ((k+1:Nat),i2,d4) ⟨(by(rw[mX (by omega)] at he;exact hst_.symm.trans he)),(by omega),(by omega)⟩ (by(simp;omega)) ?_
      exact A.I [0]
     have p13:=e13;try simp only[de] at p13
     refine A.p (A.W [15,17] 18 (A.kd 3 [.p,.p,.p,.p,.w ((j4-1:Nat):Int),.p,.p,.w ((j4-1:Nat):Int),.ix,.rd [u_ (d4[(j4-1:Nat)]!)],.p,.p,.ix,.rd [u_ (d4[j4]!)],.ix] [0,1,2,3,4,5,6,7,8,9,10,11,12,13,14] [116] (AM al d4 cl j4) [] (oc (wi ((j4:Int)-1) ((j4-1:Nat):Int) (by omega)) (oc (wi ((j4:Int)-1) ((j4-1:Nat):Int) (by omega)) (oc (dY 0 (j4-1:Nat) dK rfl (by(simp;omega))) (oc (eK 0 (j4-1:Nat) [u_ (d4[(j4-1:Nat)]!)] dK rfl (fC (by omega))) (oc (dY 0 j4 dK rfl (by(simp;omega))) (oc (eK 0 j4 [u_ (d4[j4]!)] dK rfl (fC (by omega))) (o1 (dY 0 j4 dK rfl (by(simp;omega)))))))))) (A.F 15 rfl (A.sS 0 j4 (d4[(j4-1:Nat)]!) rfl dK (by(simp;omega)) (A.D 0 (nO al d4 j4 cl) (dm (by simp)) (A.D 119 (nO al d4 j4 cl) (dm (by simp)) (A.E (A.kd 1 [.ix] [16] [119,121,126,131] (AL al j4) [] (o1 (dY 0 (j4-1:Nat) dK rfl (by(simp;omega)))) (A.F 17 rfl (A.sS 0 (j4-1:Nat) (d4[j4]!) rfl dK (by(simp;omega)) (A.D 0 (uH al d4 j4 cl) (dm (by simp)) (A.E (A.M ?_)))))))))))))
     obtain⟨d107,hdd107⟩: ∃z,z=swp d4 j4 (j4-1:Nat):=⟨_,rfl⟩;have hszd107:d107.size=d4.size:=(by rw[hdd107];exact jA _ _ _)
     have hcv8:((d4.toList.set j4 (d4[(j4-1:Nat)]!)).set (j4-1:Nat) (d4[j4]!))=d107.toList:=by rw[hdd107];exact lB _ _ _
     refine A.su 0 (sU al d107.toList cl) rfl (eI hcv8) (A.D 0 (vS al d107.toList cl) (fJ hcv8) (A.s (A.k [.p,.w ((j4+1:Nat):Int),.p] [130,132] (rp j4) [] (o1 (wi ((j4:Int)+1) ((j4+1:Nat):Int) (by omega))) ?_)))
     have hst_:shiftUp ltInt b j4 d4=_:=Bv (by omega) (by omega)
     refine A.aA ((j4+1:Nat),d107) ⟨(by(rw[hdd107];exact hst_.symm.trans hsu)),(by omega),(by omega)⟩ (by(simp;omega)) ?_
     exact A.I [0]
    have p12:=of_decide_eq_false e12
    refine A.aB (A.s (A.k [.p,.w ((k+1:Nat):Int),.p] [10,103] [(8,c_ (k+1:Nat))] [] (o1 (wi ((k:Int)+1) ((k+1:Nat):Int) (by omega))) ?_))
    have hF2:d4=fixUp ltInt b i2 d3:=(by unfold fixUp;(rw[if_pos (by omega),←hsu,By (by omega)];done))
    have hst_:partialIns ltInt a b (5-(k+1)+1) i1 d1=_:=o7 (s:=5-(k+1)) hI (by omega) (by omega) hF1 hF2
    refine A.aA ((k+1:Nat),i2,d4) ⟨(by(rw[mX (by omega)] at he;exact hst_.symm.trans he)),(by omega),(by omega)⟩ (by(simp;omega)) ?_
    exact A.I [0]
   have p11:=of_decide_eq_false e11
   refine A.p (A.s (A.k [.p,.w ((k+1:Nat):Int),.p] [98] [(8,c_ (k+1:Nat))] [] (o1 (wi ((k:Int)+1) ((k+1:Nat):Int) (by omega))) ?_))
   have hF2:d3=fixUp ltInt b i2 d3:=(by unfold fixUp;(rw[if_neg (by omega)];done))
   have hst_:partialIns ltInt a b (5-(k+1)+1) i1 d1=_:=o7 (s:=5-(k+1)) hI (by omega) (by omega) hF1 hF2
   refine A.aA ((k+1:Nat),i2,d3) ⟨(by(rw[mX (by omega)] at he;exact hst_.symm.trans he)),(by omega),(by omega)⟩ (by(simp;omega)) ?_
   exact A.I [0]
  have p5:=of_decide_eq_false e5
  refine A.p (A.d ?_)
  have hF1:d101=fixDown ltInt a i2 (swp d1 i2 (i2-1)):=(by unfold fixDown;rw[←hdd101];(rw[if_neg (by omega)];done))
  refine A.s (A.k [.p,.p,.w ((b-i2:Nat):Int),.p] [61] [(98,wU b i2)] [] (o1 (wi ((b:Int)-(i2:Int)) ((b-i2:Nat):Int) (by omega))) (A.v rfl (fun e14=> ?_) (fun e14=> ?_)))
  ·have p14:=of_decide_eq_true e14
   refine A.c (A.k [.p,.w ((i2+1:Nat):Int),.p] [98] (rp i2) [] (o1 (wi ((i2:Int)+1) ((i2+1:Nat):Int) (by omega))) (A.y (A.lp (σ:=Nat×(Array Int)) [] (fun(j4,d4)=>[(10,c_ j4),(0,vS al d4.toList cl)]) [0] (fun(j4,d4)=>[sU al d4.toList cl]) (fun(j4,d4)=>(shiftUp ltInt b j4 d4=shiftUp ltInt b (i2+1) d101)∧(d4.size=d.size)∧(1≤j4∧j4≤b)) (fun(j4,d4)=>b-j4) ((i2+1:Nat),d101) ⟨(by rfl),(by omega),(by omega)⟩ ?_ ?_)))
   ·exact A.I [0]
   rintro⟨j4,d4⟩ ⟨hsu,hz4,hj4⟩
   refine A.d (A.c (A.g [.p,.p,.p] [] [(103,b_ (decide ((j4:Int)<(b:Int))))] (A.v rfl (fun e15=> ?_) (fun e15=> ?_))))
   ·have p15:=of_decide_eq_true e15
    refine A.p (A.d (A.y (A.d (A.d (A.ka [.p,.p,.ix,.rd [u_ (d4[j4]!)],.p,.p,.w ((j4-1:Nat):Int),.ix,.rd [u_ (d4[(j4-1:Nat)]!)],.cq (b_ (decide ((d4[j4]!)<(d4[(j4-1:Nat)]!)))),.p] [0,1,2,3,4,5,6,7,8,9,10] [103] [(116,b_ (!(decide ((d4[j4]!)<(d4[(j4-1:Nat)]!)))))] [] (oc (dY 0 j4 dK rfl (by(simp;omega))) (oc (eK 0 j4 [u_ (d4[j4]!)] dK rfl (fC (by omega))) (oc (wi ((j4:Int)-1) ((j4-1:Nat):Int) (by omega)) (oc (dY 0 (j4-1:Nat) dK rfl (by(simp;omega))) (oc (eK 0 (j4-1:Nat) [u_ (d4[(j4-1:Nat)]!)] dK rfl (fC (by omega))) (o1 (qo (fun ww ss=>jd (d4[j4]!) (d4[(j4-1:Nat)]!) ww)))))))) (A.v rfl (fun e16=> ?_) (fun e16=> ?_)))))))
    ·have p16:=e16;try simp only[de] at p16
     refine A.aB (A.te (A.bm rfl ((A.s (A.k [.p,.w ((k+1:Nat):Int),.p] [10,116] [(8,c_ (k+1:Nat))] [] (o1 (wi ((k:Int)+1) ((k+1:Nat):Int) (by omega))) ?_)))))
     have hF2:d4=fixUp ltInt b i2 d101:=(by unfold fixUp;(rw[if_pos (by omega),←hsu,Bw (by omega) (by omega)];done))
     have hst_:partialIns ltInt a b (5-(k+1)+1) i1 d1=_:=o7 (s:=5-(k+1)) hI (by omega) (by omega) hF1 hF2
     refine A.aA ((k+1:Nat),i2,d4) ⟨(by(rw[mX (by omega)] at he;exact hst_.symm.trans he)),(by omega),(by omega)⟩ (by(simp;omega)) ?_
     exact A.I [0]
    have p16:=e16;try simp only[de] at p16
    refine A.p (A.W [15,17] 18 (A.kd 3 [.p,.p,.p,.p,.w ((j4-1:Nat):Int),.p,.p,.w ((j4-1:Nat):Int),.ix,.rd [u_ (d4[(j4-1:Nat)]!)],.p,.p,.ix,.rd [u_ (d4[j4]!)],.ix] [0,1,2,3,4,5,6,7,8,9,10,11,12,13,14] [116] (AM al d4 cl j4) [] (oc (wi ((j4:Int)-1) ((j4-1:Nat):Int) (by omega)) (oc (wi ((j4:Int)-1) ((j4-1:Nat):Int) (by omega)) (oc (dY 0 (j4-1:Nat) dK rfl (by(simp;omega))) (oc (eK 0 (j4-1:Nat) [u_ (d4[(j4-1:Nat)]!)] dK rfl (fC (by omega))) (oc (dY 0 j4 dK rfl (by(simp;omega))) (oc (eK 0 j4 [u_ (d4[j4]!)] dK rfl (fC (by omega))) (o1 (dY 0 j4 dK rfl (by(simp;omega)))))))))) (A.F 15 rfl (A.sS 0 j4 (d4[(j4-1:Nat)]!) rfl dK (by(simp;omega)) (A.D 0 (nO al d4 j4 cl) (dm (by simp)) (A.D 119 (nO al d4 j4 cl) (dm (by simp)) (A.E (A.kd 1 [.ix] [16] [119,121,126,131] (AL al j4) [] (o1 (dY 0 (j4-1:Nat) dK rfl (by(simp;omega)))) (A.F 17 rfl (A.sS 0 (j4-1:Nat) (d4[j4]!) rfl dK (by(simp;omega)) (A.D 0 (uH al d4 j4 cl) (dm (by simp)) (A.E (A.M ?_)))))))))))))
    obtain⟨d109,hdd109⟩: ∃z,z=swp d4 j4 (j4-1:Nat):=⟨_,rfl⟩;have hszd109:d109.size=d4.size:=(by rw[hdd109];exact jA _ _ _)
    have hcv10:((d4.toList.set j4 (d4[(j4-1:Nat)]!)).set (j4-1:Nat) (d4[j4]!))=d109.toList:=by rw[hdd109];exact lB _ _ _
    refine A.su 0 (sU al d109.toList cl) rfl (eI hcv10) (A.D 0 (vS al d109.toList cl) (fJ hcv10) (A.s (A.k [.p,.w ((j4+1:Nat):Int),.p] [130,132] (rp j4) [] (o1 (wi ((j4:Int)+1) ((j4+1:Nat):Int) (by omega))) ?_)))
    have hst_:shiftUp ltInt b j4 d4=_:=Bv (by omega) (by omega)
    refine A.aA ((j4+1:Nat),d109) ⟨(by(rw[hdd109];exact hst_.symm.trans hsu)),(by omega),(by omega)⟩ (by(simp;omega)) ?_
    exact A.I [0]
   have p15:=of_decide_eq_false e15
   refine A.aB (A.s (A.k [.p,.w ((k+1:Nat):Int),.p] [10,103] [(8,c_ (k+1:Nat))] [] (o1 (wi ((k:Int)+1) ((k+1:Nat):Int) (by omega))) ?_))
   have hF2:d4=fixUp ltInt b i2 d101:=(by unfold fixUp;(rw[if_pos (by omega),←hsu,By (by omega)];done))
   have hst_:partialIns ltInt a b (5-(k+1)+1) i1 d1=_:=o7 (s:=5-(k+1)) hI (by omega) (by omega) hF1 hF2
   refine A.aA ((k+1:Nat),i2,d4) ⟨(by(rw[mX (by omega)] at he;exact hst_.symm.trans he)),(by omega),(by omega)⟩ (by(simp;omega)) ?_
   exact A.I [0]
  have p14:=of_decide_eq_false e14
  refine A.p (A.s (A.k [.p,.w ((k+1:Nat):Int),.p] [98] [(8,c_ (k+1:Nat))] [] (o1 (wi ((k:Int)+1) ((k+1:Nat):Int) (by omega))) ?_))
  have hF2:d101=fixUp ltInt b i2 d101:=(by unfold fixUp;(rw[if_neg (by omega)];done))
  have hst_:partialIns ltInt a b (5-(k+1)+1) i1 d1=_:=o7 (s:=5-(k+1)) hI (by omega) (by omega) hF1 hF2
  refine A.aA ((k+1:Nat),i2,d101) ⟨(by(rw[mX (by omega)] at he;exact hst_.symm.trans he)),(by omega),(by omega)⟩ (by omega) ?_
  exact A.I [0]
 have p1:=of_decide_eq_false e1
 refine A.aB (A.c (A.g [.p] [1,2,8,7,0,14] [(6,b_ false)] (A.e (A.Y [0] [b_ false] (false,d1) ?_ ?_))))
 ·rfl
 (refine⟨?_,by omega⟩;rw[show 5-k=0 by omega] at he;exact he.symm)
def ij(l:List Int):List Int:=l.mergeSort fun x y=>decide (x≤y)
theorem vO(l:List Int):(ij l).length=l.length:=by unfold ij;simp
theorem M3{l:List Int}{d':Array Int}(h:PermIn 0 l.length l.toArray d'∧SortedIn ltInt 0 l.length d'):d'.toList=ij l:=by
 have e:=sorted_unique_holds (lt:=ltInt) swo_ltInt (fun x y h1 h2=>by simp only[ltInt,decide_eq_false_iff_not] at h1 h2;omega) l.toArray d' (by simpa using h.1) (by simpa using h.2)
 rw[e];unfold ij
 congr 1;funext x y;simp only[ltInt]
 rw[Bool.eq_iff_iff];simp
theorem JV(al:Option Addr)(d:Array Int)(cl:Nat)(a b lim:Nat)(ih: ∀(al':Option Addr)(d':Array Int)(cl':Nat)(a' b' lim':Nat),b'-a'<b-a→ ∀(hb:a'≤b'∧b'≤d'.size)(hS:d'.size≤100000)(hl:lim'≤64)(hB:Below ltInt a' b' d')(w:World)(hs:HI w [sU al' d'.toList cl']),Calls Tryz.prog 259 #[vS al' d'.toList cl',c_ a',c_ b',c_ lim'] w fun e w'=> ∃zz,e= .returned ((fun(dz:(Array Int))=>(.tuple #[])) zz)∧(fun(dz:(Array Int))=>PermIn a' b' d' dz∧SortedIn ltInt a' b' dz) zz∧Turn [sU al' d'.toList cl'] ((fun(dz:(Array Int))=>[sU al' dz.toList cl']) zz) w w')(hb:a≤b∧b≤d.size)(hS:d.size≤100000)(hl:lim≤64)(hB:Below ltInt a b d)(w:World)(hs:HS w (dG [sU al d.toList cl]) [sU al d.toList cl] w):
  CV 259 #[vS al d.toList cl,c_ a,c_ b,c_ lim] w [sU al d.toList cl] (fun(dz:(Array Int))=>(.tuple #[])) (fun dz=>PermIn a b d dz∧SortedIn ltInt a b dz) fun dz=>[sU al dz.toList cl]:=by
 refine A.C Tryz.func259 rfl hs (A.c (A.g [.p] [] [(8,b_ true)] (A.c (A.g [.p] [] [(9,b_ true)] (A.y (A.lp (σ:=Nat×Nat×Nat×(Array Int)×Bool×Bool) [] (fun(a2,b2,l2,d2,wb,wp)=>[(1,c_ a2),(2,c_ b2),(3,c_ l2),(0,vS al d2.toList cl),(8,b_ wb),(9,b_ wp)]) [0] (fun(a2,b2,l2,d2,wb,wp)=>[sU al d2.toList cl]) (fun(a2,b2,l2,d2,wb,wp)=>(∀R,PermIn a2 b2 d2 R→SortedIn ltInt a2 b2 R→PermIn a b d R∧SortedIn ltInt a b R)∧(d2.size=d.size)∧(Below ltInt a2 b2 d2)∧(a≤a2∧a2≤b2∧b2≤b∧l2≤64)) (fun(a2,b2,l2,d2,wb,wp)=>b2-a2) (a,b,lim,d,true,true) ⟨(fun R h1 h2=>⟨h1,h2⟩),(by rfl),hB,(by omega)⟩ ?_ ?_))))))
 ·exact A.I [0]
 rintro⟨a2,b2,l2,d2,wb,wp⟩ ⟨he,hz,hB2,hr⟩
 refine A.y (A.c (A.k [.p,.p,.w ((b2-a2:Nat):Int),.p] [] [(10,c_ (b2-a2:Nat))] [] (o1 (wi ((b2:Int)-(a2:Int)) ((b2-a2:Nat):Int) (by omega))) (A.d (A.c (A.g [.p,.p] [] [(23,b_ (decide (((b2-a2:Nat):Int)≤12)))] (A.v rfl (fun e1=> ?_) (fun e1=> ?_)))))))
 ·have p1:=of_decide_eq_true e1
  refine A.c (A.O [.p,.p,.p] [1,2,3,0,8,9,10,23] [(24,vS al d2.toList cl),(25,c_ a2),(26,c_ b2)] (A.j (A.J (some 27) [0] (fun ww ss hh=>Kt al d2 cl a2 b2 (by omega) (by omega) ww hh) ?_)))
  rintro d'1 hz2
  refine A.D 24 (vS al d'1.toList cl) (dm (by(simp only[Array.length_toList];exact hz2.2.symm))) (A.aC (A.e (A.aG [0] [] (fun aa ww rr ss=>trivial) (d'1) ?_ ?_ (by kernel_rfl))))
  ·rfl
  (have h_:=(by assumption:_=insertionSort ltInt d2 a2 b2∧_);rw[h_.1];have h2_:=insertionSort_holds (lt:=ltInt) swo_ltInt d2 a2 b2 (by omega) (by omega);exact he _ h2_.1 h2_.2)
 have p1:=of_decide_eq_false e1
 refine A.p (A.d (A.c (A.g [.p,.p] [23] [(29,b_ ((l2:Int)==0))] (A.v rfl (fun e3=> ?_) (fun e3=> ?_)))))
 ·refine A.c (A.O [.p,.p,.p] [1,2,3,0,8,9,10,29] [(30,vS al d2.toList cl),(31,c_ a2),(32,c_ b2)] (A.j (A.J (some 33) [0] (fun ww ss hh=>KB al d2 cl a2 b2 (by omega) (by omega) ww hh) ?_)))
  rintro d'2 hz4
  refine A.D 30 (vS al d'2.toList cl) (dm (by(simp only[Array.length_toList];exact hz4.2.symm))) (A.aC (A.e (A.aG [0] [] (fun aa ww rr ss=>trivial) (d'2) ?_ ?_ (by kernel_rfl))))
  ·rfl
  (have h_:=(by assumption:_=heapSort ltInt d2 a2 b2∧_);rw[h_.1];have h2_:=heapSort_holds (lt:=ltInt) swo_ltInt d2 a2 b2 (by omega) (by omega);exact he _ h2_.1 h2_.2)
 have p3:=e3;try simp only[de] at p3
 refine A.p (A.bU (fun((l3,d3):Nat×(Array Int))=>[(1,c_ a2),(2,c_ b2),(8,b_ wb),(9,b_ wp),(10,c_ (b2-a2:Nat)),(3,c_ l3),(0,vS al d3.toList cl)]) (fun((l3,d3):Nat×(Array Int))=>[sU al d3.toList cl]) (fun((l3,d3):Nat×(Array Int))=>(PermIn a2 b2 d2 d3∧d3.size=d.size)∧(l3≤64)) ?_ ?_)
 ·refine A.c (A.g [.p,.p] [29] [(35,b_ (!wb))] (A.cn (!wb) (fun e5=> ?_) (fun e5=> ?_)))
  ·have p5:=e5
   refine A.c (A.O [.p,.p,.p] [35] [(36,vS al d2.toList cl),(37,c_ a2),(38,c_ b2)] (A.j (A.J (some 39) [0] (fun ww ss hh=>M1 al d2 cl a2 b2 (by omega) (by omega) ww hh) ?_)))
   rintro d'3 hz6
   refine A.D 0 (vS al d'3.toList cl) (dm (by(simp only[Array.length_toList];exact hz6.2.symm))) (A.D 36 (vS al d'3.toList cl) (dm (by(simp only[Array.length_toList];exact hz6.2.symm))) (A.aC (A.s (A.k [.p,.w ((l2-1:Nat):Int),.p] [36,37,38,39] [(3,c_ (l2-1:Nat))] [] (o1 (wi ((l2:Int)-1) ((l2-1:Nat):Int) (by omega))) (A.aN ((l2-1:Nat),d'3) ⟨(by(have h_:=(by assumption:PermIn a2 b2 d2 _∧_);exact⟨h_.1,by omega⟩)),(by omega)⟩ ?_)))))
   exact A.I [0]
  refine A.p (A.aN (l2,d2) ⟨⟨permIn_refl _ _ _,hz⟩,(by omega)⟩ ?_)
  exact A.I [0]
 rintro⟨l3,d3⟩ ⟨hp3,hl3⟩
 refine A.c (A.O [.p,.p,.p] [] [(43,vS al d3.toList cl),(44,c_ a2),(45,c_ b2)] (A.j (A.J (some 46) [0] (fun ww ss hh=>MY al d3 cl a2 b2 (by omega) (by omega) ww hh) ?_)))
 rintro⟨⟩-
 refine A.g [.p,.p,.p,.p,.p] [43,44,45,46] [(11,i_ ((rawPivot ltInt d3 a2 b2).1:Int)),(12,i_ (hintCode (hintOf (rawPivot ltInt d3 a2 b2).2)))] (A.bU (fun((p4,h4,d4):Nat×Int×(Array Int))=>[(1,c_ a2),(2,c_ b2),(8,b_ wb),(9,b_ wp),(10,c_ (b2-a2:Nat)),(3,c_ l3),(11,c_ p4),(12,i_ h4),(0,vS al d4.toList cl)]) (fun((p4,h4,d4):Nat×Int×(Array Int))=>[sU al d4.toList cl]) (fun((p4,h4,d4):Nat×Int×(Array Int))=>(PermIn a2 b2 d2 d4∧d4.size=d.size)∧(a2≤p4∧p4<b2)) ?_ ?_)
 ·refine A.d ?_
  have hcp:=choosePivot_holds ltInt d3 a2 b2 (by omega);rw[choosePivot_eq] at hcp;simp only[] at hcp
  obtain⟨pv,hpv_⟩: ∃z,z=(rawPivot ltInt d3 a2 b2).1:=⟨_,rfl⟩;rw[←hpv_] at hcp
  refine A.D 11 (c_ pv) (l0 (by rw[hpv_])) ?_
  obtain⟨hc,hhc_⟩: ∃z,z=(hintCode (hintOf (rawPivot ltInt d3 a2 b2).2)):=⟨_,rfl⟩
  refine A.D 12 (i_ hc) (l0 (by rw[hhc_])) (A.s (A.g [.p,.p] [] [(50,b_ (hc==2))] (A.cn (hc==2) (fun e8=> ?_) (fun e8=> ?_))))
  ·refine A.c (A.O [.p,.p,.p] [12,50] [(51,vS al d3.toList cl),(52,c_ a2),(53,c_ b2)] (A.j (A.J (some 54) [0] (fun ww ss hh=>Ku al d3 cl a2 b2 (by omega) (by omega) ww hh) ?_)))
   rintro d'4 hz9
   refine A.D 0 (vS al d'4.toList cl) (dm (by(simp only[Array.length_toList];exact hz9.2.symm))) (A.D 51 (vS al d'4.toList cl) (dm (by(simp only[Array.length_toList];exact hz9.2.symm))) (A.aC (A.c (A.k [.p,.w ((b2-1:Nat):Int),.p,.p,.w ((pv-a2:Nat):Int),.w (((b2-1)-(pv-a2):Nat):Int),.p] [51,52,53,54] [(11,c_ ((b2-1)-(pv-a2):Nat))] [] (oc (wi ((b2:Int)-1) ((b2-1:Nat):Int) (by omega)) (oc (wi ((pv:Int)-(a2:Int)) ((pv-a2:Nat):Int) (by omega)) (o1 (wi (((b2-1:Nat):Int)-((pv-a2:Nat):Int)) (((b2-1)-(pv-a2):Nat):Int) (by omega))))) (A.s (A.g [.p] [] [(12,i_ 1)] (A.aN (((b2-1)-(pv-a2):Nat),1,d'4) ⟨(by(have h_:=(by assumption:_=reverseRange d3 a2 b2∧_);refine⟨permIn_trans _ _ _ a2 b2 hp3.1 ?_,by omega⟩;rw[h_.1];exact reverseRange_holds d3 a2 b2 (by omega) (by omega))),(by omega)⟩ ?_)))))))
   exact A.I [0]
  refine A.p (A.aN (pv,hc,d3) ⟨hp3,(by omega)⟩ ?_)
  exact A.I [0]
 rintro⟨p4,h4,d4⟩ ⟨hp4,hpv⟩
 refine A.bU (fun(zz:(Array Int))=>match zz with|d5=>[(1,c_ a2),(2,c_ b2),(8,b_ wb),(9,b_ wp),(10,c_ (b2-a2:Nat)),(3,c_ l3),(11,c_ p4),(0,vS al d5.toList cl)]) (fun(zz:(Array Int))=>match zz with|d5=>[sU al d5.toList cl]) (fun(zz:(Array Int))=>match zz with|d5=>(PermIn a2 b2 d2 d5∧d5.size=d.size)) ?_ ?_
 ·refine A.c (A.g [.p,.p,.o,.p,.cl,.p,.o,.p,.p,.cl] [12] [(68,b_ ((wb&&wp)&&(h4==1)))] (A.v rfl (fun e10=> ?_) (fun e10=> ?_)))
  ·refine A.c (A.O [.p,.p,.p] [68] [(69,vS al d4.toList cl),(70,c_ a2),(71,c_ b2)] (A.j (A.J (some 72) [0] (fun ww ss hh=>Ky al d4 cl a2 b2 (by omega) (by omega) ww hh) ?_)))
   rintro⟨q'5,d'6⟩ hz11
   refine A.D 0 (vS al d'6.toList cl) (dm (by(simp only[Array.length_toList];exact hz11.2.symm))) (A.D 69 (vS al d'6.toList cl) (dm (by(simp only[Array.length_toList];exact hz11.2.symm))) (A.aC (A.cn (q'5) (fun e12=> ?_) (fun e12=> ?_))))
   ·refine A.e (A.aG [0] [] (fun aa ww rr ss=>trivial) (d'6) ?_ ?_ (by kernel_rfl))
    ·rfl
    (have h_:=(by assumption:partialInsertionSort ltInt d4 a2 b2=_∧_);have h2_:=partialInsertionSort_holds (lt:=ltInt) swo_ltInt d4 a2 b2 (by omega) (by omega) (hB2.perm (by omega) hp4.1);rw[h_.1] at h2_;exact he _ (permIn_trans _ _ _ a2 b2 hp4.1 h2_.1) (h2_.2 ‹_›))
   refine A.p (A.aN (d'6) (by(have h_:=(by assumption:partialInsertionSort ltInt d4 a2 b2=_∧_);have h2_:=partialInsertionSort_holds (lt:=ltInt) swo_ltInt d4 a2 b2 (by omega) (by omega) (hB2.perm (by omega) hp4.1);rw[h_.1] at h2_;exact⟨permIn_trans _ _ _ a2 b2 hp4.1 h2_.1,by omega⟩)) ?_)
   exact A.I [0]
  refine A.p (A.aN (d4) hp4 ?_)
  exact A.I [0]
 rintro d5 hp5
 have hp5:PermIn a2 b2 d2 d5∧d5.size=d.size:=hp5
 have hB5:Below ltInt a2 b2 d5:=hB2.perm (by omega) hp5.1
 refine A.d (A.d (A.ka [.p,.p,.p,.o,.p,.p,.w ((a2-1:Nat):Int),.ix,.rd [u_ (d5[(a2-1:Nat)]!)],.p,.p,.ix,.rd [u_ (d5[p4]!)],.cq (b_ (decide ((d5[(a2-1:Nat)]!)<(d5[p4]!)))),.p,.cl] [0,1,2,3,4,5,6,7,8,9,10,11,12,13,14] [] [(87,b_ ((decide ((a2:Int)>0))&&(!(decide ((d5[(a2-1:Nat)]!)<(d5[p4]!))))))] [] (oc (go (true&&((decide ((a2:Int)>0))==true)) fun h_=>(wo ((lD (e:=(a2:Int)-1) (by(constructor<;>omega))).trans (by(simp at h_;omega):((a2:Int)-1:Int)=((a2-1:Nat):Int))))) (oc (go (true&&((decide ((a2:Int)>0))==true)) fun h_=>(dY 0 (a2-1:Nat) dK rfl (by(simp;omega)))) (oc (go (true&&((decide ((a2:Int)>0))==true)) fun h_=>(eK 0 (a2-1:Nat) [u_ (d5[(a2-1:Nat)]!)] dK rfl (fC (by omega)))) (oc (go (true&&((decide ((a2:Int)>0))==true)) fun h_=>(dY 0 p4 dK rfl (by(simp;omega)))) (oc (go (true&&((decide ((a2:Int)>0))==true)) fun h_=>(eK 0 p4 [u_ (d5[p4]!)] dK rfl (fC (by omega)))) (o1 (go (true&&((decide ((a2:Int)>0))==true)) fun h_=>(qo (fun ww ss=>jd (d5[(a2-1:Nat)]!) (d5[p4]!) ww))))))))) ?_))
 refine A.v rfl (fun e13=> ?_) (fun e13=> ?_)
 ·have p13:=e13;try simp only[de] at p13
  refine A.c (A.O [.p,.p,.p,.p] [1,10,11,87] [(88,vS al d5.toList cl),(89,c_ a2),(90,c_ b2),(91,c_ p4)] (A.j (A.J (some 92) [0] (fun ww ss hh=>KC al d5 cl a2 b2 p4 (by omega) (by omega) ww hh) ?_)))
  rintro⟨m'7,d'8⟩ hz14
  refine A.D 0 (vS al d'8.toList cl) (dm (by(simp only[Array.length_toList];exact hz14.2.symm))) (A.D 88 (vS al d'8.toList cl) (dm (by(simp only[Array.length_toList];exact hz14.2.symm))) (A.g [.p] [88,89,90,91,92] [(13,c_ m'7)] (A.d ?_)))
  have hx_:=(by assumption:partitionEqual ltInt d5 a2 b2 p4=_∧_);have hnl_:ltInt d5[a2-1]! d5[p4]! =false:=(by unfold ltInt;simp_all);obtain⟨rq1,rq2,rqS,rqB,rqE⟩:=round_eq swo_ltInt (partitionEqual_holds (lt:=ltInt)) (by omega) hpv.1 hpv.2 (by omega) hB5 hnl_ hx_.1
  refine A.s (A.g [.p,.p] [13] [(1,c_ m'7)] (A.aB (A.aA (m'7,b2,l3,d'8,wb,wp) ⟨(fun R h1 h2=>he R (permIn_trans _ _ _ a2 b2 hp5.1 (rqE R h1 h2).1) (rqE R h1 h2).2),(by omega),rqB,(by omega)⟩ (by(simp;omega)) ?_)))
  exact A.I [0]
 refine A.p (A.c (A.O [.p,.p,.p,.p] [8,9,11,87] [(95,vS al d5.toList cl),(96,c_ a2),(97,c_ b2),(98,c_ p4)] (A.j (A.J (some 99) [0] (fun ww ss hh=>Kw al d5 cl a2 b2 p4 (by omega) (by omega) ww hh) ?_))))
 rintro⟨m'9,q'10,d'11⟩ hz15
 refine A.D 0 (vS al d'11.toList cl) (dm (by(simp only[Array.length_toList];exact hz15.2.symm))) (A.D 95 (vS al d'11.toList cl) (dm (by(simp only[Array.length_toList];exact hz15.2.symm))) (A.g [.p,.p,.p,.p,.p] [95,96,97,98,99] [(14,c_ m'9),(15,b_ q'10)] (A.c (A.g [.p,.p] [15] [(9,b_ q'10)] (A.d ?_)))))
 have hx_:=(by assumption:partition ltInt d5 a2 b2 p4=_∧_);obtain⟨rp1,rp2,rp3,rp4,rp5,rpL,rpR⟩:=round_part swo_ltInt (partition_holds (lt:=ltInt)) hpv.1 hpv.2 (by omega) hB5 hx_.1
 refine A.s (A.k [.p,.p,.w ((m'9-a2:Nat):Int),.p,.p,.w ((b2-m'9:Nat):Int),.p,.p] [] [(16,c_ (m'9-a2:Nat)),(17,c_ (b2-m'9:Nat))] [] (oc (wi ((m'9:Int)-(a2:Int)) ((m'9-a2:Nat):Int) (by omega)) (o1 (wi ((b2:Int)-(m'9:Int)) ((b2-m'9:Nat):Int) (by omega)))) (A.c (A.k [.p,.w (((b2-a2)/8:Nat):Int),.p] [10] [(18,c_ ((b2-a2)/8:Nat))] [] (o1 (wo ((lD (e:=((b2-a2:Nat):Int).tdiv 8) (by(rw[Qp];constructor<;>omega))).trans (by rfl:(((b2-a2:Nat):Int).tdiv 8:Int)=(((b2-a2)/8:Nat):Int))))) ?_)))
 refine A.c (A.g [.p,.p,.p] [] [(113,b_ (decide (((m'9-a2:Nat):Int)<((b2-m'9:Nat):Int))))] (A.v rfl (fun e16=> ?_) (fun e16=> ?_)))
 ·have p16:=of_decide_eq_true e16
  refine A.c (A.h [.p,.p,.p,.p] [(1,c_ a2),(2,c_ b2),(3,c_ l3),(0,vS al d'11.toList cl),(14,c_ m'9),(9,b_ q'10),(8,b_ (decide (((m'9-a2:Nat):Int)≥(((b2-a2)/8:Nat):Int))))] [] (A.c (A.O [.p,.p,.p,.p] [1] [(117,vS al d'11.toList cl),(118,c_ a2),(119,c_ m'9),(120,c_ l3)] (A.j (A.J (some 121) [0] (fun ww ss hh=>ih al d'11 cl a2 m'9 l3 (by omega) (by omega) (by omega) ‹_› ‹_› ww hh) ?_)))))
  rintro dz12 hz17
  refine A.D 0 (vS al dz12.toList cl) (dm (by(simp only[Array.length_toList];exact hz17.1.1.symm))) (A.D 117 (vS al dz12.toList cl) (dm (by(simp only[Array.length_toList];exact hz17.1.1.symm))) (A.aC ?_))
  have hy_:=(by assumption:PermIn a2 _ _ _∧SortedIn ltInt a2 _ _);have rqL:=rpL _ hy_.1 hy_.2;have rqS:=hy_.1.1
  refine A.s (A.k [.p,.w ((m'9+1:Nat):Int),.p] [14,117,118,119,120,121] [(1,c_ (m'9+1:Nat))] [] (o1 (wi ((m'9:Int)+1) ((m'9+1:Nat):Int) (by omega))) ((A.aA ((m'9+1:Nat),b2,l3,dz12,decide (((m'9-a2:Nat):Int)≥(((b2-a2)/8:Nat):Int)),q'10) ⟨(fun R h1 h2=>he R (permIn_trans _ _ _ a2 b2 hp5.1 (rqL.2 R h1 h2).1) (rqL.2 R h1 h2).2),(by omega),rqL.1,(by omega)⟩ (by(simp;omega)) ?_)))
  exact A.I [0]
 have p16:=of_decide_eq_false e16
 refine A.c (A.h [.p,.p,.p,.p] [(1,c_ a2),(2,c_ b2),(3,c_ l3),(0,vS al d'11.toList cl),(14,c_ m'9),(9,b_ q'10),(8,b_ (decide (((b2-m'9:Nat):Int)≥(((b2-a2)/8:Nat):Int))))] [] (A.c (A.kp [.p,.p,.w ((m'9+1:Nat):Int),.p,.p] [2] [(127,vS al d'11.toList cl),(129,c_ (m'9+1:Nat)),(130,c_ b2),(131,c_ l3)] [] (o1 (wi ((m'9:Int)+1) ((m'9+1:Nat):Int) (by omega))) (A.j (A.J (some 132) [0] (fun ww ss hh=>ih al d'11 cl (m'9+1:Nat) b2 l3 (by omega) (by omega) (by omega) ‹_› ‹_› ww hh) ?_)))))
 rintro dz13 hz18
 refine A.D 0 (vS al dz13.toList cl) (dm (by(simp only[Array.length_toList];exact hz18.1.1.symm))) (A.D 127 (vS al dz13.toList cl) (dm (by(simp only[Array.length_toList];exact hz18.1.1.symm))) (A.aC ?_))
 have hy_:=(by assumption:PermIn _ b2 _ _∧SortedIn ltInt _ b2 _);have rqL:=rpR _ hy_.1 hy_.2;have rqS:=hy_.1.1
 refine A.s (A.g [.p,.p] [14,127,129,130,131,132] [(2,c_ m'9)] ((A.aA (a2,m'9,l3,dz13,decide (((b2-m'9:Nat):Int)≥(((b2-a2)/8:Nat):Int)),q'10) ⟨(fun R h1 h2=>he R (permIn_trans _ _ _ a2 b2 hp5.1 (rqL.2 R h1 h2).1) (rqL.2 R h1 h2).2),(by omega),rqL.1,(by omega)⟩ (by(simp;omega)) ?_)))
 exact A.I [0]
theorem FD(al:Option Addr)(d:Array Int)(cl:Nat)(a b lim:Nat)(hb:a≤b∧b≤d.size)(hS:d.size≤100000)(hl:lim≤64)(hB:Below ltInt a b d)(w:World)(hs:HS w (dG [sU al d.toList cl]) [sU al d.toList cl] w):
  Calls Tryz.prog 259 #[vS al d.toList cl,c_ a,c_ b,c_ lim] w fun e w'=> ∃zz,e= .returned ((fun(dz:(Array Int))=>(.tuple #[])) zz)∧(fun(dz:(Array Int))=>PermIn a b d dz∧SortedIn ltInt a b dz) zz∧Turn [sU al d.toList cl] ((fun(dz:(Array Int))=>[sU al dz.toList cl]) zz) w w':=
 JV al d cl a b lim (fun al' d' cl' a' b' lim' hlt_ g0_ g1_ g2_ g3_ w_ y_=>FD al' d' cl' a' b' lim' g0_ g1_ g2_ g3_ w_ y_) hb hS hl hB w hs
termination_by b-a
decreasing_by exact hlt_
theorem KD(ah:Option Addr)(l:List Int)(c:Nat)(hl:l.length≤100000):
  CS 227 #[vS ah l c] [sU ah l c] (fun(zz:Unit)=>(.tuple #[])) (fun _=>True) fun _=>[sU ah (ij l) c]:=by
 intro w hs
 have hbl:Lib.bitLen l.length≤64:=(by rcases Nat.eq_zero_or_pos l.length with h|h;(rw[h];decide);(have:=EN l.length h hl;omega))
 refine A.C Tryz.func227 rfl hs (A.c (A.g [.p,.p,.p] [] [(2,c_ l.length)] (?_)))
 have hcv1:l=l.toArray.toList:=by simp
 refine A.su 0 (sU ah l.toArray.toList c) rfl (eI hcv1) (A.D 0 (vS ah l.toArray.toList c) (fJ hcv1) (A.s (A.kp [.p,.p,.p,.w (l.length:Int),.cq (i_ (Lib.bitLen l.length:Int))] [0,2] [(5,vS ah l.toArray.toList c),(6,c_ l.length),(9,i_ (Lib.bitLen l.length:Int))] [] (oc (wv (l.length:Int) (by omega)) (o1 (qo (fun ww ss=>FC l.length (by omega) ww)))) (A.j (A.J (some 10) [0] (fun ww ss hh=>FD ah l.toArray c 0 l.length (Lib.bitLen l.length) (by(constructor<;>simp)) ‹_› ‹_› (.inl rfl) ww hh) ?_)))))
 rintro dz2 hz1
 refine A.D 5 (vS ah dz2.toList c) (dm (by(simp only[Array.length_toList];exact hz1.1.1.symm))) (A.aC (A.su 0 (sU ah (ij l) c) rfl (eI (M3 ‹_›:dz2.toList=(ij l))) (A.aQ [0] [] (fun aa ww rr ss=>trivial) () ?_ ?_ (by kernel_rfl))))
 ·rfl
 trivial
end Go.Proofs.YtobgjpigngoggaaGreat
namespace Go.Proofs.YtobgjpigngoggaaGreat
open Go V Go.Sort
open Go.RowKit Go.Shelf Go.Lib
def jQ(l:List Int):List Int:=compactUpTo l.toArray l.toArray.size
theorem FG(l:List Int):(jQ l).length≤l.length:=by
 unfold jQ compactUpTo;rw[List.length_map]
 exact Nat.le_trans (List.length_filter_le _ _) (by simp)
def Tryz.cmpU_ren:Go.Shelf.Ren:=⟨fun|43=>228|n=>n,fun|22=>233|23=>40|3=>3|4=>4|0=>0|n=>n,fun|n=>n⟩
theorem Tryz.cmpU:Go.Proofs.SlLaysE.n43 Tryz.prog Tryz.cmpU_ren:={
 mixed:=by kernel_rfl,
 f43:=⟨Tryz.f228.name,by decide,Tryz.func228.trans (congrArg some (by kernel_rfl))⟩,
 t0:=Tryz.underlying0,
 a0:=Tryz.isAgg0,
 z0:=Tryz.sizeOf0,
 v0:=Tryz.zeroValue0,
 t3:=Tryz.underlying3,
 a3:=Tryz.isAgg3,
 z3:=Tryz.sizeOf3,
 v3:=Tryz.zeroValue3,
 t4:=Tryz.underlying4,
 a4:=Tryz.isAgg4,
 z4:=Tryz.sizeOf4,
 v4:=Tryz.zeroValue4,
 t22:=Tryz.underlying233,
 a22:=Tryz.isAgg233,
 z22:=Tryz.sizeOf233,
 v22:=Tryz.zeroValue233,
 a23:=Tryz.isAgg40,
 z23:=Tryz.sizeOf40}
set_option maxHeartbeats 4000000 in
set_option maxRecDepth 100000 in
theorem KE(w:World):
  CW 228 #[e_] w e_:=by
 refine A.C Tryz.func228 rfl (HS.nil w) (A.aO [(0,e_)] [] ⟨rfl,trivial⟩ rfl (A.c (A.h [.p] [(0,e_)] [] (A.d (A.c (A.h [.p,.p,.p] [(0,e_),(8,b_ true)] [] (A.bw rfl (A.c (A.h [.p,.p] [(2,e_)] [] (A.e (A.aK [e_] (fun aa ww rr ss=>⟨fQ rr rfl,trivial⟩) ?_)))))))))))
 rfl
theorem Jg(ah:Option Addr)(l:List Int)(c:Nat)(hl:l.length≤100000):
  CS 228 #[vS ah l c] [sU ah l c] (fun(zz:Unit)=>(vS ah (jQ l) c)) (fun _=>True) fun _=>[sU ah (jQ l) c]:=by
 intro w hs
 have h0:(sU ah l c).holds w:=hs.all _ (by simp)
 cases ah with
 |none=>
  have hl0:l=[]∧c=0:=by
   obtain⟨_,h2,_,⟨_,h4⟩|⟨_,_,_,h4,_⟩⟩:=h0
   ·exact⟨List.eq_nil_of_length_eq_zero (by omega),h4⟩
   ·cases h4
  obtain⟨rfl,rfl⟩:=hl0
  refine(KE w).mono ?_
  rintro e w' ⟨rfl,hf⟩
  refine⟨(),rfl,trivial,?_⟩
  exact Turn.of (hs.kept hf) (.refl _)
 |some a=>
  obtain⟨g,off,rfl⟩: ∃g off,a=⟨g,off,none⟩:=by
   obtain⟨_,_,_,⟨h4,_⟩|⟨g,off,_,h4,_⟩⟩:=id h0
   ·cases h4
   ·cases h4;exact⟨g,off,rfl⟩
  obtain⟨hH,hlt⟩:=EB (k:= .u64) (fun _=>rfl) h0
  have hcap:l.length≤c:=h0.2.1
  have hC:=AnyE.slices_Compact Tryz.cmpU (Value.int .u64) (fun _=>rfl) (EqlAt.intD _ _ _) (NeqAt.intD _ _ _) 0 (fun w=>Tryz.zeroValue40 w) g off c l.toArray w hH (by simp;omega) (by simpa using hcap)
  rw[show l.toArray.size=l.length by simp] at hC
  refine hC.mono ?_
  rintro e w' ⟨rfl,q,rfl⟩
  refine⟨(),by show Ending.returned _=_;simp only[jQ];simp,trivial,?_⟩
  have hle:=FG l
  have hlen:(jQ l).length+(List.replicate (l.length-(jQ l).length) (0:Int)).length=l.length:=by simp;omega
  have:=HY (enc:=u9) (k:= .u64) (q:=q) (rest:=List.replicate (l.length-(jQ l).length) (0:Int)) (ts:=jQ l) (fun _=>rfl) hlen h0
  have e2:compactUpTo l.toArray l.length=jQ l:=by unfold jQ;simp
  rw[e2];exact this
end Go.Proofs.YtobgjpigngoggaaGreat
namespace Go.Proofs.YtobgjpigngoggaaGreat
open Go V
def tL(R:List Int):Prop:=R.Pairwise (· < ·)
theorem M5{A:List Int}{y:Int}(h:tL A)(hy: ∀a∈A,a<y):tL (A++[y]):=List.pairwise_append.2 ⟨h,by simp,fun a ha b hb=>by simp at hb;subst hb;exact hy a ha⟩
theorem Hv{d:Array Int}(hd: ∀i,i+1<d.size→d[i]! ≤d[i+1]!): ∀m,m≤d.size→(∀y,y∈Go.Lib.compactUpTo d m↔ ∃j,j<m∧d[j]! =y)∧tL (Go.Lib.compactUpTo d m)∧ ∀y∈Go.Lib.compactUpTo d m,y≤d[m-1]!
 |0,_=>⟨fun y=>by simp[Go.Lib.compactUpTo],by simp[Go.Lib.compactUpTo,tL],fun y h=>by simp[Go.Lib.compactUpTo] at h⟩
 |m+1,hm=>by
  obtain⟨h1,h2,h3⟩:=Hv hd m (by omega)
  rw[Go.Lib.compactUpTo_succ]
  have hstep: ∀y∈Go.Lib.compactUpTo d m,y≤d[m]! :=fun y hy=>by
   have hy2:=h3 y hy
   cases m with
   |zero=>simp[Go.Lib.compactUpTo] at hy
   |succ q=>have:=hd q (by omega);simp at hy2;omega
  by_cases hk:Go.Lib.keeps d m=true
  ·rw[if_pos hk]
   refine⟨fun y=> ?_,?_,fun y hy=> ?_⟩
   ·rw[List.mem_append,h1,List.mem_singleton];constructor
    ·rintro(⟨j,hj,e⟩|e)
     ·exact⟨j,by omega,e⟩
     ·exact⟨m,by omega,e.symm⟩
    ·rintro⟨j,hj,e⟩
     by_cases g:j=m
     ·subst g;exact .inr e.symm
     ·exact .inl ⟨j,by omega,e⟩
   ·refine M5 h2 fun y hy=> ?_
    have h4:=hstep y hy
    cases m with
    |zero=>simp[Go.Lib.compactUpTo] at hy
    |succ q=>
     have h5:=h3 y hy;have h6:=hd q (by omega)
     simp[Go.Lib.keeps] at hk
     simp at h5
     have h7:d[q+1]! ≠d[q]! :=fun e=>hk e
     omega
   ·rcases List.mem_append.1 hy with hy|hy
    ·exact hstep y hy
    ·simp at hy;subst hy;simp
  ·rw[if_neg hk,List.append_nil]
   have hq:m≠0∧d[m]! =d[m-1]! :=by simp[Go.Lib.keeps] at hk;exact hk
   refine⟨fun y=> ?_,h2,fun y hy=>hstep y hy⟩
   rw[h1];constructor
   ·rintro⟨j,hj,e⟩;exact⟨j,by omega,e⟩
   ·rintro⟨j,hj,e⟩
    by_cases g:j=m
    ·subst g;exact⟨j-1,by omega,by rw[←hq.2];exact e⟩
    ·exact⟨j,by omega,e⟩
theorem KF(l:List Int):(ij l).Perm l:=List.mergeSort_perm _ _
theorem M6(l:List Int):(ij l).Pairwise (· ≤ ·):=by
 have tr: ∀a b c:Int,decide (a≤b)=true→decide (b≤c)=true→decide (a≤c)=true:=fun a b c h1 h2=>by simp only[decide_eq_true_eq] at*;omega
 have to: ∀a b:Int,(decide (a≤b)||decide (b≤a))=true:=fun a b=>by simp only[Bool.or_eq_true,decide_eq_true_eq];omega
 exact(List.pairwise_mergeSort tr to l).imp fun h=>by simpa using h
theorem FN(l:List Int):tL (jQ (ij l))∧ ∀y,y∈jQ (ij l)↔y∈l:=by
 have hd: ∀i,i+1<(ij l).toArray.size→(ij l).toArray[i]! ≤(ij l).toArray[i+1]! :=fun i hi=>by
  rw[getElem!_pos _ i (by omega),getElem!_pos _ (i+1) hi]
  simpa using List.pairwise_iff_getElem.1 (M6 l) i (i+1) (by simp at hi;omega) (by simpa using hi) (by omega)
 obtain⟨h1,h2,_⟩:=Hv hd (ij l).toArray.size (Nat.le_refl _)
 refine⟨h2,fun y=> ?_⟩
 unfold jQ;rw[h1,←(KF l).mem_iff,List.mem_iff_getElem]
 constructor
 ·rintro⟨j,hj,e⟩
  refine⟨j,by simpa using hj,?_⟩
  rw[getElem!_pos _ j hj] at e;simpa using e
 ·rintro⟨j,hj,e⟩
  refine⟨j,by simpa using hj,?_⟩
  rw[getElem!_pos _ j (by simpa using hj)];simpa using e
def gV(l:List Cv):List Int:=(l.filter fun v=>dM v.ka v.kb v.kc==3||dM v.ka v.kb v.kc==4).map (·.kb)
theorem vP(l:List Cv)(x:Cv):gV (l++[x])=gV l++(if(dM x.ka x.kb x.kc==3||dM x.ka x.kb x.kc==4)=true then[x.kb] else[]):=by
 unfold gV;rw[List.filter_append,List.map_append];by_cases h:(dM x.ka x.kb x.kc==3||dM x.ka x.kb x.kc==4)=true<;>simp[h]
theorem FO(l:List Cv):(gV l).length≤l.length:=by unfold gV;rw[List.length_map];exact List.length_filter_le _ _
def jj(l:List Cv):List Int:=jQ (ij (gV l))
theorem O4(l:List Cv):(jj l).length≤l.length:=Nat.le_trans (FG _) (by rw[vO];exact FO l)
theorem M7(al:Option Addr)(l:List Cv)(cl:Nat)(hl:l.length≤1000)(w:World)(r0:ez w al (V.dJ eo l))(hs:HI w []):
  CV 177 #[vS al l cl] w [] (fun((al',cl'):(Option Addr)×Nat)=>(vS al' (jj l) cl')) (fun _=>True) fun(al',cl')=>[sU al' (jj l) cl']:=by
 refine A.C Tryz.func177 rfl hs (A.c (A.g [.p] [] [] (A.c (A.g [.p] [] [(3,e_)] (A.d (A.c (A.g [.p,.p,.p] [0] [(7,vS al l cl),(8,c_ l.length),(9,i_ 0)] (A.y (A.aP 40 1 [sU none ([]:List Int) 0] rfl (A.su 0 (sU none (gV (l.take 0)) 0) rfl (eI (by rfl:([]:List Int)=(gV (l.take 0)))) (A.D 3 (vS none (gV (l.take 0)) 0) (congrArg (fun z_:List Int=>some (Value.slice none z_.length 0)) (by rfl:([]:List Int)=(gV (l.take 0)))) (A.lp (σ:=Nat×(Option Addr)×Nat) [] (fun(k,ao,co)=>[(9,c_ k),(3,vS ao (gV (l.take k)) co)]) [0] (fun(k,ao,co)=>[sU ao (gV (l.take k)) co]) (fun(k,ao,co)=>(k≤l.length)) (fun(k,ao,co)=>l.length-k) (0,none,0) (by omega) ?_ ?_))))))))))))
 ·exact A.I [0]
 rintro⟨k,ao,co⟩ hk
 have hk:k≤l.length:=hk
 have hkl:(gV (l.take k)).length≤k:=Nat.le_trans (FO _) (by simp;omega)
 refine A.c (A.g [.p] [] [(10,b_ (decide ((k:Int)<(l.length:Int))))] (A.d (A.v rfl (fun e1=> ?_) (fun e1=> ?_))))
 ·have p1:=of_decide_eq_true e1
  refine A.p (A.d (A.y (A.c (A.kp [.ix] [10] [(11,.pointer (some ((dV al).add (k*3))))] [] (o1 (io (k:Int) (gi nr (by decide) (ef r0 (by simp[dG])) (by omega)))) ?_))))
  obtain⟨x2,hx2⟩: ∃x,(l)[k]? =some x:=⟨_,List.getElem?_eq_getElem (by omega)⟩
  refine A.no [.rd (eo x2),.al,.st 1] [11] (fun b3=>[(5,p_ b3)]) (fun b3=>[]) (fun b3=>cz b3 (eo x2) 60) (fun b3=>[b3]) (fun b3=>o1 (ro ((dV al).add (k*3)) (fY (vs:=(eo x2)) nr (ef r0 (by simp[dG])) hx2 (Nat.le_of_ble_eq_true rfl) rfl))) ?_
  intro b3
  refine A.c (A.k [.ld 1,.cq (i_ (dM x2.ka x2.kb x2.kc)),.p] [] [(6,i_ (dM x2.ka x2.kb x2.kc))] [b3] (o1 (qo (fun ww ss=>ow x2.ka x2.kb x2.kc ww))) (A.c (A.g [.p,.p,.p,.o,.p,.p,.cl] [6] [(20,b_ (((dM x2.ka x2.kb x2.kc)==3)||((dM x2.ka x2.kb x2.kc)==4)))] (A.v rfl (fun e2=> ?_) (fun e2=> ?_)))))
  ·refine A.s (A.gm [.p,.p,.ld 1] [5,20] [(21,vS ao (gV (l.take k)) co),(23,u_ x2.kb)] [b3] (A.j (A.aF 24 (e:=40) [u_ x2.kb] (by kernel_rfl) rfl (fun _=>by kernel_rfl) _ (fun _=>rfl) ?_)))
   intro b4
   refine A.j (A.ap u9 (gV (l.take k)) ([x2.kb]) 0 25 (u_ 0) 8 dK MS (gZ (i:=2) rfl) (by simp;omega) ?_)
   intro A5 c5
   refine A.g [.p] [21,23,24,25] [(3,vS A5 ((gV (l.take k))++([x2.kb])) c5)] (A.s (A.k [.w ((k:Int)+1),.p] [] [(9,i_ ((k:Int)+1))] [] (o1 (wj ((k:Int)+1) (by omega))) (A.su 0 (sU A5 (gV (l.take (k+1))) c5) rfl (eI (by(rw[nF ‹_›,vP];simp_all;done):(gV (l.take k))++([x2.kb])=(gV (l.take (k+1))))) (A.D 3 (vS A5 (gV (l.take (k+1))) c5) (fJ (by(rw[nF ‹_›,vP];simp_all;done))) (A.aA (k+1,A5,c5) (by omega) (by(simp;omega)) ?_)))))
   exact A.I [0]
  have p2:=e2
  refine A.p (A.s (A.k [.w ((k:Int)+1),.p] [5,20] [(9,i_ ((k:Int)+1))] [] (o1 (wj ((k:Int)+1) (by omega))) (A.su 0 (sU ao (gV (l.take (k+1))) co) rfl (eI (by(rw[nF ‹_›,vP];simp_all;done):(gV (l.take k))=(gV (l.take (k+1))))) (A.D 3 (vS ao (gV (l.take (k+1))) co) (fJ (by(rw[nF ‹_›,vP];simp_all;done))) (A.aA (k+1,ao,co) (by omega) (by(simp;omega)) ?_)))))
  exact A.I [0]
 have p1:=of_decide_eq_false e1
 refine A.aB (A.c (A.O [.p] [7,8,9,10] [(27,vS ao (gV (l.take k)) co)] (A.j (A.J (some 28) [0] (fun ww ss hh=>KD ao (gV (l.take k)) co (by omega) ww hh) ?_))))
 rintro⟨⟩-
 refine A.D 3 (vS ao (ij (gV (l.take k))) co) (dm (by simp[vO])) (A.D 27 (vS ao (ij (gV (l.take k))) co) (dm (by simp[vO])) (A.aC (A.c (A.O [.p] [3,27,28] [(29,vS ao (ij (gV (l.take k))) co)] (A.j (A.J (some 30) [0] (fun ww ss hh=>Jg ao (ij (gV (l.take k))) co (by(rw[vO];omega)) ww hh) ?_))))))
 rintro⟨⟩-
 refine A.g [.p] [29,30] [(2,vS ao (jQ (ij (gV (l.take k)))) co)] (A.e (A.su 0 (sU ao (jj l) co) rfl (eI (by(rw[show k=l.length by omega,List.take_length];rfl):(jQ (ij (gV (l.take k))))=(jj l))) (A.Y [0] [vS ao (jQ (ij (gV (l.take k)))) co] (ao,co) ?_ ?_)))
 ·rw[show k=l.length by omega,List.take_length];rfl
 trivial
def u3(v:Cv):Bool:=dM v.ka v.kb v.kc==0
def ju(t:Int)(l:List Cv):Int:=if t<1∨t>65536 then 1 else if l.any u3=true then 21 else 0
def JB(l:List Cv)(t k:Int):Bool:=decide (eU l k*t>65536*k)
def iu(t:Int)(l:List Cv):Int×Bool:=if ju t l≠0 then(0,false) else match(jj l).find? (JB l t) with
 |some k=>(k,true)
 |none=>(0,decide (eM false l*t>65536*1))
def kh(t:Int)(l:List Cv):Int:=if ju t l≠0 then ju t l else if(iu t l).2=true then 22 else 0
variable{t:Int}
theorem xj{x X:Int}(hx:0≤x∧x≤X)(ht:1≤t∧t≤65536):0≤x*t∧x*t≤X*65536:=Bg hx (by omega)
variable{l:List Cv}{f:Cv→Bool}{k:Nat}
theorem Of{i:Cv}(h:l[k]? =some i)(hf:f i=true):l.any f=true:=List.any_eq_true.2 ⟨i,List.mem_of_getElem? h,hf⟩
theorem Gm(hn: ∀x∈l.take k,f x=false)(hk:l.length≤k):l.any f=false:=by
 rw[List.take_of_length_le hk] at hn;rw[List.any_eq_false];intro x hx;simp[hn x hx]
theorem Og{i:Cv}(hn: ∀x∈l.take k,f x=false)(h:l[k]? =some i)(hf:f i=false): ∀x∈l.take (k+1),f x=false:=by
 rw[nF h];intro x hx;rcases List.mem_append.1 hx with hx|hx
 ·exact hn x hx
 ·simp at hx;rw[hx];exact hf
variable{l:List Int}{f:Int→Bool}
theorem Oh{i:Int}(hn: ∀x∈l.take k,f x=false)(h:l[k]? =some i)(hf:f i=false): ∀x∈l.take (k+1),f x=false:=by
 rw[nF h];intro x hx;rcases List.mem_append.1 hx with hx|hx
 ·exact hn x hx
 ·simp at hx;rw[hx];exact hf
theorem ND{x:Int}(hn: ∀x∈l.take k,f x=false)(h:l[k]? =some x)(hf:f x=true):l.find? f=some x:=by
 have hlt:=(List.getElem?_eq_some_iff.1 h).1
 have e:l=l.take k++x::l.drop (k+1):=by
  have:=List.getElem?_eq_some_iff.1 h
  rw[←this.2,List.getElem_cons_drop,List.take_append_drop]
 rw[List.find?_eq_some_iff_append]
 exact⟨hf,_,_,e,fun y hy=>by simp[hn y hy]⟩
theorem FW(hn: ∀x∈l.take k,f x=false)(hk:l.length≤k):l.find? f=none:=by
 rw[List.take_of_length_le hk] at hn;rw[List.find?_eq_none];intro x hx;simp[hn x hx]
variable{l:List Cv}
theorem RU(h:ju t l=0):(1≤t∧t≤65536)∧ ∀v∈l,dM v.ka v.kb v.kc≠0:=by
 unfold ju at h;split at h
 ·omega
 ·split at h
  ·omega
  ·rename_i h1 h2
   refine⟨by omega,fun v hv e=>h2 (List.any_eq_true.2 ⟨v,hv,by unfold u3;rw[e];rfl⟩)⟩
theorem NF(hR: ∀v∈l,kn v): ∀y∈jj l,0≤y∧y<18446744073709551616:=fun y hy=>by
 have h:=((FN (gV l)).2 y).1 hy
 unfold gV at h
 obtain⟨v,hv,rfl⟩:=List.mem_map.1 h
 exact(kg (hR v (List.mem_filter.1 hv).1)).2.1
theorem EU(t:Int)(al:Option Addr)(l:List Cv)(cl:Nat)(hl:l.length≤1000)(w:World)(r0:ez w al (V.dJ eo l)):
  CW 136 #[i_ t,vS al l cl] w (i_ (ju t l)):=by
 refine A.C Tryz.func136 rfl (HS.nil w) (A.c (A.g [.p] [] [] (A.d (A.y (A.c (A.g [.p,.p,.p,.o,.p,.p,.cl,.p] [0] [(5,b_ ((decide (t<1))||(decide (t>65536))))] (A.v rfl (fun e1=> ?_) (fun e1=> ?_))))))))
 ·have p1:=e1;try simp only[de] at p1
  refine A.c (A.g [.p] [1,5] [(4,i_ 1)] (A.e (A.N [i_ 1] ?_)))
  refine congrArg (Value.int .i64) ?_;unfold ju;(rw[if_pos (by omega)];done)
 have p1:=e1;try simp only[de] at p1
 refine A.c (A.O [.p] [1,5] [(13,vS al l cl)] (A.j (A.iX (some 14) [vS al l cl,.func (.func 175) #[] #[]] Tryz.func174 rfl (A.c (A.g [.p] [] [] (A.c (A.O [.p,.p] [0,1] [(5,vS al l cl),(6,.func (.func 175) #[] #[])] (A.j (A.iX (some 7) [vS al l cl,.func (.func 175) #[] #[]] Tryz.func226 rfl (A.c (A.g [.p] [] [] (A.d (A.c (A.g [.p,.p,.p] [] [(7,c_ l.length),(8,i_ 0)] (A.y (A.lp (σ:=Nat) [] (fun k=>[(8,c_ k)]) [] (fun k=>[]) (fun k=>(k≤l.length)∧(∀x∈l.take k,u3 x=false)) (fun k=>l.length-k) (0:Nat) ⟨(by omega),(by simp)⟩ ?_ ?_))))))))))))))))
 ·exact A.I []
 rintro k ⟨hk,hn⟩
 refine A.c (A.g [.p] [] [(9,b_ (decide ((k:Int)<(l.length:Int))))] (A.d (A.v rfl (fun e2=> ?_) (fun e2=> ?_))))
 ·have p2:=of_decide_eq_true e2
  refine A.p (A.d (A.y (A.c (A.g [.p,.p] [9] [(5,c_ k)] (A.c (A.kp [.p,.p,.p,.ix] [] [(11,.func (.func 175) #[] #[]),(14,.pointer (some ((dV al).add (k*3))))] [] (o1 (io (k:Int) (gi nr (by decide) (ef r0 (by simp[dG])) (by omega)))) ?_))))))
  obtain⟨x1,hx1⟩: ∃x,(l)[k]? =some x:=⟨_,List.getElem?_eq_getElem (by omega)⟩
  refine A.kp [.rd (eo x1)] [14] [(15,.agg (eo x1).toArray)] [] (o1 (ro ((dV al).add (k*3)) (fY (vs:=(eo x1)) nr (ef r0 (by simp[dG])) hx1 (Nat.le_of_ble_eq_true rfl) rfl))) (A.j (A.iX (some 16) [.agg (eo x1).toArray] Tryz.func175 rfl (A.c (A.n1 [.al,.p] [0] (fun b2=>[(1,p_ b2)]) (fun b2=>cz b2 (eo x1) 60) ?_))))
  intro b2
  refine A.c (A.k [.ld 0,.cq (b_ (dM x1.ka x1.kb x1.kc !=0)),.p,.p] [1] [(2,b_ (!(dM x1.ka x1.kb x1.kc !=0)))] [b2] (o1 (qo (fun ww ss=>qF x1.ka x1.kb x1.kc ww))) (A.e (A.pb [b_ (!(dM x1.ka x1.kb x1.kc !=0))] (A.aM [] (sd [0]) (A.aC (A.cn (!(dM x1.ka x1.kb x1.kc !=0)) (fun e3=> ?_) (fun e3=> ?_)))))))
  ·have p3:=e3;try simp only[de] at p3
   refine A.c (A.h [.p,.p] [(4,c_ k)] [] (A.e (A.pb [c_ k] (A.h [.p,.p] [(4,b_ (decide ((k:Int)≥0)))] [] (A.e (A.pb [b_ (decide ((k:Int)≥0))] (A.h [.p] [(12,b_ (decide ((k:Int)≥0)))] [] (A.v rfl (fun e4=> ?_) (fun e4=> ?_)))))))))
   ·have p4:=of_decide_eq_true e4
    refine A.c (A.g [.p] [12] [(4,i_ 21)] (A.e (A.N [i_ 21] ?_)))
    refine congrArg (Value.int .i64) ?_;unfold ju;(rw[if_neg (by omega),if_pos (Of ‹_› (by unfold u3;simp_all))];done)
   have p4:=of_decide_eq_false e4
   refine A.p (A.c (A.g [.p] [12] [(4,i_ 0)] (A.e (A.N [i_ 0] ?_))))
   refine congrArg (Value.int .i64) ?_;unfold ju;(rw[if_neg (by omega),if_neg (by rw[Gm hn (by omega)];decide)];done)
  have p3:=e3;try simp only[de] at p3
  refine A.p (A.s (A.hk [.w ((k:Int)+1),.p] [(0,vS al l cl),(1,.func (.func 175) #[] #[]),(7,c_ l.length),(8,i_ ((k:Int)+1))] [] (o1 (wj ((k:Int)+1) (by omega))) (A.aA (k+1) ⟨(by omega),(by exact Og hn ‹_› (by unfold u3;simp_all))⟩ (by omega) ?_)))
  exact A.I []
 have p2:=of_decide_eq_false e2
 refine A.aB (A.c (A.g [.p] [0,1,7,8,9] [(4,i_ (-1))] (A.e (A.pb [i_ (-1)] (A.h [.p,.p] [(4,b_ false)] [] (A.e (A.pb [b_ false] ?_)))))))
 refine A.h [.p] [(12,b_ false)] [] (A.Z (A.p (A.c (A.g [.p] [12] [(4,i_ 0)] (A.e (A.N [i_ 0] ?_))))))
 refine congrArg (Value.int .i64) ?_;unfold ju;(rw[if_neg (by omega),if_neg (by rw[Gm hn (by omega)];decide)];done)
theorem Jk(v t:Int)(hv:0≤v∧v<iF)(ht:1≤t∧t≤65536)(hp:v*t<iF)(w:World):
  CW 230 #[.agg #[u_ (nH v),u_ (nL v)],i_ t] w (.agg #[u_ (nH (v*t)),u_ (nL (v*t))]):=by
 have h1_:=B5 hv;have h2_:=B6 v;have p0:0≤v*t:=Int.mul_nonneg hv.1 (by omega);have p1:=xj (x:=nL v) (t:=t) (X:=18446744073709551615) (by omega) ht;have p2:=xj (x:=nH v) (t:=t) (X:=18446744073709551615) (by omega) ht
 have e0:v*t=nH v*t*18446744073709551616+nL v*t:=(by have e_:v=nH v*18446744073709551616+nL v:=(by unfold nH nL;omega);conv=>lhs;rw[e_,Int.add_mul,Int.mul_right_comm])
 refine A.C Tryz.func230 rfl (HS.nil w) (A.c (A.n2 [.al,.al] [0] (fun b1 b2=>[(2,p_ b1),(4,p_ b2)]) (fun b1 b2=>[cz b1 [u_ (nH v),u_ (nL v)] 213,cz b2 [u_ 0,u_ 0] 213]) ?_))
 intro b1 b2
 refine A.c (A.no [.p,.ld 0,.p,.w t,.cq (.agg #[u_ (nH ((nL v)*t)),u_ (nL ((nL v)*t))]),.al,.st 2] [] (fun b3=>[(5,p_ b3)]) (fun b3=>[]) (fun b3=>cz b3 [u_ (nH ((nL v)*t)),u_ (nL ((nL v)*t))] 213) (fun b3=>[b1,b3]) (fun b3=>oc (wv t (by omega)) (o1 (qo (fun ww ss=>vQ (nL v) t ‹_› (by omega) ww)))) ?_)
 intro b3
 refine A.c (A.ks [.p,.ld 2,.p,.ld 0,.p,.w t,.w ((nH v)*t),.w ((nH ((nL v)*t))+((nH v)*t)),.p,.st 2] [1,2] [] [(2,cz b3 [u_ ((nH ((nL v)*t))+((nH v)*t)),u_ (nL ((nL v)*t))] 213)] [b3,b1,b3] (oc (wv t (by omega)) (oc (wo (wrap_u64 (e:=(nH v)*t) (by unfold iF at hp;constructor<;>omega))) (o1 (wo (wrap_u64 (e:=(nH ((nL v)*t))+((nH v)*t)) (by(have q_:nH (nL v*t)=nL v*t/18446744073709551616:=rfl);unfold iF at hp;constructor<;>omega)))))) (A.c (A.gs [.ld 2,.st 1] [5] [] [(1,cz b2 [u_ ((nH ((nL v)*t))+((nH v)*t)),u_ (nL ((nL v)*t))] 213)] [b3,b2] (A.e (A.pc 1 [u_ ((nH ((nL v)*t))+((nH v)*t)),u_ (nL ((nL v)*t))] ?_)))))
 show((.agg #[u_ ((nH ((nL v)*t))+((nH v)*t)),u_ (nL ((nL v)*t))]):Value)=(.agg #[u_ (nH (v*t)),u_ (nL (v*t))])
 have q1_:nL (nL v*t)=nL (v*t):=(by unfold nL at*;omega);have q2_:nH (nL v*t)+nH v*t=nH (v*t):=(by unfold nH at*;omega);rw[q1_,q2_]
theorem yJ(v t k:Int)(hv:0≤v∧v<iF)(ht:1≤t∧t≤65536)(hp:v*t<iF)(hk:0≤k∧k<18446744073709551616)(w:World):
  CW 180 #[.agg #[u_ (nH v),u_ (nL v)],i_ t,u_ k] w (b_ (decide (v*t>65536*k))):=by
 have p0:0≤v*t:=Int.mul_nonneg hv.1 (by omega)
 refine A.C Tryz.func180 rfl (HS.nil w) (A.c (A.n1 [.al,.p] [0] (fun b1=>[(3,p_ b1)]) (fun b1=>cz b1 [u_ (nH v),u_ (nL v)] 213) ?_))
 intro b1
 refine A.c (A.k [.ld 0,.p,.cq (.agg #[u_ (nH (v*t)),u_ (nL (v*t))]),.p,.cq (.agg #[u_ (nH (65536*k)),u_ (nL (65536*k))]),.cq (i_ (pn (v*t) (65536*k))),.p,.p] [1,2,3] [(6,b_ (decide ((pn (v*t) (65536*k))>0)))] [b1] (oc (qo (fun ww ss=>Jk v t ‹_› ‹_› ‹_› ww)) (oc (qo (fun ww ss=>vQ 65536 k (by omega) ‹_› ww)) (o1 (qo (fun ww ss=>LK (v*t) (65536*k) (by omega) (by(unfold iF;omega)) ww))))) (A.e (A.N [b_ (decide ((pn (v*t) (65536*k))>0))] ?_)))
 refine congrArg Value.bool ?_;rw[Bool.eq_iff_iff];simp only[decide_eq_true_eq];unfold pn;split<;>(try split)<;>omega
abbrev yn(p0)(p1)(p2):=(b_ (decide ((eU p0 p1)*p2>65536*p1)):Value)
theorem Jl(k:Int)(bl bt:Nat)(al:Option Addr)(l:List Cv)(cl:Nat)(t:Int)(hl:l.length≤1000)(hR: ∀v∈l,kn v)(ht:1≤t∧t≤65536)(hk:0≤k∧k<18446744073709551616)(w:World)(r0:(cz bl [vS al l cl] 125).holds w)(r1:(cz bt [i_ t] 3).holds w)(r2:ez w al (V.dJ eo l)):
  CW 179 #[u_ k,p_ bl,p_ bt] w (b_ (decide (eU l k*t>65536*k))):=by
 refine A.C Tryz.func179 rfl (HS.nil w) (A.c (A.g [.p] [] [] (A.d (A.ka [.rd [vS al l cl],.p,.cq (.agg #[u_ (nH (eU l k)),u_ (nL (eU l k))]),.rd [i_ t],.p,.cq (yn l k t),.p] [0,1,2,3,4,5,6] [0,1,2] [(4,yn l k t)] [] (oc (ro ⟨bl,0,none⟩ (vs:=[vS al l cl]) (dj r0 rfl)) (oc (qo (fun ww ss=>M4 al l cl k ‹_› ‹_› ‹_› ww ((ef r2 (by simp[dG])) ww ss))) (oc (ro ⟨bt,0,none⟩ (vs:=[i_ t]) (dj r1 rfl)) (o1 (qo (fun ww ss=>yJ (eU l k) t k (by(have h_:=ru hR hk hl;unfold iF;omega)) ‹_› (by(have h_:=xj (ru hR hk hl) ht;unfold iF;omega)) ‹_› ww)))))) (A.e (A.N [yn l k t] ?_))))))
 rfl
theorem KI(t:Int)(al:Option Addr)(l:List Cv)(cl:Nat)(hl:l.length≤1000)(hR: ∀v∈l,kn v)(w:World)(r0:ez w al (V.dJ eo l)):
  CW 137 #[i_ t,vS al l cl] w (.tuple #[u_ ((iu t l).1),b_ ((iu t l).2)]):=by
 refine A.C Tryz.func137 rfl (HS.nil w) (A.c (A.n2 [.al,.al,.p,.p] [0,1] (fun b1 b2=>[(2,p_ b1),(3,p_ b2)]) (fun b1 b2=>[cz b1 [i_ t] 3,cz b2 [vS al l cl] 125]) ?_))
 intro b1 b2
 refine A.d (A.c (A.k [.ld 0,.ld 1,.cq (i_ (ju t l)),.p] [] [(11,b_ ((ju t l)!=0))] [b1,b2] (o1 (qo (fun ww ss=>EU t al l cl ‹_› ww ((ef r0 (by simp[dG])) ww ss)))) (A.v rfl (fun e1=> ?_) (fun e1=> ?_))))
 ·have p1:=e1;try simp only[de] at p1
  refine A.c (A.g [.p,.p] [2,3,11] [(4,u_ 0),(5,b_ false)] (A.e (?_)))
  have hF_:iu t l=(0,false):=(by unfold iu;(rw[if_pos ‹_›];done))
  refine A.N [u_ 0,b_ false] ?_
  show((.tuple #[u_ 0,b_ false]):Value)=(.tuple #[u_ ((iu t l).1),b_ ((iu t l).2)])
  rw[hF_]
 have p1:=e1;try simp only[de] at p1
 refine A.p (A.d ?_)
 obtain⟨ht,hok⟩:=RU ‹_›
 refine A.s (A.gm [.ld 1] [11] [(12,vS al l cl)] [b2] (A.j (A.J (some 13) [] (fun ww ss hh=>M7 al l cl ‹_› ww ((ef r0 (by simp[dG])) ww ss) hh) ?_)))
 rintro⟨al'3,cl'4⟩-
 refine A.g [.p] [12,13] [(6,vS al'3 (jj l) cl'4)] (A.c (A.O [.p,.p] [] [(14,vS al'3 (jj l) cl'4),(15,.func (.func 179) #[] #[p_ b2,p_ b1])] (A.j (A.iX (some 16) [vS al'3 (jj l) cl'4,.func (.func 179) #[] #[p_ b2,p_ b1]] Tryz.func178 rfl (A.c (A.g [.p] [] [] (A.d (A.c (A.g [.p,.p,.p] [] [(7,i_ ((jj l).length:Int)),(8,i_ 0)] (A.y (A.lp (σ:=Nat) [] (fun k=>[(8,c_ k)]) [] (fun k=>[]) (fun k=>(k≤(jj l).length)∧(∀x∈(jj l).take k,JB l t x=false)) (fun k=>(jj l).length-k) (0:Nat) ⟨(by omega),(by simp)⟩ ?_ ?_)))))))))))
 ·exact A.I [0,0,0]
 rintro k ⟨hk,hn⟩
 have hkn:=O4 l
 refine A.c (A.g [.p] [] [(9,b_ (decide ((k:Int)<((jj l).length:Int))))] (A.d (A.v rfl (fun e3=> ?_) (fun e3=> ?_))))
 ·have p3:=of_decide_eq_true e3
  refine A.p (A.d (A.y (A.c (A.g [.p,.p] [9] [(5,c_ k)] (A.c (A.kp [.p,.p,.p,.ix] [] [(11,.func (.func 179) #[] #[p_ b2,p_ b1]),(14,.pointer (some ((dV al'3).add (k*1))))] [] (o1 (dY 0 k dK rfl (by omega))) ?_))))))
  obtain⟨x6,hx6⟩: ∃x,((jj l))[k]? =some x:=⟨_,List.getElem?_eq_getElem (by omega)⟩
  refine A.k [.rd [u_ x6],.cq (b_ (decide (eU l x6*t>65536*x6)))] [11,14] [(16,b_ (decide (eU l x6*t>65536*x6)))] [] (oc (ro ((dV al'3).add (k*1)) (fY (vs:=[u_ x6]) dK (fa (i:=0) rfl) hx6 (Nat.le_of_ble_eq_true rfl) rfl)) (o1 (qo (fun ww ss=>Jl x6 b2 b1 al l cl t ‹_› ‹_› ‹_› (NF hR _ (List.mem_of_getElem? ‹_›)) ww (ss.mem (i:=2) rfl) (ss.mem (i:=1) rfl) ((ef r0 (by simp[dG])) ww ss))))) (A.v rfl (fun e4=> ?_) (fun e4=> ?_))
  ·have p4:=of_decide_eq_true e4
   refine A.c (A.g [.p,.p] [0,1,7,8,5,16] [(4,c_ k)] (A.e (A.pb [c_ k] (A.h [.p] [(2,p_ b1),(3,p_ b2),(6,vS al'3 (jj l) cl'4),(7,c_ k)] [] (A.d (A.c (A.g [.p,.p] [] [(18,b_ (decide ((k:Int)≥0)))] (A.v rfl (fun e5=> ?_) (fun e5=> ?_)))))))))
   ·have p5:=of_decide_eq_true e5
    refine A.c (A.k [.p,.p,.ix,.rd [u_ x6],.p,.p] [2,3,6,7,18] [(4,u_ x6),(5,b_ true)] [] (oc (dY 0 k dK rfl (by omega)) (o1 (ro ((dV al'3).add (k*1)) (fY (vs:=[u_ x6]) dK (fa (i:=0) rfl) hx6 (Nat.le_of_ble_eq_true rfl) rfl)))) (A.e (?_)))
    have hF_:iu t l=(x6,true):=(by unfold iu;(rw[if_neg (by omega),ND hn ‹_› ‹_›];done))
    refine A.N [u_ x6,b_ true] ?_
    show((.tuple #[u_ x6,b_ true]):Value)=(.tuple #[u_ ((iu t l).1),b_ ((iu t l).2)])
    rw[hF_]
   have p5:=of_decide_eq_false e5
   refine A.p (A.d (A.ka [.ld 2,.cq (.agg #[u_ (nH (eM false l)),u_ (nL (eM false l))]),.ld 1,.cq (b_ (decide ((eM false l)*t>65536*1))),.p,.p] [0,1,2,3,4,5] [2,3,6,7,18] [(4,u_ 0),(5,b_ (decide ((eM false l)*t>65536*1)))] [b2,b1] (oc (qo (fun ww ss=>FM al l cl ‹_› ‹_› ww ((ef r0 (by simp[dG])) ww ss))) (o1 (qo (fun ww ss=>yJ (eM false l) t 1 (by omega) ‹_› (by omega) (by omega) ww)))) (A.e ?_)))
   have hF_:iu t l=(0,decide ((eM false l)*t>65536*1)):=(by unfold iu;(rw[if_neg (by omega),FW hn (by omega)];done))
   refine A.N [u_ 0,b_ (decide ((eM false l)*t>65536*1))] ?_
   show((.tuple #[u_ 0,b_ (decide ((eM false l)*t>65536*1))]):Value)=(.tuple #[u_ ((iu t l).1),b_ ((iu t l).2)])
   rw[hF_]
  have p4:=of_decide_eq_false e4
  refine A.p (A.s (A.k [.w ((k:Int)+1),.p] [5,16] [(8,i_ ((k:Int)+1))] [] (o1 (wj ((k:Int)+1) (by omega))) (A.aA (k+1) ⟨(by omega),(Oh hn ‹_› ‹_›)⟩ (by omega) ?_)))
  exact A.I [0,0,0]
 have p3:=of_decide_eq_false e3
 refine A.aB (A.c (A.g [.p] [0,1,7,8,9] [(4,i_ (-1))] (A.e (A.pb [i_ (-1)] (A.h [.p] [(2,p_ b1),(3,p_ b2),(6,vS al'3 (jj l) cl'4),(7,i_ (-1))] [] (A.d (A.c (A.g [.p,.p] [] [(18,b_ false)] (A.Z (A.p (A.d (A.ka [.ld 2,.cq (.agg #[u_ (nH (eM false l)),u_ (nL (eM false l))]),.ld 1,.cq (b_ (decide ((eM false l)*t>65536*1))),.p,.p] [0,1,2,3,4,5] [2,3,6,7,18] [(4,u_ 0),(5,b_ (decide ((eM false l)*t>65536*1)))] [b2,b1] (oc (qo (fun ww ss=>FM al l cl ‹_› ‹_› ww ((ef r0 (by simp[dG])) ww ss))) (o1 (qo (fun ww ss=>yJ (eM false l) t 1 (by(have h_:=rT (st:=false) hR hl;unfold iF;omega)) ‹_› (by(have h_:=xj (rT (st:=false) hR hl) ht;unfold iF;omega)) (by omega) ww)))) (A.e ?_)))))))))))))
 have hF_:iu t l=(0,decide ((eM false l)*t>65536*1)):=(by unfold iu;(rw[if_neg (by omega),FW hn (by omega)];done))
 refine A.N [u_ 0,b_ (decide ((eM false l)*t>65536*1))] ?_
 show((.tuple #[u_ 0,b_ (decide ((eM false l)*t>65536*1))]):Value)=(.tuple #[u_ ((iu t l).1),b_ ((iu t l).2)])
 rw[hF_]
theorem Dc(t:Int)(al:Option Addr)(l:List Cv)(cl:Nat)(hl:l.length≤1000)(hR: ∀v∈l,kn v)(w:World)(r0:ez w al (V.dJ eo l)):
  CW 93 #[i_ t,vS al l cl] w (i_ (kh t l)):=by
 refine A.C Tryz.func93 rfl (HS.nil w) (A.c (A.g [.p] [] [] (A.d (A.c (A.k [.p,.p,.cq (i_ (ju t l)),.p] [] [(5,i_ (ju t l))] [] (o1 (qo (fun ww ss=>EU t al l cl ‹_› ww ((ef r0 (by simp[dG])) ww ss)))) (A.c (A.g [.p,.p] [] [(12,b_ ((ju t l)!=0))] (A.v rfl (fun e1=> ?_) (fun e1=> ?_)))))))))
 ·have p1:=e1;try simp only[de] at p1
  refine A.c (A.g [.p,.p] [0,1,5,12] [(4,i_ (ju t l))] (A.e (A.N [i_ (ju t l)] ?_)))
  refine congrArg (Value.int .i64) ?_;unfold kh;(rw[if_pos ‹_›];done)
 have p1:=e1;try simp only[de] at p1
 refine A.p (A.d (A.c (A.k [.p,.p,.cq (.tuple #[u_ ((iu t l).1),b_ ((iu t l).2)]),.p,.p,.p,.p,.p] [0,1,5,12] [(7,b_ ((iu t l).2))] [] (o1 (qo (fun ww ss=>KI t al l cl ‹_› ‹_› ww ((ef r0 (by simp[dG])) ww ss)))) (A.c (A.g [.p] [7] [(20,b_ ((iu t l).2))] (A.v rfl (fun e2=> ?_) (fun e2=> ?_)))))))
 ·have p2:=e2
  refine A.c (A.g [.p] [20] [(4,i_ 22)] (A.e (A.N [i_ 22] ?_)))
  refine congrArg (Value.int .i64) ?_;unfold kh;(rw[if_neg (by omega),if_pos ‹_›];done)
 refine A.p (A.c (A.g [.p] [20] [(4,i_ 0)] (A.e (A.N [i_ 0] ?_))))
 refine congrArg (Value.int .i64) ?_;unfold kh;(rw[if_neg (by omega),if_neg (by simp_all)];done)
structure Zc where
 zk:Int
 zi:Int
 zp:Int
 zl:Bool
 ya:Int
 yb:Int
 yc:Int
 va:Int
 vb:Int
 vc:Int
 wa:Int
 wb:Int
 wc:Int
 zn:Int
 zq:Int
 deriving Inhabited,DecidableEq
def jL(x:Zc):List Value:=[(i_ x.zk),(i_ x.zi),(i_ x.zp),(b_ x.zl),(u_ x.ya),(u_ x.yb),(u_ x.yc),(u_ x.va),(u_ x.vb),(u_ x.vc),(u_ x.wa),(u_ x.wb),(u_ x.wc),(i_ x.zn),(i_ x.zq)]
theorem t7(x:Zc):(jL x).length=15:=rfl
def jD(x:Zc):Prop:=((-9223372036854775808)≤x.zk∧x.zk≤9223372036854775807)∧((-9223372036854775808)≤x.zi∧x.zi≤9223372036854775807)∧((-9223372036854775808)≤x.zp∧x.zp≤9223372036854775807)∧True∧(0≤x.ya∧x.ya≤18446744073709551615)∧(0≤x.yb∧x.yb≤18446744073709551615)∧(0≤x.yc∧x.yc≤18446744073709551615)∧(0≤x.va∧x.va≤18446744073709551615)∧(0≤x.vb∧x.vb≤18446744073709551615)∧(0≤x.vc∧x.vc≤18446744073709551615)∧(0≤x.wa∧x.wa≤18446744073709551615)∧(0≤x.wb∧x.wb≤18446744073709551615)∧(0≤x.wc∧x.wc≤18446744073709551615)∧((-9223372036854775808)≤x.zn∧x.zn≤9223372036854775807)∧((-9223372036854775808)≤x.zq∧x.zq≤9223372036854775807)
def Iz:List FK:=[.int .i64,.int .i64,.int .i64,.bool,.int .u64,.int .u64,.int .u64,.int .u64,.int .u64,.int .u64,.int .u64,.int .u64,.int .u64,.int .i64,.int .i64]
theorem RE(cs:List Value)(h:mN Iz cs): ∃x,cs=jL x∧jD x:=by
 unfold Iz at h
 obtain⟨v0,cs0,rfl,h0,g0⟩:=gW h
 obtain⟨a0,rfl,r0⟩:=nM h0
 obtain⟨v1,cs1,rfl,h1,g1⟩:=gW g0
 obtain⟨a1,rfl,r1⟩:=nM h1
 obtain⟨v2,cs2,rfl,h2,g2⟩:=gW g1
 obtain⟨a2,rfl,r2⟩:=nM h2
 obtain⟨v3,cs3,rfl,h3,g3⟩:=gW g2
 obtain⟨a3,rfl⟩:=Lt h3
 obtain⟨v4,cs4,rfl,h4,g4⟩:=gW g3
 obtain⟨a4,rfl,r4⟩:=m8 h4
 obtain⟨v5,cs5,rfl,h5,g5⟩:=gW g4
 obtain⟨a5,rfl,r5⟩:=m8 h5
 obtain⟨v6,cs6,rfl,h6,g6⟩:=gW g5
 obtain⟨a6,rfl,r6⟩:=m8 h6
 obtain⟨v7,cs7,rfl,h7,g7⟩:=gW g6
 obtain⟨a7,rfl,r7⟩:=m8 h7
 obtain⟨v8,cs8,rfl,h8,g8⟩:=gW g7
 obtain⟨a8,rfl,r8⟩:=m8 h8
 obtain⟨v9,cs9,rfl,h9,g9⟩:=gW g8
 obtain⟨a9,rfl,r9⟩:=m8 h9
 obtain⟨v10,cs10,rfl,h10,g10⟩:=gW g9
 obtain⟨a10,rfl,r10⟩:=m8 h10
 obtain⟨v11,cs11,rfl,h11,g11⟩:=gW g10
 obtain⟨a11,rfl,r11⟩:=m8 h11
 obtain⟨v12,cs12,rfl,h12,g12⟩:=gW g11
 obtain⟨a12,rfl,r12⟩:=m8 h12
 obtain⟨v13,cs13,rfl,h13,g13⟩:=gW g12
 obtain⟨a13,rfl,r13⟩:=nM h13
 obtain⟨v14,cs14,rfl,h14,g14⟩:=gW g13
 obtain⟨a14,rfl,r14⟩:=nM h14
 obtain rfl:=rK g14
 exact⟨⟨a0,a1,a2,a3,a4,a5,a6,a7,a8,a9,a10,a11,a12,a13,a14⟩,rfl,r0,r1,r2,trivial,r4,r5,r6,r7,r8,r9,r10,r11,r12,r13,r14⟩
def uo(z:Zc):Cl:=⟨z.zi,z.zp,z.zl,z.ya,z.yb,z.yc,z.va,z.vb,z.vc,z.wa,z.wb,z.wc,z.zn,z.zq⟩
def hQ(kv:List (Int×Cl))(z:Zc):Int:=if z.zk=1 then iY kv (uo z) else if z.zk=3 then iZ kv (uo z) else if z.zk=2 then j8 kv z.zi else 1
def jG(kv:List (Int×Cl))(z:Zc):List (Int×Cl):=if z.zk=1 then lV kv (uo z) else if z.zk=3 then lK kv (uo z) else if z.zk=2 then o0 kv z.zi else kv
def jm(kv:List (Int×Cl)):List Zc→Int
 |[]=>0
 |z::l=>if hQ kv z≠0 then hQ kv z else jm (jG kv z) l
def tM(kv:List (Int×Cl)):List Zc→Nat
 |[]=>0
 |z::l=>if hQ kv z≠0 then 0 else tM (jG kv z) l+1
def dq(kv:List (Int×Cl)):List Zc→List (Int×Cl)
 |[]=>kv
 |z::l=>dq (jG kv z) l
theorem FQ(z:Zc): ∀(l:List Zc)(kv:List (Int×Cl)),dq kv (l++[z])=jG (dq kv l) z
 |[],kv=>rfl
 |y::l,kv=>FQ z l (jG kv y)
theorem FR(z:Zc): ∀(l:List Zc)(kv:List (Int×Cl)),jm kv l=0→jm kv (l++[z])=hQ (dq kv l) z
 |[],kv,_=>by show(if hQ kv z≠0 then hQ kv z else 0)=hQ kv z;split<;>simp_all
 |y::l,kv,h=>by
  unfold jm at h;split at h
  ·exact absurd h ‹_›
  ·rename_i h1;show(if hQ kv y≠0 then hQ kv y else jm (jG kv y) (l++[z]))=_;rw[if_neg h1];exact FR z l (jG kv y) h
theorem CB: ∀{l:List Zc}{kv:List (Int×Cl)}{k:Nat}{z:Zc},l[k]? =some z→jm kv (l.take k)=0→hQ (dq kv (l.take k)) z≠0→jm kv l=hQ (dq kv (l.take k)) z∧tM kv l=k
 |[],kv,k,z,h,_,_=>by simp at h
 |y::l,kv,0,z,h,h0,h1=>by
  simp at h;subst h;simp only[List.take_zero,dq] at h1⊢;unfold jm tM;rw[if_pos h1,if_pos h1];exact⟨rfl,rfl⟩
 |y::l,kv,k+1,z,h,h0,h1=>by
  simp only[List.take_succ_cons,dq,jm] at h0 h1⊢
  have h2: ¬hQ kv y≠0:=fun h2=>by rw[if_pos h2] at h0;exact h2 h0
  rw[if_neg h2] at h0
  have:=CB (l:=l) (kv:=jG kv y) (by simpa using h) h0 h1
  unfold tM;rw[if_neg h2,if_neg h2,this.1,this.2];exact⟨rfl,rfl⟩
variable{l:List Zc}{kv:List (Int×Cl)}{z:Zc}
theorem wZ(h:l[k]? =some z)(h0:jm kv (l.take k)=0)(h1:hQ (dq kv (l.take k)) z=0):jm kv (l.take (k+1))=0∧dq kv (l.take (k+1))=jG (dq kv (l.take k)) z:=by
 have e:l.take (k+1)=l.take k++[z]:=by rw[List.take_add_one,h];rfl
 rw[e,FR _ _ _ h0,FQ];exact⟨h1,rfl⟩
def i7(kv:List (Int×Cl))(t:Int)(l:List Zc):Int:=if t<1∨t>65536 then 1 else if 32<l.length then 2 else if jm kv l≠0 then jm kv l else kh t (ie (dq kv l))
def jb(kv:List (Int×Cl))(t:Int)(l:List Zc):Int:=if t<1∨t>65536 then 0 else if 32<l.length then 0 else if jm kv l≠0 then(tM kv l:Int) else 0
def lj(kv:List (Int×Cl)):Prop:= ∃R,KR kv R
theorem w8(h:eA kv)(z:Zc):eA (jG kv z):=by
 unfold jG;split
 ·exact K1 h _
 ·split
  ·exact K2 h _
  ·split
   ·exact K3 h _
   ·exact h
theorem ID(h:jD z):kj (uo z):=h.2
theorem BZ(h:lj kv)(hL:eA kv)(hz:jD z):lj (jG kv z):=by
 obtain⟨R,hR⟩:=h
 unfold jG;split
 ·exact⟨_,N8 hR hL (ID hz)⟩
 ·split
  ·exact⟨_,N9 hR hL (ID hz)⟩
  ·split
   ·exact⟨_,Na hR _⟩
   ·exact⟨R,hR⟩
theorem AS: ∀{l:List Zc}{kv:List (Int×Cl)},eA kv→eA (dq kv l)
 |[],kv,h=>h
 |z::l,kv,h=>AS (l:=l) (w8 h z)
theorem IE: ∀{l:List Zc}{kv:List (Int×Cl)},lj kv→eA kv→(∀z∈l,jD z)→lj (dq kv l)
 |[],kv,h,_,_=>h
 |z::l,kv,h,hL,hz=>IE (l:=l) (BZ h hL (hz z (by simp))) (w8 hL z) (fun y hy=>hz y (by simp[hy]))
theorem ER(h:lj kv): ∀v∈ie kv,kn v:=by
 obtain⟨R,hR⟩:=h
 intro v hv
 unfold ie at hv
 obtain⟨i,_,rfl⟩:=List.mem_map.1 hv
 have:=HU hR i
 unfold dF at this
 unfold kj at this;unfold kn xt;dsimp only;omega
theorem Da(kv:List (Int×Cl)):(ie kv).length≤kv.length:=by unfold ie;rw[List.length_map];exact ns _ _
theorem CU(h:t<1∨t>65536):i7 kv t l=1∧jb kv t l=0:=by unfold i7 jb;rw[if_pos h,if_pos h];exact⟨rfl,rfl⟩
theorem CX(h: ¬(t<1∨t>65536))(h2:32<l.length):i7 kv t l=2∧jb kv t l=0:=by unfold i7 jb;rw[if_neg h,if_neg h,if_pos h2,if_pos h2];exact⟨rfl,rfl⟩
theorem JA(h: ¬(t<1∨t>65536))(h2: ¬32<l.length){e:Int}(h3:jm kv l=e∧tM kv l=k)(he:e≠0):i7 kv t l=e∧jb kv t l=k:=by
 unfold i7 jb;rw[if_neg h,if_neg h,if_neg h2,if_neg h2,h3.1,h3.2,if_pos he,if_pos he];exact⟨rfl,rfl⟩
theorem CY(h: ¬(t<1∨t>65536))(h2: ¬32<l.length)(h3:jm kv l=0):i7 kv t l=kh t (ie (dq kv l))∧jb kv t l=0:=by
 unfold i7 jb;rw[if_neg h,if_neg h,if_neg h2,if_neg h2,h3];simp
abbrev sQ(p0)(p1):=(cz p0 [.map (some p1)] 185:V.dC)
abbrev B0(p0)(p1:Zc):=(i_ (iZ p0 (⟨p1.zi,p1.zp,p1.zl,p1.ya,p1.yb,p1.yc,p1.va,p1.vb,p1.vc,p1.wa,p1.wb,p1.wc,p1.zn,p1.zq⟩:Cl)):Value)
abbrev B1(p0)(p1:Zc):=(i_ (iY p0 (⟨p1.zi,p1.zp,p1.zl,p1.ya,p1.yb,p1.yc,p1.va,p1.vb,p1.vc,p1.wa,p1.wb,p1.wc,p1.zn,p1.zq⟩:Cl)):Value)
abbrev xh(p0:Zc):=(.agg #[i_ p0.zi,i_ p0.zp,b_ p0.zl,u_ p0.ya,u_ p0.yb,u_ p0.yc,u_ p0.va,u_ p0.vb,u_ p0.vc,u_ p0.wa,u_ p0.wb,u_ p0.wc,i_ p0.zn,i_ p0.zq]:Value)
theorem FT(bt mb:Nat)(kv:List (Int×Cl))(z:Zc)(hL:eA kv):
  CS 92 #[p_ bt,.agg (jL z).toArray] [sQ bt mb,di mb kv] (fun(kv':(List (Int×Cl)))=>(i_ (hQ kv z))) (fun kv'=>kv'=jG kv z) fun kv'=>[sQ bt mb,di mb kv']:=by
 intro w hs
 refine A.C Tryz.func92 rfl hs (A.c (A.n2 [.al,.al,.p] [0,1] (fun b1 b2=>[(2,p_ b1),(3,p_ b2)]) (fun b1 b2=>[cz b1 [p_ bt] 131,cz b2 (jL z) 84]) ?_))
 intro b1 b2
 refine A.c (A.g [.p] [] [] (A.d (A.c (A.gl [.p,.ld 3] [] [(7,i_ z.zk)] [b2] (A.y (A.c (A.g [.p,.p] [] [(8,b_ (z.zk==1))] (A.v rfl (fun e1=> ?_) (fun e1=> ?_)))))))))
 ·have p1:=e1;try simp only[de] at p1
  refine A.s (A.gl [.ld 2,.p,.p] [2,7,8] [(5,.func (.func 132) #[p_ bt] #[])] [b1] (A.c (A.gm [.p,.p,.ld 3] [3,5] [(19,.func (.func 132) #[p_ bt] #[]),(21,xh z)] [b2] (A.j (A.J (some 22) [0,0] (fun ww ss hh=>P2 bt mb kv (⟨z.zi,z.zp,z.zl,z.ya,z.yb,z.yc,z.va,z.vb,z.vc,z.wa,z.wb,z.wc,z.zn,z.zq⟩:Cl) hL.dep hL.len ww hh) ?_)))))
  rintro kv'3 hz2
  refine A.g [.p] [19,21,22] [(4,B1 kv z)] (A.e (A.Y [0,0] [B1 kv z] (kv'3) ?_ ?_))
  ·show((B1 kv z):Value)=(i_ (hQ kv z))
   refine congrArg (Value.int .i64) ?_;unfold hQ;(simp[*];rfl)
  show kv'3=jG kv z
  unfold jG;(simp[*];rfl)
 have p1:=e1;try simp only[de] at p1
 refine A.c (A.g [.p,.p] [8] [(12,b_ (z.zk==3))] (A.v rfl (fun e3=> ?_) (fun e3=> ?_)))
 ·have p3:=e3;try simp only[de] at p3
  refine A.s (A.gl [.ld 2,.p,.p] [2,7,12] [(5,.func (.func 133) #[p_ bt] #[])] [b1] (A.c (A.gm [.p,.p,.ld 3] [3,5] [(19,.func (.func 133) #[p_ bt] #[]),(21,xh z)] [b2] (A.j (A.J (some 22) [0,0] (fun ww ss hh=>P5 bt mb kv (⟨z.zi,z.zp,z.zl,z.ya,z.yb,z.yc,z.va,z.vb,z.vc,z.wa,z.wb,z.wc,z.zn,z.zq⟩:Cl) (by(have h_:=hL.len;omega)) ww hh) ?_)))))
  rintro kv'4 hz4
  refine A.g [.p] [19,21,22] [(4,B0 kv z)] (A.e (A.Y [0,0] [B0 kv z] (kv'4) ?_ ?_))
  ·show((B0 kv z):Value)=(i_ (hQ kv z))
   refine congrArg (Value.int .i64) ?_;unfold hQ;(simp[*];rfl)
  show kv'4=jG kv z
  unfold jG;(simp[*];rfl)
 have p3:=e3;try simp only[de] at p3
 refine A.c (A.g [.p,.p] [7,12] [(16,b_ (z.zk==2))] (A.v rfl (fun e5=> ?_) (fun e5=> ?_)))
 ·have p5:=e5;try simp only[de] at p5
  refine A.s (A.g [.p,.p] [2,16] [(5,.func (.func 134) #[] #[p_ b1])] (A.c (A.gm [.p,.p,.ld 3] [3,5] [(19,.func (.func 134) #[] #[p_ b1]),(21,xh z)] [b2] (A.j (A.iX (some 22) [xh z,p_ b1] Tryz.func134 rfl (A.c (A.n1 [.al,.p] [0] (fun b5=>[(2,p_ b5)]) (fun b5=>cz b5 [i_ z.zi,i_ z.zp,b_ z.zl,u_ z.ya,u_ z.yb,u_ z.yc,u_ z.va,u_ z.vb,u_ z.vc,u_ z.wa,u_ z.wb,u_ z.wc,i_ z.zn,i_ z.zq] 62) ?_)))))))
  intro b5
  refine A.c (A.gm [.ld 2,.p,.ld 4] [1,2] [(4,p_ bt),(6,i_ z.zi)] [b1,b5] (A.j (A.J (some 7) [0,0] (fun ww ss hh=>P3 bt mb kv z.zi (by(have h_:=hL.len;omega)) ww hh) ?_)))
  rintro kv'6 hz6
  refine A.g [.p] [4,6,7] [(3,i_ (j8 kv z.zi))] (A.e (A.pb [i_ (j8 kv z.zi)] (A.aM [sQ bt mb,di mb kv'6,cz b1 [p_ bt] 131] (sd [4,3]) (A.h [.p] [(4,i_ (j8 kv z.zi))] [] (A.e (A.Y [0,0] [i_ (j8 kv z.zi)] (kv'6) ?_ ?_))))))
  ·show((i_ (j8 kv z.zi)):Value)=(i_ (hQ kv z))
   refine congrArg (Value.int .i64) ?_;unfold hQ;(simp[*];done)
  show kv'6=jG kv z
  unfold jG;(simp[*];done)
 have p5:=e5;try simp only[de] at p5
 refine A.c (A.g [.p] [2,3,16] [(4,i_ 1)] (A.e (A.Y [0,0] [i_ 1] (kv) ?_ ?_)))
 ·show((i_ 1):Value)=(i_ (hQ kv z))
  refine congrArg (Value.int .i64) ?_;unfold hQ;(simp[*];done)
 show kv=jG kv z
 unfold jG;(simp[*];done)
theorem O8(bt mb:Nat)(kv:List (Int×Cl))(t:Int)(al:Option Addr)(l:List Zc)(cl:Nat)(hL:eA kv)(hK:lj kv)(hz: ∀z∈l,jD z)(hok:i7 kv t l≠0)(w:World)(r0:(cz bt [.map (some mb)] 185).holds w)(r1:(di mb kv).holds w)(r2:ez w al (V.dJ jL l)):
  CW 66 #[p_ bt,i_ t,vS al l cl] w (.tuple #[n_,i_ (jb kv t l),i_ (i7 kv t l)]):=by
 refine A.C Tryz.func66 rfl (HS.nil w) (A.c (A.g [.p,.p,.p] [] [] (A.d (A.y (A.c (A.g [.p,.p,.p] [] [(14,b_ false)] (A.Z (A.c (A.g [.p,.p,.p,.o,.p,.p,.cl,.p] [14] [(17,b_ ((decide (t<1))||(decide (t>65536))))] (A.v rfl (fun e1=> ?_) (fun e1=> ?_)))))))))))
 ·have p1:=e1;try simp only[de] at p1
  refine A.c (A.g [.p,.p,.p] [0,1,2,17] [(6,n_),(7,i_ 0),(8,i_ 1)] (A.e (A.N [n_,i_ 0,i_ 1] ?_)))
  show((.tuple #[n_,i_ 0,i_ 1]):Value)=(.tuple #[n_,i_ (jb kv t l),i_ (i7 kv t l)])
  rw[(CU (kv:=kv) (l:=l) (by omega)).1,(CU (kv:=kv) (l:=l) (by omega)).2]
 have p1:=e1;try simp only[de] at p1
 refine A.c (A.g [.p,.p,.p,.p] [17] [(24,b_ (decide ((l.length:Int)>32)))] (A.v rfl (fun e2=> ?_) (fun e2=> ?_)))
 ·have p2:=of_decide_eq_true e2
  refine A.c (A.g [.p,.p,.p] [0,1,2,24] [(6,n_),(7,i_ 0),(8,i_ 2)] (A.e (A.N [n_,i_ 0,i_ 2] ?_)))
  show((.tuple #[n_,i_ 0,i_ 2]):Value)=(.tuple #[n_,i_ (jb kv t l),i_ (i7 kv t l)])
  rw[(CX (kv:=kv) (by omega) (by omega)).1,(CX (kv:=kv) (by omega) (by omega)).2]
 have p2:=of_decide_eq_false e2
 refine A.p (A.c (A.O [.p] [0,24] [(28,p_ bt)] (A.j (A.J (some 29) [] (fun ww ss hh=>GI bt mb kv ww (da ss r0) (da ss r1) hh) ?_))))
 rintro⟨bc1,mc2⟩-
 refine A.g [.p] [28,29] [(9,p_ bc1)] (A.d (A.c (A.g [.p,.p,.p] [2] [(30,vS al l cl),(31,c_ l.length),(32,i_ 0)] (A.y (A.lp (σ:=Nat×(List (Int×Cl))) [] (fun(k,kw)=>[(32,c_ k)]) [0,0] (fun(k,kw)=>[cz bc1 [.map (some mc2)] 185,di mc2 kw]) (fun(k,kw)=>(k≤l.length)∧(kw=dq kv (l.take k))∧(jm kv (l.take k)=0)∧(eA kw)∧(lj kw)) (fun(k,kw)=>l.length-k) (0,kv) ⟨(by omega),(by rfl),(by rfl),‹_›,‹_›⟩ ?_ ?_)))))
 ·exact A.I [0,0]
 rintro⟨k,kw⟩ ⟨hk,hw,h0,hLw,hKw⟩
 refine A.c (A.g [.p] [] [(33,b_ (decide ((k:Int)<(l.length:Int))))] (A.d (A.v rfl (fun e4=> ?_) (fun e4=> ?_))))
 ·have p4:=of_decide_eq_true e4
  refine A.p (A.d (A.y (A.c (A.kp [.p,.ix] [33] [(34,c_ k),(35,.pointer (some ((dV al).add (k*15))))] [] (o1 (io (k:Int) (gi t7 (by decide) (ef r2 (by simp[dG])) (by omega)))) ?_))))
  obtain⟨x3,hx3⟩: ∃x,(l)[k]? =some x:=⟨_,List.getElem?_eq_getElem (by omega)⟩
  refine A.no [.rd (jL x3),.al,.p,.st 2] [34,35] (fun b4=>[(11,p_ b4),(10,c_ k)]) (fun b4=>[]) (fun b4=>cz b4 (jL x3) 84) (fun b4=>[b4]) (fun b4=>o1 (ro ((dV al).add (k*15)) (fY (vs:=(jL x3)) t7 (ef r2 (by simp[dG])) hx3 (Nat.le_of_ble_eq_true rfl) rfl))) ?_
  intro b4
  refine A.c (A.gm [.p,.ld 2] [11] [(37,p_ bc1),(38,.agg (jL x3).toArray)] [b4] (A.j (A.J (some 39) [0,0] (fun ww ss hh=>FT bc1 mc2 kw x3 ‹_› ww hh) ?_)))
  rintro kv'5 hz5
  refine A.g [.p] [37,38,39] [(12,i_ (hQ kw x3))] (A.c (A.g [.p,.p] [] [(41,b_ ((hQ kw x3)!=0))] (A.v rfl (fun e6=> ?_) (fun e6=> ?_))))
  ·have p6:=e6;try simp only[de] at p6
   refine A.c (A.h [.p,.p,.p,.p,.p] [(6,n_),(7,c_ k),(8,i_ (hQ kw x3))] [] (A.e (A.N [n_,c_ k,i_ (hQ kw x3)] ?_)))
   show((.tuple #[n_,c_ k,i_ (hQ kw x3)]):Value)=(.tuple #[n_,i_ (jb kv t l),i_ (i7 kv t l)])
   (subst hw;obtain⟨g1_,g2_⟩:=JA (t:=t) (by omega) (by omega) (CB ‹_› h0 ‹_›) ‹_›;rw[g1_,g2_])
  have p6:=e6;try simp only[de] at p6
  refine A.p (A.s (A.hk [.w ((k:Int)+1),.p] [(1,i_ t),(9,p_ bc1),(30,vS al l cl),(31,c_ l.length),(32,i_ ((k:Int)+1))] [] (o1 (wj ((k:Int)+1) (by omega))) (A.aA (k+1,kv'5) ⟨(by omega),(by(subst_vars;exact(wZ ‹_› h0 ‹_›).2.symm)),(by(subst hw;exact(wZ ‹_› h0 ‹_›).1)),(by(subst_vars;exact w8 hLw _)),(by(subst_vars;exact BZ hKw hLw (hz _ (List.mem_of_getElem? ‹_›))))⟩ (by(show l.length-(k+1)<l.length-k;omega)) ?_)))
  exact A.I [0,0]
 have p4:=of_decide_eq_false e4
 refine A.aB (A.d (A.c (A.O [.p,.p] [1,30,31,32,33] [(45,i_ t),(46,p_ bc1)] (A.j (A.J (some 47) [] (fun ww ss hh=>E8 bc1 mc2 kw (by(have h_:=hLw.len;omega)) ww (ss.mem (i:=0) rfl) (ss.mem (i:=1) rfl) hh) ?_)))))
 rintro⟨al'6,cl'7⟩-
 refine A.k [.cq (i_ (kh t (ie kw))),.p] [45,46,47] [(13,i_ (kh t (ie kw)))] [] (o1 (qo (fun ww ss=>Dc t al'6 (ie kw) cl'7 (by(exact Nat.le_trans (Da _) (by have h_:=hLw.len;omega))) (ER hKw) ww ((fa (i:=0) rfl) ww ss)))) (A.c (A.g [.p,.p] [] [(50,b_ ((kh t (ie kw))!=0))] (A.v rfl (fun e8=> ?_) (fun e8=> ?_))))
 ·have p8:=e8;try simp only[de] at p8
  refine A.c (A.g [.p,.p,.p,.p] [9,13,50] [(6,n_),(7,i_ 0),(8,i_ (kh t (ie kw)))] (A.e (A.N [n_,i_ 0,i_ (kh t (ie kw))] ?_)))
  show((.tuple #[n_,i_ 0,i_ (kh t (ie kw))]):Value)=(.tuple #[n_,i_ (jb kv t l),i_ (i7 kv t l)])
  have hk2_:l.take k=l:=List.take_of_length_le (by omega)
  rw[hk2_] at hw h0
  obtain⟨g1_,g2_⟩:=CY (t:=t) (by omega) (by omega) h0
  (subst hw;rw[g1_,g2_])
 have p8:=e8;try simp only[de] at p8
 refine A.p (A.c (A.g [.p,.p,.p,.p] [9,13,50] [(6,p_ bc1),(7,i_ 0),(8,i_ 0)] (A.e (A.N [p_ bc1,i_ 0,i_ 0] ?_))))
 show((.tuple #[p_ bc1,i_ 0,i_ 0]):Value)=(.tuple #[n_,i_ (jb kv t l),i_ (i7 kv t l)])
 have hk2_:l.take k=l:=List.take_of_length_le (by omega)
 rw[hk2_] at hw h0
 obtain⟨g1_,g2_⟩:=CY (t:=t) (by omega) (by omega) h0
 (subst hw;exact absurd (g1_.trans ‹_›) hok)
theorem RF(bt mb:Nat)(kv:List (Int×Cl))(t:Int)(al:Option Addr)(l:List Zc)(cl:Nat)(hL:eA kv)(hK:lj kv)(hz: ∀z∈l,jD z)(hok:i7 kv t l=0)(w:World)(r0:(sQ bt mb).holds w)(r1:(di mb kv).holds w)(r2:ez w al (V.dJ jL l))(hs:HI w []):
  CV 66 #[p_ bt,i_ t,vS al l cl] w [] (fun((bc,mc):Nat×Nat)=>(.tuple #[p_ bc,i_ 0,i_ 0])) (fun _=>True) fun(bc,mc)=>[sQ bc mc,di mc (dq kv l)]:=by
 refine A.C Tryz.func66 rfl hs (A.c (A.g [.p,.p,.p] [] [] (A.d (A.y (A.c (A.g [.p,.p,.p] [] [(14,b_ false)] (A.Z (A.c (A.g [.p,.p,.p,.o,.p,.p,.cl,.p] [14] [(17,b_ ((decide (t<1))||(decide (t>65536))))] (A.v rfl (fun e1=> ?_) (fun e1=> ?_)))))))))))
 ·exact absurd e1 (by(intro h_;exact absurd ((CU (kv:=kv) (l:=l) (by simp at h_;omega)).1.symm.trans hok) (by decide)))
 have p1:=e1;try simp only[de] at p1
 refine A.c (A.g [.p,.p,.p,.p] [17] [(24,b_ (decide ((l.length:Int)>32)))] (A.v rfl (fun e2=> ?_) (fun e2=> ?_)))
 ·exact absurd e2 (by(intro h_;exact absurd ((CX (kv:=kv) (t:=t) (l:=l) (by omega) (by simp at h_;omega)).1.symm.trans hok) (by decide)))
 have p2:=of_decide_eq_false e2
 refine A.p (A.c (A.O [.p] [0,24] [(28,p_ bt)] (A.j (A.J (some 29) [] (fun ww ss hh=>GI bt mb kv ww (da ss r0) (da ss r1) hh) ?_))))
 rintro⟨bc1,mc2⟩-
 refine A.g [.p] [28,29] [(9,p_ bc1)] (A.d (A.c (A.g [.p,.p,.p] [2] [(30,vS al l cl),(31,c_ l.length),(32,i_ 0)] (A.y (A.lp (σ:=Nat×(List (Int×Cl))) [] (fun(k,kw)=>[(32,c_ k)]) [0,0] (fun(k,kw)=>[sQ bc1 mc2,di mc2 kw]) (fun(k,kw)=>(k≤l.length)∧(kw=dq kv (l.take k))∧(jm kv (l.take k)=0)∧(eA kw)∧(lj kw)) (fun(k,kw)=>l.length-k) (0,kv) ⟨(by omega),(by rfl),(by rfl),‹_›,‹_›⟩ ?_ ?_)))))
 ·exact A.I [0,0]
 rintro⟨k,kw⟩ ⟨hk,hw,h0,hLw,hKw⟩
 refine A.c (A.g [.p] [] [(33,b_ (decide ((k:Int)<(l.length:Int))))] (A.d (A.v rfl (fun e4=> ?_) (fun e4=> ?_))))
 ·have p4:=of_decide_eq_true e4
  refine A.p (A.d (A.y (A.c (A.kp [.p,.ix] [33] [(34,c_ k),(35,.pointer (some ((dV al).add (k*15))))] [] (o1 (io (k:Int) (gi t7 (by decide) (ef r2 (by simp[dG])) (by omega)))) ?_))))
  obtain⟨x3,hx3⟩: ∃x,(l)[k]? =some x:=⟨_,List.getElem?_eq_getElem (by omega)⟩
  refine A.no [.rd (jL x3),.al,.p,.st 2] [34,35] (fun b4=>[(11,p_ b4),(10,c_ k)]) (fun b4=>[]) (fun b4=>cz b4 (jL x3) 84) (fun b4=>[b4]) (fun b4=>o1 (ro ((dV al).add (k*15)) (fY (vs:=(jL x3)) t7 (ef r2 (by simp[dG])) hx3 (Nat.le_of_ble_eq_true rfl) rfl))) ?_
  intro b4
  refine A.c (A.gm [.p,.ld 2] [11] [(37,p_ bc1),(38,.agg (jL x3).toArray)] [b4] (A.j (A.J (some 39) [0,0] (fun ww ss hh=>FT bc1 mc2 kw x3 ‹_› ww hh) ?_)))
  rintro kv'5 hz5
  refine A.g [.p] [37,38,39] [(12,i_ (hQ kw x3))] (A.c (A.g [.p,.p] [] [(41,b_ ((hQ kw x3)!=0))] (A.v rfl (fun e6=> ?_) (fun e6=> ?_))))
  ·exact absurd e6 (by(intro h_;have h2_: ¬hQ kw x3=0:=(by simpa using h_);rw[hw] at h2_;exact absurd ((JA (by omega) (by omega) (CB ‹_› h0 h2_) h2_).1.symm.trans hok) h2_))
  have p6:=e6;try simp only[de] at p6
  refine A.p (A.s (A.hk [.w ((k:Int)+1),.p] [(1,i_ t),(9,p_ bc1),(30,vS al l cl),(31,c_ l.length),(32,i_ ((k:Int)+1))] [] (o1 (wj ((k:Int)+1) (by omega))) (A.aA (k+1,kv'5) ⟨(by omega),(by(subst_vars;exact(wZ ‹_› h0 ‹_›).2.symm)),(by(subst hw;exact(wZ ‹_› h0 ‹_›).1)),(by(subst_vars;exact w8 hLw _)),(by(subst_vars;exact BZ hKw hLw (hz _ (List.mem_of_getElem? ‹_›))))⟩ (by(show l.length-(k+1)<l.length-k;omega)) ?_)))
  exact A.I [0,0]
 have p4:=of_decide_eq_false e4
 refine A.aB (A.d (A.c (A.O [.p,.p] [1,30,31,32,33] [(45,i_ t),(46,p_ bc1)] (A.j (A.J (some 47) [] (fun ww ss hh=>E8 bc1 mc2 kw (by(have h_:=hLw.len;omega)) ww (ss.mem (i:=0) rfl) (ss.mem (i:=1) rfl) hh) ?_)))))
 rintro⟨al'6,cl'7⟩-
 refine A.k [.cq (i_ (kh t (ie kw))),.p] [45,46,47] [(13,i_ (kh t (ie kw)))] [] (o1 (qo (fun ww ss=>Dc t al'6 (ie kw) cl'7 (by(exact Nat.le_trans (Da _) (by have h_:=hLw.len;omega))) (ER hKw) ww ((fa (i:=0) rfl) ww ss)))) (A.c (A.g [.p,.p] [] [(50,b_ ((kh t (ie kw))!=0))] (A.v rfl (fun e8=> ?_) (fun e8=> ?_))))
 ·exact absurd e8 (by(intro h_;have hk2_:l.take k=l:=List.take_of_length_le (by omega);rw[hk2_] at hw h0;rw[hw] at h_;simp at h_;exact absurd ((CY (by omega) (by omega) h0).1.symm.trans hok) h_))
 refine A.p (A.c (A.g [.p,.p,.p,.p] [9,13,50] [(6,p_ bc1),(7,i_ 0),(8,i_ 0)] (A.e ?_)))
 rw[show kw=(dq kv l) from by grind]
 refine A.Y [1,1] [p_ bc1,i_ 0,i_ 0] (bc1,mc2) ?_ ?_
 ·rfl
 trivial
variable{P:Program}{t ti e:TypeId}{k:IntKind}
theorem JL{ty:TypeId}{i:TypeInfo}{z:Value}{n:Nat}(w:World)(ht:P.underlying t=some (.slice e))(hti:P.underlying ti=some (.int k))(hi:P.info? e=some i)(hz:i.zero=some z)(hzs:z.cells.size=i.size)(hsz:0<i.size)
  (hn:0<n)(h63:n≤maxLen)(hbytes:n*i.bytes≤140737488355328):
  ∃b c' w',(Builtin.append_ #[t,ti] ty #[.slice none 0 0,.int .i64 n]).run P w= .ok (.slice (some ⟨b,0,none⟩) n c') w'∧(sl (some ⟨b,0,none⟩) 0 c' e i.size []).holds w'∧Fr [] w w'∧w.heap.size≤b:=by
 have hge:=grownCap_ge w n 0 e
 have hcm':grownCap w n 0 e≤maxLen:=grownCap_le_maxLen w n 0 e h63
 obtain⟨w',hw'⟩: ∃w',w'=(World.drew w).alloc (.cells (Builtin.zeroCells z.cells n++Builtin.zeroCells z.cells (grownCap w n 0 e-n)) e):=⟨_,rfl⟩
 refine⟨w.heap.size,grownCap w n 0 e,w',?_,⟨by simp,Nat.zero_le _,hcm',.inr ⟨w.heap.size,0,_,rfl,by rw[hw'];exact heap_alloc_new w.drew _,?_,by simp⟩⟩,?_,Nat.le_refl _⟩
 ·subst hw'
  have h48: ¬(Builtin.nextslicecap n 0*i.bytes>2^48):=by
   have h2:=growslice_fits (need:=n) (old:=0) (by omega) hbytes
   omega
  have hmax:IntKind.i64.max=9223372036854775807:=by decide
  have hm63:n≤9223372036854775807:=by simp only[maxLen] at h63;omega
  have hwr:IntKind.i64.wrap (n:Int)=n:=lD (e:=(n:Int)) (by constructor<;>omega)
  have hb48: ¬((n:Int)*(i.bytes:Int)>2^48):=by
   have:n*i.bytes≤2^48:=by omega
   have h2:((n*i.bytes:Nat):Int)≤2^48:=by exact_mod_cast this
   rw[Int.natCast_mul] at h2;omega
  have hn0: ¬((n:Int)<0):=by omega
  have hn1:n≠0:=by omega
  simp only[Builtin.append_]
  simp[run_underlying ht,run_underlying hti,sizeOf,typeInfo,zeroValue,hi,hz,Builtin.lenOf,h48,Question.forced,newRow,grownCap,asInt,asIntOf,hwr,hb48,hn0,hn1,Builtin.firstCells]
  have q1: ¬(281474976710656<(n:Int)*(i.bytes:Int)):=by omega
  have q2: ¬(9223372036854775807<(n:Int)):=by omega
  have q3: ¬(n*i.size=0):=Nat.ne_of_gt (Nat.mul_pos hn hsz)
  rw[if_neg q1,if_neg q2,if_neg q3]
 ·simp only[Array.size_append,size_zeroCells,hzs]
  rw[←Nat.add_mul,Nat.zero_add]
  apply Nat.le_of_eq;congr 1;omega
 ·subst hw'
  exact⟨rfl,rfl,rfl,by simp,fun k hk _=>heap_alloc_old w.drew _ hk⟩
theorem A.cS{n:Nat}{env:dQ}{w0:World}{S:List Nat}{H:List V.dC}{ops:Array Oper}{o:Oper}{K:Act→World→Prop}(d:Nat){x y:Operand}{z:Value}{sz by_ m:Nat}
  (hok:gR ops n env o (some d)=true)(ho:o.op= .call {callee:= .builtin .append,args:=#[x,y],argTypes:=#[t,ti]})(hx:ev env x=some (.slice none 0 0))(hy:ev env y=some (.int .i64 m))
  (ht:P.underlying t=some (.slice e))(hti:P.underlying ti=some (.int k))(hinf:(P.info? e).map (fun i=>(i.zero,i.size,i.bytes))=some (some z,sz,by_))(hzs:z.cells.size=sz)(hsz:0<sz)(hm:0<m)(h63:m≤maxLen)(hbytes:m*by_≤140737488355328)
  (H':Nat→Nat→List V.dC)(hH: ∀b c,H++[sl (some ⟨b,0,none⟩) 0 c e sz []]=H' b c)
  (h: ∀b c,V.A n ((d,.slice (some ⟨b,0,none⟩) m c)::env) w0 S (H' b c) K):V.A n env w0 S H (eH P ops o K):=by
 intro a w r s
 obtain⟨h1',h2,h3,h4⟩:=jM hok
 unfold eH
 rw[if_pos (iT r h1')]
 simp only[Option.map_eq_some_iff,Prod.mk.injEq] at hinf
 obtain⟨inf,hinf,hz,hs1,hs2⟩:=hinf
 subst hs1;subst hs2
 obtain⟨b,c,w',hrun,hsl,hfr,hb⟩:=JL (P:=P) (ty:=o.type) w ht hti hinf hz hzs hsz hm h63 hbytes
 unfold Oper.wp execOp
 simp only[ho,resolve,invoke,builtin,Sem.run_bind,Sem.run_pure,Result.andThen_ok,List.map_toArray,List.map_cons,List.map_nil,r.ev hx,r.ev hy,hrun,Oper.upon,h2]
 refine h b c _ _ (r.put (h3 d rfl)) ?_
 rw[←hH]
 exact s.add hfr hsl (show(gB (some ⟨b,0,none⟩)).Nodup from yB _) (by simpa[sl,gB] using hb)
set_option maxHeartbeats 1000000 in
set_option maxRecDepth 100000 in
theorem LH(n:Nat)(hn:n≤1000)(w:World)(hs:HS w (dG []) [] w):
  Calls Tryz.prog 138 #[.slice none 0 0,c_ n] w fun e w'=> ∃zz:Option Addr×Nat,e= .returned ((fun zz=>match zz with|(al',cl')=>vS al' ([]:List Int) cl') zz)∧(fun zz=>match zz with|(al',cl')=>True) zz∧Turn [] ((fun zz=>match zz with|(al',cl')=>[sI al' ([]:List Int) cl']) zz) w w':=by
 refine A.C Tryz.func138 rfl hs (A.aO [(0,.slice none 0 0),(1,c_ n)] [] ⟨rfl,rfl,trivial⟩ rfl (A.c (A.h [.p] [(0,.slice none 0 0),(1,c_ n),(4,.slice none 0 0)] [] (A.d (A.c (A.h [.p,.p] [(0,.slice none 0 0),(1,c_ n),(6,b_ (decide ((n:Int)<0)))] [] (A.v (E:=decide ((n:Int)<0)) rfl (fun e1=> ?_) (fun e1=> ?_))))))))
 ·exact absurd e1 (by simp)
 refine A.p (A.d (A.c (A.hk [.p,.p,.p,.p,.p,.p,.w ((n:Int)-0),.p] [(0,.slice none 0 0),(1,i_ ((n:Int)-0))] [] (o1 (wj ((n:Int)-0) (by omega))) ?_)))
 refine A.d (A.aS [(0,.slice none 0 0),(1,c_ n)] ⟨rfl,congrArg (fun z_=>some (i_ z_)) (Int.sub_zero _),trivial⟩ (A.s (A.h [.p,.p] [(0,.slice none 0 0),(1,c_ n),(16,b_ (decide ((n:Int)>0)))] [] (A.v (E:=decide ((n:Int)>0)) rfl (fun e2=> ?_) (fun e2=> ?_)))))
 ·have hn0:0<n:=by have:=of_decide_eq_true e2;omega
  refine A.s (A.hp [.p,.p,.p,.p,.p] [(0,.slice none 0 0),(20,.slice none 0 0),(21,c_ n)] [] (A.j (A.cS 22 (t:=65) (ti:=3) (e:=3) (k:= .i64) (z:=i_ 0) (sz:=1) (by_:=8) (m:=n) (by kernel_rfl) rfl rfl rfl (by kernel_rfl) (by kernel_rfl) (by kernel_rfl) (by rfl) (by decide) hn0 (by unfold maxLen;omega) (by omega) (fun b c=>[sI (some ⟨b,0,none⟩) ([]:List Int) c]) (fun _ _=>rfl) ?_)))
  intro b c
  refine A.hp [.p,.p] [(22,.slice (some ⟨b,0,none⟩) n c),(24,i_ 0)] [] (A.j (A.u (some 25) (.slice (if c=0 then some ⟨b,0,none⟩ else(some ⟨b,0,none⟩:Option Addr).map (·.add 0)) 0 c) (Nk (k:=0) (el:=3) (sz:=1) rfl rfl rfl (by kernel_rfl) (by kernel_rfl) (Nat.zero_le _)) (A.h [.p] [(0,.slice (if c=0 then some ⟨b,0,none⟩ else(some ⟨b,0,none⟩:Option Addr).map (·.add 0)) 0 c)] [] (A.aS [(0,vS (some ⟨b,0,none⟩) ([]:List Int) c)] (by exact⟨congrArg (fun z_=>some (Value.slice z_ 0 c)) (by split<;>rfl),trivial⟩) ?_))))
  refine A.c (A.h [.p,.p] [(4,vS (some ⟨b,0,none⟩) ([]:List Int) c)] [] (A.e (A.aG [0] [vS (some ⟨b,0,none⟩) ([]:List Int) c] (fun aa ww rr ss=>⟨fQ rr rfl,trivial⟩) (some ⟨b,0,none⟩,c) rfl trivial (by kernel_rfl))))
 ·refine A.p (A.c (A.h [.p,.p] [(4,.slice none 0 0)] [] (A.aP 3 1 [sI none ([]:List Int) 0] rfl (A.e (A.aG [0] [.slice none 0 0] (fun aa ww rr ss=>⟨fQ rr rfl,trivial⟩) (none,0) rfl trivial (by kernel_rfl))))))
theorem Jj(bs:Nat)(ax:Option Addr)(xs:List Int)(cx:Nat)(ay:Option Addr)(ys:List Int)(cy:Nat)(hx:xs.length≤200)(hy:ys.length≤200)(w:World)(r0:(cz bs [vS ax xs cx,vS ay ys cy] 65).holds w)(r1:ez w ax (V.dJ j9 xs))(r2:ez w ay (V.dJ j9 ys))(hs:HI w []):
  CV 95 #[.slice (some ⟨bs,0,none⟩) 2 2] w [] (fun((al',cl'):(Option Addr)×Nat)=>(vS al' (xs++ys) cl')) (fun _=>True) fun(al',cl')=>[sI al' (xs++ys) cl']:=by
 refine A.C Tryz.func95 rfl hs (A.c (A.g [.p] [] [] (A.c (A.g [.p] [] [(3,i_ 0)] (A.d (A.c (A.g [.p,.p,.p] [] [(9,.slice (some ⟨bs,0,none⟩) 2 2),(10,i_ 2),(11,i_ 0)] (A.y (A.aY 400 (A.aD (m:=399) (A.c (A.g [.p] [] [(12,b_ true)] (A.d (A.ct (A.p (A.d (A.y (A.c (A.j (A.u (some 13) (p_ bs) (kB (off:=0) (sz:=1) (el:=65) (e:=0) (len:=2) rfl rfl rfl (by kernel_rfl) (by kernel_rfl) (by omega)) (A.k [.rd [vS ax xs cx],.p] [12,13] [(5,vS ax xs cx)] [] (o1 (ro ⟨bs,0,none⟩ (vs:=[vS ax xs cx]) (dj r0 rfl))) (A.c (A.k [.p,.p,.p,.w (0+(xs.length:Int)),.p] [5] [(3,i_ (0+(xs.length:Int)))] [] (o1 (wj (0+(xs.length:Int)) (by omega))) (A.c (A.g [.p,.p] [] [(20,b_ (decide ((0+(xs.length:Int))<0)))] (A.v rfl (fun e1=> ?_) (fun e1=> ?_)))))))))))))))))))))))))))
 ·exact absurd e1 (by(intro h_;have h2_:=of_decide_eq_true h_;omega))
 have p1:=of_decide_eq_false e1
 refine A.p (A.s (A.g [.p,.p] [20] [(11,i_ 1)] (A.aD (m:=398) (A.c (A.g [.p] [] [(12,b_ true)] (A.d (A.ct (A.p (A.d (A.y (A.c (A.j (A.u (some 13) (q_ bs 1) (kB (off:=0) (sz:=1) (el:=65) (e:=1) (len:=2) rfl rfl rfl (by kernel_rfl) (by kernel_rfl) (by omega)) (A.k [.rd [vS ay ys cy],.p] [12,13] [(5,vS ay ys cy)] [] (o1 (ro ⟨bs,1,none⟩ (vs:=[vS ay ys cy]) (dj r0 rfl))) (A.c (A.k [.p,.p,.p,.w ((0+(xs.length:Int))+(ys.length:Int)),.p] [5] [(3,i_ ((0+(xs.length:Int))+(ys.length:Int)))] [] (o1 (wj ((0+(xs.length:Int))+(ys.length:Int)) (by omega))) (A.c (A.g [.p,.p] [] [(20,b_ (decide (((0+(xs.length:Int))+(ys.length:Int))<0)))] (A.v rfl (fun e2=> ?_) (fun e2=> ?_))))))))))))))))))))
 ·exact absurd e2 (by(intro h_;have h2_:=of_decide_eq_true h_;omega))
 have p2:=of_decide_eq_false e2
 refine A.p (A.s (A.g [.p,.p] [20] [(11,i_ 2)] (A.aD (m:=397) (A.c (A.g [.p] [] [(12,b_ false)] (A.d (A.Z (A.aB (A.d (A.D 3 (c_ (xs.length+ys.length:Nat)) (l0 (by(show(0+(xs.length:Int))+(ys.length:Int)=((xs.length+ys.length:Nat):Int);omega))) (A.s (A.hp [.p] [(0,.slice (some ⟨bs,0,none⟩) 2 2),(23,c_ (xs.length+ys.length:Nat))] [] (A.j (A.J (some 24) [] (fun ww ss hh=>LH (xs.length+ys.length:Nat) (by omega) ww hh) ?_))))))))))))))
 rintro⟨al'1,cl'2⟩-
 refine A.g [.p] [23,24] [(6,vS al'1 ([]:List Int) cl'2)] (A.d (A.c (A.g [.p,.p,.p] [0] [(25,.slice (some ⟨bs,0,none⟩) 2 2),(26,i_ 2),(27,i_ 0)] (A.y (A.aY 400 (A.aD (m:=399) (A.c (A.g [.p] [] [(28,b_ true)] (A.d (A.ct (A.p (A.d (A.y (A.c (A.j (A.u (some 29) (p_ bs) (kB (off:=0) (sz:=1) (el:=65) (e:=0) (len:=2) rfl rfl rfl (by kernel_rfl) (by kernel_rfl) (by omega)) (A.k [.rd [vS ax xs cx],.p] [28,29] [(8,vS ax xs cx)] [] (o1 (ro ⟨bs,0,none⟩ (vs:=[vS ax xs cx]) (dj r0 rfl))) (A.s (A.O [.p,.p] [8] [(31,vS al'1 ([]:List Int) cl'2),(32,vS ax xs cx)] (A.j (A.ap j9 ([]:List Int) xs 0 33 (i_ 0) 8 fE lO (ef r1 (by simp[dG])) (by((simp;omega))) ?_)))))))))))))))))))))
 intro A4 c4
 refine A.g [.p] [31,32,33] [(6,vS A4 xs c4)] (A.s (A.g [.p,.p] [] [(27,i_ 1)] (A.aD (m:=398) (A.c (A.g [.p] [] [(28,b_ true)] (A.d (A.ct (A.p (A.d (A.y (A.c (A.j (A.u (some 29) (q_ bs 1) (kB (off:=0) (sz:=1) (el:=65) (e:=1) (len:=2) rfl rfl rfl (by kernel_rfl) (by kernel_rfl) (by omega)) (A.k [.rd [vS ay ys cy],.p] [28,29] [(8,vS ay ys cy)] [] (o1 (ro ⟨bs,1,none⟩ (vs:=[vS ay ys cy]) (dj r0 rfl))) (A.s (A.O [.p,.p] [8] [(31,vS A4 xs c4),(32,vS ay ys cy)] (A.j (A.ap j9 xs ys 0 33 (i_ 0) 8 fE lO (ef r2 (by simp[dG])) (by((simp;omega))) ?_))))))))))))))))))
 intro A5 c5
 refine A.g [.p] [31,32,33] [(6,vS A5 (xs++ys) c5)] (A.s (A.g [.p,.p] [] [(27,i_ 2)] (A.aD (m:=397) (A.c (A.g [.p] [] [(28,b_ false)] (A.d (A.Z (A.aB (A.c (A.g [.p,.p] [6,25,26,27,28] [(2,vS A5 (xs++ys) c5)] (A.e (A.Y [0] [vS A5 (xs++ys) c5] (A5,c5) ?_ ?_))))))))))))
 ·rfl
 trivial
end Go.Proofs.YtobgjpigngoggaaGreat
namespace Go.Proofs.YtobgjpigngoggaaGreat
open Go V
def kO(kv kw:List (Int×Cl))(i:Int):Bool:=decide (cw kv i≠cw kw i)
abbrev jT(kv:List (Int×Cl)):List Int:=dI kv (fun v_=>true)
def gC(kv kw:List (Int×Cl))(k:Nat):List Int:=((jT kv++jT kw).take k).filter (kO kv kw)
def eJ(kv kw:List (Int×Cl)):List Int:=Go.Lib.compact (gg ((jT kv++jT kw).filter (kO kv kw)))
variable{kv kw:List (Int×Cl)}{k:Nat}
theorem IF{i:Int}(h:(jT kv++jT kw)[k]? =some i)(hd:kO kv kw i=true):gC kv kw k++[i]=gC kv kw (k+1):=by
 unfold gC;rw[List.take_add_one,h,List.filter_append];simp[hd]
theorem IG{i:Int}(h:(jT kv++jT kw)[k]? =some i)(hd:kO kv kw i=false):gC kv kw k=gC kv kw (k+1):=by
 unfold gC;rw[List.take_add_one,h,List.filter_append];simp[hd]
theorem Mc(kv kw:List (Int×Cl))(k:Nat):(gC kv kw k).length≤k:=Nat.le_trans (List.length_filter_le _ _) (by simp;omega)
theorem FU(h:(jT kv++jT kw).length≤k):gC kv kw k=(jT kv++jT kw).filter (kO kv kw):=by unfold gC;rw[List.take_of_length_le h]
theorem vq(kv:List (Int×Cl)):(jT kv).length≤kv.length:=ns _ _
theorem DL(l:List Int):(Go.Lib.compact l).length≤l.length:=by
 unfold Go.Lib.compact Go.Lib.compactUpTo;rw[List.length_map];exact Nat.le_trans (List.length_filter_le _ _) (by simp)
open Go.RowKit Go.Sort Go.Shelf Go.Proofs
def Tryz.laysNm220_ren:Go.Shelf.Ren:=⟨fun|20=>97|n=>n,fun|22=>65|3=>3|4=>4|0=>0|n=>n,fun|n=>n⟩
theorem Tryz.laysNm220:Go.Proofs.Lays2.n20 Tryz.prog Tryz.laysNm220_ren:={
 mixed:=by kernel_rfl
 f20:=Tryz.func97.trans (congrArg some (by kernel_rfl))
 t0:=Tryz.underlying0
 a0:=Tryz.isAgg0
 z0:=Tryz.sizeOf0
 v0:=Tryz.zeroValue0
 t3:=Tryz.underlying3
 a3:=Tryz.isAgg3
 z3:=Tryz.sizeOf3
 v3:=Tryz.zeroValue3
 t4:=Tryz.underlying4
 a4:=Tryz.isAgg4
 z4:=Tryz.sizeOf4
 v4:=Tryz.zeroValue4
 t22:=Tryz.underlying65
 a22:=Tryz.isAgg65
 z22:=Tryz.sizeOf65
 v22:=Tryz.zeroValue65
 i3:=by kernel_rfl}
theorem KG(A:Option Addr)(l:List Int)(c:Nat)(hl:l.length≤100000):
  CS 97 #[vS A l c] [sI A l c] (fun(zz:Unit)=>(vS A (Go.Lib.compact l) c)) (fun _=>True) fun _=>[sI A (Go.Lib.compact l) c]:=by
 intro w hs
 have h0:(sI A l c).holds w:=hs.all _ (by simp)
 cases A with
 |none=>
  have hl0:l=[]:=by
   obtain⟨_,h2,_,⟨_,h4⟩|⟨_,_,_,h4,_⟩⟩:=h0
   ·exact List.eq_nil_of_length_eq_zero (by omega)
   ·cases h4
  subst hl0
  refine(Any.slices_Compact_int_empty Tryz.laysNm220 none c w).mono ?_
  rintro e w' ⟨rfl,rfl⟩
  exact⟨(),rfl,trivial,Turn.of hs (.refl _)⟩
 |some a=>
  obtain⟨g,off,rfl⟩: ∃g off,a=⟨g,off,none⟩:=by
   obtain⟨_,_,_,⟨h4,_⟩|⟨g,off,_,h4,_⟩⟩:=id h0
   ·cases h4
   ·cases h4;exact⟨g,off,rfl⟩
  obtain⟨hH,hlt⟩:=EB (fun _=>rfl) h0
  refine(Any.slices_Compact_int Tryz.laysNm220 g off c l w hH (by omega) h0.2.1).mono ?_
  rintro e w' ⟨rfl,q,rfl⟩
  exact⟨(),rfl,trivial,HY (fun _=>rfl) (by have:=DL l;simp;omega) h0⟩
abbrev IH(p0)(p1):=((.tuple #[.agg (dt (dF p0 p1)).toArray,i_ (fZ p0 p1)]):Value)
theorem II(bt mb:Nat)(kv:List (Int×Cl))(bu mc:Nat)(kw:List (Int×Cl))(hl:kv.length≤64)(hm:kw.length≤64)(w:World)(r0:(cz bt [.map (some mb)] 185).holds w)(r1:(di mb kv).holds w)(r2:(cz bu [.map (some mc)] 185).holds w)(r3:(di mc kw).holds w)(hs:HI w []):
  CV 67 #[p_ bt,p_ bu] w [] (fun((al',cl'):(Option Addr)×Nat)=>(vS al' (eJ kv kw) cl')) (fun _=>True) fun(al',cl')=>[sI al' (eJ kv kw) cl']:=by
 have hk1:=vq kv;have hk2:=vq kw;unfold jT at hk1 hk2;have hk3:((dI kv (fun v_=>true))++(dI kw (fun v_=>true))).length≤128:=by rw[List.length_append];omega
 refine A.C Tryz.func67 rfl hs (A.c (A.g [.p] [] [] (A.c (A.g [.p] [] [(5,e_)] (A.d (A.c (A.O [.p] [] [(12,p_ bt)] (A.j (A.J (some 13) [] (fun ww ss hh=>Ag bt mb kv (by omega) ww (da ss r0) (da ss r1) hh) ?_)))))))))
 rintro⟨al'1,cl'2⟩-
 refine A.O [.p] [12] [(13,vS al'1 (dI kv (fun v_=>true)) cl'2),(14,p_ bu)] (A.j (A.J (some 15) [] (fun ww ss hh=>Ag bu mc kw (by omega) ww (da ss r2) (da ss r3) hh) ?_))
 rintro⟨al'4,cl'5⟩-
 refine A.j (A.aF 16 (e:=65) [vS al'1 (dI kv (fun v_=>true)) cl'2,vS al'4 (dI kw (fun v_=>true)) cl'5] (by kernel_rfl) rfl (fun _=>by kernel_rfl) _ (fun _=>rfl) ?_)
 intro b7
 refine A.j (A.J (some 17) [] (fun ww ss hh=>Jj b7 al'1 (dI kv (fun v_=>true)) cl'2 al'4 (dI kw (fun v_=>true)) cl'5 (by omega) (by omega) ww (ss.mem (i:=2) rfl) ((fa (i:=1) rfl) ww ss) ((fa (i:=0) rfl) ww ss) hh) ?_)
 rintro⟨al'8,cl'9⟩-
 refine A.g [.p,.p] [13,14,15,16] [(17,vS al'8 ((dI kv (fun v_=>true))++(dI kw (fun v_=>true))) cl'9),(18,i_ (((dI kv (fun v_=>true))++(dI kw (fun v_=>true))).length:Int)),(19,i_ 0)] (A.y (A.aP 3 1 [sI al'8 ((dI kv (fun v_=>true))++(dI kw (fun v_=>true))) cl'9,sI al'4 (dI kw (fun v_=>true)) cl'5,sI al'1 (dI kv (fun v_=>true)) cl'2,cz b7 [vS al'1 (dI kv (fun v_=>true)) cl'2,vS al'4 (dI kw (fun v_=>true)) cl'5] 65,sI none ([]:List Int) 0] rfl (A.su 4 (sI none (gC kv kw 0) 0) rfl (eI (by rfl:([]:List Int)=(gC kv kw 0))) (A.D 5 (vS none (gC kv kw 0) 0) (congrArg (fun z_:List Int=>some (Value.slice none z_.length 0)) (by rfl:([]:List Int)=(gC kv kw 0))) (A.lp (σ:=Nat×(Option Addr)×Nat) [] (fun(k,ao,co)=>[(19,c_ k),(5,vS ao (gC kv kw k) co)]) [4] (fun(k,ao,co)=>[sI ao (gC kv kw k) co]) (fun(k,ao,co)=>(k≤((dI kv (fun v_=>true))++(dI kw (fun v_=>true))).length)) (fun(k,ao,co)=>((dI kv (fun v_=>true))++(dI kw (fun v_=>true))).length-k) (0,none,0) (by omega) ?_ ?_)))))
 ·exact A.I [4,0,0,0,0]
 rintro⟨k,ao,co⟩ hk
 have hk:k≤((dI kv (fun v_=>true))++(dI kw (fun v_=>true))).length:=hk
 have htl:=Mc kv kw k
 refine A.c (A.g [.p] [] [(20,b_ (decide ((k:Int)<(((dI kv (fun v_=>true))++(dI kw (fun v_=>true))).length:Int))))] (A.d (A.v rfl (fun e4=> ?_) (fun e4=> ?_))))
 ·have p4:=of_decide_eq_true e4
  refine A.p (A.d (A.y (A.c (A.kp [.ix] [20] [(21,.pointer (some ((dV al'8).add (k*1))))] [] (o1 (dY 1 k fE rfl (by omega))) ?_))))
  obtain⟨x12,hx12⟩: ∃x,(((dI kv (fun v_=>true))++(dI kw (fun v_=>true))))[k]? =some x:=⟨_,List.getElem?_eq_getElem (by omega)⟩
  refine A.k [.rd [i_ x12],.p] [21] [(7,i_ x12)] [] (o1 (ro ((dV al'8).add (k*1)) (fY (vs:=[i_ x12]) fE (fa (i:=1) rfl) hx12 (Nat.le_of_ble_eq_true rfl) rfl))) (A.c (A.no [.p,.p,.cq (IH kv x12),.p,.p,.p,.al,.st 5,.p] [] (fun b13=>[(8,p_ b13),(9,i_ (fZ kv x12))]) (fun b13=>[]) (fun b13=>cz b13 (dt (dF kv x12)) 62) (fun b13=>[b13]) (fun b13=>o1 (qo (fun ww ss=>q8 bt mb kv x12 ww (da ss r0) (da ss r1)))) ?_))
  intro b13
  refine A.c (A.no [.p,.p,.cq (IH kw x12),.p,.p,.p,.al,.st 6,.p] [] (fun b14=>[(10,p_ b14),(11,i_ (fZ kw x12))]) (fun b14=>[]) (fun b14=>cz b14 (dt (dF kw x12)) 62) (fun b14=>[b14]) (fun b14=>o1 (qo (fun ww ss=>q8 bu mc kw x12 ww (da ss r2) (da ss r3)))) ?_)
  intro b14
  refine A.c (A.gl [.p,.p,.p,.p,.eq,.p,.o,.ld 5,.ld 6,.eq,.cl] [8,9,10,11] [(44,b_ ((!(((fZ kv x12)==0)==((fZ kw x12)==0)))||(!((((dF kv x12).hi)==((dF kw x12).hi))&&((((dF kv x12).hp)==((dF kw x12).hp))&&((((dF kv x12).hl)==((dF kw x12).hl))&&(((((dF kv x12).ra)==((dF kw x12).ra))&&((((dF kv x12).rb)==((dF kw x12).rb))&&(((dF kv x12).rc)==((dF kw x12).rc))))&&(((((dF kv x12).la)==((dF kw x12).la))&&((((dF kv x12).lb)==((dF kw x12).lb))&&(((dF kv x12).lc)==((dF kw x12).lc))))&&(((((dF kv x12).ua)==((dF kw x12).ua))&&((((dF kv x12).ub)==((dF kw x12).ub))&&(((dF kv x12).uc)==((dF kw x12).uc))))&&((((dF kv x12).hk)==((dF kw x12).hk))&&(((dF kv x12).hq)==((dF kw x12).hq))))))))))))] [b13,b14] (A.v rfl (fun e5=> ?_) (fun e5=> ?_)))
  ·have hdf:kO kv kw x12=true:=by
    revert e5;unfold kO;cases h1_:cw kv x12 with
    |none=>cases h2_:cw kw x12 with
     |none=>simp[fZ,dF,h1_,h2_,dr]
     |some v_=>simp[fZ,dF,h1_,h2_,dr]
    |some u_=>cases h2_:cw kw x12 with
     |none=>simp[fZ,dF,h1_,h2_,dr]
     |some v_=>obtain⟨_,_,_,_,_,_,_,_,_,_,_,_,_,_⟩:=u_;obtain⟨_,_,_,_,_,_,_,_,_,_,_,_,_,_⟩:=v_;simp[fZ,dF,h1_,h2_];try(grind)
   refine A.s (A.O [.p,.p] [7,44] [(45,vS ao (gC kv kw k) co),(46,i_ x12)] (A.j (A.aF 47 (e:=3) [i_ x12] (by kernel_rfl) rfl (fun _=>by kernel_rfl) _ (fun _=>rfl) ?_)))
   intro b15
   refine A.j (A.ap j9 (gC kv kw k) ([x12]) 0 48 (i_ 0) 8 fE lO (gZ (i:=7) rfl) (by((simp;omega))) ?_)
   intro A16 c16
   refine A.g [.p] [45,46,47,48] [(5,vS A16 ((gC kv kw k)++([x12])) c16)] (A.s (A.hk [.w ((k:Int)+1),.p] [(0,p_ bt),(1,p_ bu),(17,vS al'8 ((dI kv (fun v_=>true))++(dI kw (fun v_=>true))) cl'9),(18,i_ (((dI kv (fun v_=>true))++(dI kw (fun v_=>true))).length:Int)),(19,i_ ((k:Int)+1)),(5,vS A16 ((gC kv kw k)++([x12])) c16)] [] (o1 (wj ((k:Int)+1) (by omega))) (A.su 0 (sI A16 (gC kv kw (k+1)) c16) rfl (eI (IF ‹_› hdf:(gC kv kw k)++([x12])=(gC kv kw (k+1)))) (A.D 5 (vS A16 (gC kv kw (k+1)) c16) (fJ (IF ‹_› hdf)) (A.aA (k+1,A16,c16) (by omega) (by(have h_:=(List.getElem?_eq_some_iff.1 (by assumption:((dI kv (fun v_=>true))++(dI kw (fun v_=>true)))[k]? =some _)).1;show((dI kv (fun v_=>true))++(dI kw (fun v_=>true))).length-(k+1)<((dI kv (fun v_=>true))++(dI kw (fun v_=>true))).length-k;omega)) ?_)))))
   exact A.I [0,0,0,0,0]
  have hdf:kO kv kw x12=false:=by
   revert e5;unfold kO;cases h1_:cw kv x12 with
   |none=>cases h2_:cw kw x12 with
    |none=>simp[fZ,dF,h1_,h2_,dr]
    |some v_=>simp[fZ,dF,h1_,h2_,dr]
   |some u_=>cases h2_:cw kw x12 with
    |none=>simp[fZ,dF,h1_,h2_,dr]
    |some v_=>obtain⟨_,_,_,_,_,_,_,_,_,_,_,_,_,_⟩:=u_;obtain⟨_,_,_,_,_,_,_,_,_,_,_,_,_,_⟩:=v_;simp[fZ,dF,h1_,h2_];try(grind)
  refine A.p (A.s (A.k [.w ((k:Int)+1),.p] [7,44] [(19,i_ ((k:Int)+1))] [] (o1 (wj ((k:Int)+1) (by omega))) (A.su 0 (sI ao (gC kv kw (k+1)) co) rfl (eI (IG ‹_› hdf:(gC kv kw k)=(gC kv kw (k+1)))) (A.D 5 (vS ao (gC kv kw (k+1)) co) (fJ (IG ‹_› hdf)) (A.aA (k+1,ao,co) (by omega) (by(have h_:=(List.getElem?_eq_some_iff.1 (by assumption:((dI kv (fun v_=>true))++(dI kw (fun v_=>true)))[k]? =some _)).1;show((dI kv (fun v_=>true))++(dI kw (fun v_=>true))).length-(k+1)<((dI kv (fun v_=>true))++(dI kw (fun v_=>true))).length-k;omega)) ?_)))))
  exact A.I [0,0,0,0,0]
 have p4:=of_decide_eq_false e4
 refine A.aB (A.c (A.O [.p] [0,1,17,18,19,20] [(50,vS ao (gC kv kw k) co)] (A.j (A.J (some 51) [0] (fun ww ss hh=>tU ao (gC kv kw k) co (by omega) ww hh) ?_))))
 rintro⟨⟩-
 refine A.aC (A.d (A.D 5 (vS ao (gg (gC kv kw k)) co) (dm (by rw[nE])) (A.D 50 (vS ao (gg (gC kv kw k)) co) (dm (by rw[nE])) (A.s (A.O [.p] [5,50,51] [(52,vS ao (gg (gC kv kw k)) co)] (A.j (A.J (some 53) [0] (fun ww ss hh=>KG ao (gg (gC kv kw k)) co (by(rw[nE];omega)) ww hh) ?_)))))))
 rintro⟨⟩-
 refine A.g [.p] [52,53] [(4,vS ao (Go.Lib.compact (gg (gC kv kw k))) co)] (A.e (A.su 0 (sI ao (eJ kv kw) co) rfl (eI (by(unfold eJ;rw[FU (show((dI kv (fun v_=>true))++(dI kw (fun v_=>true))).length≤k from by omega)];done):(Go.Lib.compact (gg (gC kv kw k)))=(eJ kv kw))) (A.Y [0] [vS ao (Go.Lib.compact (gg (gC kv kw k))) co] (ao,co) ?_ ?_)))
 ·show((vS ao (Go.Lib.compact (gg (gC kv kw k))) co):Value)=(vS ao (eJ kv kw) co)
  unfold eJ;rw[FU (show((dI kv (fun v_=>true))++(dI kw (fun v_=>true))).length≤k from by omega)]
 trivial
end Go.Proofs.YtobgjpigngoggaaGreat
namespace Go.Proofs.YtobgjpigngoggaaGreat
open Go V
def mV(kv kw:List (Int×Cl))(i:Int):Bool:=decide ((dM (dF kv i).ra (dF kv i).rb (dF kv i).rc)>1)||decide ((dM (dF kw i).ra (dF kw i).rb (dF kw i).rc)>1)
variable{l:List Int}{f:Int→Bool}{k:Nat}
theorem RH{i:Int}(h:l[k]? =some i)(hf:f i=true):l.any f=true:=List.any_eq_true.2 ⟨i,List.mem_of_getElem? h,hf⟩
theorem RI(hn: ∀x∈l.take k,f x=false)(hk:l.length≤k):l.any f=false:=by
 rw[List.take_of_length_le hk] at hn;rw[List.any_eq_false];intro x hx;simp[hn x hx]
theorem RJ{i:Int}(hn: ∀x∈l.take k,f x=false)(h:l[k]? =some i)(hf:f i=false): ∀x∈l.take (k+1),f x=false:=by
 rw[List.take_add_one,h];intro x hx
 rcases List.mem_append.1 hx with hx|hx
 ·exact hn x hx
 ·simp at hx;subst hx;exact hf
theorem AT(kv kw:List (Int×Cl)):(eJ kv kw).length≤kv.length+kw.length:=by
 unfold eJ
 refine Nat.le_trans (DL _) ?_
 rw[nE]
 refine Nat.le_trans (List.length_filter_le _ _) ?_
 rw[List.length_append];have h1:=vq kv;have h2:=vq kw;omega
abbrev IJ(p0)(p1):=((.tuple #[.agg (dt (dF p0 p1)).toArray,i_ (fZ p0 p1)]):Value)
abbrev B2(p0)(p1)(p2):=(b_ ((decide ((dM (dF p0 p1).ra (dF p0 p1).rb (dF p0 p1).rc)>1))||(decide ((dM (dF p2 p1).ra (dF p2 p1).rb (dF p2 p1).rc)>1))):Value)
theorem LG(ci:Int)(ba bb:Nat)(bt mb:Nat)(kv:List (Int×Cl))(bu mc:Nat)(kw:List (Int×Cl))(w:World)(r0:(cz ba [p_ bt] 131).holds w)(r1:(cz bb [p_ bu] 131).holds w)(r2:(cz bt [.map (some mb)] 185).holds w)(r3:(di mb kv).holds w)(r4:(cz bu [.map (some mc)] 185).holds w)(r5:(di mc kw).holds w):
  CW 102 #[i_ ci,p_ ba,p_ bb] w (b_ (mV kv kw ci)):=by
 refine A.C Tryz.func102 rfl (HS.nil w) (A.c (A.g [.p] [] [] (A.c (A.no [.rd [p_ bt],.p,.cq (IJ kv ci),.p,.p,.p,.al,.st 0,.p] [1] (fun b1=>[(5,p_ b1)]) (fun b1=>[]) (fun b1=>cz b1 (dt (dF kv ci)) 62) (fun b1=>[b1]) (fun b1=>oc (ro ⟨ba,0,none⟩ (vs:=[p_ bt]) (dj r0 rfl)) (o1 (qo (fun ww ss=>q8 bt mb kv ci ww (da ss r2) (da ss r3))))) ?_))))
 intro b1
 refine A.c (A.no [.rd [p_ bu],.p,.cq (IJ kw ci),.p,.p,.p,.al,.st 1,.p] [0,2] (fun b2=>[(7,p_ b2)]) (fun b2=>[]) (fun b2=>cz b2 (dt (dF kw ci)) 62) (fun b2=>[b2]) (fun b2=>oc (ro ⟨bb,0,none⟩ (vs:=[p_ bu]) (dj r1 rfl)) (o1 (qo (fun ww ss=>q8 bu mc kw ci ww (da ss r4) (da ss r5))))) ?_)
 intro b2
 refine A.c (A.k [.ld 0,.cq (b_ (decide ((dM (dF kv ci).ra (dF kv ci).rb (dF kv ci).rc)>1))),.p,.o,.ld 1,.cq (b_ (decide ((dM (dF kw ci).ra (dF kw ci).rb (dF kw ci).rc)>1))),.cl,.p] [5,7] [(4,B2 kv ci kw)] [b1,b2] (oc (qo (fun ww ss=>qI (dF kv ci) ww)) (o1 (go (true&&((decide ((dM (dF kv ci).ra (dF kv ci).rb (dF kv ci).rc)>1))==false)) fun h_=>(qo (fun ww ss=>qI (dF kw ci) ww))))) (A.e (A.N [B2 kv ci kw] ?_)))
 show((B2 kv ci kw):Value)=(b_ (mV kv kw ci))
 rfl
abbrev uX(p0):=(b_ (decide ((p0:Int)≥0)):Value)
theorem RL(bt mb:Nat)(kv:List (Int×Cl))(bu mc:Nat)(kw:List (Int×Cl))(hl:kv.length≤64)(hm:kw.length≤64)(w:World)(r0:(cz bt [.map (some mb)] 185).holds w)(r1:(di mb kv).holds w)(r2:(cz bu [.map (some mc)] 185).holds w)(r3:(di mc kw).holds w):
  CW 70 #[p_ bt,p_ bu] w (b_ ((eJ kv kw).any (mV kv kw))):=by
 have htl0:=AT kv kw
 refine A.C Tryz.func70 rfl (HS.nil w) (A.c (A.n2 [.al,.al,.p] [0,1] (fun b1 b2=>[(2,p_ b1),(3,p_ b2)]) (fun b1 b2=>[cz b1 [p_ bt] 131,cz b2 [p_ bu] 131]) ?_))
 intro b1 b2
 refine A.c (A.gm [.ld 0,.ld 1] [] [(5,p_ bt),(6,p_ bu)] [b1,b2] (A.j (A.J (some 7) [] (fun ww ss hh=>II bt mb kv bu mc kw ‹_› ‹_› ww (da ss r0) (da ss r1) (da ss r2) (da ss r3) hh) ?_)))
 rintro⟨al'3,cl'4⟩-
 refine A.O [.p] [2,3,5,6] [(7,vS al'3 (eJ kv kw) cl'4),(8,.func (.func 102) #[] #[p_ b1,p_ b2])] (A.j (A.iX (some 9) [vS al'3 (eJ kv kw) cl'4,.func (.func 102) #[] #[p_ b1,p_ b2]] Tryz.func68 rfl (A.c (A.g [.p] [] [] (A.c (A.O [.p,.p] [0,1] [(5,vS al'3 (eJ kv kw) cl'4),(6,.func (.func 102) #[] #[p_ b1,p_ b2])] (A.j (A.iX (some 7) [vS al'3 (eJ kv kw) cl'4,.func (.func 102) #[] #[p_ b1,p_ b2]] Tryz.func98 rfl (A.c (A.g [.p] [] [] (A.d (A.c (A.g [.p,.p,.p] [] [(7,i_ ((eJ kv kw).length:Int)),(8,i_ 0)] (A.y (A.lp (σ:=Nat) [] (fun k=>[(8,c_ k)]) [] (fun k=>[]) (fun k=>(k≤(eJ kv kw).length)∧(∀x∈(eJ kv kw).take k,mV kv kw x=false)) (fun k=>(eJ kv kw).length-k) (0:Nat) ⟨(by omega),(by simp)⟩ ?_ ?_)))))))))))))))
 ·exact A.I [0,0,0]
 rintro k ⟨hk,hn⟩
 have htl:=AT kv kw
 refine A.c (A.g [.p] [] [(9,b_ (decide ((k:Int)<((eJ kv kw).length:Int))))] (A.d (A.v rfl (fun e2=> ?_) (fun e2=> ?_))))
 ·have p2:=of_decide_eq_true e2
  refine A.p (A.d (A.y (A.c (A.g [.p,.p] [9] [(5,c_ k)] (A.c (A.kp [.p,.p,.p,.ix] [] [(11,.func (.func 102) #[] #[p_ b1,p_ b2]),(14,.pointer (some ((dV al'3).add (k*1))))] [] (o1 (dY 0 k fE rfl (by omega))) ?_))))))
  obtain⟨x6,hx6⟩: ∃x,((eJ kv kw))[k]? =some x:=⟨_,List.getElem?_eq_getElem (by omega)⟩
  refine A.k [.rd [i_ x6],.cq (b_ (mV kv kw x6))] [11,14] [(16,b_ (mV kv kw x6))] [] (oc (ro ((dV al'3).add (k*1)) (fY (vs:=[i_ x6]) fE (fa (i:=0) rfl) hx6 (Nat.le_of_ble_eq_true rfl) rfl)) (o1 (qo (fun ww ss=>LG x6 b1 b2 bt mb kv bu mc kw ww (ss.mem (i:=1) rfl) (ss.mem (i:=2) rfl) (da ss r0) (da ss r1) (da ss r2) (da ss r3))))) (A.v rfl (fun e3=> ?_) (fun e3=> ?_))
  ·refine A.c (A.g [.p,.p] [0,1,7,8,5,16] [(4,c_ k)] (A.e (A.pb [c_ k] (A.h [.p,.p] [(4,uX k)] [] (A.e (A.pb [uX k] (A.h [.p] [(4,uX k)] [] (A.e (A.N [uX k] ?_)))))))))
   show((uX k):Value)=(b_ ((eJ kv kw).any (mV kv kw)))
   refine congrArg Value.bool ?_;(rw[RH ‹_› ‹_›];rfl)
  have p3:=e3
  refine A.p (A.s (A.k [.w ((k:Int)+1),.p] [5,16] [(8,i_ ((k:Int)+1))] [] (o1 (wj ((k:Int)+1) (by omega))) (A.aA (k+1) ⟨(by omega),(RJ hn ‹_› ‹_›)⟩ (by(show(eJ kv kw).length-(k+1)<(eJ kv kw).length-k;omega)) ?_)))
  exact A.I [0,0,0]
 have p2:=of_decide_eq_false e2
 refine A.aB (A.c (A.g [.p] [0,1,7,8,9] [(4,i_ (-1))] (A.e (A.pb [i_ (-1)] (A.h [.p,.p] [(4,b_ false)] [] (A.e (A.pb [b_ false] (A.h [.p] [(4,b_ false)] [] (A.e (A.N [b_ false] ?_))))))))))
 show((b_ false):Value)=(b_ ((eJ kv kw).any (mV kv kw)))
 refine congrArg Value.bool ?_;(rw[RI hn (by omega)];done)
theorem w9(kv kw:List (Int×Cl)):tL (eJ kv kw)∧ ∀z,z∈eJ kv kw↔(z∈jT kv∨z∈jT kw)∧kO kv kw z=true:=by
 have h:=FN ((jT kv++jT kw).filter (kO kv kw))
 have e:eJ kv kw=jQ (ij ((jT kv++jT kw).filter (kO kv kw))):=by unfold eJ jQ Go.Lib.compact;rfl
 rw[e];refine⟨h.1,fun z=> ?_⟩
 rw[h.2,List.mem_filter,List.mem_append]
end Go.Proofs.YtobgjpigngoggaaGreat
namespace Go.Proofs.YtobgjpigngoggaaGreat.V
open Go
def co(l:List dC):dC where
 foot:=dG l
 holds w:= ∀it∈l,it.holds w
 loc w w' h hw it hi:=it.loc w w' (fun c hc=>h c (EC hi hc)) (hw it hi)
 here w hw c hc:=by
  obtain⟨it,hi,hc⟩:=List.mem_flatMap.1 hc
  exact it.here w (hw it hi) c hc
theorem mD(l R:List dC):dG (co l::R)=dG (l++R):=by simp[dG,co]
variable{w:World}{l R:List dC}
theorem HS.coO{w0:World}{S:List Nat}(h:HS w0 S (co l::R) w):HS w0 S (l++R) w:=
 ⟨h.fr,fun it hi=>(List.mem_append.1 hi).elim (fun hi=>h.all _ (List.mem_cons_self ..) it hi) fun hi=>h.all _ (List.mem_cons_of_mem _ hi),by have:=h.nodup;rwa[mD] at this,by have:=h.own;rwa[mD] at this⟩
variable{Is Os X Y:List dC}{w':World}
theorem Turn.coI(h:Turn (Is++X) (Os++Y) w w'):Turn (co Is::X) (co Os::Y) w w':=
 ⟨by rw[mD];exact h.fr,fun it hi=>(List.mem_cons.1 hi).elim (fun e=>e▸fun it hi=>h.all it (List.mem_append.2 (.inl hi))) fun hi=>h.all it (List.mem_append.2 (.inr hi)),by rw[mD];exact h.nodup,by rw[mD,mD];exact h.own⟩
theorem Turn.coR(h:Turn X (Os++Y) w w'):Turn X (co Os::Y) w w':=
 ⟨h.fr,fun it hi=>(List.mem_cons.1 hi).elim (fun e=>e▸fun it hi=>h.all it (List.mem_append.2 (.inl hi))) fun hi=>h.all it (List.mem_append.2 (.inr hi)),by rw[mD];exact h.nodup,by rw[mD];exact h.own⟩
section
variable{β σ:Type}{f:β→List dC}{kv:List (Int×β)}{k:Int}{m:β}
theorem Turn.bag{ek:Int→Value}{ev:β→Value}{b:Nat}{m':β}(hs:HS w (dG [co [dX ek ev b kv,eT f kv]]) [co [dX ek ev b kv,eT f kv]] w)(hm:cw kv k=some m)(hf:f m=Is++R)(hf':f m'=Os++R)(he:ev m'=ev m)
  (h:HS w (dG Is) Is w→Turn Is Os w w'):Turn [co [dX ek ev b kv,eT f kv]] [co [dX ek ev b (dD kv k m'),eT f (dD kv k m')]] w w':=by
 have h0:=hs.coO
 have hmp:(dX ek ev b kv).holds w:=h0.all _ (by simp)
 have hb:(eT f kv).holds w:=h0.all _ (by simp)
 have hp1:(dG (Is++(R++[dX ek ev b kv,eT f (dL kv k)]))).Perm (dG ([dX ek ev b kv,eT f kv]++[])):=by
  have:=(pX hm).flatMap_right (fun p:Int×β=>dG (f p.2))
  simp only[List.flatMap_cons,hf,kQ] at this
  refine List.perm_iff_count.2 fun a=> ?_
  have:=List.perm_iff_count.1 this a
  simp only[dG,eT,km,dX,List.flatMap_cons,List.flatMap_nil,List.append_nil,List.flatMap_append,List.count_append] at this⊢
  omega
 have h1:HS w (dG [co [dX ek ev b kv,eT f kv]]) (Is++(R++[dX ek ev b kv,eT f (dL kv k)])) w:=by
  refine⟨Fr.refl _ _,fun it hi=> ?_,hp1.nodup_iff.2 h0.nodup,fun c hc=> .inl ?_⟩
  ·rcases List.mem_append.1 hi with hi|hi
   ·exact hb (k,m) (mZ hm) it (by rw[hf];exact List.mem_append.2 (.inl hi))
   rcases List.mem_append.1 hi with hi|hi
   ·exact hb (k,m) (mZ hm) it (by rw[hf];exact List.mem_append.2 (.inr hi))
   ·simp only[List.mem_cons,List.not_mem_nil,or_false] at hi
    rcases hi with rfl|rfl
    ·exact hmp
    ·exact fun p hq=>hb p ((pX hm).mem_iff.2 (by simp[hq]))
  ·have:=hp1.mem_iff.1 hc;rw[mD];exact this
 have h2:=h1.turned (List.Perm.refl _) (h (h1.focus (List.Perm.refl _)))
 have hq:(dG ([dX ek ev b (dD kv k m'),eT f (dD kv k m')]++[])).Perm (dG (Os++(R++[dX ek ev b kv,eT f (dL kv k)]))):=by
  have:=(oV k m' kv).flatMap_right (fun p:Int×β=>dG (f p.2))
  simp only[List.flatMap_cons,hf',kQ] at this
  refine List.perm_iff_count.2 fun a=> ?_
  have:=List.perm_iff_count.1 this a
  simp only[dG,eT,km,dX,List.flatMap_cons,List.flatMap_nil,List.append_nil,List.flatMap_append,List.count_append] at this⊢
  omega
 refine Turn.coR ⟨h2.fr,fun it hi=> ?_,hq.nodup_iff.2 h2.nodup,fun c hc=>h2.own c (hq.mem_iff.1 hc)⟩
 simp only[List.append_nil,List.mem_cons,List.not_mem_nil,or_false] at hi
 rcases hi with rfl|rfl
 ·exact ED (h2.all (dX ek ev b kv) (by simp)) (zG he hm)
 ·intro p hq it hi
  rcases List.mem_cons.1 ((oV k _ kv).mem_iff.1 hq) with rfl|hq
  ·rw[hf'] at hi
   rcases List.mem_append.1 hi with hi|hi
   ·exact h2.all it (List.mem_append.2 (.inl hi))
   ·exact h2.all it (List.mem_append.2 (.inr (List.mem_append.2 (.inl hi))))
  ·exact(show(eT f (dL kv k)).holds w' from h2.all _ (by simp)) p hq it hi
end
section
variable{P:Program}{n:Nat}{env:dQ}{w0:World}{S:List Nat}{H R H':List dC}{o:Oper}{G:Act→World→Prop}{β:Type}
variable{encv:β→Value}{x y:Operand}{t kt et:TypeId}
theorem jc{κ:Type}[DecidableEq κ]{enck:κ→Value}{b:Nat}{kv:List (κ×β)}{k:κ}{m:β}{ok:Bool}{v:Value}(hit: ∀w,HS w0 S H w→(dX enck encv b kv).holds w)(hm:cw kv k=some m)(ho:o.op= .lookup t x y ok)(hx:ev env x=some (.map (some b)))(hy:ev env y=some (enck k))
  (ht:P.underlying t=some (.map kt et))(hk:jY P kt enck)(hv:(bif ok then .tuple #[encv m,.bool true] else encv m)=v):Qt P n env w0 S H o v:=
 hY fun a w r s=>by
  subst hv
  obtain⟨⟨es,clock,hb,hE,_⟩,hn⟩:=hit w s
  rcases rR hk hE hn k w with⟨i,v,_,_,hg,hf⟩|⟨hg,_,hf⟩
  ·rw[hm] at hg;cases hg
   cases ok<;>simp[execOp,ho,r.ev hx,r.ev hy,Instr.lookup,run_underlying ht,Go.MapKept.run_getObj_map hb,hk.check,hf]
  ·rw[hm] at hg;cases hg
theorem KH{κ:Type}[DecidableEq κ]{enck:κ→Value}{b:Nat}{kv:List (κ×β)}{k:κ}{ok:Bool}{z v:Value}(hit: ∀w,HS w0 S H w→(dX enck encv b kv).holds w)(hm:cw kv k=none)(ho:o.op= .lookup t x y ok)(hx:ev env x=some (.map (some b)))(hy:ev env y=some (enck k))
  (ht:P.underlying t=some (.map kt et))(hk:jY P kt enck)(hz:(P.info? et).bind (·.zero)=some z)(hv:(bif ok then .tuple #[z,.bool false] else z)=v):Qt P n env w0 S H o v:=
 hY fun a w r s=>by
  subst hv
  obtain⟨⟨es,clock,hb,hE,_⟩,hn⟩:=hit w s
  simp only[Option.bind_eq_some_iff] at hz
  obtain⟨inf,hinf,hz⟩:=hz
  rcases rR hk hE hn k w with⟨i,v,_,_,hg,hf⟩|⟨hg,_,hf⟩
  ·rw[hm] at hg;cases hg
  ·cases ok<;>simp[execOp,ho,r.ev hx,r.ev hy,Instr.lookup,run_underlying ht,Go.MapKept.run_getObj_map hb,hk.check,hf,zeroValue,typeInfo,hinf,hz]
theorem A.bf(i:Nat)(hp:gU [i] H=some ([co l],R))(hH:l++R=H')(h:V.A n env w0 S H' G):V.A n env w0 S H G:=
 A.bH [i] (Os:=l) hp (fun w hw it hi=>hw _ (List.mem_singleton.2 rfl) it hi) (by rw[show[co l]=co l::[] from rfl,mD];simp) hH h
end
end Go.Proofs.YtobgjpigngoggaaGreat.V
namespace Go.Proofs.YtobgjpigngoggaaGreat
open Go V
structure Qu where
 br:Nat
 ar:Option Addr
 sx:List Pk
 cp:Nat
 f:Nat
 n:Nat
 rm:Int
 bs:Int
 k1:Int
 k2:Int
 k3:Int
 k4:Int
 k5:Int
 k6:Int
instance:Inhabited Qu:=⟨⟨0,none,[],0,0,0,0,0,0,0,0,0,0,0⟩⟩
def o8(b:Nat)(q:Qu):List V.dC:=[cz b [p_ q.br,i_ q.rm,i_ q.bs,u_ q.k1,u_ q.k2,u_ q.k3,u_ q.k4,u_ q.k5,u_ q.k6] 269,cz q.br [.slice q.ar q.sx.length q.cp,i_ (q.f:Int),i_ (q.n:Int)] 315,sl q.ar q.sx.length q.cp 45 6 (V.dJ fR q.sx)]
def i6(b:Option Nat)(q:Qu):V.dC:=match b with|none=>co []|some b=>co (o8 b q)
def qp(b:Option Nat):Value:=match b with|none=>n_|some b=>p_ b
def kq(q:Qu):Prop:=q.f<q.sx.length∧q.n≤q.sx.length∧q.sx.length≤64
def qC(q:Qu):List Pk:=(List.range q.n).map fun j=>q.sx.getD ((q.f+j)%q.sx.length) default
theorem mF(q:Qu):(qC q).length=q.n:=by simp[qC]
variable{q:Qu}
theorem NL{p:Pk}(h:kq q)(hn:q.n<q.sx.length)(r:Qu)(e1:r.sx=q.sx.set ((q.f+q.n)%q.sx.length) p)(e2:r.f=q.f)(e3:r.n=q.n+1):qC r=qC q++[p]:=by
 have h0:0<q.sx.length:=by omega
 unfold qC;rw[e1,e2,e3,List.range_succ,List.map_append,List.length_set]
 congr 1
 ·refine List.map_congr_left fun j hj=> ?_
  have hj:=List.mem_range.1 hj
  have:(q.f+q.n)%q.sx.length≠(q.f+j)%q.sx.length:=fun e=>by
   have h1:=h.1
   rcases Nat.lt_or_ge (q.f+q.n) q.sx.length with h2|h2
   ·rw[Nat.mod_eq_of_lt h2,Nat.mod_eq_of_lt (by omega)] at e;omega
   ·rw[Nat.mod_eq_sub_mod h2,Nat.mod_eq_of_lt (by omega)] at e
    rcases Nat.lt_or_ge (q.f+j) q.sx.length with h3|h3
    ·rw[Nat.mod_eq_of_lt h3] at e;omega
    ·rw[Nat.mod_eq_sub_mod h3,Nat.mod_eq_of_lt (by omega)] at e;omega
  simp[List.getD,List.getElem?_set_ne this]
 ·have:=Nat.mod_lt (q.f+q.n) h0
  simp[List.getD,List.getElem?_set_self this]
theorem Ox{x:Pk}(h:kq q)(h0:0<q.n)(hx:q.sx[q.f]? =some x)(r:Qu)(e1:r.sx=q.sx.set q.f default)(e2:r.f=(q.f+1)%q.sx.length)(e3:r.n=q.n-1):qC q=x::qC r:=by
 have hf:=h.1
 unfold qC;rw[e1,e2,e3,List.length_set]
 obtain⟨m,hm⟩: ∃m,q.n=m+1:=⟨q.n-1,by omega⟩
 rw[hm,List.range_succ_eq_map,List.map_cons,List.map_map,Nat.add_sub_cancel]
 congr 1
 ·simp[Nat.mod_eq_of_lt hf,List.getD,hx]
 ·refine List.map_congr_left fun j hj=> ?_
  have hj:=List.mem_range.1 hj
  have hn:=h.2.1
  have e:((q.f+1)%q.sx.length+j)%q.sx.length=(q.f+(j+1))%q.sx.length:=by rw[Nat.mod_add_mod];congr 1;omega
  have hne:q.f≠(q.f+(j+1))%q.sx.length:=fun e=>by
   rcases Nat.lt_or_ge (q.f+(j+1)) q.sx.length with h2|h2
   ·rw[Nat.mod_eq_of_lt h2] at e;omega
   ·rw[Nat.mod_eq_sub_mod h2,Nat.mod_eq_of_lt (by omega)] at e;omega
  show(q.sx.getD ((q.f+(j+1))%q.sx.length) default)=(q.sx.set q.f default).getD (((q.f+1)%q.sx.length+j)%q.sx.length) default
  rw[e];simp[List.getD,List.getElem?_set_ne hne]
theorem Re(b:Option Nat)(q:Qu)(h0:b=none→q.n=0)(w:World)(r:(i6 b q).holds w):Calls Tryz.prog 107 #[qp b] w fun e w'=>e= .returned (i_ ((qC q).length:Int))∧Fr [] w w':=by
 rw[mF]
 cases b with
 |none=>rw[h0 rfl];exact D9 w
 |some b=>exact BR b q.br q.ar q.sx q.cp q.f q.n q.rm q.bs q.k1 q.k2 q.k3 q.k4 q.k5 q.k6 w (r _ (by simp[o8])) (r _ (by simp[o8]))
variable{l:List V.dC}{w:World}
theorem HS.coS(h:HS w (dG [co l]) [co l] w):HS w (dG l) l w:=by
 have:=h.coO;rw[List.append_nil,mD,List.append_nil] at this;exact this
variable{w':World}
theorem Turn.coS{k:List V.dC}(h:Turn l k w w'):Turn [co l] [co k] w w':=Turn.coI (by simpa using h)
def xl(q:Qu)(p:Pk):Prop:=p.qn≤IntKind.i64.wrap (q.rm-q.bs)∧q.n<q.sx.length
def mJ(q:Qu)(p:Pk)(r:Qu)(e:Int):Prop:=kq r∧r.rm=q.rm∧r.sx.length=q.sx.length∧((xl q p∧e=0∧qC r=qC q++[p]∧r.bs=IntKind.i64.wrap (q.bs+p.qn))∨(¬xl q p∧e≠0∧qC r=qC q∧r.bs=q.bs))
def u4(q:Qu)(x:Pk)(r:Qu):Prop:=kq r∧qC q=x::qC r∧r.rm=q.rm∧r.sx.length=q.sx.length∧r.bs=IntKind.i64.wrap (q.bs-x.qn)
theorem Oy(b:Nat)(q:Qu)(hk:kq q)(p:Pk)(hp:1≤p.qn∧p.qn≤16384)(w:World)(hs:HS w (dG [i6 (some b) q]) [i6 (some b) q] w):Calls Tryz.prog 112 #[p_ b,.agg #[u_ p.qi,i_ p.qn,w_ p.qa,w_ p.qb,w_ p.qc,w_ p.qd]] w fun e w'=> ∃zz:Qu×Int,e= .returned (i_ zz.2)∧mJ q p zz.1 zz.2∧Turn [i6 (some b) q] [i6 (some b) zz.1] w w':=by
 have hs':=HS.coS hs
 by_cases hd:p.qn≤IntKind.i64.wrap (q.rm-q.bs)
 ·by_cases hn:q.n<q.sx.length
  ·refine(OT b q.br q.ar q.sx q.cp q.f q.n q.rm q.bs q.k1 q.k2 q.k3 q.k4 q.k5 q.k6 p hp hd hk.1 hn hk.2.2 w hs').mono ?_
   rintro e w' ⟨⟨z1,z4⟩,rfl,-,ht⟩
   exact⟨({q with sx:=q.sx.set ((q.f+q.n)%q.sx.length) p,n:=q.n+1,bs:=_,k1:=z1,k4:=z4},0),rfl,⟨⟨by simpa using hk.1,by simp;omega,by simpa using hk.2.2⟩,rfl,by simp,.inl ⟨⟨hd,hn⟩,rfl,NL hk hn _ rfl rfl rfl,rfl⟩⟩,Turn.coS ht⟩
  ·refine(J5 b q.br q.ar q.sx q.cp q.f q.n q.rm q.bs q.k1 q.k2 q.k3 q.k4 q.k5 q.k6 p hp hd (by have:=hk.2.1;omega) w hs').mono ?_
   rintro e w' ⟨⟨z3,z6⟩,rfl,-,ht⟩
   exact⟨({q with k3:=z3,k6:=z6},_),rfl,⟨hk,rfl,rfl,.inr ⟨fun h=>hn h.2,by simp,rfl,rfl⟩⟩,Turn.coS ht⟩
 ·refine(J4 b q.br q.ar q.sx q.cp q.f q.n q.rm q.bs q.k1 q.k2 q.k3 q.k4 q.k5 q.k6 p hp (by omega) w hs').mono ?_
  rintro e w' ⟨⟨z3,z6⟩,rfl,-,ht⟩
  exact⟨({q with k3:=z3,k6:=z6},_),rfl,⟨hk,rfl,rfl,.inr ⟨fun h=>hd h.1,by simp,rfl,rfl⟩⟩,Turn.coS ht⟩
theorem Rf(b:Nat)(q:Qu)(hk:kq q)(h0:qC q≠[])(w:World)(hs:HS w (dG [i6 (some b) q]) [i6 (some b) q] w):Calls Tryz.prog 153 #[p_ b] w fun e w'=> ∃zz:Qu×Pk,e= .returned (.tuple #[.agg #[u_ zz.2.qi,i_ zz.2.qn,w_ zz.2.qa,w_ zz.2.qb,w_ zz.2.qc,w_ zz.2.qd],i_ 0])∧u4 q zz.2 zz.1∧Turn [i6 (some b) q] [i6 (some b) zz.1] w w':=by
 have h0:0<q.n:=by rw[←mF];exact List.length_pos_iff.2 h0
 refine(Qk b q.br q.ar q.sx q.cp q.f q.n q.rm q.bs q.k1 q.k2 q.k3 q.k4 q.k5 q.k6 hk.1 hk.2.1 hk.2.2 h0 w (HS.coS hs)).mono ?_
 rintro e w' ⟨⟨x,z2,z5⟩,rfl,hx,ht⟩
 exact⟨({q with sx:=q.sx.set q.f default,f:=(q.f+1)%q.sx.length,n:=q.n-1,bs:=_,k2:=z2,k5:=z5},x),rfl,⟨⟨by simpa using Nat.mod_lt _ (by have:=hk.1;omega),by simp;have:=hk.2.1;omega,by simpa using hk.2.2⟩,Ox hk h0 hx _ rfl rfl rfl,rfl,by simp,rfl⟩,Turn.coS ht⟩
def ei(b:Option Nat)(q:Qu):Int:=if b=none∨q.n=0 then 0 else(q.sx.getD q.f default).qn
theorem Oz(b:Option Nat)(q:Qu)(hk:b.isSome=true→kq q)(w:World)(r:(i6 b q).holds w):Calls Tryz.prog 214 #[qp b] w fun e w'=>e= .returned (i_ (ei b q))∧Fr [] w w':=by
 cases b with
 |none=>exact Jf w
 |some b=>
  have hk:=hk rfl
  by_cases hn:q.n=0
  ·rw[show ei (some b) q=0 from if_pos (.inr hn)]
   exact J3 b q.br q.ar q.sx q.cp q.f q.n q.rm q.bs q.k1 q.k2 q.k3 q.k4 q.k5 q.k6 hn w (r _ (by simp[o8])) (r _ (by simp[o8])) (r _ (by simp[o8]))
  ·rw[show ei (some b) q=(q.sx.getD q.f default).qn from if_neg (by simp[hn])]
   exact OS b q.br q.ar q.sx q.cp q.f q.n q.rm q.bs q.k1 q.k2 q.k3 q.k4 q.k5 q.k6 hk.1 hk.2.1 hk.2.2 (by omega) w (r _ (by simp[o8])) (r _ (by simp[o8])) (q9 (r (sl q.ar q.sx.length q.cp 45 6 (V.dJ fR q.sx)) (by simp[o8])))
theorem Rh(m:Nat)(rm:Int)(h1:1≤m)(h2:m≤64)(h3:1≤rm∧rm≤1048576)(w:World)(hs:HS w (dG []) [] w):Calls Tryz.prog 108 #[i_ (m:Int),i_ rm] w fun e w'=> ∃zz:Nat×Qu,e= .returned (.tuple #[p_ zz.1,i_ 0])∧(kq zz.2∧qC zz.2=[]∧zz.2.rm=rm∧zz.2.bs=0∧zz.2.sx.length=m)∧Turn [] [i6 (some zz.1) zz.2] w w':=by
 refine(Qj m rm h1 h2 h3 w hs).mono ?_
 rintro e w' ⟨⟨bq,br,al⟩,rfl,-,ht⟩
 exact⟨(bq,⟨br,al,List.replicate m default,m,0,0,rm,0,0,0,0,0,0,0⟩),rfl,⟨⟨by simp;omega,by simp,by simpa using h2⟩,rfl,rfl,rfl,by simp⟩,Turn.coR (Y:=[]) (by rw[List.append_nil];exact ht)⟩
structure En where
 eb:Nat
 qb:Option Nat
 q:Qu
 ec:Cl
 tot:Int
 du:Du
 sh:Sh
 li:Li
 deriving Inhabited
def nW(m:En):List Value:=qp m.qb::(dt m.ec++u_ m.tot::(fi m.du++gy m.sh++gY m.li))
def gK(m:En):List V.dC:=[i6 m.qb m.q,cz m.eb (nW m) 225]
abbrev rF(b:Nat)(kb:List (Int×En)):V.dC:=dX (fun k:Int=>i_ k) (fun m:En=>p_ m.eb) b kb
def eN(b:Nat)(kb:List (Int×En)):V.dC:=co [rF b kb,eT gK kb]
variable{b:Nat}{kb:List (Int×En)}
theorem mG(h:(eN b kb).holds w):(rF b kb).holds w:=h _ (by simp)
variable{i:Int}{m:En}
theorem gP(h:(eN b kb).holds w)(hm:cw kb i=some m):(cz m.eb (nW m) 225).holds w:=uM (h (eT gK kb) (by simp)) hm _ (by simp[gK])
theorem IQ(h:(eN b kb).holds w)(hm:cw kb i=some m):(i6 m.qb m.q).holds w:=uM (h (eT gK kb) (by simp)) hm _ (by simp[gK])
structure jy(m:En):Prop where
 lf:m.ec.hl=true↔m.qb.isSome=true
 no:m.qb=none→m.q.n=0
 qu:m.qb.isSome=true→kq m.q
theorem uZ(b:Nat)(kb:List (Int×En))(i:Int)(m:En)(qx:Value)(hm:cw kb i=some m)(hq:qp m.qb=qx)(ho:jy m)(w:World)(r:(eN b kb).holds w):Calls Tryz.prog 107 #[qx] w fun e w'=>e= .returned (i_ ((qC m.q).length:Int))∧Fr [] w w':=
 hq▸Re m.qb m.q ho.no w (IQ r hm)
theorem F3(hm:cw kb i=some m)(hs:HS w (dG [eN b kb]) [eN b kb] w)(h:HS w (dG [i6 m.qb m.q]) [i6 m.qb m.q] w→Turn [i6 m.qb m.q] [i6 m.qb q] w w'):Turn [eN b kb] [eN b (dD kb i {m with q:=q})] w w':=
 Turn.bag (f:=gK) (m':={m with q:=q}) (R:=[cz m.eb (nW m) 225]) hs hm rfl rfl rfl h
theorem E1(hm:cw kb i=some m)(hs:HS w (dG [eN b kb]) [eN b kb] w):HS w (dG [i6 m.qb m.q]) [i6 m.qb m.q] w:=by
 have h:=(HS.coS hs).all (eT gK kb) (by simp)
 refine HS.start w _ (fun it hi=>by rw[List.mem_singleton] at hi;subst hi;exact uM h hm _ (by simp[gK])) ?_
 have hn:=(HS.coS hs).nodup
 rw[show[rF b kb,eT gK kb]=[rF b kb]++[eT gK kb] from rfl,kQ] at hn
 have hn:=(List.nodup_append.1 hn).2.1
 rw[show dG [eT gK kb]=km gK kb by simp[dG,eT]] at hn
 have:=((pX hm).flatMap_right (fun p:Int×En=>dG (gK p.2))).nodup_iff.1 hn
 simp only[List.flatMap_cons] at this
 have:=(List.nodup_append.1 this).1
 rw[show gK m=[i6 m.qb m.q]++[cz m.eb (nW m) 225] from rfl,kQ] at this
 exact(List.nodup_append.1 this).1
theorem PC(b:Nat)(kb:List (Int×En))(i:Int)(m:En)(qx:Value)(c:Nat)(p:Pk)(hm:cw kb i=some m)(hc:m.qb=some c)(hq:qp m.qb=qx)(ho:jy m)(hp:1≤p.qn∧p.qn≤16384)(w:World)(hs:HS w (dG [eN b kb]) [eN b kb] w):Calls Tryz.prog 112 #[qx,.agg #[u_ p.qi,i_ p.qn,w_ p.qa,w_ p.qb,w_ p.qc,w_ p.qd]] w fun e w'=> ∃zz:Qu×Int,e= .returned (i_ zz.2)∧mJ m.q p zz.1 zz.2∧Turn [eN b kb] [eN b (dD kb i {m with q:=zz.1})] w w':=by
 subst hq
 have hf:=E1 hm hs
 rw[hc] at hf
 rw[show qp m.qb=p_ c by rw[hc];rfl]
 refine(Oy c m.q (ho.qu (by rw[hc];rfl)) p hp w hf).mono ?_
 rintro e w' ⟨zz,h1,h2,h3⟩
 exact⟨zz,h1,h2,F3 hm hs fun _=>by rw[hc];exact h3⟩
theorem Rj(b:Nat)(kb:List (Int×En))(i:Int)(m:En)(qx:Value)(hm:cw kb i=some m)(hq:qp m.qb=qx)(ho:jy m)(h0:qC m.q≠[])(w:World)(hs:HS w (dG [eN b kb]) [eN b kb] w):Calls Tryz.prog 153 #[qx] w fun e w'=> ∃zz:Qu×Pk,e= .returned (.tuple #[.agg #[u_ zz.2.qi,i_ zz.2.qn,w_ zz.2.qa,w_ zz.2.qb,w_ zz.2.qc,w_ zz.2.qd],i_ 0])∧u4 m.q zz.2 zz.1∧Turn [eN b kb] [eN b (dD kb i {m with q:=zz.1})] w w':=by
 subst hq
 have hf:=E1 hm hs
 rcases hc:m.qb with _|c
 ·exact absurd (List.eq_nil_of_length_eq_zero (by rw[mF];exact ho.no hc)) h0
 ·rw[hc] at hf
  rw[←hc,show qp m.qb=p_ c by rw[hc];rfl]
  refine(Rf c m.q (ho.qu (by rw[hc];rfl)) h0 w hf).mono ?_
  rintro e w' ⟨zz,h1,h2,h3⟩
  exact⟨zz,h1,h2,F3 hm hs fun _=>by rw[hc];exact h3⟩
theorem F4(b:Nat)(kb:List (Int×En))(i:Int)(m:En)(qx:Value)(hq:qp m.qb=qx)(ho:jy m)(w:World)(r:(co [dX (fun k:Int=>i_ k) (fun m:En=>p_ m.eb) b kb,eT gK (dL kb i),i6 m.qb m.q]).holds w):Calls Tryz.prog 214 #[qx] w fun e w'=>e= .returned (i_ (ei m.qb m.q))∧Fr [] w w':=
 hq▸Oz m.qb m.q ho.qu w (r _ (by simp))
section
variable{P:Program}{n:Nat}{env:dQ}{w0:World}{S:List Nat}{H R H':List V.dC}{G:Act→World→Prop}
def ni(b:Nat)(kb:List (Int×En))(i:Int)(m:En):V.dC:=co [rF b kb,eT gK (dL kb i),i6 m.qb m.q]
theorem A.bC(j:Nat)(hp:gU [j] H=some ([eN b kb],R))(hm:cw kb i=some m)(hH:ni b kb i m::cz m.eb (nW m) 225::R=H')(h:V.A n env w0 S H' G):V.A n env w0 S H G:=by
 refine A.bH [j] (Os:=[ni b kb i m,cz m.eb (nW m) 225]) hp ?_ ?_ hH h
 ·intro w hw it hi
  have hb:(eN b kb).holds w:=hw _ (List.mem_singleton.2 rfl)
  have hg:(eT gK kb).holds w:=hb _ (by simp)
  simp only[List.mem_cons,List.not_mem_nil,or_false] at hi
  rcases hi with rfl|rfl
  ·intro it hi
   simp only[List.mem_cons,List.not_mem_nil,or_false] at hi
   rcases hi with rfl|rfl|rfl
   ·exact mG hb
   ·exact fun p hq=>hg p ((pX hm).mem_iff.2 (by simp[hq]))
   ·exact IQ hb hm
  ·exact gP hb hm
 ·have:=(pX hm).flatMap_right (fun p:Int×En=>dG (gK p.2))
  simp only[List.flatMap_cons] at this
  simp only[ni,eN,dG,co,eT,km,dX,gK,cz,List.flatMap_cons,List.flatMap_nil,List.append_nil] at this⊢
  refine List.Perm.trans ?_ ((List.Perm.refl [b]).append this.symm)
  rw[List.append_assoc]
  refine(List.Perm.refl [b]).append ?_
  rw[List.append_assoc]
  exact List.perm_append_comm
theorem A.bB{m':En}{t:List Value}(is:List Nat)(hp:gU is H=some ([ni b kb i m,cz m.eb t 225],R))(hm:cw kb i=some m)(he:m'.eb=m.eb∧m'.qb=m.qb∧m'.q=m.q)(ht:nW m'=t)(hH:eN b (dD kb i m')::R=H')(h:V.A n env w0 S H' G):V.A n env w0 S H G:=by
 obtain⟨h1,h2,h3⟩:=he
 refine A.bH is (Os:=[eN b (dD kb i m')]) hp ?_ ?_ hH h
 ·intro w hw it hi
  have hr:(ni b kb i m).holds w:=hw _ (by simp)
  have hk:(cz m.eb t 225).holds w:=hw _ (by simp)
  rw[List.mem_singleton] at hi;subst hi
  intro it hi
  simp only[List.mem_cons,List.not_mem_nil,or_false] at hi
  rcases hi with rfl|rfl
  ·exact ED (hr (rF b kb) (by simp)) (zG (ev:=fun m:En=>p_ m.eb) (show p_ m'.eb=p_ m.eb by rw[h1]) hm)
  ·intro p hq it hi
   rcases List.mem_cons.1 ((oV i _ kb).mem_iff.1 hq) with rfl|hq
   ·simp only[gK,List.mem_cons,List.not_mem_nil,or_false] at hi
    rcases hi with rfl|rfl
    ·show(i6 m'.qb m'.q).holds w
     rw[h2,h3];exact hr _ (by simp)
    ·show(cz m'.eb (nW m') 225).holds w
     rw[h1,ht];exact hk
   ·exact(show(eT gK (dL kb i)).holds w from hr _ (by simp)) p hq it hi
 ·have:=(oV i m' kb).flatMap_right (fun p:Int×En=>dG (gK p.2))
  simp only[List.flatMap_cons] at this
  simp only[ni,eN,dG,co,eT,km,dX,gK,cz,List.flatMap_cons,List.flatMap_nil,List.append_nil,h1,h2,h3] at this⊢
  refine List.perm_iff_count.2 fun a=> ?_
  have:=List.perm_iff_count.1 this a
  simp only[List.count_append] at this⊢
  omega
end
theorem NM(h:(ni b kb i m).holds w):(rF b kb).holds w:=h _ (by simp)
variable{β:Type}
theorem jN(kv:List (Int×β))(k:Int)(v:β):cw (dD kv k v) k=some v:=by rw[gA,if_pos rfl]
theorem NA(bs mb mo mk:Nat)(ym:List (Int×Pl))(on:List (Int×Int))(kv:List (Int×MB))(ci:Int)(hno:iy ym ci=false)(w:World)(r0:(cz bs [.map (some mb),.map (some mo),.map (some mk)] 197).holds w)(r1:(gn mb ym).holds w)(r2:(fj mo on).holds w)(r3:(fy mk kv).holds w)(r4:(fB kv).holds w):
  CW 74 #[p_ bs,i_ ci] w (.tuple #[e_,i_ 6]):=by
 refine A.C Tryz.func74 rfl (HS.nil w) (A.c (A.g [.p,.p] [] [] (A.d (A.y (A.c (A.g [.p,.p,.p] [] [(10,b_ false)] (A.Z (A.c (A.kp [.p,.p,.p,.rd [.map (some mb)],.p] [10] [(17,.map (some mb)),(18,i_ ci)] [] (o1 (ro ⟨bs,0,none⟩ (vs:=[.map (some mb)]) (dj r0 rfl))) (A.j (A.u (some 19) _ (qL 3 200 ci dR (fun ww ss=>da ss r1) (ee (by kernel_rfl))) (A.g [.p,.p,.p] [17,18,19] [(13,b_ ((((cw ym ci).getD dR).pf)==0))] (A.v rfl (fun e1=> ?_) (fun e1=> ?_))))))))))))))
 ·refine A.c (A.g [.p,.p] [0,1,13] [(4,e_),(5,i_ 6)] (A.e (A.N [e_,i_ 6] ?_)))
  rfl
 exact absurd e1 (by(intro h_;unfold iy at hno;simp at h_ hno;exact h_ hno))
theorem NB(bs mb mo mk:Nat)(ym:List (Int×Pl))(on:List (Int×Int))(kv:List (Int×MB))(ci:Int)(hlf:iy ym ci=true)(his:fc on kv ci=true)(w:World)(r0:(cz bs [.map (some mb),.map (some mo),.map (some mk)] 197).holds w)(r1:(gn mb ym).holds w)(r2:(fj mo on).holds w)(r3:(fy mk kv).holds w)(r4:(fB kv).holds w):
  CW 74 #[p_ bs,i_ ci] w (.tuple #[e_,i_ 8]):=by
 refine A.C Tryz.func74 rfl (HS.nil w) (A.c (A.g [.p,.p] [] [] (A.d (A.y (A.c (A.g [.p,.p,.p] [] [(10,b_ false)] (A.Z (A.c (A.kp [.p,.p,.p,.rd [.map (some mb)],.p] [10] [(17,.map (some mb)),(18,i_ ci)] [] (o1 (ro ⟨bs,0,none⟩ (vs:=[.map (some mb)]) (dj r0 rfl))) (A.j (A.u (some 19) _ (qL 3 200 ci dR (fun ww ss=>da ss r1) (ee (by kernel_rfl))) (A.g [.p,.p,.p] [17,18,19] [(13,b_ ((((cw ym ci).getD dR).pf)==0))] (A.v rfl (fun e1=> ?_) (fun e1=> ?_))))))))))))))
 ·exact absurd e1 (by(intro h_;unfold iy at hlf;simp at h_ hlf;exact hlf h_))
 refine A.c (A.k [.p,.p,.cq (b_ (fc on kv ci)),.p] [13] [(22,b_ (fc on kv ci))] [] (o1 (qo (fun ww ss=>uY bs mb mo mk ym on kv ci ww (da ss r0) (da ss r1) (da ss r2) (da ss r3) (da ss r4)))) (A.v rfl (fun e2=> ?_) (fun e2=> ?_)))
 ·refine A.c (A.g [.p,.p] [0,1,22] [(4,e_),(5,i_ 8)] (A.e (A.N [e_,i_ 8] ?_)))
  rfl
 exact absurd e2 (by(rw[his];simp))
theorem RR(bs mb mo mk:Nat)(ym:List (Int×Pl))(on:List (Int×Int))(kv:List (Int×MB))(ci:Int)(hlf:iy ym ci=true)(his:fc on kv ci=false)(hd0:iw ym 40 ci):
  CS 74 #[p_ bs,i_ ci] [cz bs [.map (some mb),.map (some mo),.map (some mk)] 197,gn mb ym,fj mo on,fy mk kv,fB kv] (fun((kv',al',cl'):(List (Int×MB))×(Option Addr)×Nat)=>(.tuple #[vS al' ((fX ym (kx kv) 40 ci).1) cl',i_ 0])) (fun(kv',al',cl')=>kx kv'=(fX ym (kx kv) 40 ci).2) fun(kv',al',cl')=>[cz bs [.map (some mb),.map (some mo),.map (some mk)] 197,gn mb ym,fj mo (dD on ci (db ym ci)),fy mk kv',fB kv',sI al' ((fX ym (kx kv) 40 ci).1) cl']:=by
 intro w hs
 refine A.C Tryz.func74 rfl hs (A.c (A.g [.p,.p] [] [] (A.d (A.y (A.c (A.g [.p,.p,.p] [] [(10,b_ false)] (A.Z (A.c (A.gm [.p,.p,.p,.ld 0,.p] [10] [(17,.map (some mb)),(18,i_ ci)] [bs] (A.j (A.u (some 19) _ (jn (kt:=3) (et:=200) (enck:=(fun k:Int=>i_ k)) (encv:=(fun v_:Pl=>(.agg (oQ v_).toArray))) (b:=mb) (kv:=ym) (k:=ci) (d0:=dR) (fun ww ss=>ss.mem (i:=1) rfl) rfl rfl rfl (by kernel_rfl) (ee (by kernel_rfl)) (by kernel_rfl) rfl) (A.g [.p,.p,.p] [17,18,19] [(13,b_ ((((cw ym ci).getD dR).pf)==0))] (A.v rfl (fun e1=> ?_) (fun e1=> ?_))))))))))))))
 ·exact absurd e1 (by(intro h_;unfold iy at hlf;simp at h_ hlf;exact hlf h_))
 refine A.c (A.k [.p,.p,.cq (b_ (fc on kv ci)),.p] [13] [(22,b_ (fc on kv ci))] [] (o1 (qo (fun ww ss=>uY bs mb mo mk ym on kv ci ww (ss.mem (i:=0) rfl) (ss.mem (i:=1) rfl) (ss.mem (i:=2) rfl) (ss.mem (i:=3) rfl) (ss.mem (i:=4) rfl)))) (A.v rfl (fun e2=> ?_) (fun e2=> ?_)))
 ·exact absurd e2 (by(rw[his];simp))
 refine A.p (A.d (A.W [12] 13 (A.dT 3 [.p,.p,.p,.ld 0,.p,.p,.p,.p,.ld 0,.p] [0,1,2,3,4,5,6,7,8,9] [22] [(29,.map (some mo)),(30,i_ ci),(34,.map (some mb)),(35,i_ ci)] [bs,bs] (A.aT 10 (some 36) (.agg (oQ ((cw ym ci).getD dR)).toArray) rfl (by kernel_rfl) (by kernel_rfl) (jn (kt:=3) (et:=200) (enck:=(fun k:Int=>i_ k)) (encv:=(fun v_:Pl=>(.agg (oQ v_).toArray))) (b:=mb) (kv:=ym) (k:=ci) (d0:=dR) (fun ww ss=>ss.mem (i:=1) rfl) rfl rfl rfl (by kernel_rfl) (ee (by kernel_rfl)) (by kernel_rfl) rfl) (A.pT 1 [.p] [11] [(0,p_ bs),(1,i_ ci),(29,.map (some mo)),(30,i_ ci),(37,i_ (((cw ym ci).getD dR).pp))] [] (A.F 12 rfl (A.mP 3 3 2 ci (((cw ym ci).getD dR).pp) rfl (ee (by kernel_rfl)) (A.E (A.M (A.c (A.hp [.p] [(0,p_ bs),(1,i_ ci),(38,i_ ci)] [] (A.j (A.aF 39 (e:=3) [i_ ci] (by kernel_rfl) rfl (fun _=>by kernel_rfl) _ (fun _=>rfl) ?_)))))))))))))
 intro b1
 refine A.g [.p] [38,39] [(6,.slice (some ⟨b1,0,none⟩) 1 1)] (A.d (A.bS 5 (b:=b1) 1 1 [cz bs [.map (some mb),.map (some mo),.map (some mk)] 197,gn mb ym,fj mo (dD on ci (((cw ym ci).getD dR).pp)),fy mk kv,fB kv,sI (some ⟨b1,0,none⟩) ([ci]) 1] rfl rfl (by decide) rfl (A.s (A.h [.p,.p] [(0,p_ bs),(6,vS (some ⟨b1,0,none⟩) ([ci]) 1),(7,i_ ci)] [] (A.y (A.su 5 (sI (some ⟨b1,0,none⟩) (([]:List Int)++[ci]) 1) rfl (eI (by rfl:[ci]=(([]:List Int)++[ci]))) (A.D 6 (vS (some ⟨b1,0,none⟩) (([]:List Int)++[ci]) 1) (fJ (by rfl)) (A.lp (σ:=Int×Nat×(List Int)×(List (Int×MB))×(Option Addr)×Nat) [] (fun(i,n,pre,kvk,ao,co)=>[(7,i_ i),(6,vS ao (pre++[i]) co)]) [0,0,0,0,0,0] (fun(i,n,pre,kvk,ao,co)=>[cz bs [.map (some mb),.map (some mo),.map (some mk)] 197,gn mb ym,fj mo (dD on ci (((cw ym ci).getD dR).pp)),fy mk kvk,fB kvk,sI ao (pre++[i]) co]) (fun(i,n,pre,kvk,ao,co)=>((pre++(fX ym (kx kvk) n i).1,(fX ym (kx kvk) n i).2)=fX ym (kx kv) 40 ci)∧(iw ym n i)∧(pre.length+n≤40)) (fun(i,n,pre,kvk,ao,co)=>n) (ci,40,([]:List Int),kv,some ⟨b1,0,none⟩,1) ⟨(by rfl),‹_›,(by simp)⟩ ?_ ?_))))))))
 ·exact A.I [0,0,0,0,0,0]
 rintro⟨i,n,pre,kvk,ao,co⟩ ⟨hp,hd,hl⟩
 obtain⟨n,rfl⟩: ∃m,n=m+1:=by cases n with|zero=>exact hd.elim|succ m=>exact⟨m,rfl⟩
 refine A.y (A.c (A.gm [.p,.p,.p,.ld 0,.p] [] [(44,.map (some mb)),(45,i_ i)] [bs] (A.j (A.u (some 46) _ (jn (kt:=3) (et:=200) (enck:=(fun k:Int=>i_ k)) (encv:=(fun v_:Pl=>(.agg (oQ v_).toArray))) (b:=mb) (kv:=ym) (k:=i) (d0:=dR) (fun ww ss=>ss.mem (i:=1) rfl) rfl rfl rfl (by kernel_rfl) (ee (by kernel_rfl)) (by kernel_rfl) rfl) (A.g [.p,.p] [44,45,46] [(8,i_ (((cw ym i).getD dR).pp))] (A.c (A.gm [.p,.p,.p,.ld 0,.p] [] [(51,.map (some mk)),(52,i_ (((cw ym i).getD dR).pp))] [bs] ?_)))))))
 rcases hk2:cw kvk (((cw ym i).getD dR).pp) with _|m2
 ·have hx2:=ze hk2
  refine A.j (A.u (some 53) (.map none) (gx (wJ hk2) (qL 3 194 (((cw ym i).getD dR).pp) m0 (qM 3 rfl) (ee (by kernel_rfl)))) (A.j (A.u (some 54) (i_ 0) (zF (kt:=3) (et:=3) rfl rfl (by kernel_rfl)) (A.g [.p] [51,52,53,54] [(9,i_ 0)] (A.d (A.c (A.g [.p,.p] [] [(56,b_ true)] (A.ct (A.s (A.gm [.p,.p,.p,.ld 0,.p] [56] [(60,.map (some mk)),(61,i_ (((cw ym i).getD dR).pp))] [bs] (A.j (A.aZ (fun k:Int=>i_ k) (fun x:Int=>i_ x) 62 (by kernel_rfl) rfl (fun m3=>[cz bs [.map (some mb),.map (some mo),.map (some mk)] 197,gn mb ym,fj mo (dD on ci (((cw ym ci).getD dR).pp)),fy mk kvk,fB kvk,sI ao (pre++[i]) co,fj m3 ([]:List (Int×Int))]) (fun _=>rfl) ?_))))))))))))
  intro m3
  refine A.j (A.bV (kt:=3) (et:=194) (enck:=(fun k:Int=>i_ k)) (encv:=mj) (kv:=kvk) (k:=((cw ym i).getD dR).pp) 3 (⟨some m3,([]:List (Int×Int))⟩:MB) [cz bs [.map (some mb),.map (some mo),.map (some mk)] 197,gn mb ym,fj mo (dD on ci (((cw ym ci).getD dR).pp)),fy mk (dD kvk (((cw ym i).getD dR).pp) (⟨some m3,([]:List (Int×Int))⟩:MB)),fB kvk,sI ao (pre++[i]) co,fj m3 ([]:List (Int×Int))] (by kernel_rfl) rfl rfl rfl rfl (by kernel_rfl) (ee (by kernel_rfl)) rfl rfl (A.bW [cz bs [.map (some mb),.map (some mo),.map (some mk)] 197,gn mb ym,fj mo (dD on ci (((cw ym ci).getD dR).pp)),fy mk (dD kvk (((cw ym i).getD dR).pp) (⟨some m3,([]:List (Int×Int))⟩:MB)),fB (dL kvk (((cw ym i).getD dR).pp)),sI ao (pre++[i]) co,fj m3 ([]:List (Int×Int))] (by rw[s3 hk2]) ?_))
  have hk4:cw (dD kvk (((cw ym i).getD dR).pp) (⟨some m3,([]:List (Int×Int))⟩:MB)) (((cw ym i).getD dR).pp)=some (⟨some m3,([]:List (Int×Int))⟩:MB):=by rw[iU,if_pos rfl]
  refine A.aC (A.c (A.hp [.p,.p,.p,.ld 0,.p] [(0,p_ bs),(7,i_ i),(6,vS ao (pre++[i]) co),(8,i_ (((cw ym i).getD dR).pp)),(9,i_ 0),(66,.map (some mk)),(67,i_ (((cw ym i).getD dR).pp))] [bs] (A.j (A.u (some 68) (.map (some m3)) (gx (qW hk4 rfl) (qL 3 194 (((cw ym i).getD dR).pp) m0 (qM 3 rfl) (ee (by kernel_rfl)))) (A.O [.p] [7,66,67] [(69,i_ i)] (A.j (A.mP 3 3 6 i 1 rfl (ee (by kernel_rfl)) (A.aC (A.d (A.d (A.r0 [3,3,4] [fy mk (dD kvk (((cw ym i).getD dR).pp) (⟨some m3,dD ([]:List (Int×Int)) i 1⟩:MB)),fB (dD kvk (((cw ym i).getD dR).pp) (⟨some m3,dD ([]:List (Int×Int)) i 1⟩:MB))] rfl (fun w hs=>tg mk (dD kvk (((cw ym i).getD dR).pp) (⟨some m3,([]:List (Int×Int))⟩:MB)) kvk (((cw ym i).getD dR).pp) m3 (dD ([]:List (Int×Int)) i 1) _ (by rw[zD]) (hk4) hs) ?_)))))))))))
  have hq:kx (dD kvk (((cw ym i).getD dR).pp) (⟨some m3,dD ([]:List (Int×Int)) i 1⟩:MB))=lI (kx kvk) (db ym i) i:=by funext q;rw[uL];unfold lI;simp only[];split<;>simp_all[db]
  refine A.s (A.h [.p,.p,.p,.p,.p,.p] [(0,p_ bs),(6,vS ao (pre++[i]) co),(8,i_ (((cw ym i).getD dR).pp)),(73,i_ (((cw ym i).getD dR).pp)),(74,b_ ((((cw ym i).getD dR).pp)==0)),(75,b_ ((((cw ym i).getD dR).pp)==0))] [] (A.v rfl (fun e3=> ?_) (fun e3=> ?_)))
  ·have p3:=e3;try simp only[de] at p3
   refine A.d ?_
   have hs_:kx kvk (db ym i)≠[]∨db ym i=0:=by unfold db;(right;assumption)
   refine A.s (A.g [.p,.p,.p] [0,6,8,73,74,75] [(4,vS ao (pre++[i]) co),(5,i_ 0)] (A.e (?_)))
   rw[show dD on ci (((cw ym ci).getD dR).pp)=(dD on ci (db ym ci)) from by rfl]
   refine A.su 5 (sI ao ((fX ym (kx kv) 40 ci).1) co) rfl (eI (by(rw[←hp,nJ hs_]):(pre++[i])=((fX ym (kx kv) 40 ci).1))) (A.Y [2,2,2,0,0,0] [vS ao (pre++[i]) co,i_ 0] ((dD kvk (((cw ym i).getD dR).pp) (⟨some m3,dD ([]:List (Int×Int)) i 1⟩:MB)),ao,co) ?_ ?_)
   ·show((.tuple #[vS ao (pre++[i]) co,i_ 0]):Value)=(.tuple #[vS ao ((fX ym (kx kv) 40 ci).1) co,i_ 0])
    (rw[←hp,nJ hs_])
   show kx (dD kvk (((cw ym i).getD dR).pp) (⟨some m3,dD ([]:List (Int×Int)) i 1⟩:MB))=(fX ym (kx kv) 40 ci).2
   (rw[hq,←hp,nJ hs_])
  refine A.p (A.d ?_)
  have hg_: ¬(kx kvk (db ym i)≠[]∨db ym i=0):=by unfold db;rw[hx2];(simp_all;done)
  refine A.s (A.O [.p,.p] [75] [(77,vS ao (pre++[i]) co),(78,i_ (((cw ym i).getD dR).pp))] (A.j (A.aF 79 (e:=3) [i_ (((cw ym i).getD dR).pp)] (by kernel_rfl) rfl (fun _=>by kernel_rfl) _ (fun _=>rfl) ?_)))
  intro b5
  refine A.j (A.ap j9 (pre++[i]) ([((cw ym i).getD dR).pp]) 5 80 (i_ 0) 8 fE lO (gZ (i:=6) rfl) (by(simp;omega)) ?_)
  intro A6 c6
  refine A.g [.p] [77,78,79,80] [(6,vS A6 ((pre++[i])++([((cw ym i).getD dR).pp])) c6)] (A.s (A.g [.p,.p] [8] [(7,i_ (((cw ym i).getD dR).pp))] ?_))
  have hnx:((pre++[i])++(fX ym (kx (dD kvk (((cw ym i).getD dR).pp) (⟨some m3,dD ([]:List (Int×Int)) i 1⟩:MB))) n (db ym i)).1,(fX ym (kx (dD kvk (((cw ym i).getD dR).pp) (⟨some m3,dD ([]:List (Int×Int)) i 1⟩:MB))) n (db ym i)).2)=fX ym (kx kv) 40 ci∧iw ym n (db ym i):=by rw[hq,←hp,xi hg_];exact⟨by simp,hd.resolve_left fun h_=>hg_ (.inr h_)⟩
  refine A.su 5 (sI A6 ((pre++[i])++[((cw ym i).getD dR).pp]) c6) rfl (eI (by rfl:(pre++[i])++([((cw ym i).getD dR).pp])=((pre++[i])++[((cw ym i).getD dR).pp]))) (A.D 6 (vS A6 ((pre++[i])++[((cw ym i).getD dR).pp]) c6) (fJ (by rfl)) (A.aA (((cw ym i).getD dR).pp,n,pre++[i],dD kvk (((cw ym i).getD dR).pp) (⟨some m3,dD ([]:List (Int×Int)) i 1⟩:MB),A6,c6) ⟨hnx.1,hnx.2,(by(simp;omega))⟩ (by(simp;done)) ?_))
  exact A.I [2,2,2,0,0,0]
 have hx2:=zf hk2
 refine A.rs [4] (fun b2:Nat=>m2.mb=some b2) (fun b2=>[fB (dL kvk (((cw ym i).getD dR).pp)),fj b2 m2.mx]) (fun w hs=>Eo kvk (((cw ym i).getD dR).pp) hk2 hs) rfl (fun b2 hm2=> ?_)
 refine A.j (A.u (some 53) (.map (some b2)) (gx (qW hk2 hm2) (qL 3 194 (((cw ym i).getD dR).pp) m0 (qM 5 rfl) (ee (by kernel_rfl)))) (A.j (A.u (some 54) (c_ m2.mx.length) (rM (kt:=3) (et:=3) (enck:=(fun k:Int=>i_ k)) (encv:=(fun x:Int=>i_ x)) (b:=b2) (kv:=m2.mx) (qM 1 rfl) rfl rfl (by kernel_rfl)) (A.h [.p] [(0,p_ bs),(7,i_ i),(6,vS ao (pre++[i]) co),(8,i_ (((cw ym i).getD dR).pp)),(9,c_ m2.mx.length)] [] (A.d (A.c (A.g [.p,.p] [] [(56,b_ ((m2.mx.length:Int)==0))] (A.v rfl (fun e4=> ?_) (fun e4=> ?_)))))))))
 ·refine A.s (A.gm [.p,.p,.p,.ld 2,.p] [56] [(60,.map (some mk)),(61,i_ (((cw ym i).getD dR).pp))] [bs] (A.j (A.aZ (fun k:Int=>i_ k) (fun x:Int=>i_ x) 62 (by kernel_rfl) rfl (fun m7=>[fB (dL kvk (((cw ym i).getD dR).pp)),fj b2 m2.mx,cz bs [.map (some mb),.map (some mo),.map (some mk)] 197,gn mb ym,fj mo (dD on ci (((cw ym ci).getD dR).pp)),fy mk kvk,sI ao (pre++[i]) co,fj m7 ([]:List (Int×Int))]) (fun _=>rfl) ?_)))
  intro m7
  refine A.j (A.mP 3 194 5 (((cw ym i).getD dR).pp) (⟨some m7,([]:List (Int×Int))⟩:MB) rfl (ee (by kernel_rfl)) ?_)
  have hk8:cw (dD kvk (((cw ym i).getD dR).pp) (⟨some m7,([]:List (Int×Int))⟩:MB)) (((cw ym i).getD dR).pp)=some (⟨some m7,([]:List (Int×Int))⟩:MB):=by rw[iU,if_pos rfl]
  refine A.aC (A.c (A.hp [.p,.p,.p,.ld 2,.p] [(0,p_ bs),(7,i_ i),(6,vS ao (pre++[i]) co),(8,i_ (((cw ym i).getD dR).pp)),(9,c_ m2.mx.length),(66,.map (some mk)),(67,i_ (((cw ym i).getD dR).pp))] [bs] (A.j (A.u (some 68) (.map (some m7)) (gx (qW hk8 rfl) (qL 3 194 (((cw ym i).getD dR).pp) m0 (qM 5 rfl) (ee (by kernel_rfl)))) (A.O [.p] [7,66,67] [(69,i_ i)] (A.j (A.mP 3 3 7 i 1 rfl (ee (by kernel_rfl)) (A.aC (A.d (A.d (A.r0 [5,0,5] [fy mk (dD kvk (((cw ym i).getD dR).pp) (⟨some m7,dD ([]:List (Int×Int)) i 1⟩:MB)),fB (dD kvk (((cw ym i).getD dR).pp) (⟨some m7,dD ([]:List (Int×Int)) i 1⟩:MB))] rfl (fun w hs=>tg mk (dD kvk (((cw ym i).getD dR).pp) (⟨some m7,([]:List (Int×Int))⟩:MB)) kvk (((cw ym i).getD dR).pp) m7 (dD ([]:List (Int×Int)) i 1) _ (by rw[zD]) (hk8) hs) ?_)))))))))))
  have hq:kx (dD kvk (((cw ym i).getD dR).pp) (⟨some m7,dD ([]:List (Int×Int)) i 1⟩:MB))=lI (kx kvk) (db ym i) i:=by funext q;rw[uL];unfold lI;simp only[];split<;>simp_all[db]
  refine A.s (A.h [.p,.p,.p,.o,.p,.p,.cl] [(0,p_ bs),(6,vS ao (pre++[i]) co),(8,i_ (((cw ym i).getD dR).pp)),(75,b_ ((decide ((m2.mx.length:Int)>0))||((((cw ym i).getD dR).pp)==0)))] [] (A.v rfl (fun e5=> ?_) (fun e5=> ?_)))
  ·refine A.d ?_
   have hs_:kx kvk (db ym i)≠[]∨db ym i=0:=by unfold db;(simp_all;done)
   refine A.s (A.g [.p,.p,.p] [0,6,8,75] [(4,vS ao (pre++[i]) co),(5,i_ 0)] (A.e (?_)))
   rw[show dD on ci (((cw ym ci).getD dR).pp)=(dD on ci (db ym ci)) from by rfl]
   refine A.su 6 (sI ao ((fX ym (kx kv) 40 ci).1) co) rfl (eI (by(rw[←hp,nJ hs_]):(pre++[i])=((fX ym (kx kv) 40 ci).1))) (A.Y [3,3,3,0,0,1] [vS ao (pre++[i]) co,i_ 0] ((dD kvk (((cw ym i).getD dR).pp) (⟨some m7,dD ([]:List (Int×Int)) i 1⟩:MB)),ao,co) ?_ ?_)
   ·show((.tuple #[vS ao (pre++[i]) co,i_ 0]):Value)=(.tuple #[vS ao ((fX ym (kx kv) 40 ci).1) co,i_ 0])
    (rw[←hp,nJ hs_])
   show kx (dD kvk (((cw ym i).getD dR).pp) (⟨some m7,dD ([]:List (Int×Int)) i 1⟩:MB))=(fX ym (kx kv) 40 ci).2
   (rw[hq,←hp,nJ hs_])
  refine A.p (A.d ?_)
  have hg_: ¬(kx kvk (db ym i)≠[]∨db ym i=0):=by unfold db;rw[hx2];(simp_all;done)
  refine A.s (A.O [.p,.p] [75] [(77,vS ao (pre++[i]) co),(78,i_ (((cw ym i).getD dR).pp))] (A.j (A.aF 79 (e:=3) [i_ (((cw ym i).getD dR).pp)] (by kernel_rfl) rfl (fun _=>by kernel_rfl) _ (fun _=>rfl) ?_)))
  intro b9
  refine A.j (A.ap j9 (pre++[i]) ([((cw ym i).getD dR).pp]) 6 80 (i_ 0) 8 fE lO (gZ (i:=7) rfl) (by(simp;omega)) ?_)
  intro A10 c10
  refine A.g [.p] [77,78,79,80] [(6,vS A10 ((pre++[i])++([((cw ym i).getD dR).pp])) c10)] (A.s (A.g [.p,.p] [8] [(7,i_ (((cw ym i).getD dR).pp))] ?_))
  have hnx:((pre++[i])++(fX ym (kx (dD kvk (((cw ym i).getD dR).pp) (⟨some m7,dD ([]:List (Int×Int)) i 1⟩:MB))) n (db ym i)).1,(fX ym (kx (dD kvk (((cw ym i).getD dR).pp) (⟨some m7,dD ([]:List (Int×Int)) i 1⟩:MB))) n (db ym i)).2)=fX ym (kx kv) 40 ci∧iw ym n (db ym i):=by rw[hq,←hp,xi hg_];exact⟨by simp,hd.resolve_left fun h_=>hg_ (.inr h_)⟩
  refine A.su 6 (sI A10 ((pre++[i])++[((cw ym i).getD dR).pp]) c10) rfl (eI (by rfl:(pre++[i])++([((cw ym i).getD dR).pp])=((pre++[i])++[((cw ym i).getD dR).pp]))) (A.D 6 (vS A10 ((pre++[i])++[((cw ym i).getD dR).pp]) c10) (fJ (by rfl)) (A.aA (((cw ym i).getD dR).pp,n,pre++[i],dD kvk (((cw ym i).getD dR).pp) (⟨some m7,dD ([]:List (Int×Int)) i 1⟩:MB),A10,c10) ⟨hnx.1,hnx.2,(by(simp;omega))⟩ (by(simp;done)) ?_))
  exact A.I [3,3,3,0,0,1]
 refine A.p (A.c (A.gm [.p,.p,.p,.ld 2,.p] [56] [(66,.map (some mk)),(67,i_ (((cw ym i).getD dR).pp))] [bs] (A.j (A.u (some 68) (.map (some b2)) (gx (qW hk2 hm2) (qL 3 194 (((cw ym i).getD dR).pp) m0 (qM 5 rfl) (ee (by kernel_rfl)))) (A.O [.p] [7,66,67] [(69,i_ i)] (A.j (A.mP 3 3 1 i 1 rfl (ee (by kernel_rfl)) (A.aC (A.d (A.d (A.r0 [5,0,0] [fy mk (dD kvk (((cw ym i).getD dR).pp) (⟨some b2,dD m2.mx i 1⟩:MB)),fB (dD kvk (((cw ym i).getD dR).pp) (⟨some b2,dD m2.mx i 1⟩:MB))] rfl (fun w hs=>tg mk kvk kvk (((cw ym i).getD dR).pp) b2 (dD m2.mx i 1) _ (by rfl) (hk2.trans (congrArg some (An hm2))) hs) ?_)))))))))))
 have hq:kx (dD kvk (((cw ym i).getD dR).pp) (⟨some b2,dD m2.mx i 1⟩:MB))=lI (kx kvk) (db ym i) i:=by funext q;rw[uL];unfold lI;simp only[];split<;>simp_all[db]
 refine A.s (A.h [.p,.p,.p,.o,.p,.p,.cl] [(0,p_ bs),(6,vS ao (pre++[i]) co),(8,i_ (((cw ym i).getD dR).pp)),(75,b_ ((decide ((m2.mx.length:Int)>0))||((((cw ym i).getD dR).pp)==0)))] [] (A.v rfl (fun e6=> ?_) (fun e6=> ?_)))
 ·refine A.d ?_
  have hs_:kx kvk (db ym i)≠[]∨db ym i=0:=by unfold db;(left;rw[hx2];intro h_;simp[h_] at*;done)
  refine A.s (A.g [.p,.p,.p] [0,6,8,75] [(4,vS ao (pre++[i]) co),(5,i_ 0)] (A.e (?_)))
  rw[show dD on ci (((cw ym ci).getD dR).pp)=(dD on ci (db ym ci)) from by rfl]
  refine A.su 5 (sI ao ((fX ym (kx kv) 40 ci).1) co) rfl (eI (by(rw[←hp,nJ hs_]):(pre++[i])=((fX ym (kx kv) 40 ci).1))) (A.Y [2,2,2,0,0,0] [vS ao (pre++[i]) co,i_ 0] ((dD kvk (((cw ym i).getD dR).pp) (⟨some b2,dD m2.mx i 1⟩:MB)),ao,co) ?_ ?_)
  ·show((.tuple #[vS ao (pre++[i]) co,i_ 0]):Value)=(.tuple #[vS ao ((fX ym (kx kv) 40 ci).1) co,i_ 0])
   (rw[←hp,nJ hs_])
  show kx (dD kvk (((cw ym i).getD dR).pp) (⟨some b2,dD m2.mx i 1⟩:MB))=(fX ym (kx kv) 40 ci).2
  (rw[hq,←hp,nJ hs_])
 refine A.p (A.d ?_)
 have hg_: ¬(kx kvk (db ym i)≠[]∨db ym i=0):=by unfold db;rw[hx2];(simp_all;done)
 refine A.s (A.O [.p,.p] [75] [(77,vS ao (pre++[i]) co),(78,i_ (((cw ym i).getD dR).pp))] (A.j (A.aF 79 (e:=3) [i_ (((cw ym i).getD dR).pp)] (by kernel_rfl) rfl (fun _=>by kernel_rfl) _ (fun _=>rfl) ?_)))
 intro b11
 refine A.j (A.ap j9 (pre++[i]) ([((cw ym i).getD dR).pp]) 5 80 (i_ 0) 8 fE lO (gZ (i:=6) rfl) (by(simp;omega)) ?_)
 intro A12 c12
 refine A.g [.p] [77,78,79,80] [(6,vS A12 ((pre++[i])++([((cw ym i).getD dR).pp])) c12)] (A.s (A.g [.p,.p] [8] [(7,i_ (((cw ym i).getD dR).pp))] ?_))
 have hnx:((pre++[i])++(fX ym (kx (dD kvk (((cw ym i).getD dR).pp) (⟨some b2,dD m2.mx i 1⟩:MB))) n (db ym i)).1,(fX ym (kx (dD kvk (((cw ym i).getD dR).pp) (⟨some b2,dD m2.mx i 1⟩:MB))) n (db ym i)).2)=fX ym (kx kv) 40 ci∧iw ym n (db ym i):=by rw[hq,←hp,xi hg_];exact⟨by simp,hd.resolve_left fun h_=>hg_ (.inr h_)⟩
 refine A.su 5 (sI A12 ((pre++[i])++[((cw ym i).getD dR).pp]) c12) rfl (eI (by rfl:(pre++[i])++([((cw ym i).getD dR).pp])=((pre++[i])++[((cw ym i).getD dR).pp]))) (A.D 6 (vS A12 ((pre++[i])++[((cw ym i).getD dR).pp]) c12) (fJ (by rfl)) (A.aA (((cw ym i).getD dR).pp,n,pre++[i],dD kvk (((cw ym i).getD dR).pp) (⟨some b2,dD m2.mx i 1⟩:MB),A12,c12) ⟨hnx.1,hnx.2,(by(simp;omega))⟩ (by(simp;done)) ?_))
 exact A.I [2,2,2,0,0,0]
def fH(kv:List (Int×Cl))(i:Int):Bool:=decide ((dM (dF kv i).la (dF kv i).lb (dF kv i).lc)>1)
def n0(kv:List (Int×Cl))(ym:List (Int×Pl))(i:Int):List (Int×Pl):=if fH kv i=true then dD ym i ⟨(dF kv i).hp,if(dF kv i).hl=true then 1 else 0⟩ else ym
def s5(kv:List (Int×Cl))(k:Nat):List (Int×Pl):=((dI kv (fun v_=>true)).take k).foldl (n0 kv) []
def fL(kv:List (Int×Cl)):List (Int×Pl):=(dI kv (fun v_=>true)).foldl (n0 kv) []
variable{kv:List (Int×Cl)}
theorem yU{k:Nat}(h:(dI kv (fun v_=>true))[k]? =some i):s5 kv (k+1)=n0 kv (s5 kv k) i:=by
 unfold s5;rw[List.take_add_one,h];simp
theorem LM{k:Nat}(h:(dI kv (fun v_=>true)).length≤k):s5 kv k=fL kv:=by unfold s5 fL;rw[List.take_of_length_le h]
set_option maxHeartbeats 4000000 in
set_option maxRecDepth 100000 in
abbrev uI(p0):=(fj p0 ([]:List (Int×Int)):V.dC)
abbrev ry(p0):=(gn p0 ([]:List (Int×Pl)):V.dC)
theorem Tf:
  CS 62 #[n_] [] (fun((bs,mb,mo,mk):Nat×Nat×Nat×Nat)=>(p_ bs)) (fun _=>True) fun(bs,mb,mo,mk)=>[cz bs [.map (some mb),.map (some mo),.map (some mk)] 197,ry mb,uI mo,fy mk ([]:List (Int×MB)),fB ([]:List (Int×MB))]:=by
 intro w hs
 refine A.C Tryz.func62 rfl hs (A.aO [(0,n_)] [] ⟨rfl,trivial⟩ rfl (A.c (A.h [.p] [(0,n_)] [] (A.c (A.j (A.aZ (fun k:Int=>i_ k) (fun v_:Pl=>(.agg (oQ v_).toArray)) 9 (by kernel_rfl) rfl (fun m1=>[ry m1]) (fun _=>rfl) ?_))))))
 intro m1
 refine A.j (A.aZ (fun k:Int=>i_ k) (fun x:Int=>i_ x) 10 (by kernel_rfl) rfl (fun m2=>[ry m1,uI m2]) (fun _=>rfl) ?_)
 intro m2
 refine A.j (A.aZ (fun k:Int=>i_ k) mj 11 (by kernel_rfl) rfl (fun m3=>[ry m1,uI m2,fy m3 ([]:List (Int×MB))]) (fun _=>rfl) ?_)
 intro m3
 refine A.aH [.p,.al,.p] [0,3] (fun b4=>[(0,n_),(3,p_ b4)]) (fun b4=>[ry m1,uI m2,fy m3 ([]:List (Int×MB)),cz b4 [.map (some m1),.map (some m2),.map (some m3)] 197]) (fun b4=>[]) (fun _=>T0) (fun _=>by kernel_rfl) (fun b4=>trivial) ?_
 intro b4
 refine A.d (A.c (A.hk [.p,.cq e_,.p,.p] [(0,n_),(3,p_ b4),(15,e_),(16,i_ 0),(17,i_ 0)] [] (o1 (qo (fun ww ss=>N3 ww))) (A.y (A.aY 400 (A.aD (m:=399) (A.c (A.h [.p] [(0,n_),(3,p_ b4),(15,e_),(16,i_ 0),(17,i_ 0),(18,b_ false)] [] (A.d (A.bY rfl (A.aB (A.d (A.cE [ry m1,uI m2,fy m3 ([]:List (Int×MB)),cz b4 [.map (some m1),.map (some m2),.map (some m3)] 197,fB ([]:List (Int×MB))] rfl (A.s (A.h [.p,.p] [(2,p_ b4)] [] (A.e (A.aG [3,0,0,0,0] [p_ b4] (fun aa ww rr ss=>⟨fQ rr rfl,trivial⟩) (b4,m1,m2,m3) ?_ ?_ (by kernel_rfl)))))))))))))))))
 ·rfl
 ·trivial
set_option maxHeartbeats 4000000 in
set_option maxRecDepth 100000 in
theorem NC(bt mc:Nat)(kc:List (Int×Cl))(hl:kc.length≤1000)(w:World)(r0:(cz bt [.map (some mc)] 185).holds w)(r1:(di mc kc).holds w)(hs:HI w []):
  CV 62 #[p_ bt] w [] (fun((bs,mb,mo,mk):Nat×Nat×Nat×Nat)=>(p_ bs)) (fun _=>True) fun(bs,mb,mo,mk)=>[cz bs [.map (some mb),.map (some mo),.map (some mk)] 197,gn mb (fL kc),fj mo ([]:List (Int×Int)),fy mk ([]:List (Int×MB)),fB ([]:List (Int×MB))]:=by
 have hkl:=ns kc (fun v_=>true)
 refine A.C Tryz.func62 rfl hs (A.aO [(0,p_ bt)] [] ⟨rfl,trivial⟩ rfl (A.c (A.h [.p] [(0,p_ bt)] [] (A.c (A.j (A.aZ (fun k:Int=>i_ k) (fun v_:Pl=>(.agg (oQ v_).toArray)) 9 (by kernel_rfl) rfl (fun m1=>[gn m1 ([]:List (Int×Pl))]) (fun _=>rfl) ?_))))))
 intro m1
 refine A.j (A.aZ (fun k:Int=>i_ k) (fun x:Int=>i_ x) 10 (by kernel_rfl) rfl (fun m2=>[gn m1 ([]:List (Int×Pl)),fj m2 ([]:List (Int×Int))]) (fun _=>rfl) ?_)
 intro m2
 refine A.j (A.aZ (fun k:Int=>i_ k) mj 11 (by kernel_rfl) rfl (fun m3=>[gn m1 ([]:List (Int×Pl)),fj m2 ([]:List (Int×Int)),fy m3 ([]:List (Int×MB))]) (fun _=>rfl) ?_)
 intro m3
 refine A.aH [.p,.al,.p] [0,3] (fun b4=>[(0,p_ bt),(3,p_ b4)]) (fun b4=>[gn m1 ([]:List (Int×Pl)),fj m2 ([]:List (Int×Int)),fy m3 ([]:List (Int×MB)),cz b4 [.map (some m1),.map (some m2),.map (some m3)] 197]) (fun b4=>[]) (fun _=>T0) (fun _=>by kernel_rfl) (fun b4=>trivial) ?_
 intro b4
 refine A.d (A.c (A.hp [.p] [(0,p_ bt),(3,p_ b4),(14,p_ bt)] [] (A.j (A.aX (some 15) [p_ bt] [] ((fun zz=>match zz with|(al'5,cl'6)=>(vS al'5 (dI kc (fun v_=>true)) cl'6))) ((fun zz=>match zz with|(al'5,cl'6)=>True)) ((fun zz=>match zz with|(al'5,cl'6)=>[sI al'5 (dI kc (fun v_=>true)) cl'6])) (fun zz=>match zz with|(al'5,cl'6)=>[sI al'5 (dI kc (fun v_=>true)) cl'6,gn m1 ([]:List (Int×Pl)),fj m2 ([]:List (Int×Int)),fy m3 ([]:List (Int×MB)),cz b4 [.map (some m1),.map (some m2),.map (some m3)] 197]) (by kernel_rfl) rfl rfl (fun ww ss hh=>Ag bt mc kc (by first|assumption|omega) ww (da ss r0) (da ss r1) hh) (fun _=>rfl) ?_))))
 rintro⟨al'5,cl'6⟩-
 refine A.h [.p,.p] [(0,p_ bt),(3,p_ b4),(15,vS al'5 (dI kc (fun v_=>true)) cl'6),(16,i_ ((dI kc (fun v_=>true)).length:Int)),(17,i_ 0)] [] (A.y (A.ag (fun(zz:Nat×(List (Int×Pl)))=>match zz with|(k,ymk)=>[(0,p_ bt),(3,p_ b4),(15,vS al'5 (dI kc (fun v_=>true)) cl'6),(16,i_ ((dI kc (fun v_=>true)).length:Int)),(17,c_ k)]) (fun(zz:Nat×(List (Int×Pl)))=>match zz with|(k,ymk)=>[cz b4 [.map (some m1),.map (some m2),.map (some m3)] 197,gn m1 ymk,fj m2 ([]:List (Int×Int)),fy m3 ([]:List (Int×MB)),sI al'5 (dI kc (fun v_=>true)) cl'6]) (fun(zz:Nat×(List (Int×Pl)))=>match zz with|(k,ymk)=>(k≤(dI kc (fun v_=>true)).length)∧(ymk=s5 kc k)) (fun(zz:Nat×(List (Int×Pl)))=>match zz with|(k,ymk)=>(dI kc (fun v_=>true)).length-k) (0,([]:List (Int×Pl))) ⟨(by omega),(by rfl)⟩ ?_ ?_))
 ·exact A.aL [4,1,1,1,0] ⟨rfl,rfl,rfl,rfl,rfl,trivial⟩ (by kernel_rfl)
 ·rintro⟨k,ymk⟩ ⟨hk,hy⟩
  refine A.aO [(0,p_ bt),(3,p_ b4),(15,vS al'5 (dI kc (fun v_=>true)) cl'6),(16,i_ ((dI kc (fun v_=>true)).length:Int)),(17,c_ k)] [cz b4 [.map (some m1),.map (some m2),.map (some m3)] 197,gn m1 ymk,fj m2 ([]:List (Int×Int)),fy m3 ([]:List (Int×MB)),sI al'5 (dI kc (fun v_=>true)) cl'6] ⟨rfl,rfl,rfl,rfl,rfl,trivial⟩ rfl (A.c (A.h [.p] [(0,p_ bt),(3,p_ b4),(15,vS al'5 (dI kc (fun v_=>true)) cl'6),(16,i_ ((dI kc (fun v_=>true)).length:Int)),(17,c_ k),(18,b_ (decide ((k:Int)<((dI kc (fun v_=>true)).length:Int))))] [] (A.d (A.v (E:=decide ((k:Int)<((dI kc (fun v_=>true)).length:Int))) rfl (fun e2=> ?_) (fun e2=> ?_)))))
  ·skip
   have p2:=of_decide_eq_true e2
   refine A.p (A.d (A.y (A.c (A.hq [.ix] [(0,p_ bt),(3,p_ b4),(15,vS al'5 (dI kc (fun v_=>true)) cl'6),(16,i_ ((dI kc (fun v_=>true)).length:Int)),(17,c_ k),(19,.pointer (some ((dV al'5).add (k*1))))] [] (o1 (dY 4 k fE rfl (by first|omega|(simp;omega)|(simp;done)))) ?_))))
   obtain⟨x8,hx8⟩: ∃x,((dI kc (fun v_=>true)))[k]? =some x:=⟨_,List.getElem?_eq_getElem (by omega)⟩
   refine A.hk [.rd [i_ x8],.p] [(0,p_ bt),(3,p_ b4),(15,vS al'5 (dI kc (fun v_=>true)) cl'6),(16,i_ ((dI kc (fun v_=>true)).length:Int)),(17,c_ k),(5,i_ x8)] [] (o1 (ro ((dV al'5).add (k*1)) (fY (vs:=[i_ x8]) fE (fa (i:=4) rfl) hx8 (Nat.le_of_ble_eq_true rfl) rfl))) (A.c (A.aH [.p,.p,.cq (.tuple #[.agg (dt (dF kc x8)).toArray,i_ (fZ kc x8)]),.p,.p,.p,.al,.st 5,.p] [0,3,15,16,17,5,6] (fun b9=>[(0,p_ bt),(3,p_ b4),(15,vS al'5 (dI kc (fun v_=>true)) cl'6),(16,i_ ((dI kc (fun v_=>true)).length:Int)),(17,c_ k),(5,i_ x8),(6,p_ b9)]) (fun b9=>[cz b4 [.map (some m1),.map (some m2),.map (some m3)] 197,gn m1 ymk,fj m2 ([]:List (Int×Int)),fy m3 ([]:List (Int×MB)),sI al'5 (dI kc (fun v_=>true)) cl'6,cz b9 (dt (dF kc x8)) 62]) (fun b9=>[b9]) (fun _=>(fun κ=>κ.call 72 [p_ bt,i_ x8] (.tuple #[.agg (dt (dF kc x8)).toArray,i_ (fZ kc x8)])∧True)) (fun _=>by kernel_rfl) (fun b9=>⟨(fun ww ss=>q8 bt mc kc x8 ww (da ss r0) (da ss r1)),trivial⟩) ?_))
   intro b9
   refine A.d (A.c (A.hk [.ld 5,.cq (b_ (decide ((dM (dF kc x8).la (dF kc x8).lb (dF kc x8).lc)>1))),.p] [(0,p_ bt),(3,p_ b4),(15,vS al'5 (dI kc (fun v_=>true)) cl'6),(16,i_ ((dI kc (fun v_=>true)).length:Int)),(17,c_ k),(5,i_ x8),(6,p_ b9),(29,b_ (!(decide ((dM (dF kc x8).la (dF kc x8).lb (dF kc x8).lc)>1))))] [b9] (o1 (qo (fun ww ss=>nA (dF kc x8) ww))) (A.v (E:= !(decide ((dM (dF kc x8).la (dF kc x8).lb (dF kc x8).lc)>1))) rfl (fun e3=> ?_) (fun e3=> ?_))))
   ·skip
    refine A.aB (A.s (A.hk [.w ((k:Int)+1),.p] [(0,p_ bt),(3,p_ b4),(15,vS al'5 (dI kc (fun v_=>true)) cl'6),(16,i_ ((dI kc (fun v_=>true)).length:Int)),(17,i_ ((k:Int)+1))] [] (o1 (wj ((k:Int)+1) (by omega))) ?_))
    refine A.aA (k+1,ymk) ⟨(by omega),(by(rw[yU ‹_›];unfold n0 fH;subst hy;first|(simp_all;done)|(simp[*];done)|grind))⟩ (by(show(dI kc (fun v_=>true)).length-(k+1)<(dI kc (fun v_=>true)).length-k;omega)) ?_
    exact A.aL [0,0,0,0,0] ⟨rfl,rfl,rfl,rfl,rfl,trivial⟩ (by kernel_rfl)
   ·skip
    refine A.p (A.c (A.aH [.p,.ld 5,.p,.al,.st 6] [0,3,15,16,17,5,6,8] (fun b10=>[(0,p_ bt),(3,p_ b4),(15,vS al'5 (dI kc (fun v_=>true)) cl'6),(16,i_ ((dI kc (fun v_=>true)).length:Int)),(17,c_ k),(5,i_ x8),(6,p_ b9),(8,p_ b10)]) (fun b10=>[cz b4 [.map (some m1),.map (some m2),.map (some m3)] 197,gn m1 ymk,fj m2 ([]:List (Int×Int)),fy m3 ([]:List (Int×MB)),sI al'5 (dI kc (fun v_=>true)) cl'6,cz b9 (dt (dF kc x8)) 62,cz b10 [i_ ((dF kc x8).hp),i_ 0] 200]) (fun b10=>[b9,b10]) (fun _=>T0) (fun _=>by kernel_rfl) (fun b10=>trivial) ?_))
    intro b10
    refine A.d (A.c (A.h [.p,.ld 5] [(0,p_ bt),(3,p_ b4),(15,vS al'5 (dI kc (fun v_=>true)) cl'6),(16,i_ ((dI kc (fun v_=>true)).length:Int)),(17,c_ k),(5,i_ x8),(8,p_ b10),(34,b_ ((dF kc x8).hl))] [b9] (A.v (E:=(dF kc x8).hl) rfl (fun e4=> ?_) (fun e4=> ?_))))
    ·skip
     refine A.s (A.gO [.p,.st 6] [(0,p_ bt),(3,p_ b4),(15,vS al'5 (dI kc (fun v_=>true)) cl'6),(16,i_ ((dI kc (fun v_=>true)).length:Int)),(17,c_ k),(5,i_ x8),(8,p_ b10)] [cz b4 [.map (some m1),.map (some m2),.map (some m3)] 197,gn m1 ymk,fj m2 ([]:List (Int×Int)),fy m3 ([]:List (Int×MB)),sI al'5 (dI kc (fun v_=>true)) cl'6,cz b9 (dt (dF kc x8)) 62,cz b10 [i_ ((dF kc x8).hp),i_ 1] 200] [b10] (A.W [6] 7 (A.pT 1 [.p,.p,.p,.ld 0,.p,.ld 6] [0,1,2,3,4,5] [(0,p_ bt),(3,p_ b4),(15,vS al'5 (dI kc (fun v_=>true)) cl'6),(16,i_ ((dI kc (fun v_=>true)).length:Int)),(17,c_ k),(39,.map (some m1)),(40,i_ x8),(41,.agg #[i_ ((dF kc x8).hp),i_ 1])] [b4,b10] (A.F 6 rfl (A.mP 3 200 1 x8 (⟨(dF kc x8).hp,1⟩:Pl) rfl (ee (by kernel_rfl)) (A.E (A.M ((A.s (A.hk [.w ((k:Int)+1),.p] [(0,p_ bt),(3,p_ b4),(15,vS al'5 (dI kc (fun v_=>true)) cl'6),(16,i_ ((dI kc (fun v_=>true)).length:Int)),(17,i_ ((k:Int)+1))] [] (o1 (wj ((k:Int)+1) (by omega))) ?_))))))))))
     refine A.aA (k+1,dD ymk x8 (⟨(dF kc x8).hp,1⟩:Pl)) ⟨(by omega),(by(rw[yU ‹_›];unfold n0 fH;subst hy;first|(simp_all;done)|(simp[*];done)|grind))⟩ (by(show(dI kc (fun v_=>true)).length-(k+1)<(dI kc (fun v_=>true)).length-k;omega)) ?_
     exact A.aL [0,0,0,0,0] ⟨rfl,rfl,rfl,rfl,rfl,trivial⟩ (by kernel_rfl)
    ·skip
     refine A.p (A.W [6] 7 (A.pT 1 [.p,.p,.p,.ld 0,.p,.ld 6] [0,1,2,3,4,5] [(0,p_ bt),(3,p_ b4),(15,vS al'5 (dI kc (fun v_=>true)) cl'6),(16,i_ ((dI kc (fun v_=>true)).length:Int)),(17,c_ k),(39,.map (some m1)),(40,i_ x8),(41,.agg #[i_ ((dF kc x8).hp),i_ 0])] [b4,b10] (A.F 6 rfl (A.mP 3 200 1 x8 (⟨(dF kc x8).hp,0⟩:Pl) rfl (ee (by kernel_rfl)) (A.E (A.M ((A.s (A.hk [.w ((k:Int)+1),.p] [(0,p_ bt),(3,p_ b4),(15,vS al'5 (dI kc (fun v_=>true)) cl'6),(16,i_ ((dI kc (fun v_=>true)).length:Int)),(17,i_ ((k:Int)+1))] [] (o1 (wj ((k:Int)+1) (by omega))) ?_)))))))))
     refine A.aA (k+1,dD ymk x8 (⟨(dF kc x8).hp,0⟩:Pl)) ⟨(by omega),(by(rw[yU ‹_›];unfold n0 fH;subst hy;first|(simp_all;done)|(simp[*];done)|grind))⟩ (by(show(dI kc (fun v_=>true)).length-(k+1)<(dI kc (fun v_=>true)).length-k;omega)) ?_
     exact A.aL [0,0,0,0,0] ⟨rfl,rfl,rfl,rfl,rfl,trivial⟩ (by kernel_rfl)
  ·skip
   have p2:=of_decide_eq_false e2
   refine A.aB (A.d (A.cE [cz b4 [.map (some m1),.map (some m2),.map (some m3)] 197,gn m1 ymk,fj m2 ([]:List (Int×Int)),fy m3 ([]:List (Int×MB)),sI al'5 (dI kc (fun v_=>true)) cl'6,fB ([]:List (Int×MB))] rfl (A.s (A.h [.p,.p] [(2,p_ b4)] [] (A.e ?_)))))
   rw[show ymk=(fL kc) from by first|rfl|(rw[hy,LM (by omega)])]
   refine A.aG [0,0,0,0,1] [p_ b4] (fun aa ww rr ss=>⟨fQ rr rfl,trivial⟩) (b4,m1,m2,m3) ?_ ?_ (by kernel_rfl)
   ·rfl
   ·trivial
structure Vt where
 be:Nat
 bt:Nat
 mb:Nat
 t:T
 kv:List (Int×It)
def eu(ty:TypeId)(v:Vt):List V.dC:=[cz v.be [p_ v.bt,.map (some v.mb)] ty,cz v.bt [.pointer (T.ptr v.t)] 251,dS 361 v.t,dX (fun k:Int=>i_ k) (fun y:It=>(.agg #[u_ y.ka,i_ y.ki,u_ y.va,i_ y.vi])) v.mb v.kv]
abbrev JC(b:Nat)(kk:List (Int×Vt)):V.dC:=dX (fun k:Int=>i_ k) (fun v:Vt=>p_ v.be) b kk
def eP(b:Nat)(kk:List (Int×Vt)):V.dC:=co [JC b kk,eT (eu 192) kk]
def ew(v:Vt)(t:T)(kv:List (Int×It)):V.dC:=co (eu 190 {v with t:=t,kv:=kv})
variable{kk:List (Int×Vt)}
theorem oK(h:(eP b kk).holds w):(JC b kk).holds w:=h _ (by simp)
variable{v:Vt}
theorem xm(h:(eP b kk).holds w)(hm:cw kk i=some v): ∀it∈eu 192 v,it.holds w:=uM (h (eT (eu 192) kk) (by simp)) hm
theorem IS(b:Nat)(kk:List (Int×Vt))(i:Int)(v:Vt)(hm:cw kk i=some v)(ho:eQ v.t v.kv)(w:World)(r:(eP b kk).holds w):Calls Tryz.prog 164 #[p_ v.be] w fun e w'=>e= .returned (u_ (iW v.t.toL))∧Fr [] w w':=
 have h:=xm r hm
 P0 v.be v.bt v.mb v.t v.kv ho w (h _ (by simp[eu])) (h _ (by simp[eu])) (h _ (by simp[eu])) (h _ (by simp[eu]))
theorem IT(b:Nat)(kk:List (Int×Vt))(i:Int)(v:Vt)(hm:cw kk i=some v)(ho:eQ v.t v.kv)(w:World)(r:(eP b kk).holds w):Calls Tryz.prog 148 #[p_ v.be] w fun e w'=>e= .returned (.tuple #[u_ ((v.t.toL.head?.getD default).ka),b_ (v.t.toL.head?.isSome)])∧Fr [] w w':=
 have h:=xm r hm
 P1 v.be v.bt v.mb v.t v.kv ho w (h _ (by simp[eu])) (h _ (by simp[eu])) (h _ (by simp[eu])) (h _ (by simp[eu]))
theorem Rk(b:Nat)(kk:List (Int×Vt))(i:Int)(v:Vt)(hm:cw kk i=some v)(w:World)(r:(eP b kk).holds w):Calls Tryz.prog 218 #[p_ v.be] w fun e w'=>e= .returned (i_ (v.kv.length:Int))∧Fr [] w w':=
 have h:=xm r hm
 HO v.be v.bt v.mb v.t v.kv w (h _ (by simp[eu])) (h _ (by simp[eu])) (h _ (by simp[eu])) (h _ (by simp[eu]))
theorem PD(b:Nat)(kk:List (Int×Vt))(i:Int)(v:Vt)(n:Int)(hm:cw kk i=some v)(ho:eQ v.t v.kv)(w:World)(r:(eP b kk).holds w):Calls Tryz.prog 210 #[p_ v.be,u_ n] w fun e w'=>e= .returned (.tuple #[i_ (((eV (dU n 9223372036854775807) v.t.toL).getD default).ki),b_ ((eV (dU n 9223372036854775807) v.t.toL).isSome)])∧Fr [] w w':=
 have h:=xm r hm
 N1 v.be v.bt v.mb v.t v.kv n ho w (h _ (by simp[eu])) (h _ (by simp[eu])) (h _ (by simp[eu])) (h _ (by simp[eu]))
theorem Dl{f:β→List V.dC}{ek:Int→Value}{ev:β→Value}{kv:List (Int×β)}{m:β}(hm:cw kv i=some m)(hs:HS w (dG [co [dX ek ev b kv,eT f kv]]) [co [dX ek ev b kv,eT f kv]] w):HS w (dG (f m)) (f m) w:=by
 have h:=(HS.coS hs).all (eT f kv) (by simp)
 refine HS.start w _ (uM h hm) ?_
 have hn:=(HS.coS hs).nodup
 rw[show[dX ek ev b kv,eT f kv]=[dX ek ev b kv]++[eT f kv] from rfl,kQ] at hn
 have hn:=(List.nodup_append.1 hn).2.1
 rw[show dG [eT f kv]=km f kv by simp[dG,eT]] at hn
 have:=((pX hm).flatMap_right (fun p:Int×β=>dG (f p.2))).nodup_iff.1 hn
 simp only[List.flatMap_cons] at this
 exact(List.nodup_append.1 this).1
theorem zQ{v':Vt}(hm:cw kk i=some v)(hb:v'.be=v.be)(hs:HS w (dG [eP b kk]) [eP b kk] w)(h:Turn (eu 192 v) (eu 192 v') w w'):Turn [eP b kk] [eP b (dD kk i v')] w w':=
 Turn.bag (f:=eu 192) (R:=[]) hs hm (by simp) (by simp) (by rw[hb]) fun _=>h
theorem Rm(b:Nat)(kk:List (Int×Vt))(i:Int)(v:Vt)(c x y:Int)(hm:cw kk i=some v)(ho:eQ v.t v.kv)(hl:v.kv.length≤700)(w:World)(hs:HS w (dG [eP b kk]) [eP b kk] w):Calls Tryz.prog 207 #[p_ v.be,i_ c,u_ x,u_ y] w fun e w'=> ∃zz:T,e= .returned (i_ 0)∧eQ zz (dD v.kv c ⟨x,c,y,c⟩)∧Turn [eP b kk] [eP b (dD kk i {v with t:=zz,kv:=dD v.kv c ⟨x,c,y,c⟩})] w w':=by
 refine(PZ v.be v.bt v.mb v.t v.kv c x y ho hl w (Dl (f:=eu 192) (m:=v) hm hs)).mono ?_
 rintro e w' ⟨zt,h1,h2,h3⟩
 exact⟨zt,h1,h2,zQ hm rfl hs h3⟩
theorem PE(b:Nat)(kk:List (Int×Vt))(i:Int)(v:Vt)(c:Int)(hm:cw kk i=some v)(ho:eQ v.t v.kv)(hl:v.kv.length≤700)(w:World)(hs:HS w (dG [eP b kk]) [eP b kk] w):Calls Tryz.prog 217 #[p_ v.be,i_ c] w fun e w'=> ∃zz:Int×T,e= .returned (i_ zz.1)∧eQ zz.2 (dL v.kv c)∧Turn [eP b kk] [eP b (dD kk i {v with t:=zz.2,kv:=dL v.kv c})] w w':=by
 have hf:=Dl (f:=eu 192) (m:=v) hm hs
 by_cases hd:cw v.kv c=none
 ·refine(JY v.be v.bt v.mb v.t v.kv c hd w (hf.all _ (by simp[eu])) (hf.all _ (by simp[eu])) (hf.all _ (by simp[eu])) (hf.all _ (by simp[eu]))).mono ?_
  rintro e w' ⟨rfl,h2⟩
  refine⟨(6,v.t),rfl,by rw[s3 hd];exact ho,zQ (v':={v with t:=v.t,kv:=dL v.kv c}) hm rfl hs ?_⟩
  have:({v with t:=v.t,kv:=dL v.kv c}:Vt)=v:=by rw[s3 hd]
  rw[this];exact Turn.of (hf.kept h2) (.refl _)
 ·refine(Jq v.be v.bt v.mb v.t v.kv c ho hd hl w hf).mono ?_
  rintro e w' ⟨zt,h1,h2,h3⟩
  exact⟨(0,zt),h1,h2,zQ hm rfl hs h3⟩
def o9(v:Vt):V.dC:=co (eu 192 v)
theorem u0(w:World)(hs:HS w (dG []) [] w):Calls Tryz.prog 61 #[] w fun e w'=> ∃zz:Vt,e= .returned (p_ zz.be)∧(zz.kv=[]∧zz.t=T.nil)∧Turn [] [o9 zz] w w':=by
 refine(PW w hs).mono ?_
 rintro e w' ⟨⟨be,bt,mb⟩,h1,-,h3⟩
 exact⟨⟨be,bt,mb,T.nil,[]⟩,h1,⟨rfl,rfl⟩,Turn.coR (Y:=[]) (by rw[List.append_nil];exact h3)⟩
theorem xn(w:World)(hs:HS w (dG []) [] w):Calls Tryz.prog 60 #[] w fun e w'=> ∃zz:Vt,e= .returned (p_ zz.be)∧True∧Turn [] [ew zz T.nil []] w w':=by
 refine(PV w hs).mono ?_
 rintro e w' ⟨⟨be,bt,mb⟩,h1,-,h3⟩
 exact⟨⟨be,bt,mb,T.nil,[]⟩,h1,trivial,Turn.coR (Y:=[]) (by rw[List.append_nil];exact h3)⟩
theorem B9(v:Vt)(t:T)(kv:List (Int×It))(c x y:Int)(ho:eQ t kv)(hl:kv.length≤700)(w:World)(hs:HS w (dG [ew v t kv]) [ew v t kv] w):Calls Tryz.prog 147 #[p_ v.be,i_ c,u_ x,u_ y] w fun e w'=> ∃zz:T,e= .returned (i_ 0)∧eQ zz (dD (dL kv c) c ⟨x,c,y,c⟩)∧Turn [ew v t kv] [ew v zz (dD (dL kv c) c ⟨x,c,y,c⟩)] w w':=by
 refine(PY v.be v.bt v.mb t kv c x y ho hl w (HS.coS hs)).mono ?_
 rintro e w' ⟨zt,h1,h2,h3⟩
 exact⟨zt,h1,h2,Turn.coS h3⟩
theorem Gw(v:Vt)(t:T)(kv:List (Int×It))(c:Int)(ho:eQ t kv)(hl:kv.length≤700)(w:World)(hs:HS w (dG [ew v t kv]) [ew v t kv] w):Calls Tryz.prog 202 #[p_ v.be,i_ c] w fun e w'=> ∃zz:Int×T,e= .returned (i_ zz.1)∧eQ zz.2 (dL kv c)∧Turn [ew v t kv] [ew v zz.2 (dL kv c)] w w':=by
 have hf:=HS.coS hs
 by_cases hd:cw kv c=none
 ·refine(Cc v.be v.bt v.mb t kv c hd w (hf.all _ (by simp[eu])) (hf.all _ (by simp[eu])) (hf.all _ (by simp[eu])) (hf.all _ (by simp[eu]))).mono ?_
  rintro e w' ⟨rfl,h2⟩
  refine⟨(6,t),rfl,by rw[s3 hd];exact ho,?_⟩
  rw[s3 hd];exact Turn.of (hs.kept h2) (.refl _)
 ·refine(DV v.be v.bt v.mb t kv c ho hd hl w hf).mono ?_
  rintro e w' ⟨zt,h1,h2,h3⟩
  exact⟨(0,zt),h1,h2,Turn.coS h3⟩
theorem PG(v:Vt)(t:T)(kv:List (Int×It))(n:Int)(ho:eQ t kv)(w:World)(r:(ew v t kv).holds w):Calls Tryz.prog 209 #[p_ v.be,u_ n] w fun e w'=>e= .returned (.tuple #[i_ (((eW (dU n 9223372036854775807) t.toL).getD default).ki),b_ ((eW (dU n 9223372036854775807) t.toL).isSome)])∧Fr [] w w':=
 NZ v.be v.bt v.mb t kv n ho w (r _ (by simp[eu])) (r _ (by simp[eu])) (r _ (by simp[eu])) (r _ (by simp[eu]))
theorem PH(v:Vt)(t:T)(kv:List (Int×It))(ho:eQ t kv)(w:World)(r:(ew v t kv).holds w):Calls Tryz.prog 163 #[p_ v.be] w fun e w'=>e= .returned (u_ (mg t.toL))∧Fr [] w w':=
 N2 v.be v.bt v.mb t kv ho w (r _ (by simp[eu])) (r _ (by simp[eu])) (r _ (by simp[eu])) (r _ (by simp[eu]))
structure Ac where
 bs:Nat
 mb:Nat
 mo:Nat
 ml:Nat
 ym:List (Int×Pl)
 deriving Inhabited
def im(a:Ac)(on:List (Int×Int))(kv:List (Int×MB)):List V.dC:=[cz a.bs [.map (some a.mb),.map (some a.mo),.map (some a.ml)] 197,gn a.mb a.ym,fj a.mo on,fy a.ml kv,fB kv]
def eS(a:Ac)(on:List (Int×Int))(kv:List (Int×MB)):V.dC:=co (im a on kv)
theorem Ij(a:Ac)(on:List (Int×Int))(kv:List (Int×MB))(c:Int)(w:World)(r:(eS a on kv).holds w):Calls Tryz.prog 109 #[p_ a.bs,i_ c] w fun e w'=>e= .returned (b_ (fc on kv c))∧Fr [] w w':=
 uY a.bs a.mb a.mo a.ml a.ym on kv c w (r _ (by simp[im])) (r _ (by simp[im])) (r _ (by simp[im])) (r _ (by simp[im])) (r _ (by simp[im]))
def nj(ym:List (Int×Pl))(on:List (Int×Int))(kv:List (Int×MB))(c:Int)(on':List (Int×Int))(kv':List (Int×MB))(l:List Int)(e:Int):Prop:=
 (iy ym c=true∧fc on kv c=false∧e=0∧l=(fX ym (kx kv) 40 c).1∧on'=dD on c (db ym c)∧kx kv'=(fX ym (kx kv) 40 c).2)∨((iy ym c=false∨fc on kv c=true)∧e≠0∧l=[]∧on'=on∧kv'=kv)
def qy(ym:List (Int×Pl))(on:List (Int×Int))(kv:List (Int×MB))(c:Int)(on':List (Int×Int))(kv':List (Int×MB))(l:List Int)(e:Int):Prop:=
 (iy ym c=true∧fc on kv c=true∧e=0∧l=(fw ym (kx kv) 40 c).1∧on'=dL on c∧kx kv'=(fw ym (kx kv) 40 c).2)∨((iy ym c=false∨fc on kv c=false)∧e≠0∧l=[]∧on'=on∧kv'=kv)
theorem yZ{a:Ac}{on:List (Int×Int)}{kv:List (Int×MB)}(hs:HS w (dG [eS a on kv]) [eS a on kv] w)(h:Fr [] w w'):Turn [eS a on kv] [eS a on kv,sI none [] 0] w w':=
 Turn.of ((hs.kept h).add (Fr.refl _ _) (it:=sI none [] 0) (xI 3 1 w') List.nodup_nil (by intro b hb;cases hb)) (.refl _)
theorem CG(a:Ac)(on:List (Int×Int))(kv:List (Int×MB))(c:Int)(hd:iw a.ym 40 c)(w:World)(hs:HS w (dG [eS a on kv]) [eS a on kv] w):Calls Tryz.prog 74 #[p_ a.bs,i_ c] w fun e w'=> ∃zz:List (Int×Int)×List (Int×MB)×Option Addr×List Int×Nat×Int,e= .returned (.tuple #[vS zz.2.2.1 zz.2.2.2.1 zz.2.2.2.2.1,i_ zz.2.2.2.2.2])∧nj a.ym on kv c zz.1 zz.2.1 zz.2.2.2.1 zz.2.2.2.2.2∧Turn [eS a on kv] [eS a zz.1 zz.2.1,sI zz.2.2.1 zz.2.2.2.1 zz.2.2.2.2.1] w w':=by
 have hf:=HS.coS hs
 have r: ∀it∈im a on kv,it.holds w:=hf.all
 by_cases hl:iy a.ym c=true
 ·by_cases hi:fc on kv c=true
  ·refine(NB a.bs a.mb a.mo a.ml a.ym on kv c hl hi w (r _ (by simp[im])) (r _ (by simp[im])) (r _ (by simp[im])) (r _ (by simp[im])) (r _ (by simp[im]))).mono ?_
   rintro e w' ⟨rfl,h2⟩
   exact⟨(on,kv,none,[],0,8),rfl,.inr ⟨.inr hi,by simp,rfl,rfl,rfl⟩,yZ hs h2⟩
  ·have hi:fc on kv c=false:=by simpa using hi
   refine(RR a.bs a.mb a.mo a.ml a.ym on kv c hl hi hd w hf).mono ?_
   rintro e w' ⟨⟨kv',al,cl⟩,h1,h2,h3⟩
   exact⟨(_,kv',al,_,cl,0),h1,.inl ⟨hl,hi,rfl,rfl,rfl,h2⟩,Turn.coI (X:=[]) (by rw[List.append_nil];exact h3)⟩
 ·have hl:iy a.ym c=false:=by simpa using hl
  refine(NA a.bs a.mb a.mo a.ml a.ym on kv c hl w (r _ (by simp[im])) (r _ (by simp[im])) (r _ (by simp[im])) (r _ (by simp[im])) (r _ (by simp[im]))).mono ?_
  rintro e w' ⟨rfl,h2⟩
  exact⟨(on,kv,none,[],0,6),rfl,.inr ⟨.inl hl,by simp,rfl,rfl,rfl⟩,yZ hs h2⟩
theorem Ro(a:Ac)(on:List (Int×Int))(kv:List (Int×MB))(c:Int)(hd:iw a.ym 40 c)(w:World)(hs:HS w (dG [eS a on kv]) [eS a on kv] w):Calls Tryz.prog 216 #[p_ a.bs,i_ c] w fun e w'=> ∃zz:List (Int×Int)×List (Int×MB)×Option Addr×List Int×Nat×Int,e= .returned (.tuple #[vS zz.2.2.1 zz.2.2.2.1 zz.2.2.2.2.1,i_ zz.2.2.2.2.2])∧qy a.ym on kv c zz.1 zz.2.1 zz.2.2.2.1 zz.2.2.2.2.2∧Turn [eS a on kv] [eS a zz.1 zz.2.1,sI zz.2.2.1 zz.2.2.2.1 zz.2.2.2.2.1] w w':=by
 have hf:=HS.coS hs
 have r: ∀it∈im a on kv,it.holds w:=hf.all
 by_cases hl:iy a.ym c=false∨fc on kv c=false
 ·refine(LL a.bs a.mb a.mo a.ml a.ym on kv c hl w (r _ (by simp[im])) (r _ (by simp[im])) (r _ (by simp[im])) (r _ (by simp[im])) (r _ (by simp[im]))).mono ?_
  rintro e w' ⟨rfl,h2⟩
  exact⟨(on,kv,none,[],0,6),rfl,.inr ⟨hl,by simp,rfl,rfl,rfl⟩,yZ hs h2⟩
 ·have h1:iy a.ym c=true:=by cases h:iy a.ym c<;>simp_all
  have h2:fc on kv c=true:=by cases h:fc on kv c<;>simp_all
  refine(Oe a.bs a.mb a.mo a.ml a.ym on kv c h1 h2 hd w hf).mono ?_
  rintro e w' ⟨⟨kv',al,cl⟩,e1,e2,h3⟩
  exact⟨(_,kv',al,_,cl,0),e1,.inl ⟨h1,h2,rfl,rfl,rfl,e2⟩,Turn.coI (X:=[]) (by rw[List.append_nil];exact h3)⟩
theorem IU(bt mc:Nat)(kc:List (Int×Cl))(hl:kc.length≤1000)(w:World)(r0:(cz bt [.map (some mc)] 185).holds w)(r1:(di mc kc).holds w)(hs:HS w (dG []) [] w):Calls Tryz.prog 62 #[p_ bt] w fun e w'=> ∃zz:Ac,e= .returned (p_ zz.bs)∧zz.ym=fL kc∧Turn [] [eS zz [] []] w w':=by
 refine(NC bt mc kc hl w r0 r1 hs).mono ?_
 rintro e w' ⟨⟨bs,mb,mo,mk⟩,h1,-,h3⟩
 exact⟨⟨bs,mb,mo,mk,fL kc⟩,h1,rfl,Turn.coR (Y:=[]) (by rw[List.append_nil];exact h3)⟩
theorem jr(h:fH kv i=true): ∃c,cw kv i=some c∧dF kv i=c:=by
 cases e:cw kv i with
 |some c=>exact⟨c,rfl,ig e⟩
 |none=>exfalso;unfold fH at h;rw[Ai e] at h;revert h;decide
theorem Fj(kv:List (Int×Cl)): ∀(l:List Int)(m:List (Int×Pl))(i:Int),cw (l.foldl (n0 kv) m) i=if i∈l∧fH kv i=true then some ⟨(dF kv i).hp,if(dF kv i).hl=true then 1 else 0⟩ else cw m i
 |[],m,i=>by simp
 |x::l,m,i=>by
  rw[List.foldl_cons,Fj kv l]
  by_cases hs:fH kv i=true
  ·by_cases hl:i∈l
   ·simp[hl,hs]
   ·rw[if_neg (fun h=>hl h.1)]
    by_cases e:i=x
    ·subst e;rw[if_pos (c:=i∈i::l∧fH kv i=true) ⟨by simp,hs⟩];unfold n0;rw[if_pos hs,gA,if_pos rfl]
    ·rw[if_neg (fun h=>by rcases List.mem_cons.1 h.1 with h|h;exact e h;exact hl h)]
     unfold n0;split
     ·rw[gA,if_neg (fun h=>e h.symm)]
     ·rfl
  ·rw[if_neg (fun h=>hs h.2),if_neg (fun h=>hs h.2)]
   unfold n0;split
   ·rename_i hx;rw[gA,if_neg (fun h=>hs (by rw[←h];exact hx))]
   ·rfl
theorem E3(i:Int):cw (fL kv) i=if fH kv i=true then some ⟨(dF kv i).hp,if(dF kv i).hl=true then 1 else 0⟩ else none:=by
 unfold fL;rw[Fj]
 by_cases hs:fH kv i=true
 ·obtain⟨c,h1,_⟩:=jr hs
  rw[if_pos hs,if_pos ⟨rJ h1 rfl,hs⟩]
 ·rw[if_neg hs,if_neg (fun h=>hs h.2)];rfl
theorem tc(i:Int):db (fL kv) i=if fH kv i=true then(dF kv i).hp else 0:=by
 unfold db;rw[E3];split<;>rfl
theorem tu(i:Int):iy (fL kv) i=(fH kv i&&(dF kv i).hl):=by
 unfold iy;rw[E3];by_cases h:fH kv i=true
 ·rw[if_pos h,h];cases hh:(dF kv i).hl<;>simp
 ·rw[if_neg h];simp[dR,h]
theorem Fo: ∀(n:Nat)(i:Int),fW kv n i<n→iw (fL kv) n i
 |0,_,h=>by omega
 |n+1,i,h=>by
  unfold iw;rw[tc]
  by_cases hs:fH kv i=true
  ·obtain⟨c,h1,h2⟩:=jr hs
   rw[if_pos hs];right
   unfold fW at h;rw[h1] at h;simp at h
   exact Fo n _ h
  ·rw[if_neg hs];exact .inl rfl
variable{ym:List (Int×Pl)}
theorem Fp: ∀(n:Nat)(i:Int),iw ym n i→iw ym (n+1) i
 |0,_,h=>h.elim
 |n+1,i,h=>by
  rcases h with h|h
  ·exact .inl h
  ·exact .inr (Fp n _ h)
theorem E4: ∀(m n:Nat),iw ym n i→iw ym (n+m) i
 |0,_,h=>h
 |m+1,n,h=>Fp _ _ (E4 m n h)
theorem tQ(hL:eA kv)(i:Int):iw (fL kv) 40 i:=
 E4 23 17 (Fo 17 i (by have:=hL.dep i;unfold dep at this;omega))
def dc(kv:List (Int×Cl))(i:Int):List Int:=gG kv i (dep kv i)
variable{c:Cl}
theorem iq(hL:eA kv)(h:cw kv i=some c):dep kv i=dep kv c.hp+1:=by
 have h1:dep kv i=fW kv 16 c.hp+1:=by unfold dep;rw[fW,h,ig h];rfl
 have h2:=hL.dep i
 rw[h1];congr 1;unfold dep
 exact(y5 kv 1 16 c.hp (by omega)).symm
theorem vW(h:cw kv i=none):dep kv i=0:=by unfold dep;rw[fW,h];rfl
theorem jH(hL:eA kv)(h:cw kv i=some c):dc kv i=i::dc kv c.hp:=by
 unfold dc;rw[iq hL h];unfold gG
 rw[List.range_succ_eq_map,List.map_cons,List.map_map]
 congr 1
 refine List.map_congr_left fun j _=> ?_
 show fq kv i (j+1)=_
 rw[rO,ig h]
theorem mY(h:cw kv i=none):dc kv i=[]:=by unfold dc;rw[vW h];rfl
theorem q7(hL:eA kv)(hs:fH kv i=true):(dF kv i).hp=0∨(fH kv (dF kv i).hp=true∧(dF kv (dF kv i).hp).hl=false):=by
 obtain⟨c,h1,h2⟩:=jr hs
 rcases hL.par i c h1 with h|⟨p,h3,h4⟩
 ·left;rw[h2];exact h
 ·by_cases h0:c.hp=0
  ·left;rw[h2];exact h0
  ·right;rw[h2]
   have h5:=hL.shr i c h1 (by unfold fH at hs;rw[h2] at hs;simpa using hs)
   refine⟨?_,by rw[ig h3];exact h4⟩
   unfold iP at h5;unfold fH
   have:(c.hp==0)=false:=by simpa using h0
   rw[this] at h5;simpa using h5
structure oZ(kv:List (Int×Cl))(ol:List Int)(A:Int→Prop):Prop where
 sh: ∀i,A i→fH kv i=true
 up: ∀i,A i→(dF kv i).hp=0∨A (dF kv i).hp
 sup: ∀i,A i→i∈ol∨ ∃r,A r∧(dF kv r).hp=i
 ons: ∀i∈ol,A i
 lf: ∀i∈ol,(dF kv i).hl=true
def oe(kv:List (Int×Cl))(A:Int→Prop)(F:Int→List (Int×Int)):Prop:= ∀p,((F p).map (·.1)).Nodup∧ ∀i,(cw (F p) i≠none↔A i∧(dF kv i).hp=p)
variable{ol:List Int}{A:Int→Prop}
theorem td(hL:eA kv)(h:oZ kv ol A): ∀(n:Nat)(i:Int),dep kv i≤n→A i→ ∀q∈dc kv i,A q
 |0,i,hn,hi,q,hq=>by
  unfold dc at hq;rw[show dep kv i=0 by omega] at hq;simp[gG] at hq
 |n+1,i,hn,hi,q,hq=>by
  obtain⟨c,h1,h2⟩:=jr (h.sh i hi)
  rw[jH hL h1] at hq
  rcases List.mem_cons.1 hq with rfl|hq
  ·exact hi
  ·rcases h.up i hi with h0|h0
   ·rw[h2] at h0;rw[h0,mY (mH hL)] at hq;cases hq
   ·rw[h2] at h0;exact td hL h n _ (by rw[iq hL h1] at hn;omega) h0 q hq
theorem E5(hL:eA kv)(h:oZ kv ol A): ∀(n:Nat)(i:Int),17≤dep kv i+n→A i→ ∃m∈ol,i∈dc kv m
 |0,i,hn,hi=>by have:=hL.dep i;omega
 |n+1,i,hn,hi=>by
  obtain⟨c,h1,h2⟩:=jr (h.sh i hi)
  rcases h.sup i hi with h0|⟨r,h3,h4⟩
  ·exact⟨i,h0,by rw[jH hL h1];simp⟩
  ·obtain⟨d,h5,h6⟩:=jr (h.sh r h3)
   rw[h6] at h4
   obtain⟨m,hm,hr⟩:=E5 hL h n r (by rw[iq hL h5,h4];omega) h3
   refine⟨m,hm,?_⟩
   exact upc_trans hL (by rw[jH hL h5];exact List.mem_cons_of_mem _ (by rw[h4,jH hL h1];simp)) hr
where
 upc_trans {kv:List (Int×Cl)} (hL:eA kv) {i r m:Int} (h1:i∈dc kv r) (h2:r∈dc kv m):i∈dc kv m:=by
  have key: ∀(n:Nat)(m:Int),dep kv m≤n→r∈dc kv m→i∈dc kv m:=by
   intro n
   induction n with
   |zero=>intro m hm hr;unfold dc at hr;rw[show dep kv m=0 by omega] at hr;simp[gG] at hr
   |succ n ih=>
    intro m hm hr
    cases e:cw kv m with
    |none=>rw[mY e] at hr;cases hr
    |some c=>
     rw[jH hL e] at hr⊢
     rcases List.mem_cons.1 hr with rfl|hr
     ·rw[jH hL e] at h1;exact h1
     ·exact List.mem_cons_of_mem _ (ih _ (by rw[iq hL e] at hm;omega) hr)
  exact key _ m (Nat.le_refl _) h2
theorem qK(hL:eA kv)(h:oZ kv ol A)(i:Int):A i↔ ∃m∈ol,i∈dc kv m:=
 ⟨fun hi=>E5 hL h 17 i (by omega) hi,fun⟨m,hm,hi⟩=>td hL h _ m (Nat.le_refl _) (h.ons m hm) i hi⟩
theorem vz(hL:eA kv): ∀(n:Nat)(p q:Int),dep kv p≤n→q∈dc kv p→dep kv q≤dep kv p
 |0,p,q,hn,hq=>by unfold dc at hq;rw[show dep kv p=0 by omega] at hq;simp[gG] at hq
 |n+1,p,q,hn,hq=>by
  cases e:cw kv p with
  |none=>rw[mY e] at hq;cases hq
  |some c=>
   rw[jH hL e] at hq
   rcases List.mem_cons.1 hq with rfl|hq
   ·omega
   ·have h2:=iq hL e;have:=vz hL n c.hp q (by omega) hq;omega
theorem uy{l:List (Int×Int)}:l≠[]↔ ∃i,cw l i≠none:=by
 constructor
 ·intro h
  cases l with
  |nil=>exact absurd rfl h
  |cons p l=>exact⟨p.1,by simp[cw]⟩
 ·rintro⟨i,h⟩ rfl;exact h rfl
variable{F:Int→List (Int×Int)}
theorem NX(h:oe kv A F)(i:Int):oe kv (fun q=>A q∨q=i) (lI F (dF kv i).hp i):=by
 intro p;unfold lI
 by_cases e:(dF kv i).hp=p
 ·simp only[if_pos e];subst e
  refine⟨lM (h _).1 _ _,fun q=> ?_⟩
  rw[gA];by_cases eq:i=q
  ·subst eq;simp
  ·rw[if_neg eq,(h _).2];constructor
   ·rintro⟨h1,h2⟩;exact⟨.inl h1,h2⟩
   ·rintro⟨h1|h1,h2⟩
    ·exact⟨h1,h2⟩
    ·exact absurd h1.symm eq
 ·simp only[if_neg e]
  refine⟨(h p).1,fun q=> ?_⟩
  rw[(h p).2];constructor
  ·rintro⟨h1,h2⟩;exact⟨.inl h1,h2⟩
  ·rintro⟨h1|h1,h2⟩
   ·exact⟨h1,h2⟩
   ·subst h1;exact absurd h2 e
theorem NY(h:oe kv A F)(i:Int):oe kv (fun q=>A q∧q≠i) (iH F (dF kv i).hp i):=by
 intro p;unfold iH
 by_cases e:(dF kv i).hp=p
 ·simp only[if_pos e];subst e
  refine⟨kR (h _).1 _,fun q=> ?_⟩
  rw[iJ (h _).1];by_cases eq:i=q
  ·subst eq;simp
  ·rw[if_neg eq,(h _).2];constructor
   ·rintro⟨h1,h2⟩;exact⟨⟨h1,fun h=>eq h.symm⟩,h2⟩
   ·rintro⟨⟨h1,_⟩,h2⟩;exact⟨h1,h2⟩
 ·simp only[if_neg e]
  refine⟨(h p).1,fun q=> ?_⟩
  rw[(h p).2];constructor
  ·rintro⟨h1,h2⟩;exact⟨⟨h1,fun h=>e (h▸h2)⟩,h2⟩
  ·rintro⟨⟨h1,_⟩,h2⟩;exact⟨h1,h2⟩
structure Bf(kv:List (Int×Cl))(ol:List Int)(A:Int→Prop)(i:Int):Prop where
 sh: ∀q,A q→fH kv q=true
 up: ∀q,A q→(dF kv q).hp=0∨A (dF kv q).hp∨(dF kv q).hp=i
 sup: ∀q,A q→q∈ol∨ ∃r,A r∧(dF kv r).hp=q
 me:i∈ol∨ ∃r,A r∧(dF kv r).hp=i
 mysh:fH kv i=true
 no: ¬A i
 ons: ∀q∈ol,A q∨q=i
 lf: ∀q∈ol,(dF kv q).hl=true
theorem E6(hL:eA kv)(hs:fH kv i=true):(dF kv i).hp≠i:=by
 obtain⟨c,h1,h2⟩:=jr hs
 obtain⟨h3,h4⟩:=hL.key i c h1
 have:=(rP h4).2.2
 rw[h2,←h3];exact fun e=>this e.symm
open Classical in
theorem HN(hL:eA kv): ∀(n:Nat)(i:Int)(A:Int→Prop)(F:Int→List (Int×Int)),Bf kv ol A i→oe kv A F→iw (fL kv) n i→
  ∃A':Int→Prop,oZ kv ol A'∧oe kv A' (fX (fL kv) F n i).2∧(∀q,A q→A' q)∧(fX (fL kv) F n i).1=(dc kv i).filter (fun q=>decide (¬A q))∧A' i
 |0,i,A,F,hW,hF,hd=>hd.elim
 |n+1,i,A,F,hW,hF,hd=>by
  have hp:db (fL kv) i=(dF kv i).hp:=by rw[tc,if_pos hW.mysh]
  have hfa:=NX hF i
  obtain⟨c,h1,h2⟩:=jr hW.mysh
  have hne:=E6 hL hW.mysh
  have hiff: ∀p,p=(dF kv i).hp→p≠0→(F p≠[]↔A p):=by
   intro p hpe hp0
   rw[uy];constructor
   ·rintro⟨q,hq⟩
    obtain⟨h3,h4⟩:=((hF p).2 q).1 hq
    rcases hW.up q h3 with h|h|h
    ·exact absurd (h4.symm.trans h) hp0
    ·rw[h4] at h;exact h
    ·exact absurd ((hpe.symm.trans h4.symm).trans h) hne
   ·intro ha
    rcases hW.sup p ha with h|⟨r,h3,h4⟩
    ·have h5:=hW.lf p h
     rcases q7 hL hW.mysh with h6|⟨_,h6⟩
     ·exact absurd (hpe.trans h6) hp0
     ·rw[←hpe,h5] at h6;cases h6
    ·exact⟨r,((hF p).2 r).2 ⟨h3,h4⟩⟩
  by_cases hst:F (db (fL kv) i)≠[]∨db (fL kv) i=0
  ·rw[nJ hst]
   rw[hp] at hst⊢
   have hcl:(dF kv i).hp=0∨A (dF kv i).hp:=by
    by_cases h0:(dF kv i).hp=0
    ·exact .inl h0
    ·rcases hst with h|h
     ·exact .inr ((hiff _ rfl h0).1 h)
     ·exact absurd h h0
   have hA':oZ kv ol (fun q=>A q∨q=i):=by
    refine⟨?_,?_,?_,fun q hq=>hW.ons q hq,hW.lf⟩
    ·rintro q (h|rfl)
     ·exact hW.sh q h
     ·exact hW.mysh
    ·rintro q (h|rfl)
     ·rcases hW.up q h with h|h|h
      ·exact .inl h
      ·exact .inr (.inl h)
      ·exact .inr (.inr h)
     ·rcases hcl with h|h
      ·exact .inl h
      ·exact .inr (.inl h)
    ·rintro q (h|rfl)
     ·rcases hW.sup q h with h|⟨r,h3,h4⟩
      ·exact .inl h
      ·exact .inr ⟨r,.inl h3,h4⟩
     ·rcases hW.me with h|⟨r,h3,h4⟩
      ·exact .inl h
      ·exact .inr ⟨r,.inl h3,h4⟩
   refine⟨_,hA',hfa,fun q h=> .inl h,?_,.inr rfl⟩
   rw[jH hL h1,List.filter_cons,if_pos (by simpa using hW.no)]
   have:(dc kv c.hp).filter (fun q=>decide (¬A q))=[]:=by
    rw[List.filter_eq_nil_iff];intro q hq
    rw[h2] at hcl
    rcases hcl with h|h
    ·rw[h,mY (mH hL)] at hq;cases hq
    ·have hqA:=td hL hA' _ c.hp (Nat.le_refl _) (.inl h) q hq
     rcases hqA with h3|h3
     ·simpa using h3
     ·exfalso
      have:=vz hL _ c.hp q (Nat.le_refl _) hq
      rw[h3,iq hL h1] at this;omega
   rw[this]
  ·rw[xi hst]
   rw[hp] at hst⊢
   have h0:(dF kv i).hp≠0:=fun h=>hst (.inr h)
   have hnp: ¬A (dF kv i).hp:=fun h=>hst (.inl ((hiff _ rfl h0).2 h))
   have hsp:fH kv (dF kv i).hp=true:=by
    rcases q7 hL hW.mysh with h|h
    ·exact absurd h h0
    ·exact h.1
   have hW':Bf kv ol (fun q=>A q∨q=i) (dF kv i).hp:=by
    refine⟨?_,?_,?_,.inr ⟨i,.inr rfl,rfl⟩,hsp,?_,fun q hq=> .inl (hW.ons q hq),hW.lf⟩
    ·rintro q (h|rfl)
     ·exact hW.sh q h
     ·exact hW.mysh
    ·rintro q (h|rfl)
     ·rcases hW.up q h with h|h|h
      ·exact .inl h
      ·exact .inr (.inl (.inl h))
      ·exact .inr (.inl (.inr h))
     ·exact .inr (.inr rfl)
    ·rintro q (h|rfl)
     ·rcases hW.sup q h with h|⟨r,h3,h4⟩
      ·exact .inl h
      ·exact .inr ⟨r,.inl h3,h4⟩
     ·rcases hW.me with h|⟨r,h3,h4⟩
      ·exact .inl h
      ·exact .inr ⟨r,.inl h3,h4⟩
    ·rintro(h|h)
     ·exact hnp h
     ·exact hne h
   have hd':iw (fL kv) n (dF kv i).hp:=by
    rcases hd with h|h
    ·rw[hp] at h;exact absurd h h0
    ·rw[hp] at h;exact h
   obtain⟨A',a1,a2,a3,a4,a5⟩:=HN hL n _ _ _ hW' hfa hd'
   refine⟨A',a1,a2,fun q h=>a3 q (.inl h),?_,a3 i (.inr rfl)⟩
   rw[a4,jH hL h1,List.filter_cons,if_pos (by simpa using hW.no),h2]
   refine congrArg (i:: ·) (List.filter_congr fun q hq=> ?_)
   have hqi: ¬q=i:=by
    intro e
    have:=vz hL _ c.hp q (Nat.le_refl _) hq
    rw[e,iq hL h1] at this;omega
   simp[hqi]
structure Af(kv:List (Int×Cl))(ol:List Int)(A:Int→Prop)(i:Int):Prop where
 sh: ∀q,A q→fH kv q=true
 up: ∀q,A q→(dF kv q).hp=0∨A (dF kv q).hp
 sup: ∀q,A q→q≠i→q∈ol∨ ∃r,A r∧(dF kv r).hp=q
 me:A i
 lone: ∀r,A r→(dF kv r).hp≠i
 no:i∉ol
 ons: ∀q∈ol,A q
 lf: ∀q∈ol,(dF kv q).hl=true
open Classical in
theorem Fq(hL:eA kv): ∀(n:Nat)(i:Int)(A:Int→Prop)(F:Int→List (Int×Int)),Af kv ol A i→oe kv A F→iw (fL kv) n i→
  ∃A':Int→Prop,oZ kv ol A'∧oe kv A' (fw (fL kv) F n i).2∧(∀q,A' q→A q∧q≠i)∧(fw (fL kv) F n i).1=(dc kv i).filter (fun q=>decide (¬A' q))
 |0,i,A,F,hW,hF,hd=>hd.elim
 |n+1,i,A,F,hW,hF,hd=>by
  have mysh:=hW.sh i hW.me
  have hp:db (fL kv) i=(dF kv i).hp:=by rw[tc,if_pos mysh]
  have hfa:=NY hF i
  obtain⟨c,h1,h2⟩:=jr mysh
  have hne:=E6 hL mysh
  have hcl:=hW.up i hW.me
  by_cases hst:iH F (db (fL kv) i) i (db (fL kv) i)≠[]∨db (fL kv) i=0
  ·rw[qJ hst]
   rw[hp] at hst⊢
   have hA':oZ kv ol (fun q=>A q∧q≠i):=by
    refine⟨fun q h=>hW.sh q h.1,?_,?_,fun q hq=>⟨hW.ons q hq,fun e=>hW.no (e▸hq)⟩,hW.lf⟩
    ·rintro q ⟨h,hqi⟩
     rcases hW.up q h with h3|h3
     ·exact .inl h3
     ·exact .inr ⟨h3,fun e=>hW.lone q h e⟩
    ·rintro q ⟨h,hqi⟩
     rcases hW.sup q h hqi with h3|⟨r,h3,h4⟩
     ·exact .inl h3
     ·by_cases hri:r=i
      ·subst hri
       rcases hst with h5|h5
       ·obtain⟨s,hs⟩:=uy.1 h5
        obtain⟨h6,h7⟩:=((hfa _).2 s).1 hs
        exact .inr ⟨s,h6,h7.trans h4⟩
       ·exfalso
        have hq0:q=0:=h4.symm.trans h5
        have:=hW.sh q h
        obtain⟨d,h6,_⟩:=jr this
        rw[hq0,mH hL] at h6;cases h6
      ·exact .inr ⟨r,⟨h3,hri⟩,h4⟩
   refine⟨_,hA',hfa,fun q h=>h,?_⟩
   rw[jH hL h1,List.filter_cons,if_pos (by simp)]
   refine congrArg (i:: ·) (Eq.symm (List.filter_eq_nil_iff.2 fun q hq=> ?_))
   rw[h2] at hcl
   rcases hcl with h|h
   ·rw[h,mY (mH hL)] at hq;cases hq
   ·have hci:c.hp≠i:=by rw[←h2];exact hne
    have hqA:=td hL hA' _ c.hp (Nat.le_refl _) ⟨h,hci⟩ q hq
    simpa using hqA
  ·rw[AU hst]
   rw[hp] at hst⊢
   have h0:(dF kv i).hp≠0:=fun h=>hst (.inr h)
   have hE: ∀r,(A r∧r≠i)→(dF kv r).hp≠(dF kv i).hp:=fun r hr e=>hst (.inl (uy.2 ⟨r,((hfa _).2 r).2 ⟨hr,e⟩⟩))
   have hpA:A (dF kv i).hp:=hcl.resolve_left h0
   have hW':Af kv ol (fun q=>A q∧q≠i) (dF kv i).hp:=by
    refine⟨fun q h=>hW.sh q h.1,?_,?_,⟨hpA,hne⟩,fun r hr=>hE r hr,?_,fun q hq=>⟨hW.ons q hq,fun e=>hW.no (e▸hq)⟩,hW.lf⟩
    ·rintro q ⟨h,hqi⟩
     rcases hW.up q h with h3|h3
     ·exact .inl h3
     ·exact .inr ⟨h3,fun e=>hW.lone q h e⟩
    ·rintro q ⟨h,hqi⟩ hqp
     rcases hW.sup q h hqi with h3|⟨r,h3,h4⟩
     ·exact .inl h3
     ·by_cases hri:r=i
      ·subst hri;exact absurd h4.symm hqp
      ·exact .inr ⟨r,⟨h3,hri⟩,h4⟩
    ·intro h
     have h5:=hW.lf _ h
     rcases q7 hL mysh with h6|⟨_,h6⟩
     ·exact h0 h6
     ·rw[h5] at h6;cases h6
   have hd':iw (fL kv) n (dF kv i).hp:=by
    rcases hd with h|h
    ·rw[hp] at h;exact absurd h h0
    ·rw[hp] at h;exact h
   obtain⟨A',a1,a2,a3,a4⟩:=Fq hL n _ _ _ hW' hfa hd'
   refine⟨A',a1,a2,fun q h=>(a3 q h).1,?_⟩
   rw[a4,jH hL h1,List.filter_cons,if_pos (by simp;exact fun h=>(a3 i h).1.2 rfl),h2]
def fz(c:Cl):Cv:=⟨c.ra,c.rb,c.rc⟩
def kr(c:Cl):Cv:=⟨c.la,c.lb,c.lc⟩
def mn(c:Cl):Cv:=⟨c.ua,c.ub,c.uc⟩
theorem Gx(hL:eA kv): ∀(n:Nat)(i:Int),dep kv i≤n→ ∀j,j<dep kv i→cw kv (fq kv i j)≠none
 |0,i,hn,j,hj=>by omega
 |n+1,i,hn,j,hj=>by
  cases e:cw kv i with
  |none=>rw[vW e] at hj;omega
  |some c=>
   cases j with
   |zero=>show cw kv i≠none;rw[e];simp
   |succ j=>
    rw[rO,ig e]
    rw[iq hL e] at hj hn
    exact Gx hL n _ (by omega) j (by omega)
theorem F5(hL:eA kv): ∀(n:Nat)(i:Int),dep kv i≤n→cw kv (fq kv i (dep kv i))=none
 |0,i,hn=>by
  cases e:cw kv i with
  |none=>rw[vW e];exact e
  |some c=>have:=iq hL e;omega
 |n+1,i,hn=>by
  cases e:cw kv i with
  |none=>rw[vW e];exact e
  |some c=>
   rw[iq hL e,rO,ig e]
   rw[iq hL e] at hn
   exact F5 hL n _ (by omega)
theorem CH(bt mc:Nat)(kc:List (Int×Cl))(ci:Int)(hL:eA kc)(w:World)(r0:(cz bt [.map (some mc)] 185).holds w)(r1:(di mc kc).holds w)(hs:HS w (dG []) [] w):Calls Tryz.prog 101 #[p_ bt,i_ ci] w fun e w'=> ∃zz:Option Addr×Nat,e= .returned (vS zz.1 (dc kc ci) zz.2)∧True∧Turn [] [sI zz.1 (dc kc ci) zz.2] w w':=by
 refine(I2 bt mc kc ci (dep kc ci) (fun j hj=>Gx hL _ ci (Nat.le_refl _) j hj) (F5 hL _ ci (Nat.le_refl _)) (by have:=hL.dep ci;omega) w r0 r1 hs).mono ?_
 rintro e w' ⟨⟨al,cl⟩,h1,-,h3⟩
 exact⟨(al,cl),h1,trivial,h3⟩
variable{kc:List (Int×Cl)}
theorem zR(hL:eA kc)(i:Int):(dc kc i).length≤17:=by unfold dc;rw[zY];have:=hL.dep i;omega
def lJ(on:List (Int×Int))(ka:List (Int×MB))(kk:List (Int×Vt))(m:En):Int:=if m.ec.hl=true∨fc on ka m.ec.hi=false then m.li.uq11 else eC m.li.uq11 (iW (((cw kk m.ec.hi).map fun v:Vt=>v.t.toL).getD []))
def j7(kc:List (Int×Cl))(n:Nat)(kk:List (Int×Vt)):Prop:= ∀p,(p=0∨ ∃c,cw kc p=some c∧c.hl=false)→ ∃v,cw kk p=some v∧eQ v.t v.kv∧v.kv.length≤n
def fG(kc:List (Int×Cl))(kb:List (Int×En)):Prop:= ∀i,(cw kb i).map (·.ec)=cw kc i∧ ∀m,cw kb i=some m→jy m
theorem sR(h:fG kc kb)(hc:cw kc i=some c): ∃m,cw kb i=some m∧m.ec=c∧jy m:=by
 have h1:=(h i).1
 cases e:cw kb i with
 |none=>rw[e,hc] at h1;cases h1
 |some m=>rw[e,hc] at h1;exact⟨m,rfl,by simpa using h1,(h i).2 m e⟩
theorem mK(h:fG kc kb)(hm:cw kb i=some m):cw kc i=some m.ec:=by have h1:=(h i).1;rw[hm] at h1;exact h1.symm
theorem Ba(hL:eA kc)(h:fG kc kb)(hm:cw kb i=some m):m.ec.hi=i:=(hL.key i _ (mK h hm)).1
variable{n:Nat}
theorem wm(hL:eA kc)(h:fG kc kb)(hk:j7 kc n kk)(hm:cw kb i=some m): ∃v,cw kk m.ec.hp=some v∧eQ v.t v.kv∧v.kv.length≤n:=by
 refine hk _ ?_
 rcases hL.par i _ (mK h hm) with h1|⟨p,h1,h2⟩
 ·exact .inl h1
 ·exact .inr ⟨p,h1,h2⟩
def s7(on:List (Int×Int))(ka:List (Int×MB))(kk:List (Int×Vt))(m:En)(i:Int)(v:Vt)(t:T):Vt:={v with t:=t,kv:=dD v.kv i ⟨m.sh.sq11,i,lJ on ka kk m,i⟩}
def jv(on:List (Int×Int))(ka:List (Int×MB))(kb:List (Int×En)):List Int→List (Int×Vt)→List (Int×Vt)→Prop
 |[],kk,kk'=>kk'=kk
 |i::l,kk,kk'=>(fc on ka i=false∧jv on ka kb l kk kk')∨(fc on ka i=true∧ ∃m v t,cw kb i=some m∧cw kk m.ec.hp=some v∧eQ t (s7 on ka kk m i v t).kv∧jv on ka kb l (dD kk m.ec.hp (s7 on ka kk m i v t)) kk')
theorem PI(h:j7 kc n kk){p:Int}(he:eQ v.t v.kv)(hl:v.kv.length≤n+1):j7 kc (n+1) (dD kk p v):=fun q hq=>by
 rw[gA];by_cases e:p=q
 ·rw[if_pos e];exact⟨v,rfl,he,hl⟩
 ·rw[if_neg e];obtain⟨v,h1,h2,h3⟩:=h q hq;exact⟨v,h1,h2,by omega⟩
theorem yq(k:Int)(v:β): ∀kv:List (Int×β),(dD kv k v).length≤kv.length+1
 |[]=>by simp[dD]
 |p::kv=>by unfold dD;split<;>simp;exact yq k v kv
theorem Rq(sb:Nat)(lt lm:Int)(bt mc:Nat)(kc:List (Int×Cl))(my:Nat)(kb:List (Int×En))(a:Ac)(on:List (Int×Int))(ka:List (Int×MB))(eb:Nat)(mk:Nat)(kk:List (Int×Vt))(ck ac:Int)(i:Int)(m:En)(hm:cw kb i=some m)(hL:eA kc)(hB:fG kc kb)(hK:j7 kc n kk)(w:World)(r0:(cz sb [i_ lt,i_ lm,p_ bt,.map (some my),p_ a.bs,p_ eb,.map (some mk),u_ ck,u_ ac] 141).holds w)(r1:(cz bt [.map (some mc)] 185).holds w)(r2:(di mc kc).holds w)(r3:(eN my kb).holds w)(r4:(eS a on ka).holds w)(r5:(eP mk kk).holds w):
  CW 208 #[p_ sb,p_ m.eb] w (u_ (lJ on ka kk m)):=by
 refine A.C Tryz.func208 rfl (HS.nil w) (A.c (A.g [.p] [] [] (A.d (A.d (A.ka [.p,.p,.p,.p,.rd [b_ m.ec.hl],.p,.o,.p,.p,.p,.rd [p_ a.bs],.p,.p,.p,.p,.rd [i_ m.ec.hi],.cq (b_ (fc on ka m.ec.hi)),.p,.cl] [0,1,2,3,4,5,6,7,8,9,10,11,12,13,14,15,16,17] [] [(22,b_ (m.ec.hl||(!(fc on ka m.ec.hi))))] [] (oc (ro ⟨m.eb,3,none⟩ (vs:=[b_ m.ec.hl]) (ft (fun ww ss=>(gP (da ss r3) hm:)) rfl)) (oc (go (true&&(m.ec.hl==false)) fun h_=>(ro ⟨sb,4,none⟩ (vs:=[p_ a.bs]) (dj r0 rfl))) (oc (go (true&&(m.ec.hl==false)) fun h_=>(ro ⟨m.eb,1,none⟩ (vs:=[i_ m.ec.hi]) (ft (fun ww ss=>(gP (da ss r3) hm:)) rfl))) (o1 (go (true&&(m.ec.hl==false)) fun h_=>(qo (fun ww ss=>Ij a on ka m.ec.hi ww (da ss r4)))))))) (A.v rfl (fun e1=> ?_) (fun e1=> ?_)))))))
 ·have p1:=e1
  refine A.c (A.k [.p,.p,.p,.p,.rd [u_ m.li.uq11],.p] [0,1,22] [(4,u_ m.li.uq11)] [] (o1 (ro ⟨m.eb,59,none⟩ (vs:=[u_ m.li.uq11]) (ft (fun ww ss=>(gP (da ss r3) hm:)) rfl))) (A.e (A.N [u_ m.li.uq11] ?_)))
  show((u_ m.li.uq11):Value)=(u_ (lJ on ka kk m))
  unfold lJ;simp_all
 refine A.p (A.d ?_)
 obtain⟨m1,hk1,hE1,hl1⟩:=hK _ (.inr ⟨_,(Ba hL hB hm).symm▸mK hB hm,by simp_all⟩)
 refine A.W [16] 18 (A.kd 4 [.p,.p,.p,.p,.rd [u_ m.li.uq11],.p,.p,.p,.rd [.map (some mk)],.p,.p,.p,.p,.rd [i_ m.ec.hi]] [0,1,2,3,4,5,6,7,8,9,10,11,12,13] [0,1,22] [(32,u_ m.li.uq11),(36,.map (some mk)),(41,i_ m.ec.hi)] [] (oc (ro ⟨m.eb,59,none⟩ (vs:=[u_ m.li.uq11]) (ft (fun ww ss=>(gP (da ss r3) hm:)) rfl)) (oc (ro ⟨sb,6,none⟩ (vs:=[.map (some mk)]) (dj r0 rfl)) (o1 (ro ⟨m.eb,1,none⟩ (vs:=[i_ m.ec.hi]) (ft (fun ww ss=>(gP (da ss r3) hm:)) rfl))))) (A.aT 14 (some 42) (p_ m1.be) rfl (by kernel_rfl) (by kernel_rfl) (jc (kt:=3) (et:=136) (k:=m.ec.hi) (fun ww ss=>oK (da ss r5)) hk1 rfl rfl rfl (by kernel_rfl) (ee (by kernel_rfl)) rfl) (A.pO 2 [.cq (u_ (iW m1.t.toL))] [15] [(32,u_ m.li.uq11),(43,u_ (iW m1.t.toL))] [] (o1 (qo (fun ww ss=>IS mk kk m.ec.hi m1 hk1 ‹_› ww (da ss r5)))) (A.F 16 rfl (A.iX (some 44) [u_ m.li.uq11,u_ (iW m1.t.toL)] Tryz.func251 rfl (A.c (A.g [.p] [] [] (A.c (A.g [.p,.p,.p,.p] [0,1] [(4,u_ (eC m.li.uq11 (iW m1.t.toL)))] (A.e (A.pb [u_ (eC m.li.uq11 (iW m1.t.toL))] (A.E (A.pT 0 [.p] [17] [(4,u_ (eC m.li.uq11 (iW m1.t.toL)))] [] (A.M (A.e (A.N [u_ (eC m.li.uq11 (iW m1.t.toL))] ?_))))))))))))))))
 show((u_ (eC m.li.uq11 (iW m1.t.toL))):Value)=(u_ (lJ on ka kk m))
 unfold lJ;simp_all
end Go.Proofs.YtobgjpigngoggaaGreat
