/- The functions of the scheduler, layer by layer, proved operation by operation for all arguments, under the conditions that each theorem states: part 4. -/
import Derived.Sort.LotA
import Derived.Sort.LotB
import Derived.Sort.LotC
import Derived.Sort.LotD1
import Derived.Sort.LotD3
import Derived.Sort.LotD4
import Derived.Test.YtobgjpigngoggaaGreatProg
import Derived.Shelf.SortM.Plain
import Derived.Ground.SlgmProg
import Derived.Shelf.SlicesE.Compact
import Derived.Ground.SlgnProg
import Derived.Shelf.Slices.CompactI
import Derived.Test.YtobgjpigngoggaaGreatJ3
set_option linter.unusedVariables false
set_option linter.unusedSimpArgs false
set_option maxHeartbeats 4000000
set_option maxRecDepth 100000
namespace Go.Proofs.YtobgjpigngoggaaGreat
open Go V Go.Sort
variable{d:Array Int}{i:Nat}
theorem fB(h:i<d.size):d.toList[i]? =some d[i]! :=by
 rw[Array.getElem?_toList,getElem!_pos d i h];exact Array.getElem?_eq_getElem h
theorem lL(d:Array Int)(i j:Nat):(d.toList.set i d[j]!).set j d[i]! =(swp d i j).toList:=by unfold swp;simp[Array.toList_setIfInBounds]
variable{p:Int→Bool}{j:Nat}
theorem DT(h:(decide ((i:Int)≤(j:Int))&&p d[i]!)=true):scanUp p d j i=scanUp p d j (i+1):=by
 rw[Bool.and_eq_true,decide_eq_true_eq] at h
 rw[scanUp,if_pos (by rw[h.2];simp;omega)]
theorem DU(h:(decide ((i:Int)≤(j:Int))&&p d[i]!)=false):scanUp p d j i=i:=by
 rw[scanUp,if_neg];intro g
 rw[Bool.and_eq_true,decide_eq_true_eq] at g
 rw[g.2] at h;simp at h;omega
theorem DV(hj:1≤j)(h:(decide ((i:Int)≤(j:Int))&&p d[j]!)=true):scanDown p d i j=scanDown p d i (j-1):=by
 obtain⟨k,rfl⟩: ∃k,j=k+1:=⟨j-1,by omega⟩
 rw[Bool.and_eq_true,decide_eq_true_eq] at h
 rw[scanDown,if_pos (by rw[h.2];simp;omega)];rfl
theorem DW(h:(decide ((i:Int)≤(j:Int))&&p d[j]!)=false):scanDown p d i j=j:=by
 cases j with
 |zero=>rfl
 |succ k=>
  rw[scanDown,if_neg];intro g
  rw[Bool.and_eq_true,decide_eq_true_eq] at g
  rw[g.2] at h;simp at h;omega
variable{a i2 j2:Nat}
theorem P0(hI:scanUp (fun x=>ltInt x d[a]!) d j i=i2)(hJ:scanDown (fun x=> !ltInt x d[a]!) d i2 j=j2)(h:i2>j2):partLoop ltInt a i j d=(j2,d):=by
 rw[partLoop_eq,hI,hJ,if_pos h]
theorem P1(hI:scanUp (fun x=>ltInt x d[a]!) d j i=i2)(hJ:scanDown (fun x=> !ltInt x d[a]!) d i2 j=j2)(h: ¬i2>j2):partLoop ltInt a i j d=partLoop ltInt a (i2+1) (j2-1) (swp d i2 j2):=by
 rw[partLoop_eq,hI,hJ,if_neg h]
theorem P2(hI:scanUp (fun x=> !ltInt d[a]! x) d j i=i2)(hJ:scanDown (fun x=>ltInt d[a]! x) d i2 j=j2)(h:i2>j2):partEqLoop ltInt a i j d=(i2,d):=by
 rw[partEqLoop_eq,hI,hJ,if_pos h]
theorem P3(hI:scanUp (fun x=> !ltInt d[a]! x) d j i=i2)(hJ:scanDown (fun x=>ltInt d[a]! x) d i2 j=j2)(h: ¬i2>j2):partEqLoop ltInt a i j d=partEqLoop ltInt a (i2+1) (j2-1) (swp d i2 j2):=by
 rw[partEqLoop_eq,hI,hJ,if_neg h]
variable{d1:Array Int}{b:Nat}
theorem Si{p:Nat}(h1:d1=swp d a p)(hI:scanUp (fun x=>ltInt x d1[a]!) d1 (b-1) (a+1)=i)(hJ:scanDown (fun x=> !ltInt x d1[a]!) d1 i (b-1)=j)(h:i>j):partition ltInt d a b p=(j,true,swp d1 j a):=by
 unfold partition;simp only[←h1,hI,hJ,if_pos h]
theorem Sj{p:Nat}{r:Nat×Array Int}(h1:d1=swp d a p)(hI:scanUp (fun x=>ltInt x d1[a]!) d1 (b-1) (a+1)=i)(hJ:scanDown (fun x=> !ltInt x d1[a]!) d1 i (b-1)=j)(h: ¬i>j)(hr:partLoop ltInt a (i+1) (j-1) (swp d1 i j)=r):partition ltInt d a b p=(r.1,false,swp r.2 r.1 a):=by
 unfold partition;simp only[←h1,hI,hJ,if_neg h,hr]
theorem Uk(h:(decide ((i:Int)<(b:Int))&& !decide (d[i]! <d[i-1]!))=true):scanSorted ltInt d b i=scanSorted ltInt d b (i+1):=by
 rw[Bool.and_eq_true,decide_eq_true_eq] at h
 rw[scanSorted,if_pos];unfold ltInt;rw[h.2];simp;omega
theorem Ul(h:(decide ((i:Int)<(b:Int))&& !decide (d[i]! <d[i-1]!))=false):scanSorted ltInt d b i=i:=by
 rw[scanSorted,if_neg];intro g
 rw[Bool.and_eq_true,decide_eq_true_eq] at g
 unfold ltInt at g;rw[g.2] at h;simp at h;omega
theorem U1(hj:1≤j)(h:d[j]! <d[j-1]!):shiftDown ltInt j d=shiftDown ltInt (j-1) (swp d j<|j-1):=by
 obtain⟨k,rfl⟩: ∃k,j=k+1:=⟨j-1,by omega⟩
 rw[Nat.add_sub_cancel] at h⊢
 rw[shiftDown,if_neg];simp[ltInt,h]
theorem U4(hj:1≤j)(h: ¬d[j]! <d[j-1]!):shiftDown ltInt j d=d:=by
 obtain⟨k,rfl⟩: ∃k,j=k+1:=⟨j-1,by omega⟩
 rw[Nat.add_sub_cancel] at h
 rw[shiftDown,if_pos];simp[ltInt];omega
theorem DC(hj:j<b)(h:d[j]! <d[j-1]!):shiftUp ltInt b j d=shiftUp ltInt b (j+1) (swp d j<|j-1):=by
 rw[shiftUp,if_pos hj,if_neg];simp[ltInt,h]
theorem DD(hj:j<b)(h: ¬d[j]! <d[j-1]!):shiftUp ltInt b j d=d:=by
 rw[shiftUp,if_pos hj,if_pos];simp[ltInt];omega
theorem DF(hj: ¬j<b):shiftUp ltInt b j d=d:=by rw[shiftUp,if_neg hj]
variable{s:Nat}
theorem pD{d2 d3:Array Int}(hI:scanSorted ltInt d b i=i2)(h: ¬i2=b)(h5: ¬b-a<50)(h2:d2=fixDown ltInt a i2 (swp d i2<|i2-1))(h3:d3=fixUp ltInt b i2 d2):partialIns ltInt a b (s+1) i d=partialIns ltInt a b s i2 d3:=by
 rw[partialIns_succ,hI,if_neg h,if_neg h5,←h2,←h3]
theorem Um(hI:scanSorted ltInt d b i=i2)(h:i2=b):partialIns ltInt a b (s+1) i d=(d,true):=by rw[partialIns_succ,hI,if_pos h]
theorem Un(hI:scanSorted ltInt d b i=i2)(h: ¬i2=b)(h5:b-a<50):partialIns ltInt a b (s+1) i d=(d,false):=by rw[partialIns_succ,hI,if_neg h,if_pos h5]
theorem nA{k:Nat}(h:k<5):partialIns ltInt a b (5-k) i d=partialIns ltInt a b ((5-(k+1))+1) i d:=by rw[show 5-(k+1)+1=5-k by omega]
theorem Jb{J:Nat}{v:Int}(hJ:j≤J)(h1:(decide ((i:Int)≤(J:Int))&&decide (d[i]! <v))=false)(h2:(decide ((i:Int)≤(j:Int))&& !decide (d[j]! <v))=false):i≤j→i<j:=by
 intro g
 have e:decide ((i:Int)≤(j:Int))=true:=by simp;omega
 have e2:decide ((i:Int)≤(J:Int))=true:=by simp;omega
 rw[e2] at h1;rw[e] at h2;simp at h1 h2
 rcases Nat.lt_or_eq_of_le g with q|q
 ·exact q
 ·subst q;omega
theorem ne_eq{J:Nat}{v:Int}(hJ:j≤J)(h1:(decide ((i:Int)≤(J:Int))&& !decide (v<d[i]!))=false)(h2:(decide ((i:Int)≤(j:Int))&&decide (v<d[j]!))=false):i≤j→i<j:=by
 intro g
 have e:decide ((i:Int)≤(j:Int))=true:=by simp;omega
 have e2:decide ((i:Int)≤(J:Int))=true:=by simp;omega
 rw[e2] at h1;rw[e] at h2;simp at h1 h2
 rcases Nat.lt_or_eq_of_le g with q|q
 ·exact q
 ·subst q;omega
abbrev u5(p0)(p1:Array Int)(p2)(p3)(p4):=((vS p0 ((p1.toList.set p2<|p1[p3]!).set p3 (p1[p2]!)) p4):Value)
theorem Lt(al:Option Addr)(d:Array Int)(cl:Nat)(a b p:Nat)(hb:a≤p∧p<b∧b≤d.size)(hS:d.size≤100000):
  CS 279 #[vS al d.toList cl,c_ a,c_ b,c_ p] [sU al d.toList cl] (fun((m',q',d'):Nat×Bool×(Array Int))=>(.tuple #[c_ m',b_ q'])) (fun(m',q',d')=>partition ltInt d a b p=(m',q',d')∧d'.size=d.size) fun(m',q',d')=>[sU al d'.toList cl]:=by
 intro w hs
 refine A.C Tryz.func279 rfl hs (A.c<|A.g [.p,.p] [] [(8,i_ 0),(9,b_ false)]<|A.d<|A.O [13,15] 16<|A.kd 3 [.p,.p,.p,.p,.p,.p,.ix,.rd [u_<|d[p]!],.p,.p,.ix,.rd [u_<|d[a]!],.ix] (rg 0 13) [] [(14,vS al d.toList cl),(15,c_ p),(19,u_<|d[p]!),(23,u_<|d[a]!),(24,.pointer<|some<|(dR al).add (a*1))] [] (oc (dW 0 p dI rfl (by(simp;omega)))<|oc (eJ 0 p [u_<|d[p]!] dI rfl (fB<|by omega))<|oc (dW 0 a dI rfl (by(simp;omega)))<|oc (eJ 0 a [u_<|d[a]!] dI rfl (fB<|by omega))<|o1<|dW 0 a dI rfl (by(simp;omega)))<|A.F 13 rfl (A.sS 0 a (d[p]!) rfl dI (by(simp;omega)) (A.D 0 (vS al (d.toList.set a<|d[p]!) cl) (dh<|by simp)<|A.D 14 (vS al (d.toList.set a<|d[p]!) cl) (dh<|by simp)<|A.E<|A.kd 1 [.ix] [14] [14,15,19,24] [(25,.pointer<|some<|(dR al).add (p*1))] [] (o1<|dW 0 p dI rfl (by(simp;omega)))<|A.F 15 rfl (A.sS 0 p (d[a]!) rfl dI (by(simp;omega)) (A.D 0 (u5 al d a p cl) (dh<|by simp)<|A.E<|A.M ?_)))))
 obtain⟨d101,hdd101⟩: ∃z,z=swp d a p:=⟨_,rfl⟩;have hszd101:d101.size=d.size:=(by rw[hdd101];exact jH _ _ _)
 have hcv2:((d.toList.set a<|d[p]!).set p (d[a]!))=d101.toList:=by rw[hdd101];exact lL _ _ _
 refine A.su 0 (sU al d101.toList cl) rfl (eI hcv2) (A.D 0 (vS al d101.toList cl) (fN hcv2)<|A.c<|A.k [.p,.w ((a+1:Nat):Int),.p,.w ((b-1:Nat):Int),.p,.p] [23,25] [(10,c_ (a+1:Nat)),(11,c_ (b-1:Nat))] [] (oc (wi ((a:Int)+1) ((a+1:Nat):Int)<|by omega)<|o1<|wi ((b:Int)-1) ((b-1:Nat):Int)<|by omega)<|A.d<|A.y<|A.lp (σ:=Nat) [2,3] (fun i1=>[(10,c_ i1)]) [] (fun i1=>[]) (fun i1=>(scanUp (fun x=>ltInt x d101[a]!) d101 (b-1) i1=scanUp (fun x=>ltInt x d101[a]!) d101 (b-1) (a+1))∧((a+1)≤i1∧i1≤(b-1)+1)) (fun i1=>(b-1)+1-i1) ((a+1:Nat):Nat) ⟨(by rfl),(by omega)⟩ ?_ ?_)
 ·exact A.J [0]
 rintro i1 ⟨hu1,hi1⟩
 refine A.d<|A.d<|A.ka [.p,.p,.p,.p,.o,.p,.p,.ix,.rd [u_<|d101[i1]!],.p,.p,.ix,.rd [u_<|d101[a]!],.cq<|b_<|decide ((d101[i1]!)<(d101[a]!)),.cl] (rg 0 14) [] [(43,b_<|(decide ((i1:Int)≤((b-1:Nat):Int)))&&(decide ((d101[i1]!)<(d101[a]!))))] [] (oc (go (true&&((decide ((i1:Int)≤((b-1:Nat):Int)))==true)) fun h_=>(dW 0 i1 dI rfl (by(simp at h_⊢;omega))))<|oc (go (true&&((decide ((i1:Int)≤((b-1:Nat):Int)))==true)) fun h_=>(eJ 0 i1 [u_<|d101[i1]!] dI rfl (fB<|by(simp at h_;omega))))<|oc (go (true&&((decide ((i1:Int)≤((b-1:Nat):Int)))==true)) fun h_=>(dW 0 a dI rfl (by(simp;omega))))<|oc (go (true&&((decide ((i1:Int)≤((b-1:Nat):Int)))==true)) fun h_=>(eJ 0 a [u_<|d101[a]!] dI rfl (fB<|by omega)))<|o1<|go (true&&((decide ((i1:Int)≤((b-1:Nat):Int)))==true)) fun h_=>(qo<|fun w s=>js (d101[i1]!) (d101[a]!) w))<|A.v rfl (fun e1=>?_) (fun e1=>?_)
 ·have p1:=e1;try simp only[dc] at p1
  refine A.p<|A.y<|A.s<|A.k [.p,.w ((i1+1:Nat):Int),.p] [] [(10,c_ (i1+1:Nat))] [] (o1<|wi ((i1:Int)+1) ((i1+1:Nat):Int)<|by omega) ?_
  have hst_:scanUp (fun x=>ltInt x d101[a]!) d101 (b-1) i1=_:=DT (p:=(fun x=>ltInt x d101[a]!)) e1
  refine A.Z ((i1+1:Nat)) ⟨(hst_.symm.trans hu1),(by omega)⟩ (by omega) ?_
  exact A.J [0]
 refine A.aA<|A.d<|A.y<|A.lp (σ:=Nat) [43] (fun j1=>[(11,c_ j1)]) [] (fun j1=>[]) (fun j1=>(scanDown (fun x=> !ltInt x d101[a]!) d101 i1 j1=scanDown (fun x=> !ltInt x d101[a]!) d101 i1 (b-1))∧(i1≤j1+1∧j1≤(b-1))) (fun j1=>j1) ((b-1:Nat):Nat) ⟨(by rfl),(by omega)⟩ ?_ ?_
 ·exact A.J [0]
 rintro j1 ⟨hv1,hj1⟩
 refine A.d<|A.d<|A.ka [.p,.p,.p,.p,.o,.p,.p,.ix,.rd [u_<|d101[j1]!],.p,.p,.ix,.rd [u_<|d101[a]!],.cq<|b_<|decide ((d101[j1]!)<(d101[a]!)),.p,.cl] (rg 0 15) [] [(60,b_<|(decide ((i1:Int)≤(j1:Int)))&&(!(decide ((d101[j1]!)<(d101[a]!)))))] [] (oc (go (true&&((decide ((i1:Int)≤(j1:Int)))==true)) fun h_=>(dW 0 j1 dI rfl (by(simp;omega))))<|oc (go (true&&((decide ((i1:Int)≤(j1:Int)))==true)) fun h_=>(eJ 0 j1 [u_<|d101[j1]!] dI rfl (fB<|by omega)))<|oc (go (true&&((decide ((i1:Int)≤(j1:Int)))==true)) fun h_=>(dW 0 a dI rfl (by(simp;omega))))<|oc (go (true&&((decide ((i1:Int)≤(j1:Int)))==true)) fun h_=>(eJ 0 a [u_<|d101[a]!] dI rfl (fB<|by omega)))<|o1<|go (true&&((decide ((i1:Int)≤(j1:Int)))==true)) fun h_=>(qo<|fun w s=>js (d101[j1]!) (d101[a]!) w))<|A.v rfl (fun e2=>?_) (fun e2=>?_)
 ·have p2:=e2;try simp only[dc] at p2
  refine A.p<|A.y<|A.s<|A.k [.p,.w ((j1-1:Nat):Int),.p] [] [(11,c_ (j1-1:Nat))] [] (o1<|wi ((j1:Int)-1) ((j1-1:Nat):Int)<|by omega) ?_
  have hst_:scanDown (fun x=> !ltInt x d101[a]!) d101 i1 j1=_:=DV (p:=(fun x=> !ltInt x d101[a]!)) (by omega) e2
  refine A.Z ((j1-1:Nat)) ⟨(hst_.symm.trans hv1),(by omega)⟩ (by omega) ?_
  exact A.J [0]
 refine A.aA<|A.d<|A.d ?_
 have hI1:scanUp (fun x=>ltInt x d101[a]!) d101 (b-1) (a+1)=i1:=(by rw[←hu1];exact DU (p:=(fun x=>ltInt x d101[a]!)) e1)
 have hne1:=Jb (by omega) e1 e2
 have hJ1:scanDown (fun x=> !ltInt x d101[a]!) d101 i1 (b-1)=j1:=(by rw[←hv1];exact DW (p:=(fun x=> !ltInt x d101[a]!)) e2)
 refine A.s<|A.g (ps 3) [] [(65,b_<|decide ((i1:Int)>(j1:Int)))]<|A.v rfl (fun e3=>?_) (fun e3=>?_)
 ·have p3:=of_decide_eq_true e3
  refine A.d<|A.O [13,15] 16<|A.kd 3 [.p,.p,.p,.p,.p,.p,.ix,.rd [u_<|d101[a]!],.p,.p,.ix,.rd [u_<|d101[j1]!],.ix] (rg 0 13) [] [(68,vS al d101.toList cl),(69,c_ a),(73,u_<|d101[a]!),(77,u_<|d101[j1]!),(78,.pointer<|some<|(dR al).add (j1*1))] [] (oc (dW 0 a dI rfl (by(simp;omega)))<|oc (eJ 0 a [u_<|d101[a]!] dI rfl (fB<|by omega))<|oc (dW 0 j1 dI rfl (by(simp;omega)))<|oc (eJ 0 j1 [u_<|d101[j1]!] dI rfl (fB<|by omega))<|o1<|dW 0 j1 dI rfl (by(simp;omega)))<|A.F 13 rfl (A.sS 0 j1 (d101[a]!) rfl dI (by(simp;omega)) (A.D 0 (vS al (d101.toList.set j1<|d101[a]!) cl) (dh<|by simp)<|A.D 68 (vS al (d101.toList.set j1<|d101[a]!) cl) (dh<|by simp)<|A.E<|A.kd 1 [.ix] [14] [68,69,73,78] [(79,.pointer<|some<|(dR al).add (a*1))] [] (o1<|dW 0 a dI rfl (by(simp;omega)))<|A.F 15 rfl (A.sS 0 a (d101[j1]!) rfl dI (by(simp;omega)) (A.D 0 (u5 al d101 j1 a cl) (dh<|by simp)<|A.E<|A.M ?_))))
  obtain⟨d103,hdd103⟩: ∃z,z=swp d101 j1 a:=⟨_,rfl⟩;have hszd103:d103.size=d101.size:=(by rw[hdd103];exact jH _ _ _)
  have hcv4:((d101.toList.set j1<|d101[a]!).set a (d101[j1]!))=d103.toList:=by rw[hdd103];exact lL _ _ _
  refine A.su 0 (sU al d103.toList cl) rfl (eI hcv4) (A.D 0 (vS al d103.toList cl) (fN hcv4)<|A.c<|A.g (ps 3) [77,79] [(8,c_ j1),(9,b_ true)]<|A.e<|?_)
  have hP:=Si (b:=b) hdd101 hI1 hJ1<|by omega
  refine A.Y [0] [c_ j1,b_ true] (j1,true,d103) ?_ ?_
  ·rfl
  exact⟨by rw[hP];simp only[*],by omega⟩
 have p3:=of_decide_eq_false e3
 refine A.p<|A.d<|A.O [13,15] 16<|A.kd 3 [.p,.p,.p,.p,.p,.p,.ix,.rd [u_<|d101[j1]!],.p,.p,.ix,.rd [u_<|d101[i1]!],.ix] (rg 0 13) [] [(83,vS al d101.toList cl),(84,c_ j1),(88,u_<|d101[j1]!),(92,u_<|d101[i1]!),(93,.pointer<|some<|(dR al).add (i1*1))] [] (oc (dW 0 j1 dI rfl (by(simp;omega)))<|oc (eJ 0 j1 [u_<|d101[j1]!] dI rfl (fB<|by omega))<|oc (dW 0 i1 dI rfl (by(simp;omega)))<|oc (eJ 0 i1 [u_<|d101[i1]!] dI rfl (fB<|by omega))<|o1<|dW 0 i1 dI rfl (by(simp;omega)))<|A.F 13 rfl (A.sS 0 i1 (d101[j1]!) rfl dI (by(simp;omega)) (A.D 0 (vS al (d101.toList.set i1<|d101[j1]!) cl) (dh<|by simp)<|A.D 83 (vS al (d101.toList.set i1<|d101[j1]!) cl) (dh<|by simp)<|A.E<|A.kd 1 [.ix] [14] [83,84,88,93] [(94,.pointer<|some<|(dR al).add (j1*1))] [] (o1<|dW 0 j1 dI rfl (by(simp;omega)))<|A.F 15 rfl (A.sS 0 j1 (d101[i1]!) rfl dI (by(simp;omega)) (A.D 0 (u5 al d101 i1 j1 cl) (dh<|by simp)<|A.E<|A.M ?_))))
 obtain⟨d105,hdd105⟩: ∃z,z=swp d101 i1 j1:=⟨_,rfl⟩;have hszd105:d105.size=d101.size:=(by rw[hdd105];exact jH _ _ _)
 have hcv6:((d101.toList.set i1<|d101[j1]!).set j1 (d101[i1]!))=d105.toList:=by rw[hdd105];exact lL _ _ _
 refine A.su 0 (sU al d105.toList cl) rfl (eI hcv6) (A.D 0 (vS al d105.toList cl) (fN hcv6)<|A.c<|A.k [.p,.w ((i1+1:Nat):Int),.p] [92,94] [(10,c_ (i1+1:Nat))] [] (o1<|wi ((i1:Int)+1) ((i1+1:Nat):Int)<|by omega)<|A.c<|A.k [.p,.w ((j1-1:Nat):Int),.p] [] [(11,c_ (j1-1:Nat))] [] (o1<|wi ((j1:Int)-1) ((j1-1:Nat):Int)<|by omega)<|A.d<|A.y<|A.lp (σ:=Nat×Nat×(Array Int)) [60,65] (fun(i2,j2,d3)=>[(10,c_ i2),(11,c_ j2),(0,vS al d3.toList cl)]) [0] (fun(i2,j2,d3)=>[sU al d3.toList cl]) (fun(i2,j2,d3)=>(partLoop ltInt a i2 j2 d3=partLoop ltInt a (i1+1) (j1-1) d105)∧(d3.size=d.size)∧(a+1≤i2∧i2≤j2+1∧j2<b)) (fun(i2,j2,d3)=>j2+1-i2) ((i1+1:Nat),(j1-1:Nat),d105) ⟨(by rfl),(by omega),(by omega)⟩ ?_ ?_)
 ·exact A.J [0]
 rintro⟨i2,j2,d3⟩ ⟨he,hz,hi⟩
 refine A.y<|A.d<|A.y<|A.lp (σ:=Nat) [] (fun i3=>[(10,c_ i3)]) [] (fun i3=>[]) (fun i3=>(scanUp (fun x=>ltInt x d3[a]!) d3 j2 i3=scanUp (fun x=>ltInt x d3[a]!) d3 j2 i2)∧(i2≤i3∧i3≤j2+1)) (fun i3=>j2+1-i3) (i2:Nat) ⟨(by rfl),(by omega)⟩ ?_ ?_
 ·exact A.J [0]
 rintro i3 ⟨hu3,hi3⟩
 refine A.d<|A.d<|A.ka [.p,.p,.p,.p,.o,.p,.p,.ix,.rd [u_<|d3[i3]!],.p,.p,.ix,.rd [u_<|d3[a]!],.cq<|b_<|decide ((d3[i3]!)<(d3[a]!)),.cl] (rg 0 14) [] [(112,b_<|(decide ((i3:Int)≤(j2:Int)))&&(decide ((d3[i3]!)<(d3[a]!))))] [] (oc (go (true&&((decide ((i3:Int)≤(j2:Int)))==true)) fun h_=>(dW 0 i3 dI rfl (by(simp at h_⊢;omega))))<|oc (go (true&&((decide ((i3:Int)≤(j2:Int)))==true)) fun h_=>(eJ 0 i3 [u_<|d3[i3]!] dI rfl (fB<|by(simp at h_;omega))))<|oc (go (true&&((decide ((i3:Int)≤(j2:Int)))==true)) fun h_=>(dW 0 a dI rfl (by(simp;omega))))<|oc (go (true&&((decide ((i3:Int)≤(j2:Int)))==true)) fun h_=>(eJ 0 a [u_<|d3[a]!] dI rfl (fB<|by omega)))<|o1<|go (true&&((decide ((i3:Int)≤(j2:Int)))==true)) fun h_=>(qo<|fun w s=>js (d3[i3]!) (d3[a]!) w))<|A.v rfl (fun e4=>?_) (fun e4=>?_)
 ·have p4:=e4;try simp only[dc] at p4
  refine A.p<|A.y<|A.s<|A.k [.p,.w ((i3+1:Nat):Int),.p] [] [(10,c_ (i3+1:Nat))] [] (o1<|wi ((i3:Int)+1) ((i3+1:Nat):Int)<|by omega) ?_
  have hst_:scanUp (fun x=>ltInt x d3[a]!) d3 j2 i3=_:=DT (p:=(fun x=>ltInt x d3[a]!)) e4
  refine A.Z ((i3+1:Nat)) ⟨(hst_.symm.trans hu3),(by omega)⟩ (by omega) ?_
  exact A.J [0]
 refine A.aA<|A.d<|A.y<|A.lp (σ:=Nat) [112] (fun j3=>[(11,c_ j3)]) [] (fun j3=>[]) (fun j3=>(scanDown (fun x=> !ltInt x d3[a]!) d3 i3 j3=scanDown (fun x=> !ltInt x d3[a]!) d3 i3 j2)∧(i3≤j3+1∧j3≤j2)) (fun j3=>j3) (j2:Nat) ⟨(by rfl),(by omega)⟩ ?_ ?_
 ·exact A.J [0]
 rintro j3 ⟨hv3,hj3⟩
 refine A.d<|A.d<|A.ka [.p,.p,.p,.p,.o,.p,.p,.ix,.rd [u_<|d3[j3]!],.p,.p,.ix,.rd [u_<|d3[a]!],.cq<|b_<|decide ((d3[j3]!)<(d3[a]!)),.p,.cl] (rg 0 15) [] [(129,b_<|(decide ((i3:Int)≤(j3:Int)))&&(!(decide ((d3[j3]!)<(d3[a]!)))))] [] (oc (go (true&&((decide ((i3:Int)≤(j3:Int)))==true)) fun h_=>(dW 0 j3 dI rfl (by(simp;omega))))<|oc (go (true&&((decide ((i3:Int)≤(j3:Int)))==true)) fun h_=>(eJ 0 j3 [u_<|d3[j3]!] dI rfl (fB<|by omega)))<|oc (go (true&&((decide ((i3:Int)≤(j3:Int)))==true)) fun h_=>(dW 0 a dI rfl (by(simp;omega))))<|oc (go (true&&((decide ((i3:Int)≤(j3:Int)))==true)) fun h_=>(eJ 0 a [u_<|d3[a]!] dI rfl (fB<|by omega)))<|o1<|go (true&&((decide ((i3:Int)≤(j3:Int)))==true)) fun h_=>(qo<|fun w s=>js (d3[j3]!) (d3[a]!) w))<|A.v rfl (fun e5=>?_) (fun e5=>?_)
 ·have p5:=e5;try simp only[dc] at p5
  refine A.p<|A.y<|A.s<|A.k [.p,.w ((j3-1:Nat):Int),.p] [] [(11,c_ (j3-1:Nat))] [] (o1<|wi ((j3:Int)-1) ((j3-1:Nat):Int)<|by omega) ?_
  have hst_:scanDown (fun x=> !ltInt x d3[a]!) d3 i3 j3=_:=DV (p:=(fun x=> !ltInt x d3[a]!)) (by omega) e5
  refine A.Z ((j3-1:Nat)) ⟨(hst_.symm.trans hv3),(by omega)⟩ (by omega) ?_
  exact A.J [0]
 refine A.aA<|A.d<|A.d ?_
 have hI3:scanUp (fun x=>ltInt x d3[a]!) d3 j2 i2=i3:=(by rw[←hu3];exact DU (p:=(fun x=>ltInt x d3[a]!)) e4)
 have hne3:=Jb (by omega) e4 e5
 have hJ3:scanDown (fun x=> !ltInt x d3[a]!) d3 i3 j2=j3:=(by rw[←hv3];exact DW (p:=(fun x=> !ltInt x d3[a]!)) e5)
 refine A.s<|A.g (ps 3) [] [(134,b_<|decide ((i3:Int)>(j3:Int)))]<|A.v rfl (fun e6=>?_) (fun e6=>?_)
 ·have p6:=of_decide_eq_true e6
  refine A.aA<|A.te<|A.bm rfl ((A.d<|A.O [13,15] 16<|A.kd 3 [.p,.p,.p,.p,.p,.p,.ix,.rd [u_<|d3[a]!],.p,.p,.ix,.rd [u_<|d3[j3]!],.ix] (rg 0 13) [] [(155,vS al d3.toList cl),(156,c_ a),(160,u_<|d3[a]!),(164,u_<|d3[j3]!),(165,.pointer<|some<|(dR al).add (j3*1))] [] (oc (dW 0 a dI rfl (by(simp;omega)))<|oc (eJ 0 a [u_<|d3[a]!] dI rfl (fB<|by omega))<|oc (dW 0 j3 dI rfl (by(simp;omega)))<|oc (eJ 0 j3 [u_<|d3[j3]!] dI rfl (fB<|by omega))<|o1<|dW 0 j3 dI rfl (by(simp;omega)))<|A.F 13 rfl (A.sS 0 j3 (d3[a]!) rfl dI (by(simp;omega)) (A.D 0 (vS al (d3.toList.set j3<|d3[a]!) cl) (dh<|by simp)<|A.D 155 (vS al (d3.toList.set j3<|d3[a]!) cl) (dh<|by simp)<|A.E<|A.kd 1 [.ix] [14] [155,156,160,165] [(166,.pointer<|some<|(dR al).add (a*1))] [] (o1<|dW 0 a dI rfl (by(simp;omega)))<|A.F 15 rfl (A.sS 0 a (d3[j3]!) rfl dI (by(simp;omega)) (A.D 0 (u5 al d3 j3 a cl) (dh<|by simp)<|A.E<|A.M ?_))))))
  obtain⟨d107,hdd107⟩: ∃z,z=swp d3 j3 a:=⟨_,rfl⟩;have hszd107:d107.size=d3.size:=(by rw[hdd107];exact jH _ _ _)
  have hcv8:((d3.toList.set j3<|d3[a]!).set a (d3[j3]!))=d107.toList:=by rw[hdd107];exact lL _ _ _
  refine A.su 0 (sU al d107.toList cl) rfl (eI hcv8) (A.D 0 (vS al d107.toList cl) (fN hcv8)<|A.c<|A.g (ps 3) [164,166] [(8,c_ j3)]<|A.e ?_)
  have hP:=Sj (b:=b) (r:=(j3,d3)) hdd101 hI1 hJ1 (by omega) (by rw[←hdd105];exact he.symm.trans<|P0 hI3 hJ3<|by omega)
  refine A.Y [0] [c_ j3,b_ false] (j3,false,d107) ?_ ?_
  ·rfl
  exact⟨by rw[hP];simp only[*],by omega⟩
 have p6:=of_decide_eq_false e6
 refine A.p<|A.d<|A.O [13,15] 16<|A.kd 3 [.p,.p,.p,.p,.p,.p,.ix,.rd [u_<|d3[j3]!],.p,.p,.ix,.rd [u_<|d3[i3]!],.ix] (rg 0 13) [] [(137,vS al d3.toList cl),(138,c_ j3),(142,u_<|d3[j3]!),(146,u_<|d3[i3]!),(147,.pointer<|some<|(dR al).add (i3*1))] [] (oc (dW 0 j3 dI rfl (by(simp;omega)))<|oc (eJ 0 j3 [u_<|d3[j3]!] dI rfl (fB<|by omega))<|oc (dW 0 i3 dI rfl (by(simp;omega)))<|oc (eJ 0 i3 [u_<|d3[i3]!] dI rfl (fB<|by omega))<|o1<|dW 0 i3 dI rfl (by(simp;omega)))<|A.F 13 rfl (A.sS 0 i3 (d3[j3]!) rfl dI (by(simp;omega)) (A.D 0 (vS al (d3.toList.set i3<|d3[j3]!) cl) (dh<|by simp)<|A.D 137 (vS al (d3.toList.set i3<|d3[j3]!) cl) (dh<|by simp)<|A.E<|A.kd 1 [.ix] [14] [137,138,142,147] [(148,.pointer<|some<|(dR al).add (j3*1))] [] (o1<|dW 0 j3 dI rfl (by(simp;omega)))<|A.F 15 rfl (A.sS 0 j3 (d3[i3]!) rfl dI (by(simp;omega)) (A.D 0 (u5 al d3 i3 j3 cl) (dh<|by simp)<|A.E<|A.M ?_))))
 obtain⟨d109,hdd109⟩: ∃z,z=swp d3 i3 j3:=⟨_,rfl⟩;have hszd109:d109.size=d3.size:=(by rw[hdd109];exact jH _ _ _)
 have hcv10:((d3.toList.set i3<|d3[j3]!).set j3 (d3[i3]!))=d109.toList:=by rw[hdd109];exact lL _ _ _
 refine A.su 0 (sU al d109.toList cl) rfl (eI hcv10) (A.D 0 (vS al d109.toList cl) (fN hcv10)<|A.c<|A.k [.p,.w ((i3+1:Nat):Int),.p] [146,148] [(10,c_ (i3+1:Nat))] [] (o1<|wi ((i3:Int)+1) ((i3+1:Nat):Int)<|by omega)<|A.s<|A.k [.p,.w ((j3-1:Nat):Int),.p] [] [(11,c_ (j3-1:Nat))] [] (o1<|wi ((j3:Int)-1) ((j3-1:Nat):Int)<|by omega) ?_)
 have hst_:partLoop ltInt a i2 j2 d3=_:=P1 hI3 hJ3<|by omega
 refine A.Z ((i3+1:Nat),(j3-1:Nat),d109) ⟨(by(rw[hdd109];exact hst_.symm.trans he)),(by omega),(by omega)⟩ (by(simp;omega)) ?_
 exact A.J [0]
end Go.Proofs.YtobgjpigngoggaaGreat
namespace Go.Proofs.YtobgjpigngoggaaGreat
open Go V Go.Sort
theorem zS(x:Nat)(h:1≤x)(hx:x<2^64):2^Lib.bitLen x≤2*x:=by
 induction x using Nat.strongRecOn with
 |ind x ih=>
  rw[Lib.bitLen_half x (by omega) hx]
  by_cases h2:x/2=0
  ·have:x=1:=by omega
   subst this;decide
  ·have:=ih (x/2) (by omega) (by omega)<|by omega
   rw[Nat.pow_add,Nat.pow_one];omega
theorem Et(x:Nat)(h:1≤x)(hx:x≤100000):Lib.bitLen x≤18:=by
 have h1:=zS x h<|by omega
 rcases Nat.lt_or_ge 18 (Lib.bitLen x) with g|g
 ·exfalso
  have:=Nat.pow_le_pow_right (show 0<2 by decide) (show 19≤Lib.bitLen x from g)
  have e:2^19=524288:=by decide
  omega
 ·exact g
theorem Sl(op:BinOp)(a b:Int)(h:op= .xor∨op= .and):0≤dL op .u64 a b∧dL op .u64 a b<18446744073709551616:=by
 rcases h with rfl|rfl<;>(unfold dL;simp only[IntKind.wrap_u64];omega)
theorem Fh{x:Int}{m:Nat}(hx:0≤x∧x<18446744073709551616)(hm:1≤m∧m≤1000000): ∃o:Nat,dL .and .u64 x (((m:Int)-1))=(o:Int)∧o<m:=by
 obtain⟨X,rfl⟩:=Int.eq_ofNat_of_zero_le hx.1
 have h1:((m:Int)-1)=((m-1:Nat):Int):=by omega
 rw[h1]
 have h2:dL .and .u64 (X:Int) ((m-1:Nat):Int)=((X&&&(m-1):Nat):Int):=u64_and_nat X (m-1) (by omega)<|by omega
 exact⟨_,h2,by have:=Nat.and_le_right (n:=X) (m:=m-1);omega⟩
theorem Fj{d d2:Array Int}{a b i j:Nat}(h:PermIn a b d d2)(hi:a≤i∧i<b)(hj:a≤j∧j<b)(hb:b≤d.size):PermIn a b d (swp d2 i j):=
 permIn_trans _ _ _ a b h (swp_permIn d2 a b i j hi.1 hi.2 hj.1 hj.2 (by rw[h.1];exact hb))
open Go.RowKit Go.Shelf
def Tryz.lenA_ren:Go.Shelf.Ren:=⟨fun|8=>140|19=>192|20=>193|n=>n,fun|32=>263|3=>3|44=>312|46=>40|4=>4|5=>5|9=>9|n=>n,fun|n=>n⟩
theorem Tryz.lenA:Go.Proofs.SlLaysM.n8 Tryz.prog Tryz.lenA_ren:={
 mixed:=by kernel_rfl,
 f8:=Tryz.func140.trans<|congrArg some<|by kernel_rfl,
 f19:=Tryz.func192.trans<|congrArg some<|by kernel_rfl,
 f20:=Tryz.func193.trans<|congrArg some<|by kernel_rfl,
 t3:=Tryz.underlying3,
 a3:=Tryz.isAgg3,
 z3:=Tryz.sizeOf3,
 v3:=Tryz.zeroValue3,
 t4:=Tryz.underlying4,
 a4:=Tryz.isAgg4,
 z4:=Tryz.sizeOf4,
 v4:=Tryz.zeroValue4,
 t5:=Tryz.underlying5,
 a5:=Tryz.isAgg5,
 z5:=Tryz.sizeOf5,
 v5:=Tryz.zeroValue5,
 t9:=Tryz.underlying9,
 a9:=Tryz.isAgg9,
 z9:=Tryz.sizeOf9,
 v9:=Tryz.zeroValue9,
 t32:=Tryz.underlying263,
 a32:=Tryz.isAgg263,
 z32:=Tryz.sizeOf263,
 v32:=Tryz.zeroValue263,
 t44:=Tryz.underlying312,
 a44:=Tryz.isAgg312,
 z44:=Tryz.sizeOf312,
 v44:=Tryz.zeroValue312,
 t46:=Tryz.underlying40,
 a46:=Tryz.isAgg40,
 z46:=Tryz.sizeOf40,
 v46:=Tryz.zeroValue40}
theorem Fo(n:Nat)(hn:n<18446744073709551616)(w:World):
  CW 140 #[u_ (n:Int)] w (i_ (Lib.bitLen n:Int)):=by
 refine(calls_of_every_depth fun D=>AnySM.bits_LenIn Tryz.lenA D (n:Int) w (by omega)<|by omega).mono ?_
 rintro e w' ⟨rfl,rfl⟩
 exact⟨by simp,Fr.refl _ _⟩
abbrev xF(p0):=(u_ ((2^Lib.bitLen p0:Nat):Int):Value)
theorem Nk(n:Nat)(hn:1≤n∧n≤100000)(w:World):
  CW 237 #[c_ n] w (xF n):=by
 refine A.C Tryz.func237 rfl (HS.nil w) (A.c<|A.g [.p] [] []<|A.c<|A.kp [.p,.w (n:Int),.cq<|i_ (Lib.bitLen n:Int)] [0] [(5,i_ (Lib.bitLen n:Int))] [] (oc (wv (n:Int)<|by omega)<|o1<|qo<|fun w s=>Fo n (by omega) w)<|A.j<|A.u (some 6) (xF n) (iw (congrArg (Value.int .u64) (by rw[IntKind.wrap_u64,Int.one_mul];have h_:=zS n (by omega) (by omega);have h2_:((2:Int)^Lib.bitLen n)=((2^Lib.bitLen n:Nat):Int):=(by simp);rw[h2_];exact(fun(q_:Nat)(hq_:q_≤2*n)=>(by omega:((q_:Int))%18446744073709551616=(q_:Int))) _ h_))<|Qs (m:=Lib.bitLen n) rfl rfl rfl (by show Lib.bitLen n≤64;have h_:=Et n (by omega) (by omega);omega))<|A.g [.p] [5,6] [(2,xF n)]<|A.e<|A.W [xF n] ?_)
 rfl
abbrev xG(p0):=(u_ (dL .xor .u64 p0<|IntKind.u64.wrap<|p0*8192):Value)
abbrev H4(p0):=(u_ (dL .xor .u64 (dL .xor .u64 p0<|IntKind.u64.wrap<|p0*8192)<|(dL .xor .u64 p0<|IntKind.u64.wrap<|p0*8192)/128):Value)
abbrev xH(p0):=(u_ (dL .xor .u64 (dL .xor .u64 (dL .xor .u64 p0<|IntKind.u64.wrap<|p0*8192)<|(dL .xor .u64 p0<|IntKind.u64.wrap<|p0*8192)/128)<|IntKind.u64.wrap<|(dL .xor .u64 (dL .xor .u64 p0<|IntKind.u64.wrap<|p0*8192)<|(dL .xor .u64 p0<|IntKind.u64.wrap<|p0*8192)/128)*131072):Value)
theorem Lu(br:Nat)(x:Int):
  CS 238 #[p_ br] [cw br [u_ x] 348] (fun(x':Int)=>(u_ x')) (fun x'=>0≤x'∧x'<18446744073709551616) fun x'=>[cw br [u_ x'] 348]:=by
 intro w hs
 refine A.C Tryz.func238 rfl hs ?_
 refine A.c<|A.g [.p] [] [] ?_
 refine A.d<|A.O [9] 10 ?_
 refine A.dT 1 [.p,.p,.ld 0,.p,.p,.ld 0,.p,.p,.p] (rg 0 9) [] [(10,xG x),(11,p_ br)] [br,br] ?_
 refine A.F 9 rfl (A.sT 0 [xG x] rfl ?_)
 refine A.E ?_
 refine A.M ?_
 refine A.d<|A.O [9] 10 ?_
 refine A.pT 4 [.p,.p,.ld 0,.p,.p,.ld 0] (rg 0 6) [(0,p_ br),(12,p_ br),(14,xG x),(17,xG x)] [br,br] ?_
 refine A.aR 6 (some 18) (u_<|(dL .xor .u64 x<|IntKind.u64.wrap<|x*8192)/128) rfl (by kernel_rfl) (by kernel_rfl) (iw (congrArg (Value.int .u64)<|Int.fdiv_eq_ediv_of_nonneg (dL .xor .u64 x<|IntKind.u64.wrap<|x*8192)<|by decide)<|jv (v:= .int .u64 ((dL .xor .u64 x<|IntKind.u64.wrap<|x*8192).fdiv 128)) (by kernel_rfl) fun _=>by kernel_rfl) ?_
 refine A.pT 1 [.p,.p] [7,8] [(0,p_ br),(19,H4 x),(20,p_ br)] [] ?_
 refine A.F 9 rfl (A.sT 0 [H4 x] rfl ?_)
 refine A.E ?_
 refine A.M ?_
 refine A.d<|A.O [9] 10 ?_
 refine A.pT 1 [.p,.p,.ld 0,.p,.p,.ld 0,.p,.p,.p] (rg 0 9) [(0,p_ br),(28,xH x),(29,p_ br)] [br,br] ?_
 refine A.F 9 rfl (A.sT 0 [xH x] rfl ?_)
 refine A.E ?_
 refine A.M ?_
 refine A.c<|A.h [.p,.p,.ld 0,.p] [(2,xH x)] [br] ?_
 refine A.e<|A.Y [0] [xH x] (dL .xor .u64 (dL .xor .u64 (dL .xor .u64 x<|IntKind.u64.wrap<|x*8192)<|(dL .xor .u64 x<|IntKind.u64.wrap<|x*8192)/128)<|IntKind.u64.wrap<|(dL .xor .u64 (dL .xor .u64 x<|IntKind.u64.wrap<|x*8192)<|(dL .xor .u64 x<|IntKind.u64.wrap<|x*8192)/128)*131072) ?_ ?_
 ·rfl
 exact Sl .xor _ _<|.inl rfl
theorem Nl(al:Option Addr)(d:Array Int)(cl:Nat)(a b:Nat)(hb:a+8≤b∧b≤d.size)(hS:d.size≤100000):
  CS 274 #[vS al d.toList cl,c_ a,c_ b] [sU al d.toList cl] (fun(d':(Array Int))=>(.tuple #[])) (fun d'=>PermIn a b d d'∧d'.size=d.size) fun d'=>[sU al d'.toList cl]:=by
 intro w hs
 have hl1:=zS (b-a) (by omega) (by omega);have hl2:1≤2^Lib.bitLen (b-a):=Nat.one_le_two_pow
 refine A.C Tryz.func274 rfl hs (A.c<|A.k [.p,.p,.w ((b-a:Nat):Int),.p] [2] [(6,c_ (b-a:Nat))] [] (o1<|wi ((b:Int)-(a:Int)) ((b-a:Nat):Int)<|by omega)<|A.c<|A.g [.p,.p] [] [(15,b_<|decide (((b-a:Nat):Int)≥8))]<|A.v rfl (fun e1=>?_) (fun e1=>?_))
 ·have p1:=of_decide_eq_true e1
  refine A.c<|A.no [.p,.w ((b-a:Nat):Int),.al,.st 1] [15] (fun b1=>[(7,p_ b1)]) (fun b1=>[]) (fun b1=>cw b1 [u_ ((b-a:Nat):Int)] 348) (fun b1=>[b1]) (fun b1=>o1<|wv ((b-a:Nat):Int)<|by omega) ?_
  intro b1
  refine A.c<|A.k [.p,.cq<|u_ ((2^Lib.bitLen (b-a:Nat):Nat):Int),.p] [] [(8,u_ ((2^Lib.bitLen (b-a:Nat):Nat):Int))] [] (o1<|qo<|fun w s=>Nk (b-a:Nat) (by omega) w)<|A.c<|A.k [.p,.p,.w (((b-a)/4:Nat):Int),.w ((((b-a)/4)*2:Nat):Int),.w ((a+(((b-a)/4)*2):Nat):Int),.w (((a+(((b-a)/4)*2))-1:Nat):Int),.p] [] [(9,c_ ((a+(((b-a)/4)*2))-1:Nat))] [] (oc (wo<|(km (e:=((b-a:Nat):Int).tdiv 4)<|by(rw[uk];constructor<;>omega)).trans (by rfl:(((b-a:Nat):Int).tdiv 4:Int)=(((b-a)/4:Nat):Int)))<|oc (wi ((((b-a)/4:Nat):Int)*2) ((((b-a)/4)*2:Nat):Int)<|by omega)<|oc (wi ((a:Int)+((((b-a)/4)*2:Nat):Int)) ((a+(((b-a)/4)*2):Nat):Int)<|by omega)<|o1<|wi (((a+(((b-a)/4)*2):Nat):Int)-1) (((a+(((b-a)/4)*2))-1:Nat):Int)<|by omega) ?_
  refine A.y<|A.lp (σ:=Nat×(Array Int)×Int) [] (fun(i,d2,x2)=>[(9,c_ i),(0,vS al d2.toList cl)]) [0,0] (fun(i,d2,x2)=>[sU al d2.toList cl,cw b1 [u_ x2] 348]) (fun(i,d2,x2)=>(PermIn a b d d2)∧(d2.size=d.size)∧(a≤i∧i≤a+(b-a)/4*2+2)) (fun(i,d2,x2)=>a+(b-a)/4*2+2-i) (((a+(((b-a)/4)*2))-1:Nat),d,((b-a:Nat):Int)) ⟨(permIn_refl _ _ _),(by rfl),(by omega)⟩ ?_ ?_
  ·exact A.J [0,0]
  rintro⟨i,d2,x2⟩ ⟨hp,hz,hi⟩
  refine A.d<|A.c<|A.k [.p,.p,.p,.w (((b-a)/4:Nat):Int),.w ((((b-a)/4)*2:Nat):Int),.w ((a+(((b-a)/4)*2):Nat):Int),.w (((a+(((b-a)/4)*2))+1:Nat):Int),.p] [] [(33,b_<|decide ((i:Int)≤(((a+(((b-a)/4)*2))+1:Nat):Int)))] [] (oc (wo<|(km (e:=((b-a:Nat):Int).tdiv 4)<|by(rw[uk];constructor<;>omega)).trans (by rfl:(((b-a:Nat):Int).tdiv 4:Int)=(((b-a)/4:Nat):Int)))<|oc (wi ((((b-a)/4:Nat):Int)*2) ((((b-a)/4)*2:Nat):Int)<|by omega)<|oc (wi ((a:Int)+((((b-a)/4)*2:Nat):Int)) ((a+(((b-a)/4)*2):Nat):Int)<|by omega)<|o1<|wi (((a+(((b-a)/4)*2):Nat):Int)+1) (((a+(((b-a)/4)*2))+1:Nat):Int)<|by omega) ?_
  refine A.v rfl (fun e2=>?_) (fun e2=>?_)
  ·have p2:=of_decide_eq_true e2
   refine A.p<|A.d<|A.y<|A.c<|A.j<|A.I (some 36) [1] (fun w s h=>Lu b1 x2 w h) ?_
   rintro x'2 hz3
   refine A.k [.p,.w<|((2^Lib.bitLen (b-a:Nat):Nat):Int)-1,.p,.w<|dL .and .u64 x'2<|((2^Lib.bitLen (b-a:Nat):Nat):Int)-1,.p] [33,36] [(10,i_<|dL .and .u64 x'2<|((2^Lib.bitLen (b-a:Nat):Nat):Int)-1)] [] (oc (wv (((2^Lib.bitLen (b-a:Nat):Nat):Int)-1)<|by omega)<|o1<|wo<|km (e:=dL .and .u64 x'2<|((2^Lib.bitLen (b-a:Nat):Nat):Int)-1)<|by(obtain⟨o_,ho_,hb_⟩:=Fh ‹_› (m:=2^Lib.bitLen (b-a)) ⟨by omega,by omega⟩;rw[ho_];constructor<;>omega)) ?_
   refine A.d<|A.d ?_
   obtain⟨o3,ho3,hbo3⟩: ∃o:Nat,dL .and .u64 x'2 (((2^Lib.bitLen (b-a:Nat):Nat):Int)-1)=(o:Int)∧o<2^Lib.bitLen (b-a):=by exact Fh ‹_› ⟨by omega,by omega⟩
   refine A.D 10 (c_ o3) (mE ho3)<|A.s<|A.g (ps 3) [] [(43,b_<|decide ((o3:Int)≥((b-a:Nat):Int)))]<|A.v rfl (fun e4=>?_) (fun e4=>?_)
   ·have p4:=of_decide_eq_true e4
    refine A.s<|A.k [.p,.p,.w ((o3-(b-a):Nat):Int),.p] [43] [(10,c_ (o3-(b-a):Nat))] [] (o1<|wi ((o3:Int)-((b-a:Nat):Int)) ((o3-(b-a):Nat):Int)<|by omega)<|A.O [17,19] 20<|A.kd 3 [.p,.p,.p,.p,.p,.w ((a+(o3-(b-a)):Nat):Int),.p,.p,.p,.w ((a+(o3-(b-a)):Nat):Int),.ix,.rd [u_<|d2[(a+(o3-(b-a)):Nat)]!],.p,.p,.ix,.rd [u_<|d2[i]!],.ix] (rg 0 17) [10] [(49,vS al d2.toList cl),(52,c_ (a+(o3-(b-a)):Nat)),(58,u_<|d2[(a+(o3-(b-a)):Nat)]!),(62,u_<|d2[i]!),(63,.pointer<|some<|(dR al).add (i*1))] [] (oc (wi ((a:Int)+((o3-(b-a):Nat):Int)) ((a+(o3-(b-a)):Nat):Int)<|by omega)<|oc (wi ((a:Int)+((o3-(b-a):Nat):Int)) ((a+(o3-(b-a)):Nat):Int)<|by omega)<|oc (dW 1 (a+(o3-(b-a)):Nat) dI rfl (by(simp;omega)))<|oc (eJ 1 (a+(o3-(b-a)):Nat) [u_<|d2[(a+(o3-(b-a)):Nat)]!] dI rfl (fB<|by omega))<|oc (dW 1 i dI rfl (by(simp;omega)))<|oc (eJ 1 i [u_<|d2[i]!] dI rfl (fB<|by omega))<|o1<|dW 1 i dI rfl (by(simp;omega)))<|A.F 17 rfl (A.sS 1 i (d2[(a+(o3-(b-a)):Nat)]!) rfl dI (by(simp;omega)) (A.D 0 (vS al (d2.toList.set i<|d2[(a+(o3-(b-a)):Nat)]!) cl) (dh<|by simp)<|A.D 49 (vS al (d2.toList.set i<|d2[(a+(o3-(b-a)):Nat)]!) cl) (dh<|by simp)<|A.E<|A.kd 1 [.ix] [18] [49,52,58,63] [(64,.pointer<|some<|(dR al).add ((a+(o3-(b-a)):Nat)*1))] [] (o1<|dW 1 (a+(o3-(b-a)):Nat) dI rfl (by(simp;omega)))<|A.F 19 rfl (A.sS 1 (a+(o3-(b-a)):Nat) (d2[i]!) rfl dI (by(simp;omega)) (A.D 0 (vS al ((d2.toList.set i<|d2[(a+(o3-(b-a)):Nat)]!).set (a+(o3-(b-a)):Nat) (d2[i]!)) cl) (dh<|by simp)<|A.E<|A.M ?_))))
    obtain⟨d104,hdd104⟩: ∃z,z=swp d2 i (a+(o3-(b-a)):Nat):=⟨_,rfl⟩;have hszd104:d104.size=d2.size:=(by rw[hdd104];exact jH _ _ _)
    have hcv5:((d2.toList.set i<|d2[(a+(o3-(b-a)):Nat)]!).set (a+(o3-(b-a)):Nat) (d2[i]!))=d104.toList:=by rw[hdd104];exact lL _ _ _
    refine A.su 1 (sU al d104.toList cl) rfl (eI hcv5) (A.D 0 (vS al d104.toList cl) (fN hcv5)<|A.s<|A.k [.p,.w ((i+1:Nat):Int),.p] [62,64] [(9,c_ (i+1:Nat))] [] (o1<|wi ((i:Int)+1) ((i+1:Nat):Int)<|by omega) ?_)
    have hp2:PermIn a b d d104:=by rw[hdd104];exact Fj hp (by omega) (by omega)<|by omega
    refine A.Z ((i+1:Nat),d104,x'2) ⟨hp2,(by omega),(by omega)⟩ (by(simp;omega)) ?_
    exact A.J [1,0]
   have p4:=of_decide_eq_false e4
   refine A.p<|A.O [17,19] 20<|A.kd 3 [.p,.p,.p,.p,.p,.w ((a+o3:Nat):Int),.p,.p,.p,.w ((a+o3:Nat):Int),.ix,.rd [u_<|d2[(a+o3:Nat)]!],.p,.p,.ix,.rd [u_<|d2[i]!],.ix] (rg 0 17) [10,43] [(49,vS al d2.toList cl),(52,c_ (a+o3:Nat)),(58,u_<|d2[(a+o3:Nat)]!),(62,u_<|d2[i]!),(63,.pointer<|some<|(dR al).add (i*1))] [] (oc (wi ((a:Int)+(o3:Int)) ((a+o3:Nat):Int)<|by omega)<|oc (wi ((a:Int)+(o3:Int)) ((a+o3:Nat):Int)<|by omega)<|oc (dW 1 (a+o3:Nat) dI rfl (by(simp;omega)))<|oc (eJ 1 (a+o3:Nat) [u_<|d2[(a+o3:Nat)]!] dI rfl (fB<|by omega))<|oc (dW 1 i dI rfl (by(simp;omega)))<|oc (eJ 1 i [u_<|d2[i]!] dI rfl (fB<|by omega))<|o1<|dW 1 i dI rfl (by(simp;omega)))<|A.F 17 rfl (A.sS 1 i (d2[(a+o3:Nat)]!) rfl dI (by(simp;omega)) (A.D 0 (vS al (d2.toList.set i<|d2[(a+o3:Nat)]!) cl) (dh<|by simp)<|A.D 49 (vS al (d2.toList.set i<|d2[(a+o3:Nat)]!) cl) (dh<|by simp)<|A.E<|A.kd 1 [.ix] [18] [49,52,58,63] [(64,.pointer<|some<|(dR al).add ((a+o3:Nat)*1))] [] (o1<|dW 1 (a+o3:Nat) dI rfl (by(simp;omega)))<|A.F 19 rfl (A.sS 1 (a+o3:Nat) (d2[i]!) rfl dI (by(simp;omega)) (A.D 0 (vS al ((d2.toList.set i<|d2[(a+o3:Nat)]!).set (a+o3:Nat) (d2[i]!)) cl) (dh<|by simp)<|A.E<|A.M ?_))))
   obtain⟨d106,hdd106⟩: ∃z,z=swp d2 i (a+o3:Nat):=⟨_,rfl⟩;have hszd106:d106.size=d2.size:=(by rw[hdd106];exact jH _ _ _)
   have hcv7:((d2.toList.set i<|d2[(a+o3:Nat)]!).set (a+o3:Nat) (d2[i]!))=d106.toList:=by rw[hdd106];exact lL _ _ _
   refine A.su 1 (sU al d106.toList cl) rfl (eI hcv7) (A.D 0 (vS al d106.toList cl) (fN hcv7)<|A.s<|A.k [.p,.w ((i+1:Nat):Int),.p] [62,64] [(9,c_ (i+1:Nat))] [] (o1<|wi ((i:Int)+1) ((i+1:Nat):Int)<|by omega) ?_)
   have hp2:PermIn a b d d106:=by rw[hdd106];exact Fj hp (by omega) (by omega)<|by omega
   refine A.Z ((i+1:Nat),d106,x'2) ⟨hp2,(by omega),(by omega)⟩ (by(simp;omega)) ?_
   exact A.J [1,0]
  have p2:=of_decide_eq_false e2
  refine A.aA<|A.aN [0] [] (fun _ w r s=>trivial) (d2) ?_ ?_<|by kernel_rfl
  ·rfl
  exact⟨hp,hz⟩
 exact absurd e1<|by(simp;omega)
end Go.Proofs.YtobgjpigngoggaaGreat
namespace Go.Proofs.YtobgjpigngoggaaGreat
open Go V Go.Sort
theorem LJ(al:Option Addr)(d:Array Int)(cl:Nat)(a b p:Nat)(hb:a≤p∧p<b∧b≤d.size)(hS:d.size≤100000):
  CS 278 #[vS al d.toList cl,c_ a,c_ b,c_ p] [sU al d.toList cl] (fun((m',d'):Nat×(Array Int))=>(c_ m')) (fun(m',d')=>partitionEqual ltInt d a b p=(m',d')∧d'.size=d.size) fun(m',d')=>[sU al d'.toList cl]:=by
 intro w hs
 refine A.C Tryz.func278 rfl hs (A.c<|A.g [.p] [] []<|A.d<|A.O [13,15] 16<|A.kd 3 [.p,.p,.p,.p,.p,.p,.ix,.rd [u_<|d[p]!],.p,.p,.ix,.rd [u_<|d[a]!],.ix] (rg 0 13) [3] [(13,vS al d.toList cl),(14,c_ p),(18,u_<|d[p]!),(22,u_<|d[a]!),(23,.pointer<|some<|(dR al).add (a*1))] [] (oc (dW 0 p dI rfl (by(simp;omega)))<|oc (eJ 0 p [u_<|d[p]!] dI rfl (fB<|by omega))<|oc (dW 0 a dI rfl (by(simp;omega)))<|oc (eJ 0 a [u_<|d[a]!] dI rfl (fB<|by omega))<|o1<|dW 0 a dI rfl (by(simp;omega)))<|A.F 13 rfl (A.sS 0 a (d[p]!) rfl dI (by(simp;omega)) (A.D 0 (vS al (d.toList.set a<|d[p]!) cl) (dh<|by simp)<|A.D 13 (vS al (d.toList.set a<|d[p]!) cl) (dh<|by simp)<|A.E<|A.kd 1 [.ix] [14] [13,14,18,23] [(24,.pointer<|some<|(dR al).add (p*1))] [] (o1<|dW 0 p dI rfl (by(simp;omega)))<|A.F 15 rfl (A.sS 0 p (d[a]!) rfl dI (by(simp;omega)) (A.D 0 (vS al ((d.toList.set a<|d[p]!).set p (d[a]!)) cl) (dh<|by simp)<|A.E<|A.M ?_)))))
 obtain⟨d101,hdd101⟩: ∃z,z=swp d a p:=⟨_,rfl⟩;have hszd101:d101.size=d.size:=(by rw[hdd101];exact jH _ _ _)
 have hcv2:((d.toList.set a<|d[p]!).set p (d[a]!))=d101.toList:=by rw[hdd101];exact lL _ _ _
 refine A.su 0 (sU al d101.toList cl) rfl (eI hcv2) (A.D 0 (vS al d101.toList cl) (fN hcv2)<|A.c<|A.k [.p,.w ((a+1:Nat):Int),.p,.w ((b-1:Nat):Int),.p,.p] [2,22,24] [(9,c_ (a+1:Nat)),(10,c_ (b-1:Nat))] [] (oc (wi ((a:Int)+1) ((a+1:Nat):Int)<|by omega)<|o1<|wi ((b:Int)-1) ((b-1:Nat):Int)<|by omega)<|A.d<|A.y<|A.lp (σ:=Nat×Nat×(Array Int)) [] (fun(i2,j2,d3)=>[(9,c_ i2),(10,c_ j2),(0,vS al d3.toList cl)]) [0] (fun(i2,j2,d3)=>[sU al d3.toList cl]) (fun(i2,j2,d3)=>(partEqLoop ltInt a i2 j2 d3=partEqLoop ltInt a (a+1) (b-1) d101)∧(d3.size=d.size)∧(a+1≤i2∧i2≤j2+1∧j2<b)) (fun(i2,j2,d3)=>j2+1-i2) ((a+1:Nat),(b-1:Nat),d101) ⟨(by rfl),(by omega),(by omega)⟩ ?_ ?_)
 ·exact A.J [0]
 rintro⟨i2,j2,d3⟩ ⟨he,hz,hi⟩
 refine A.y<|A.d<|A.y<|A.lp (σ:=Nat) [] (fun i3=>[(9,c_ i3)]) [] (fun i3=>[]) (fun i3=>(scanUp (fun x=> !ltInt d3[a]! x) d3 j2 i3=scanUp (fun x=> !ltInt d3[a]! x) d3 j2 i2)∧(i2≤i3∧i3≤j2+1)) (fun i3=>j2+1-i3) (i2:Nat) ⟨(by rfl),(by omega)⟩ ?_ ?_
 ·exact A.J [0]
 rintro i3 ⟨hu3,hi3⟩
 refine A.d<|A.d<|A.ka [.p,.p,.p,.p,.o,.p,.p,.ix,.rd [u_<|d3[a]!],.p,.p,.ix,.rd [u_<|d3[i3]!],.cq<|b_<|decide ((d3[a]!)<(d3[i3]!)),.p,.cl] (rg 0 15) [] [(43,b_<|(decide ((i3:Int)≤(j2:Int)))&&(!(decide ((d3[a]!)<(d3[i3]!)))))] [] (oc (go (true&&((decide ((i3:Int)≤(j2:Int)))==true)) fun h_=>(dW 0 a dI rfl (by(simp;omega))))<|oc (go (true&&((decide ((i3:Int)≤(j2:Int)))==true)) fun h_=>(eJ 0 a [u_<|d3[a]!] dI rfl (fB<|by omega)))<|oc (go (true&&((decide ((i3:Int)≤(j2:Int)))==true)) fun h_=>(dW 0 i3 dI rfl (by(simp at h_⊢;omega))))<|oc (go (true&&((decide ((i3:Int)≤(j2:Int)))==true)) fun h_=>(eJ 0 i3 [u_<|d3[i3]!] dI rfl (fB<|by(simp at h_;omega))))<|o1<|go (true&&((decide ((i3:Int)≤(j2:Int)))==true)) fun h_=>(qo<|fun w s=>js (d3[a]!) (d3[i3]!) w))<|A.v rfl (fun e1=>?_) (fun e1=>?_)
 ·have p1:=e1;try simp only[dc] at p1
  refine A.p<|A.y<|A.s<|A.k [.p,.w ((i3+1:Nat):Int),.p] [43] [(9,c_ (i3+1:Nat))] [] (o1<|wi ((i3:Int)+1) ((i3+1:Nat):Int)<|by omega) ?_
  have hst_:scanUp (fun x=> !ltInt d3[a]! x) d3 j2 i3=_:=DT (p:=(fun x=> !ltInt d3[a]! x)) e1
  refine A.Z ((i3+1:Nat)) ⟨(hst_.symm.trans hu3),(by omega)⟩ (by omega) ?_
  exact A.J [0]
 refine A.aA<|A.d<|A.y<|A.lp (σ:=Nat) [43] (fun j3=>[(10,c_ j3)]) [] (fun j3=>[]) (fun j3=>(scanDown (fun x=>ltInt d3[a]! x) d3 i3 j3=scanDown (fun x=>ltInt d3[a]! x) d3 i3 j2)∧(i3≤j3+1∧j3≤j2)) (fun j3=>j3) (j2:Nat) ⟨(by rfl),(by omega)⟩ ?_ ?_
 ·exact A.J [0]
 rintro j3 ⟨hv3,hj3⟩
 refine A.d<|A.d<|A.ka [.p,.p,.p,.p,.o,.p,.p,.ix,.rd [u_<|d3[a]!],.p,.p,.ix,.rd [u_<|d3[j3]!],.cq<|b_<|decide ((d3[a]!)<(d3[j3]!)),.cl] (rg 0 14) [] [(59,b_<|(decide ((i3:Int)≤(j3:Int)))&&(decide ((d3[a]!)<(d3[j3]!))))] [] (oc (go (true&&((decide ((i3:Int)≤(j3:Int)))==true)) fun h_=>(dW 0 a dI rfl (by(simp;omega))))<|oc (go (true&&((decide ((i3:Int)≤(j3:Int)))==true)) fun h_=>(eJ 0 a [u_<|d3[a]!] dI rfl (fB<|by omega)))<|oc (go (true&&((decide ((i3:Int)≤(j3:Int)))==true)) fun h_=>(dW 0 j3 dI rfl (by(simp;omega))))<|oc (go (true&&((decide ((i3:Int)≤(j3:Int)))==true)) fun h_=>(eJ 0 j3 [u_<|d3[j3]!] dI rfl (fB<|by omega)))<|o1<|go (true&&((decide ((i3:Int)≤(j3:Int)))==true)) fun h_=>(qo<|fun w s=>js (d3[a]!) (d3[j3]!) w))<|A.v rfl (fun e2=>?_) (fun e2=>?_)
 ·have p2:=e2;try simp only[dc] at p2
  refine A.p<|A.y<|A.s<|A.k [.p,.w ((j3-1:Nat):Int),.p] [59] [(10,c_ (j3-1:Nat))] [] (o1<|wi ((j3:Int)-1) ((j3-1:Nat):Int)<|by omega) ?_
  have hst_:scanDown (fun x=>ltInt d3[a]! x) d3 i3 j3=_:=DV (p:=(fun x=>ltInt d3[a]! x)) (by omega) e2
  refine A.Z ((j3-1:Nat)) ⟨(hst_.symm.trans hv3),(by omega)⟩ (by omega) ?_
  exact A.J [0]
 refine A.aA<|A.d<|A.d ?_
 have hI3:scanUp (fun x=> !ltInt d3[a]! x) d3 j2 i2=i3:=(by rw[←hu3];exact DU (p:=(fun x=> !ltInt d3[a]! x)) e1)
 have hne3:=ne_eq (by omega) e1 e2
 have hJ3:scanDown (fun x=>ltInt d3[a]! x) d3 i3 j2=j3:=(by rw[←hv3];exact DW (p:=(fun x=>ltInt d3[a]! x)) e2)
 refine A.s<|A.g (ps 3) [59] [(64,b_<|decide ((i3:Int)>(j3:Int)))]<|A.v rfl (fun e3=>?_) (fun e3=>?_)
 ·have p3:=of_decide_eq_true e3
  refine A.aA<|A.te<|A.bm rfl ((A.c<|A.g [.p,.p] [1,0,9,10,64] [(8,c_ i3)]<|A.e ?_))
  have hP:partitionEqual ltInt d a b p=(i3,d3):=by unfold partitionEqual;rw[←hdd101];exact he.symm.trans<|P2 hI3 hJ3<|by omega
  refine A.Y [0] [c_ i3] (i3,d3) ?_ ?_
  ·rfl
  exact⟨hP,by omega⟩
 have p3:=of_decide_eq_false e3
 refine A.p<|A.d<|A.O [13,15] 16<|A.kd 3 [.p,.p,.p,.p,.p,.p,.ix,.rd [u_<|d3[j3]!],.p,.p,.ix,.rd [u_<|d3[i3]!],.ix] (rg 0 13) [64] [(67,vS al d3.toList cl),(68,c_ j3),(72,u_<|d3[j3]!),(76,u_<|d3[i3]!),(77,.pointer<|some<|(dR al).add (i3*1))] [] (oc (dW 0 j3 dI rfl (by(simp;omega)))<|oc (eJ 0 j3 [u_<|d3[j3]!] dI rfl (fB<|by omega))<|oc (dW 0 i3 dI rfl (by(simp;omega)))<|oc (eJ 0 i3 [u_<|d3[i3]!] dI rfl (fB<|by omega))<|o1<|dW 0 i3 dI rfl (by(simp;omega)))<|A.F 13 rfl (A.sS 0 i3 (d3[j3]!) rfl dI (by(simp;omega)) (A.D 0 (vS al (d3.toList.set i3<|d3[j3]!) cl) (dh<|by simp)<|A.D 67 (vS al (d3.toList.set i3<|d3[j3]!) cl) (dh<|by simp)<|A.E<|A.kd 1 [.ix] [14] [67,68,72,77] [(78,.pointer<|some<|(dR al).add (j3*1))] [] (o1<|dW 0 j3 dI rfl (by(simp;omega)))<|A.F 15 rfl (A.sS 0 j3 (d3[i3]!) rfl dI (by(simp;omega)) (A.D 0 (vS al ((d3.toList.set i3<|d3[j3]!).set j3 (d3[i3]!)) cl) (dh<|by simp)<|A.E<|A.M ?_))))
 obtain⟨d103,hdd103⟩: ∃z,z=swp d3 i3 j3:=⟨_,rfl⟩;have hszd103:d103.size=d3.size:=(by rw[hdd103];exact jH _ _ _)
 have hcv4:((d3.toList.set i3<|d3[j3]!).set j3 (d3[i3]!))=d103.toList:=by rw[hdd103];exact lL _ _ _
 refine A.su 0 (sU al d103.toList cl) rfl (eI hcv4) (A.D 0 (vS al d103.toList cl) (fN hcv4)<|A.c<|A.k [.p,.w ((i3+1:Nat):Int),.p] [76,78] [(9,c_ (i3+1:Nat))] [] (o1<|wi ((i3:Int)+1) ((i3+1:Nat):Int)<|by omega)<|A.s<|A.k [.p,.w ((j3-1:Nat):Int),.p] [] [(10,c_ (j3-1:Nat))] [] (o1<|wi ((j3:Int)-1) ((j3-1:Nat):Int)<|by omega) ?_)
 have hst_:partEqLoop ltInt a i2 j2 d3=_:=P3 hI3 hJ3<|by omega
 refine A.Z ((i3+1:Nat),(j3-1:Nat),d103) ⟨(by(rw[hdd103];exact hst_.symm.trans he)),(by omega),(by omega)⟩ (by(simp;omega)) ?_
 exact A.J [0]
abbrev sR(p0):=([(10,c_ (p0+1:Nat))]:dM)
abbrev BA(p0)(p1):=([(132,.pointer<|some<|(dR p0).add ((p1-1:Nat)*1))]:dM)
abbrev xI(p0)(p1):=(b_ (decide (((p0-p1:Nat):Int)≥2)):Value)
abbrev u6(p0)(p1:Array Int)(p2)(p3):=((vS p0 ((p1.toList.set p2<|p1[(p2-1:Nat)]!).set (p2-1:Nat) (p1[p2]!)) p3):Value)
abbrev BB(p0)(p1:Array Int)(p2)(p3):=([(119,vS p0 p1.toList p2),(121,c_ (p3-1:Nat)),(126,u_<|p1[(p3-1:Nat)]!),(130,u_<|p1[p3]!),(131,.pointer<|some<|(dR p0).add (p3*1))]:dM)
abbrev nc(p0)(p1:Array Int)(p2)(p3):=((vS p0 (p1.toList.set p2<|p1[(p2-1:Nat)]!) p3):Value)
theorem Lx(al:Option Addr)(d:Array Int)(cl:Nat)(a b:Nat)(hb:a<b∧b≤d.size)(hS:d.size≤100000):
  CS 277 #[vS al d.toList cl,c_ a,c_ b] [sU al d.toList cl] (fun((q',d'):Bool×(Array Int))=>(b_ q')) (fun(q',d')=>partialInsertionSort ltInt d a b=(d',q')∧d'.size=d.size) fun(q',d')=>[sU al d'.toList cl]:=by
 intro w hs
 refine A.C Tryz.func277 rfl hs (A.c<|A.g [.p] [] []<|A.c<|A.k [.p,.w ((a+1:Nat):Int),.p] [] [(7,c_ (a+1:Nat))] [] (o1<|wi ((a:Int)+1) ((a+1:Nat):Int)<|by omega)<|A.d<|A.c<|A.g [.p] [] [(8,i_ 0)]<|A.y<|A.lp (σ:=Nat×Nat×(Array Int)) [] (fun(k,i1,d1)=>[(8,c_ k),(7,c_ i1),(0,vS al d1.toList cl)]) [0] (fun(k,i1,d1)=>[sU al d1.toList cl]) (fun(k,i1,d1)=>(partialIns ltInt a b (5-k) i1 d1=partialInsertionSort ltInt d a b)∧(d1.size=d.size)∧(a+1≤i1∧i1≤b∧k≤5)) (fun(k,i1,d1)=>5-k) (0,(a+1:Nat),d) ⟨(by rfl),(by rfl),(by omega)⟩ ?_ ?_)
 ·exact A.J [0]
 rintro⟨k,i1,d1⟩ ⟨he,hz,hi⟩
 refine A.d<|A.c<|A.g [.p,.p] [] [(14,b_<|decide ((k:Int)<5))]<|A.v rfl (fun e1=>?_) (fun e1=>?_)
 ·have p1:=of_decide_eq_true e1
  refine A.p<|A.d<|A.y<|A.d<|A.y<|A.lp (σ:=Nat) [14] (fun i2=>[(7,c_ i2)]) [] (fun i2=>[]) (fun i2=>(scanSorted ltInt d1 b i2=scanSorted ltInt d1 b i1)∧(i1≤i2∧i2≤b)) (fun i2=>b-i2) (i1:Nat) ⟨(by rfl),(by omega)⟩ ?_ ?_
  ·exact A.J [0]
  rintro i2 ⟨hs,hi2⟩
  refine A.d<|A.d<|A.ka [.p,.p,.p,.p,.o,.p,.p,.ix,.rd [u_<|d1[i2]!],.p,.p,.w ((i2-1:Nat):Int),.ix,.rd [u_<|d1[(i2-1:Nat)]!],.cq<|b_<|decide ((d1[i2]!)<(d1[(i2-1:Nat)]!)),.p,.cl] (rg 0 16) [] [(32,b_<|(decide ((i2:Int)<(b:Int)))&&(!(decide ((d1[i2]!)<(d1[(i2-1:Nat)]!)))))] [] (oc (go (true&&((decide ((i2:Int)<(b:Int)))==true)) fun h_=>(dW 0 i2 dI rfl (by(simp at h_⊢;omega))))<|oc (go (true&&((decide ((i2:Int)<(b:Int)))==true)) fun h_=>(eJ 0 i2 [u_<|d1[i2]!] dI rfl (fB<|by(simp at h_;omega))))<|oc (go (true&&((decide ((i2:Int)<(b:Int)))==true)) fun h_=>(wi ((i2:Int)-1) ((i2-1:Nat):Int)<|by omega))<|oc (go (true&&((decide ((i2:Int)<(b:Int)))==true)) fun h_=>(dW 0 (i2-1:Nat) dI rfl (by(simp;omega))))<|oc (go (true&&((decide ((i2:Int)<(b:Int)))==true)) fun h_=>(eJ 0 (i2-1:Nat) [u_<|d1[(i2-1:Nat)]!] dI rfl (fB<|by omega)))<|o1<|go (true&&((decide ((i2:Int)<(b:Int)))==true)) fun h_=>(qo<|fun w s=>js (d1[i2]!) (d1[(i2-1:Nat)]!) w))<|A.v rfl (fun e2=>?_) (fun e2=>?_)
  ·have p2:=e2;try simp only[dc] at p2
   refine A.p<|A.y<|A.s<|A.k [.p,.w ((i2+1:Nat):Int),.p] [32] [(7,c_ (i2+1:Nat))] [] (o1<|wi ((i2:Int)+1) ((i2+1:Nat):Int)<|by omega) ?_
   have hst_:scanSorted ltInt d1 b i2=_:=Uk e2
   refine A.Z ((i2+1:Nat)) ⟨(hst_.symm.trans hs),(by omega)⟩ (by omega) ?_
   exact A.J [0]
  have p2:=e2;try simp only[dc] at p2
  refine A.aA<|A.d<|A.d ?_
  have hI:scanSorted ltInt d1 b i1=i2:=(by rw[←hs];exact Ul e2)
  refine A.s<|A.g (ps 3) [32] [(37,b_<|(i2:Int)==(b:Int))]<|A.v rfl (fun e3=>?_) (fun e3=>?_)
  ·have p3:=e3;try simp only[dc] at p3
   refine A.c<|A.g [.p] [1,2,8,0,7,37] [(6,b_ true)]<|A.e<|A.Y [0] [b_ true] (true,d1) ?_ ?_
   ·rfl
   (refine⟨?_,by omega⟩;rw[nA<|by omega,Um hI<|by omega] at he;exact he.symm)
  have p3:=e3;try simp only[dc] at p3
  refine A.p<|A.d<|A.c<|A.k [.p,.p,.w ((b-a:Nat):Int),.p] [37] [(41,b_<|decide (((b-a:Nat):Int)<50))] [] (o1<|wi ((b:Int)-(a:Int)) ((b-a:Nat):Int)<|by omega)<|A.v rfl (fun e4=>?_) (fun e4=>?_)
  ·have p4:=of_decide_eq_true e4
   refine A.c<|A.g [.p] [1,2,8,0,7,41] [(6,b_ false)]<|A.e<|A.Y [0] [b_ false] (false,d1) ?_ ?_
   ·rfl
   (refine⟨?_,by omega⟩;rw[nA<|by omega,Un hI (by omega)<|by omega] at he;exact he.symm)
  have p4:=of_decide_eq_false e4
  refine A.p<|A.d<|A.O [15,17] 18<|A.kd 3 [.p,.p,.p,.p,.w ((i2-1:Nat):Int),.p,.p,.w ((i2-1:Nat):Int),.ix,.rd [u_<|d1[(i2-1:Nat)]!],.p,.p,.ix,.rd [u_<|d1[i2]!],.ix] (rg 0 15) [41] [(44,vS al d1.toList cl),(46,c_ (i2-1:Nat)),(51,u_<|d1[(i2-1:Nat)]!),(55,u_<|d1[i2]!),(56,.pointer<|some<|(dR al).add (i2*1))] [] (oc (wi ((i2:Int)-1) ((i2-1:Nat):Int)<|by omega)<|oc (wi ((i2:Int)-1) ((i2-1:Nat):Int)<|by omega)<|oc (dW 0 (i2-1:Nat) dI rfl (by(simp;omega)))<|oc (eJ 0 (i2-1:Nat) [u_<|d1[(i2-1:Nat)]!] dI rfl (fB<|by omega))<|oc (dW 0 i2 dI rfl (by(simp;omega)))<|oc (eJ 0 i2 [u_<|d1[i2]!] dI rfl (fB<|by omega))<|o1<|dW 0 i2 dI rfl (by(simp;omega)))<|A.F 15 rfl (A.sS 0 i2 (d1[(i2-1:Nat)]!) rfl dI (by(simp;omega)) (A.D 0 (nc al d1 i2 cl) (dh<|by simp)<|A.D 44 (nc al d1 i2 cl) (dh<|by simp)<|A.E<|A.kd 1 [.ix] [16] [44,46,51,56] [(57,.pointer<|some<|(dR al).add ((i2-1:Nat)*1))] [] (o1<|dW 0 (i2-1:Nat) dI rfl (by(simp;omega)))<|A.F 17 rfl (A.sS 0 (i2-1:Nat) (d1[i2]!) rfl dI (by(simp;omega)) (A.D 0 (u6 al d1 i2 cl) (dh<|by simp)<|A.E<|A.M ?_))))
  obtain⟨d101,hdd101⟩: ∃z,z=swp d1 i2 (i2-1:Nat):=⟨_,rfl⟩;have hszd101:d101.size=d1.size:=(by rw[hdd101];exact jH _ _ _)
  have hcv2:((d1.toList.set i2<|d1[(i2-1:Nat)]!).set (i2-1:Nat) (d1[i2]!))=d101.toList:=by rw[hdd101];exact lL _ _ _
  refine A.su 0 (sU al d101.toList cl) rfl (eI hcv2) (A.D 0 (vS al d101.toList cl) (fN hcv2)<|A.d<|A.c<|A.k [.p,.p,.w ((i2-a:Nat):Int),.p] [55,57] [(61,xI i2 a)] [] (o1<|wi ((i2:Int)-(a:Int)) ((i2-a:Nat):Int)<|by omega)<|A.v rfl (fun e5=>?_) (fun e5=>?_))
  ·have p5:=of_decide_eq_true e5
   refine A.c<|A.k [.p,.w ((i2-1:Nat):Int),.p] [61] [(9,c_ (i2-1:Nat))] [] (o1<|wi ((i2:Int)-1) ((i2-1:Nat):Int)<|by omega)<|A.y<|A.lp (σ:=Nat×(Array Int)) [] (fun(j3,d3)=>[(9,c_ j3),(0,vS al d3.toList cl)]) [0] (fun(j3,d3)=>[sU al d3.toList cl]) (fun(j3,d3)=>(shiftDown ltInt j3 d3=shiftDown ltInt (i2-1) d101)∧(d3.size=d.size)∧(j3<b)) (fun(j3,d3)=>j3) ((i2-1:Nat),d101) ⟨(by rfl),(by omega),(by omega)⟩ ?_ ?_
   ·exact A.J [0]
   rintro⟨j3,d3⟩ ⟨hsd,hz3,hj3⟩
   refine A.d<|A.c<|A.g [.p,.p] [] [(65,b_<|decide ((j3:Int)≥1))]<|A.v rfl (fun e6=>?_) (fun e6=>?_)
   ·have p6:=of_decide_eq_true e6
    refine A.p<|A.d<|A.y<|A.d<|A.d<|A.ka [.p,.p,.ix,.rd [u_<|d3[j3]!],.p,.p,.w ((j3-1:Nat):Int),.ix,.rd [u_<|d3[(j3-1:Nat)]!],.cq<|b_<|decide ((d3[j3]!)<(d3[(j3-1:Nat)]!)),.p] (rg 0 11) [65] [(78,b_ (!(decide ((d3[j3]!)<(d3[(j3-1:Nat)]!)))))] [] (oc (dW 0 j3 dI rfl (by(simp;omega)))<|oc (eJ 0 j3 [u_<|d3[j3]!] dI rfl (fB<|by omega))<|oc (wi ((j3:Int)-1) ((j3-1:Nat):Int)<|by omega)<|oc (dW 0 (j3-1:Nat) dI rfl (by(simp;omega)))<|oc (eJ 0 (j3-1:Nat) [u_<|d3[(j3-1:Nat)]!] dI rfl (fB<|by omega))<|o1<|qo<|fun w s=>js (d3[j3]!) (d3[(j3-1:Nat)]!) w)<|A.v rfl (fun e7=>?_) (fun e7=>?_)
    ·have p7:=e7;try simp only[dc] at p7
     refine A.aA<|A.te<|A.bm rfl ((A.d ?_))
     have hF1:d3=fixDown ltInt a i2 (swp d1 i2<|i2-1):=(by unfold fixDown;rw[←hdd101];(rw[if_pos<|by omega,←hsd,U4 (by omega)<|by omega];done))
     refine A.s<|A.k [.p,.p,.w ((b-i2:Nat):Int),.p] [9,78] [(98,xI b i2)] [] (o1<|wi ((b:Int)-(i2:Int)) ((b-i2:Nat):Int)<|by omega)<|A.v rfl (fun e8=>?_) (fun e8=>?_)
     ·have p8:=of_decide_eq_true e8
      refine A.c<|A.k [.p,.w ((i2+1:Nat):Int),.p] [98] (sR i2) [] (o1<|wi ((i2:Int)+1) ((i2+1:Nat):Int)<|by omega)<|A.y<|A.lp (σ:=Nat×(Array Int)) [] (fun(j4,d4)=>[(10,c_ j4),(0,vS al d4.toList cl)]) [0] (fun(j4,d4)=>[sU al d4.toList cl]) (fun(j4,d4)=>(shiftUp ltInt b j4 d4=shiftUp ltInt b (i2+1) d3)∧(d4.size=d.size)∧(1≤j4∧j4≤b)) (fun(j4,d4)=>b-j4) ((i2+1:Nat),d3) ⟨(by rfl),(by omega),(by omega)⟩ ?_ ?_
      ·exact A.J [0]
      rintro⟨j4,d4⟩ ⟨hsu,hz4,hj4⟩
      refine A.d<|A.c<|A.h (ps 3) [(1,c_ a),(2,c_ b),(8,c_ k),(7,c_ i2),(10,c_ j4),(0,vS al d4.toList cl),(103,b_<|decide ((j4:Int)<(b:Int)))] []<|A.v rfl (fun e9=>?_) (fun e9=>?_)
      ·have p9:=of_decide_eq_true e9
       refine A.p<|A.d<|A.y<|A.d<|A.d<|A.ka [.p,.p,.ix,.rd [u_<|d4[j4]!],.p,.p,.w ((j4-1:Nat):Int),.ix,.rd [u_<|d4[(j4-1:Nat)]!],.cq<|b_<|decide ((d4[j4]!)<(d4[(j4-1:Nat)]!)),.p] (rg 0 11) [103] [(116,b_ (!(decide ((d4[j4]!)<(d4[(j4-1:Nat)]!)))))] [] (oc (dW 0 j4 dI rfl (by(simp;omega)))<|oc (eJ 0 j4 [u_<|d4[j4]!] dI rfl (fB<|by omega))<|oc (wi ((j4:Int)-1) ((j4-1:Nat):Int)<|by omega)<|oc (dW 0 (j4-1:Nat) dI rfl (by(simp;omega)))<|oc (eJ 0 (j4-1:Nat) [u_<|d4[(j4-1:Nat)]!] dI rfl (fB<|by omega))<|o1<|qo<|fun w s=>js (d4[j4]!) (d4[(j4-1:Nat)]!) w)<|A.v rfl (fun e10=>?_) (fun e10=>?_)
       ·have p10:=e10;try simp only[dc] at p10
        refine A.aA<|A.te<|A.bm rfl ((A.s<|A.k [.p,.w ((k+1:Nat):Int),.p] [10,116] [(8,c_ (k+1:Nat))] [] (o1<|wi ((k:Int)+1) ((k+1:Nat):Int)<|by omega) ?_))
        have hF2:d4=fixUp ltInt b i2 d3:=(by unfold fixUp;(rw[if_pos<|by omega,←hsu,DD (by omega)<|by omega];done))
        have hst_:partialIns ltInt a b (5-(k+1)+1) i1 d1=_:=pD (s:=5-(k+1)) hI (by omega) (by omega) hF1 hF2
        refine A.Z ((k+1:Nat),i2,d4) ⟨(by(rw[nA<|by omega] at he;exact hst_.symm.trans he)),(by omega),(by omega)⟩ (by(simp;omega)) ?_
        exact A.J [0]
       have p10:=e10;try simp only[dc] at p10
       refine A.p<|A.O [15,17] 18<|A.kd 3 [.p,.p,.p,.p,.w ((j4-1:Nat):Int),.p,.p,.w ((j4-1:Nat):Int),.ix,.rd [u_<|d4[(j4-1:Nat)]!],.p,.p,.ix,.rd [u_<|d4[j4]!],.ix] (rg 0 15) [116] (BB al d4 cl j4) [] (oc (wi ((j4:Int)-1) ((j4-1:Nat):Int)<|by omega)<|oc (wi ((j4:Int)-1) ((j4-1:Nat):Int)<|by omega)<|oc (dW 0 (j4-1:Nat) dI rfl (by(simp;omega)))<|oc (eJ 0 (j4-1:Nat) [u_<|d4[(j4-1:Nat)]!] dI rfl (fB<|by omega))<|oc (dW 0 j4 dI rfl (by(simp;omega)))<|oc (eJ 0 j4 [u_<|d4[j4]!] dI rfl (fB<|by omega))<|o1<|dW 0 j4 dI rfl (by(simp;omega)))<|A.F 15 rfl (A.sS 0 j4 (d4[(j4-1:Nat)]!) rfl dI (by(simp;omega)) (A.D 0 (nc al d4 j4 cl) (dh<|by simp)<|A.D 119 (nc al d4 j4 cl) (dh<|by simp)<|A.E<|A.kd 1 [.ix] [16] [119,121,126,131] (BA al j4) [] (o1<|dW 0 (j4-1:Nat) dI rfl (by(simp;omega)))<|A.F 17 rfl (A.sS 0 (j4-1:Nat) (d4[j4]!) rfl dI (by(simp;omega)) (A.D 0 (u6 al d4 j4 cl) (dh<|by simp)<|A.E<|A.M ?_))))
       obtain⟨d103,hdd103⟩: ∃z,z=swp d4 j4 (j4-1:Nat):=⟨_,rfl⟩;have hszd103:d103.size=d4.size:=(by rw[hdd103];exact jH _ _ _)
       have hcv4:((d4.toList.set j4<|d4[(j4-1:Nat)]!).set (j4-1:Nat) (d4[j4]!))=d103.toList:=by rw[hdd103];exact lL _ _ _
       refine A.su 0 (sU al d103.toList cl) rfl (eI hcv4) (A.D 0 (vS al d103.toList cl) (fN hcv4)<|A.s<|A.k [.p,.w ((j4+1:Nat):Int),.p] [130,132] (sR j4) [] (o1<|wi ((j4:Int)+1) ((j4+1:Nat):Int)<|by omega) ?_)
       have hst_:shiftUp ltInt b j4 d4=_:=DC (by omega)<|by omega
       refine A.Z ((j4+1:Nat),d103) ⟨(by(rw[hdd103];exact hst_.symm.trans hsu)),(by omega),(by omega)⟩ (by(simp;omega)) ?_
       exact A.J [0]
      have p9:=of_decide_eq_false e9
      refine A.aA<|A.s<|A.k [.p,.w ((k+1:Nat):Int),.p] [10,103] [(8,c_ (k+1:Nat))] [] (o1<|wi ((k:Int)+1) ((k+1:Nat):Int)<|by omega) ?_
      have hF2:d4=fixUp ltInt b i2 d3:=(by unfold fixUp;(rw[if_pos<|by omega,←hsu,DF<|by omega];done))
      have hst_:partialIns ltInt a b (5-(k+1)+1) i1 d1=_:=pD (s:=5-(k+1)) hI (by omega) (by omega) hF1 hF2
      refine A.Z ((k+1:Nat),i2,d4) ⟨(by(rw[nA<|by omega] at he;exact hst_.symm.trans he)),(by omega),(by omega)⟩ (by(simp;omega)) ?_
      exact A.J [0]
     have p8:=of_decide_eq_false e8
     refine A.p<|A.s<|A.k [.p,.w ((k+1:Nat):Int),.p] [98] [(8,c_ (k+1:Nat))] [] (o1<|wi ((k:Int)+1) ((k+1:Nat):Int)<|by omega) ?_
     have hF2:d3=fixUp ltInt b i2 d3:=(by unfold fixUp;(rw[if_neg<|by omega];done))
     have hst_:partialIns ltInt a b (5-(k+1)+1) i1 d1=_:=pD (s:=5-(k+1)) hI (by omega) (by omega) hF1 hF2
     refine A.Z ((k+1:Nat),i2,d3) ⟨(by(rw[nA<|by omega] at he;exact hst_.symm.trans he)),(by omega),(by omega)⟩ (by(simp;omega)) ?_
     exact A.J [0]
    have p7:=e7;try simp only[dc] at p7
    refine A.p<|A.O [15,17] 18<|A.kd 3 [.p,.p,.p,.p,.w ((j3-1:Nat):Int),.p,.p,.w ((j3-1:Nat):Int),.ix,.rd [u_<|d3[(j3-1:Nat)]!],.p,.p,.ix,.rd [u_<|d3[j3]!],.ix] (rg 0 15) [78] [(81,vS al d3.toList cl),(83,c_ (j3-1:Nat)),(88,u_<|d3[(j3-1:Nat)]!),(92,u_<|d3[j3]!),(93,.pointer<|some<|(dR al).add (j3*1))] [] (oc (wi ((j3:Int)-1) ((j3-1:Nat):Int)<|by omega)<|oc (wi ((j3:Int)-1) ((j3-1:Nat):Int)<|by omega)<|oc (dW 0 (j3-1:Nat) dI rfl (by(simp;omega)))<|oc (eJ 0 (j3-1:Nat) [u_<|d3[(j3-1:Nat)]!] dI rfl (fB<|by omega))<|oc (dW 0 j3 dI rfl (by(simp;omega)))<|oc (eJ 0 j3 [u_<|d3[j3]!] dI rfl (fB<|by omega))<|o1<|dW 0 j3 dI rfl (by(simp;omega)))<|A.F 15 rfl (A.sS 0 j3 (d3[(j3-1:Nat)]!) rfl dI (by(simp;omega)) (A.D 0 (nc al d3 j3 cl) (dh<|by simp)<|A.D 81 (nc al d3 j3 cl) (dh<|by simp)<|A.E<|A.kd 1 [.ix] [16] [81,83,88,93] [(94,.pointer<|some<|(dR al).add ((j3-1:Nat)*1))] [] (o1<|dW 0 (j3-1:Nat) dI rfl (by(simp;omega)))<|A.F 17 rfl (A.sS 0 (j3-1:Nat) (d3[j3]!) rfl dI (by(simp;omega)) (A.D 0 (u6 al d3 j3 cl) (dh<|by simp)<|A.E<|A.M ?_))))
    obtain⟨d105,hdd105⟩: ∃z,z=swp d3 j3 (j3-1:Nat):=⟨_,rfl⟩;have hszd105:d105.size=d3.size:=(by rw[hdd105];exact jH _ _ _)
    have hcv6:((d3.toList.set j3<|d3[(j3-1:Nat)]!).set (j3-1:Nat) (d3[j3]!))=d105.toList:=by rw[hdd105];exact lL _ _ _
    refine A.su 0 (sU al d105.toList cl) rfl (eI hcv6) (A.D 0 (vS al d105.toList cl) (fN hcv6)<|A.s<|A.k [.p,.w ((j3-1:Nat):Int),.p] [92,94] [(9,c_ (j3-1:Nat))] [] (o1<|wi ((j3:Int)-1) ((j3-1:Nat):Int)<|by omega) ?_)
    have hst_:shiftDown ltInt j3 d3=_:=U1 (by omega)<|by omega
    refine A.Z ((j3-1:Nat),d105) ⟨(by(rw[hdd105];exact hst_.symm.trans hsd)),(by omega),(by omega)⟩ (by(simp;omega)) ?_
    exact A.J [0]
   have p6:=of_decide_eq_false e6
   refine A.aA<|A.d ?_
   have hF1:d3=fixDown ltInt a i2 (swp d1 i2<|i2-1):=(by unfold fixDown;rw[←hdd101];(rw[if_pos<|by omega,←hsd,show j3=0 by omega];rfl))
   refine A.s<|A.k [.p,.p,.w ((b-i2:Nat):Int),.p] [9,65] [(98,xI b i2)] [] (o1<|wi ((b:Int)-(i2:Int)) ((b-i2:Nat):Int)<|by omega)<|A.v rfl (fun e11=>?_) (fun e11=>?_)
   ·have p11:=of_decide_eq_true e11
    refine A.c<|A.k [.p,.w ((i2+1:Nat):Int),.p] [98] (sR i2) [] (o1<|wi ((i2:Int)+1) ((i2+1:Nat):Int)<|by omega)<|A.y<|A.lp (σ:=Nat×(Array Int)) [] (fun(j4,d4)=>[(10,c_ j4),(0,vS al d4.toList cl)]) [0] (fun(j4,d4)=>[sU al d4.toList cl]) (fun(j4,d4)=>(shiftUp ltInt b j4 d4=shiftUp ltInt b (i2+1) d3)∧(d4.size=d.size)∧(1≤j4∧j4≤b)) (fun(j4,d4)=>b-j4) ((i2+1:Nat),d3) ⟨(by rfl),(by omega),(by omega)⟩ ?_ ?_
    ·exact A.J [0]
    rintro⟨j4,d4⟩ ⟨hsu,hz4,hj4⟩
    refine A.d<|A.c<|A.h (ps 3) [(1,c_ a),(2,c_ b),(8,c_ k),(7,c_ i2),(10,c_ j4),(0,vS al d4.toList cl),(103,b_<|decide ((j4:Int)<(b:Int)))] []<|A.v rfl (fun e12=>?_) (fun e12=>?_)
    ·have p12:=of_decide_eq_true e12
     refine A.p<|A.d<|A.y<|A.d<|A.d<|A.ka [.p,.p,.ix,.rd [u_<|d4[j4]!],.p,.p,.w ((j4-1:Nat):Int),.ix,.rd [u_<|d4[(j4-1:Nat)]!],.cq<|b_<|decide ((d4[j4]!)<(d4[(j4-1:Nat)]!)),.p] (rg 0 11) [103] [(116,b_ (!(decide ((d4[j4]!)<(d4[(j4-1:Nat)]!)))))] [] (oc (dW 0 j4 dI rfl (by(simp;omega)))<|oc (eJ 0 j4 [u_<|d4[j4]!] dI rfl (fB<|by omega))<|oc (wi ((j4:Int)-1) ((j4-1:Nat):Int)<|by omega)<|oc (dW 0 (j4-1:Nat) dI rfl (by(simp;omega)))<|oc (eJ 0 (j4-1:Nat) [u_<|d4[(j4-1:Nat)]!] dI rfl (fB<|by omega))<|o1<|qo<|fun w s=>js (d4[j4]!) (d4[(j4-1:Nat)]!) w)<|A.v rfl (fun e13=>?_) (fun e13=>?_)
     ·have p13:=e13;try simp only[dc] at p13
      refine A.aA<|A.te<|A.bm rfl ((A.s<|A.k [.p,.w ((k+1:Nat):Int),.p] [10,116] [(8,c_ (k+1:Nat))] [] (o1<|wi ((k:Int)+1) ((k+1:Nat):Int)<|by omega) ?_))
      have hF2:d4=fixUp ltInt b i2 d3:=(by unfold fixUp;(rw[if_pos<|by omega,←hsu,DD (by omega)<|by omega];done))
      have hst_:partialIns ltInt a b (5-(k+1)+1) i1 d1=_:=pD (s:=5-(k+1)) hI (by omega) (by omega) hF1 hF2
      refine A.Z ((k+1:Nat),i2,d4) ⟨(by(rw[nA<|by omega] at he;exact hst_.symm.trans he)),(by omega),(by omega)⟩ (by(simp;omega)) ?_
      exact A.J [0]
     have p13:=e13;try simp only[dc] at p13
     refine A.p<|A.O [15,17] 18<|A.kd 3 [.p,.p,.p,.p,.w ((j4-1:Nat):Int),.p,.p,.w ((j4-1:Nat):Int),.ix,.rd [u_<|d4[(j4-1:Nat)]!],.p,.p,.ix,.rd [u_<|d4[j4]!],.ix] (rg 0 15) [116] (BB al d4 cl j4) [] (oc (wi ((j4:Int)-1) ((j4-1:Nat):Int)<|by omega)<|oc (wi ((j4:Int)-1) ((j4-1:Nat):Int)<|by omega)<|oc (dW 0 (j4-1:Nat) dI rfl (by(simp;omega)))<|oc (eJ 0 (j4-1:Nat) [u_<|d4[(j4-1:Nat)]!] dI rfl (fB<|by omega))<|oc (dW 0 j4 dI rfl (by(simp;omega)))<|oc (eJ 0 j4 [u_<|d4[j4]!] dI rfl (fB<|by omega))<|o1<|dW 0 j4 dI rfl (by(simp;omega)))<|A.F 15 rfl (A.sS 0 j4 (d4[(j4-1:Nat)]!) rfl dI (by(simp;omega)) (A.D 0 (nc al d4 j4 cl) (dh<|by simp)<|A.D 119 (nc al d4 j4 cl) (dh<|by simp)<|A.E<|A.kd 1 [.ix] [16] [119,121,126,131] (BA al j4) [] (o1<|dW 0 (j4-1:Nat) dI rfl (by(simp;omega)))<|A.F 17 rfl (A.sS 0 (j4-1:Nat) (d4[j4]!) rfl dI (by(simp;omega)) (A.D 0 (u6 al d4 j4 cl) (dh<|by simp)<|A.E<|A.M ?_))))
     obtain⟨d107,hdd107⟩: ∃z,z=swp d4 j4 (j4-1:Nat):=⟨_,rfl⟩;have hszd107:d107.size=d4.size:=(by rw[hdd107];exact jH _ _ _)
     have hcv8:((d4.toList.set j4<|d4[(j4-1:Nat)]!).set (j4-1:Nat) (d4[j4]!))=d107.toList:=by rw[hdd107];exact lL _ _ _
     refine A.su 0 (sU al d107.toList cl) rfl (eI hcv8) (A.D 0 (vS al d107.toList cl) (fN hcv8)<|A.s<|A.k [.p,.w ((j4+1:Nat):Int),.p] [130,132] (sR j4) [] (o1<|wi ((j4:Int)+1) ((j4+1:Nat):Int)<|by omega) ?_)
     have hst_:shiftUp ltInt b j4 d4=_:=DC (by omega)<|by omega
     refine A.Z ((j4+1:Nat),d107) ⟨(by(rw[hdd107];exact hst_.symm.trans hsu)),(by omega),(by omega)⟩ (by(simp;omega)) ?_
     exact A.J [0]
    have p12:=of_decide_eq_false e12
    refine A.aA<|A.s<|A.k [.p,.w ((k+1:Nat):Int),.p] [10,103] [(8,c_ (k+1:Nat))] [] (o1<|wi ((k:Int)+1) ((k+1:Nat):Int)<|by omega) ?_
    have hF2:d4=fixUp ltInt b i2 d3:=(by unfold fixUp;(rw[if_pos<|by omega,←hsu,DF<|by omega];done))
    have hst_:partialIns ltInt a b (5-(k+1)+1) i1 d1=_:=pD (s:=5-(k+1)) hI (by omega) (by omega) hF1 hF2
    refine A.Z ((k+1:Nat),i2,d4) ⟨(by(rw[nA<|by omega] at he;exact hst_.symm.trans he)),(by omega),(by omega)⟩ (by(simp;omega)) ?_
    exact A.J [0]
   have p11:=of_decide_eq_false e11
   refine A.p<|A.s<|A.k [.p,.w ((k+1:Nat):Int),.p] [98] [(8,c_ (k+1:Nat))] [] (o1<|wi ((k:Int)+1) ((k+1:Nat):Int)<|by omega) ?_
   have hF2:d3=fixUp ltInt b i2 d3:=(by unfold fixUp;(rw[if_neg<|by omega];done))
   have hst_:partialIns ltInt a b (5-(k+1)+1) i1 d1=_:=pD (s:=5-(k+1)) hI (by omega) (by omega) hF1 hF2
   refine A.Z ((k+1:Nat),i2,d3) ⟨(by(rw[nA<|by omega] at he;exact hst_.symm.trans he)),(by omega),(by omega)⟩ (by(simp;omega)) ?_
   exact A.J [0]
  have p5:=of_decide_eq_false e5
  refine A.p<|A.d ?_
  have hF1:d101=fixDown ltInt a i2 (swp d1 i2<|i2-1):=(by unfold fixDown;rw[←hdd101];(rw[if_neg<|by omega];done))
  refine A.s<|A.k [.p,.p,.w ((b-i2:Nat):Int),.p] [61] [(98,xI b i2)] [] (o1<|wi ((b:Int)-(i2:Int)) ((b-i2:Nat):Int)<|by omega)<|A.v rfl (fun e14=>?_) (fun e14=>?_)
  ·have p14:=of_decide_eq_true e14
   refine A.c<|A.k [.p,.w ((i2+1:Nat):Int),.p] [98] (sR i2) [] (o1<|wi ((i2:Int)+1) ((i2+1:Nat):Int)<|by omega)<|A.y<|A.lp (σ:=Nat×(Array Int)) [] (fun(j4,d4)=>[(10,c_ j4),(0,vS al d4.toList cl)]) [0] (fun(j4,d4)=>[sU al d4.toList cl]) (fun(j4,d4)=>(shiftUp ltInt b j4 d4=shiftUp ltInt b (i2+1) d101)∧(d4.size=d.size)∧(1≤j4∧j4≤b)) (fun(j4,d4)=>b-j4) ((i2+1:Nat),d101) ⟨(by rfl),(by omega),(by omega)⟩ ?_ ?_
   ·exact A.J [0]
   rintro⟨j4,d4⟩ ⟨hsu,hz4,hj4⟩
   refine A.d<|A.c<|A.g (ps 3) [] [(103,b_<|decide ((j4:Int)<(b:Int)))]<|A.v rfl (fun e15=>?_) (fun e15=>?_)
   ·have p15:=of_decide_eq_true e15
    refine A.p<|A.d<|A.y<|A.d<|A.d<|A.ka [.p,.p,.ix,.rd [u_<|d4[j4]!],.p,.p,.w ((j4-1:Nat):Int),.ix,.rd [u_<|d4[(j4-1:Nat)]!],.cq<|b_<|decide ((d4[j4]!)<(d4[(j4-1:Nat)]!)),.p] (rg 0 11) [103] [(116,b_ (!(decide ((d4[j4]!)<(d4[(j4-1:Nat)]!)))))] [] (oc (dW 0 j4 dI rfl (by(simp;omega)))<|oc (eJ 0 j4 [u_<|d4[j4]!] dI rfl (fB<|by omega))<|oc (wi ((j4:Int)-1) ((j4-1:Nat):Int)<|by omega)<|oc (dW 0 (j4-1:Nat) dI rfl (by(simp;omega)))<|oc (eJ 0 (j4-1:Nat) [u_<|d4[(j4-1:Nat)]!] dI rfl (fB<|by omega))<|o1<|qo<|fun w s=>js (d4[j4]!) (d4[(j4-1:Nat)]!) w)<|A.v rfl (fun e16=>?_) (fun e16=>?_)
    ·have p16:=e16;try simp only[dc] at p16
     refine A.aA<|A.te<|A.bm rfl ((A.s<|A.k [.p,.w ((k+1:Nat):Int),.p] [10,116] [(8,c_ (k+1:Nat))] [] (o1<|wi ((k:Int)+1) ((k+1:Nat):Int)<|by omega) ?_))
     have hF2:d4=fixUp ltInt b i2 d101:=(by unfold fixUp;(rw[if_pos<|by omega,←hsu,DD (by omega)<|by omega];done))
     have hst_:partialIns ltInt a b (5-(k+1)+1) i1 d1=_:=pD (s:=5-(k+1)) hI (by omega) (by omega) hF1 hF2
     refine A.Z ((k+1:Nat),i2,d4) ⟨(by(rw[nA<|by omega] at he;exact hst_.symm.trans he)),(by omega),(by omega)⟩ (by(simp;omega)) ?_
     exact A.J [0]
    have p16:=e16;try simp only[dc] at p16
    refine A.p<|A.O [15,17] 18<|A.kd 3 [.p,.p,.p,.p,.w ((j4-1:Nat):Int),.p,.p,.w ((j4-1:Nat):Int),.ix,.rd [u_<|d4[(j4-1:Nat)]!],.p,.p,.ix,.rd [u_<|d4[j4]!],.ix] (rg 0 15) [116] (BB al d4 cl j4) [] (oc (wi ((j4:Int)-1) ((j4-1:Nat):Int)<|by omega)<|oc (wi ((j4:Int)-1) ((j4-1:Nat):Int)<|by omega)<|oc (dW 0 (j4-1:Nat) dI rfl (by(simp;omega)))<|oc (eJ 0 (j4-1:Nat) [u_<|d4[(j4-1:Nat)]!] dI rfl (fB<|by omega))<|oc (dW 0 j4 dI rfl (by(simp;omega)))<|oc (eJ 0 j4 [u_<|d4[j4]!] dI rfl (fB<|by omega))<|o1<|dW 0 j4 dI rfl (by(simp;omega)))<|A.F 15 rfl (A.sS 0 j4 (d4[(j4-1:Nat)]!) rfl dI (by(simp;omega)) (A.D 0 (nc al d4 j4 cl) (dh<|by simp)<|A.D 119 (nc al d4 j4 cl) (dh<|by simp)<|A.E<|A.kd 1 [.ix] [16] [119,121,126,131] (BA al j4) [] (o1<|dW 0 (j4-1:Nat) dI rfl (by(simp;omega)))<|A.F 17 rfl (A.sS 0 (j4-1:Nat) (d4[j4]!) rfl dI (by(simp;omega)) (A.D 0 (u6 al d4 j4 cl) (dh<|by simp)<|A.E<|A.M ?_))))
    obtain⟨d109,hdd109⟩: ∃z,z=swp d4 j4 (j4-1:Nat):=⟨_,rfl⟩;have hszd109:d109.size=d4.size:=(by rw[hdd109];exact jH _ _ _)
    have hcv10:((d4.toList.set j4<|d4[(j4-1:Nat)]!).set (j4-1:Nat) (d4[j4]!))=d109.toList:=by rw[hdd109];exact lL _ _ _
    refine A.su 0 (sU al d109.toList cl) rfl (eI hcv10) (A.D 0 (vS al d109.toList cl) (fN hcv10)<|A.s<|A.k [.p,.w ((j4+1:Nat):Int),.p] [130,132] (sR j4) [] (o1<|wi ((j4:Int)+1) ((j4+1:Nat):Int)<|by omega) ?_)
    have hst_:shiftUp ltInt b j4 d4=_:=DC (by omega)<|by omega
    refine A.Z ((j4+1:Nat),d109) ⟨(by(rw[hdd109];exact hst_.symm.trans hsu)),(by omega),(by omega)⟩ (by(simp;omega)) ?_
    exact A.J [0]
   have p15:=of_decide_eq_false e15
   refine A.aA<|A.s<|A.k [.p,.w ((k+1:Nat):Int),.p] [10,103] [(8,c_ (k+1:Nat))] [] (o1<|wi ((k:Int)+1) ((k+1:Nat):Int)<|by omega) ?_
   have hF2:d4=fixUp ltInt b i2 d101:=(by unfold fixUp;(rw[if_pos<|by omega,←hsu,DF<|by omega];done))
   have hst_:partialIns ltInt a b (5-(k+1)+1) i1 d1=_:=pD (s:=5-(k+1)) hI (by omega) (by omega) hF1 hF2
   refine A.Z ((k+1:Nat),i2,d4) ⟨(by(rw[nA<|by omega] at he;exact hst_.symm.trans he)),(by omega),(by omega)⟩ (by(simp;omega)) ?_
   exact A.J [0]
  have p14:=of_decide_eq_false e14
  refine A.p<|A.s<|A.k [.p,.w ((k+1:Nat):Int),.p] [98] [(8,c_ (k+1:Nat))] [] (o1<|wi ((k:Int)+1) ((k+1:Nat):Int)<|by omega) ?_
  have hF2:d101=fixUp ltInt b i2 d101:=(by unfold fixUp;(rw[if_neg<|by omega];done))
  have hst_:partialIns ltInt a b (5-(k+1)+1) i1 d1=_:=pD (s:=5-(k+1)) hI (by omega) (by omega) hF1 hF2
  refine A.Z ((k+1:Nat),i2,d101) ⟨(by(rw[nA<|by omega] at he;exact hst_.symm.trans he)),(by omega),(by omega)⟩ (by omega) ?_
  exact A.J [0]
 have p1:=of_decide_eq_false e1
 refine A.aA<|A.c<|A.g [.p] [1,2,8,7,0,14] [(6,b_ false)]<|A.e<|A.Y [0] [b_ false] (false,d1) ?_ ?_
 ·rfl
 (refine⟨?_,by omega⟩;rw[show 5-k=0 by omega] at he;exact he.symm)
def iy(l:List Int):List Int:=l.mergeSort fun x y=>decide (x≤y)
theorem vl(l:List Int):(iy l).length=l.length:=by unfold iy;simp
theorem Nn{l:List Int}{d':Array Int}(h:PermIn 0 l.length l.toArray d'∧SortedIn ltInt 0 l.length d'):d'.toList=iy l:=by
 have e:=sorted_unique_holds (lt:=ltInt) swo_ltInt (fun x y h1 h2=>by simp only[ltInt,decide_eq_false_iff_not] at h1 h2;omega) l.toArray d' (by simpa using h.1)<|by simpa using h.2
 rw[e];unfold iy
 congr 1;funext x y;simp only[ltInt]
 rw[Bool.eq_iff_iff];simp
theorem KG(al:Option Addr)(d:Array Int)(cl:Nat)(a b lim:Nat)(ih: ∀(al':Option Addr)(d':Array Int)(cl':Nat)(a' b' lim':Nat),b'-a'<b-a→ ∀(hb:a'≤b'∧b'≤d'.size)(hS:d'.size≤100000)(hl:lim'≤64)(hB:Below ltInt a' b' d')(w:World)(hs:HI w [sU al' d'.toList cl']),Calls Tryz.prog 259 #[vS al' d'.toList cl',c_ a',c_ b',c_ lim'] w fun e w'=> ∃zz,e= .returned ((fun(dz:(Array Int))=>(.tuple #[])) zz)∧(fun(dz:(Array Int))=>PermIn a' b' d' dz∧SortedIn ltInt a' b' dz) zz∧Turn [sU al' d'.toList cl'] ((fun(dz:(Array Int))=>[sU al' dz.toList cl']) zz) w w')(hb:a≤b∧b≤d.size)(hS:d.size≤100000)(hl:lim≤64)(hB:Below ltInt a b d)(w:World)(hs:HS w (dE [sU al d.toList cl]) [sU al d.toList cl] w):
  CV 259 #[vS al d.toList cl,c_ a,c_ b,c_ lim] w [sU al d.toList cl] (fun(dz:(Array Int))=>(.tuple #[])) (fun dz=>PermIn a b d dz∧SortedIn ltInt a b dz) fun dz=>[sU al dz.toList cl]:=by
 refine A.C Tryz.func259 rfl hs (A.c<|A.g [.p] [] [(8,b_ true)]<|A.c<|A.g [.p] [] [(9,b_ true)]<|A.y<|A.lp (σ:=Nat×Nat×Nat×(Array Int)×Bool×Bool) [] (fun(a2,b2,l2,d2,wb,wp)=>[(1,c_ a2),(2,c_ b2),(3,c_ l2),(0,vS al d2.toList cl),(8,b_ wb),(9,b_ wp)]) [0] (fun(a2,b2,l2,d2,wb,wp)=>[sU al d2.toList cl]) (fun(a2,b2,l2,d2,wb,wp)=>(∀R,PermIn a2 b2 d2 R→SortedIn ltInt a2 b2 R→PermIn a b d R∧SortedIn ltInt a b R)∧(d2.size=d.size)∧(Below ltInt a2 b2 d2)∧(a≤a2∧a2≤b2∧b2≤b∧l2≤64)) (fun(a2,b2,l2,d2,wb,wp)=>b2-a2) (a,b,lim,d,true,true) ⟨(fun R h1 h2=>⟨h1,h2⟩),(by rfl),hB,(by omega)⟩ ?_ ?_)
 ·exact A.J [0]
 rintro⟨a2,b2,l2,d2,wb,wp⟩ ⟨he,hz,hB2,hr⟩
 refine A.y<|A.c<|A.k [.p,.p,.w ((b2-a2:Nat):Int),.p] [] [(10,c_ (b2-a2:Nat))] [] (o1<|wi ((b2:Int)-(a2:Int)) ((b2-a2:Nat):Int)<|by omega)<|A.d<|A.c<|A.g [.p,.p] [] [(23,b_<|decide (((b2-a2:Nat):Int)≤12))]<|A.v rfl (fun e1=>?_) (fun e1=>?_)
 ·have p1:=of_decide_eq_true e1
  refine A.c<|A.N (ps 3) [1,2,3,0,8,9,10,23] [(24,vS al d2.toList cl),(25,c_ a2),(26,c_ b2)]<|A.j<|A.I (some 27) [0] (fun w s h=>Lq al d2 cl a2 b2 (by omega) (by omega) w h) ?_
  rintro d'1 hz2
  refine A.D 24 (vS al d'1.toList cl) (dh<|by(simp only[Array.length_toList];exact hz2.2.symm))<|A.aB<|A.e<|A.aG [0] [] (fun _ w r s=>trivial) (d'1) ?_ ?_<|by kernel_rfl
  ·rfl
  (have h_:=(by assumption:_=insertionSort ltInt d2 a2 b2∧_);rw[h_.1];have h2_:=insertionSort_holds (lt:=ltInt) swo_ltInt d2 a2 b2 (by omega) (by omega);exact he _ h2_.1 h2_.2)
 have p1:=of_decide_eq_false e1
 refine A.p<|A.d<|A.c<|A.g [.p,.p] [23] [(29,b_<|(l2:Int)==0)]<|A.v rfl (fun e3=>?_) (fun e3=>?_)
 ·refine A.c<|A.N (ps 3) [1,2,3,0,8,9,10,29] [(30,vS al d2.toList cl),(31,c_ a2),(32,c_ b2)]<|A.j<|A.I (some 33) [0] (fun w s h=>LI al d2 cl a2 b2 (by omega) (by omega) w h) ?_
  rintro d'2 hz4
  refine A.D 30 (vS al d'2.toList cl) (dh<|by(simp only[Array.length_toList];exact hz4.2.symm))<|A.aB<|A.e<|A.aG [0] [] (fun _ w r s=>trivial) (d'2) ?_ ?_<|by kernel_rfl
  ·rfl
  (have h_:=(by assumption:_=heapSort ltInt d2 a2 b2∧_);rw[h_.1];have h2_:=heapSort_holds (lt:=ltInt) swo_ltInt d2 a2 b2 (by omega) (by omega);exact he _ h2_.1 h2_.2)
 have p3:=e3;try simp only[dc] at p3
 refine A.p<|A.bN (fun((l3,d3):Nat×(Array Int))=>[(1,c_ a2),(2,c_ b2),(8,b_ wb),(9,b_ wp),(10,c_ (b2-a2:Nat)),(3,c_ l3),(0,vS al d3.toList cl)]) (fun((l3,d3):Nat×(Array Int))=>[sU al d3.toList cl]) (fun((l3,d3):Nat×(Array Int))=>(PermIn a2 b2 d2 d3∧d3.size=d.size)∧(l3≤64)) ?_ ?_
 ·refine A.c<|A.g [.p,.p] [29] [(35,b_ (!wb))]<|A.cn (!wb) (fun e5=>?_)<|fun e5=>?_
  ·have p5:=e5
   refine A.c<|A.N (ps 3) [35] [(36,vS al d2.toList cl),(37,c_ a2),(38,c_ b2)]<|A.j<|A.I (some 39) [0] (fun w s h=>Nl al d2 cl a2 b2 (by omega) (by omega) w h) ?_
   rintro d'3 hz6
   refine A.D 0 (vS al d'3.toList cl) (dh<|by(simp only[Array.length_toList];exact hz6.2.symm))<|A.D 36 (vS al d'3.toList cl) (dh<|by(simp only[Array.length_toList];exact hz6.2.symm))<|A.aB<|A.s<|A.k [.p,.w ((l2-1:Nat):Int),.p] [36,37,38,39] [(3,c_ (l2-1:Nat))] [] (o1<|wi ((l2:Int)-1) ((l2-1:Nat):Int)<|by omega)<|A.aK ((l2-1:Nat),d'3) ⟨(by(have h_:=(by assumption:PermIn a2 b2 d2 _∧_);exact⟨h_.1,by omega⟩)),(by omega)⟩ ?_
   exact A.J [0]
  refine A.p<|A.aK (l2,d2) ⟨⟨permIn_refl _ _ _,hz⟩,(by omega)⟩ ?_
  exact A.J [0]
 rintro⟨l3,d3⟩ ⟨hp3,hl3⟩
 refine A.c<|A.N (ps 3) [] [(43,vS al d3.toList cl),(44,c_ a2),(45,c_ b2)]<|A.j<|A.I (some 46) [0] (fun w s h=>Nj al d3 cl a2 b2 (by omega) (by omega) w h) ?_
 rintro⟨⟩-
 refine A.g (ps 5) [43,44,45,46] [(11,i_ ((rawPivot ltInt d3 a2 b2).1:Int)),(12,i_<|hintCode<|hintOf (rawPivot ltInt d3 a2 b2).2)]<|A.bN (fun((p4,h4,d4):Nat×Int×(Array Int))=>[(1,c_ a2),(2,c_ b2),(8,b_ wb),(9,b_ wp),(10,c_ (b2-a2:Nat)),(3,c_ l3),(11,c_ p4),(12,i_ h4),(0,vS al d4.toList cl)]) (fun((p4,h4,d4):Nat×Int×(Array Int))=>[sU al d4.toList cl]) (fun((p4,h4,d4):Nat×Int×(Array Int))=>(PermIn a2 b2 d2 d4∧d4.size=d.size)∧(a2≤p4∧p4<b2)) ?_ ?_
 ·refine A.d ?_
  have hcp:=choosePivot_holds ltInt d3 a2 b2 (by omega);rw[choosePivot_eq] at hcp;simp only[] at hcp
  obtain⟨pv,hpv_⟩: ∃z,z=(rawPivot ltInt d3 a2 b2).1:=⟨_,rfl⟩;rw[←hpv_] at hcp
  refine A.D 11 (c_ pv) (mE<|by rw[hpv_]) ?_
  obtain⟨hc,hhc_⟩: ∃z,z=(hintCode<|hintOf (rawPivot ltInt d3 a2 b2).2):=⟨_,rfl⟩
  refine A.D 12 (i_ hc) (mE<|by rw[hhc_])<|A.s<|A.g [.p,.p] [] [(50,b_<|hc==2)]<|A.cn (hc==2) (fun e8=>?_)<|fun e8=>?_
  ·refine A.c<|A.N (ps 3) [12,50] [(51,vS al d3.toList cl),(52,c_ a2),(53,c_ b2)]<|A.j<|A.I (some 54) [0] (fun w s h=>Lr al d3 cl a2 b2 (by omega) (by omega) w h) ?_
   rintro d'4 hz9
   refine A.D 0 (vS al d'4.toList cl) (dh<|by(simp only[Array.length_toList];exact hz9.2.symm))<|A.D 51 (vS al d'4.toList cl) (dh<|by(simp only[Array.length_toList];exact hz9.2.symm))<|A.aB<|A.c<|A.k [.p,.w ((b2-1:Nat):Int),.p,.p,.w ((pv-a2:Nat):Int),.w (((b2-1)-(pv-a2):Nat):Int),.p] [51,52,53,54] [(11,c_ ((b2-1)-(pv-a2):Nat))] [] (oc (wi ((b2:Int)-1) ((b2-1:Nat):Int)<|by omega)<|oc (wi ((pv:Int)-(a2:Int)) ((pv-a2:Nat):Int)<|by omega)<|o1<|wi (((b2-1:Nat):Int)-((pv-a2:Nat):Int)) (((b2-1)-(pv-a2):Nat):Int)<|by omega)<|A.s<|A.g [.p] [] [(12,i_ 1)]<|A.aK (((b2-1)-(pv-a2):Nat),1,d'4) ⟨(by(have h_:=(by assumption:_=reverseRange d3 a2 b2∧_);refine⟨permIn_trans _ _ _ a2 b2 hp3.1 ?_,by omega⟩;rw[h_.1];exact reverseRange_holds d3 a2 b2 (by omega)<|by omega)),(by omega)⟩ ?_
   exact A.J [0]
  refine A.p<|A.aK (pv,hc,d3) ⟨hp3,(by omega)⟩ ?_
  exact A.J [0]
 rintro⟨p4,h4,d4⟩ ⟨hp4,hpv⟩
 refine A.bN (fun(zz:(Array Int))=>match zz with|d5=>[(1,c_ a2),(2,c_ b2),(8,b_ wb),(9,b_ wp),(10,c_ (b2-a2:Nat)),(3,c_ l3),(11,c_ p4),(0,vS al d5.toList cl)]) (fun(zz:(Array Int))=>match zz with|d5=>[sU al d5.toList cl]) (fun(zz:(Array Int))=>match zz with|d5=>(PermIn a2 b2 d2 d5∧d5.size=d.size)) ?_ ?_
 ·refine A.c<|A.g [.p,.p,.o,.p,.cl,.p,.o,.p,.p,.cl] [12] [(68,b_<|(wb&&wp)&&(h4==1))]<|A.v rfl (fun e10=>?_) (fun e10=>?_)
  ·refine A.c<|A.N (ps 3) [68] [(69,vS al d4.toList cl),(70,c_ a2),(71,c_ b2)]<|A.j<|A.I (some 72) [0] (fun w s h=>Lx al d4 cl a2 b2 (by omega) (by omega) w h) ?_
   rintro⟨q'5,d'6⟩ hz11
   refine A.D 0 (vS al d'6.toList cl) (dh<|by(simp only[Array.length_toList];exact hz11.2.symm))<|A.D 69 (vS al d'6.toList cl) (dh<|by(simp only[Array.length_toList];exact hz11.2.symm))<|A.aB<|A.cn (q'5) (fun e12=>?_)<|fun e12=>?_
   ·refine A.e<|A.aG [0] [] (fun _ w r s=>trivial) (d'6) ?_ ?_<|by kernel_rfl
    ·rfl
    (have h_:=(by assumption:partialInsertionSort ltInt d4 a2 b2=_∧_);have h2_:=partialInsertionSort_holds (lt:=ltInt) swo_ltInt d4 a2 b2 (by omega) (by omega)<|hB2.perm (by omega) hp4.1;rw[h_.1] at h2_;exact he _ (permIn_trans _ _ _ a2 b2 hp4.1 h2_.1)<|h2_.2 ‹_›)
   refine A.p<|A.aK (d'6) (by(have h_:=(by assumption:partialInsertionSort ltInt d4 a2 b2=_∧_);have h2_:=partialInsertionSort_holds (lt:=ltInt) swo_ltInt d4 a2 b2 (by omega) (by omega)<|hB2.perm (by omega) hp4.1;rw[h_.1] at h2_;exact⟨permIn_trans _ _ _ a2 b2 hp4.1 h2_.1,by omega⟩)) ?_
   exact A.J [0]
  refine A.p<|A.aK (d4) hp4 ?_
  exact A.J [0]
 rintro d5 hp5
 have hp5:PermIn a2 b2 d2 d5∧d5.size=d.size:=hp5
 have hB5:Below ltInt a2 b2 d5:=hB2.perm (by omega) hp5.1
 refine A.d<|A.d<|A.ka [.p,.p,.p,.o,.p,.p,.w ((a2-1:Nat):Int),.ix,.rd [u_<|d5[(a2-1:Nat)]!],.p,.p,.ix,.rd [u_<|d5[p4]!],.cq<|b_<|decide ((d5[(a2-1:Nat)]!)<(d5[p4]!)),.p,.cl] (rg 0 15) [] [(87,b_<|(decide ((a2:Int)>0))&&(!(decide ((d5[(a2-1:Nat)]!)<(d5[p4]!)))))] [] (oc (go (true&&((decide ((a2:Int)>0))==true)) fun h_=>(wo<|(km (e:=(a2:Int)-1)<|by(constructor<;>omega)).trans (by(simp at h_;omega):((a2:Int)-1:Int)=((a2-1:Nat):Int))))<|oc (go (true&&((decide ((a2:Int)>0))==true)) fun h_=>(dW 0 (a2-1:Nat) dI rfl (by(simp;omega))))<|oc (go (true&&((decide ((a2:Int)>0))==true)) fun h_=>(eJ 0 (a2-1:Nat) [u_<|d5[(a2-1:Nat)]!] dI rfl (fB<|by omega)))<|oc (go (true&&((decide ((a2:Int)>0))==true)) fun h_=>(dW 0 p4 dI rfl (by(simp;omega))))<|oc (go (true&&((decide ((a2:Int)>0))==true)) fun h_=>(eJ 0 p4 [u_<|d5[p4]!] dI rfl (fB<|by omega)))<|o1<|go (true&&((decide ((a2:Int)>0))==true)) fun h_=>(qo<|fun w s=>js (d5[(a2-1:Nat)]!) (d5[p4]!) w)) ?_
 refine A.v rfl (fun e13=>?_) (fun e13=>?_)
 ·have p13:=e13;try simp only[dc] at p13
  refine A.c<|A.N (ps 4) [1,10,11,87] [(88,vS al d5.toList cl),(89,c_ a2),(90,c_ b2),(91,c_ p4)]<|A.j<|A.I (some 92) [0] (fun w s h=>LJ al d5 cl a2 b2 p4 (by omega) (by omega) w h) ?_
  rintro⟨m'7,d'8⟩ hz14
  refine A.D 0 (vS al d'8.toList cl) (dh<|by(simp only[Array.length_toList];exact hz14.2.symm))<|A.D 88 (vS al d'8.toList cl) (dh<|by(simp only[Array.length_toList];exact hz14.2.symm))<|A.g [.p] [88,89,90,91,92] [(13,c_ m'7)]<|A.d ?_
  have hx_:=(by assumption:partitionEqual ltInt d5 a2 b2 p4=_∧_);have hnl_:ltInt d5[a2-1]! d5[p4]! =false:=(by unfold ltInt;simp_all);obtain⟨rq1,rq2,rqS,rqB,rqE⟩:=round_eq swo_ltInt (partitionEqual_holds (lt:=ltInt)) (by omega) hpv.1 hpv.2 (by omega) hB5 hnl_ hx_.1
  refine A.s<|A.g [.p,.p] [13] [(1,c_ m'7)]<|A.aA<|A.Z (m'7,b2,l3,d'8,wb,wp) ⟨(fun R h1 h2=>he R (permIn_trans _ _ _ a2 b2 hp5.1 (rqE R h1 h2).1) (rqE R h1 h2).2),(by omega),rqB,(by omega)⟩ (by(simp;omega)) ?_
  exact A.J [0]
 refine A.p<|A.c<|A.N (ps 4) [8,9,11,87] [(95,vS al d5.toList cl),(96,c_ a2),(97,c_ b2),(98,c_ p4)]<|A.j<|A.I (some 99) [0] (fun w s h=>Lt al d5 cl a2 b2 p4 (by omega) (by omega) w h) ?_
 rintro⟨m'9,q'10,d'11⟩ hz15
 refine A.D 0 (vS al d'11.toList cl) (dh<|by(simp only[Array.length_toList];exact hz15.2.symm))<|A.D 95 (vS al d'11.toList cl) (dh<|by(simp only[Array.length_toList];exact hz15.2.symm))<|A.g (ps 5) [95,96,97,98,99] [(14,c_ m'9),(15,b_ q'10)]<|A.c<|A.g [.p,.p] [15] [(9,b_ q'10)]<|A.d ?_
 have hx_:=(by assumption:partition ltInt d5 a2 b2 p4=_∧_);obtain⟨rp1,rp2,rp3,rp4,rp5,rpL,rpR⟩:=round_part swo_ltInt (partition_holds (lt:=ltInt)) hpv.1 hpv.2 (by omega) hB5 hx_.1
 refine A.s<|A.k [.p,.p,.w ((m'9-a2:Nat):Int),.p,.p,.w ((b2-m'9:Nat):Int),.p,.p] [] [(16,c_ (m'9-a2:Nat)),(17,c_ (b2-m'9:Nat))] [] (oc (wi ((m'9:Int)-(a2:Int)) ((m'9-a2:Nat):Int)<|by omega)<|o1<|wi ((b2:Int)-(m'9:Int)) ((b2-m'9:Nat):Int)<|by omega)<|A.c<|A.k [.p,.w (((b2-a2)/8:Nat):Int),.p] [10] [(18,c_ ((b2-a2)/8:Nat))] [] (o1<|wo<|(km (e:=((b2-a2:Nat):Int).tdiv 8)<|by(rw[S9];constructor<;>omega)).trans (by rfl:(((b2-a2:Nat):Int).tdiv 8:Int)=(((b2-a2)/8:Nat):Int))) ?_
 refine A.c<|A.g (ps 3) [] [(113,b_<|decide (((m'9-a2:Nat):Int)<((b2-m'9:Nat):Int)))]<|A.v rfl (fun e16=>?_) (fun e16=>?_)
 ·have p16:=of_decide_eq_true e16
  refine A.c<|A.h (ps 4) [(1,c_ a2),(2,c_ b2),(3,c_ l3),(0,vS al d'11.toList cl),(14,c_ m'9),(9,b_ q'10),(8,b_<|decide (((m'9-a2:Nat):Int)≥(((b2-a2)/8:Nat):Int)))] []<|A.c<|A.N (ps 4) [1] [(117,vS al d'11.toList cl),(118,c_ a2),(119,c_ m'9),(120,c_ l3)]<|A.j<|A.I (some 121) [0] (fun w s h=>ih al d'11 cl a2 m'9 l3 (by omega) (by omega) (by omega) ‹_› ‹_› w h) ?_
  rintro dz12 hz17
  refine A.D 0 (vS al dz12.toList cl) (dh<|by(simp only[Array.length_toList];exact hz17.1.1.symm))<|A.D 117 (vS al dz12.toList cl) (dh<|by(simp only[Array.length_toList];exact hz17.1.1.symm))<|A.aB ?_
  have hy_:=(by assumption:PermIn a2 _ _ _∧SortedIn ltInt a2 _ _);have rqL:=rpL _ hy_.1 hy_.2;have rqS:=hy_.1.1
  refine A.s<|A.k [.p,.w ((m'9+1:Nat):Int),.p] [14,117,118,119,120,121] [(1,c_ (m'9+1:Nat))] [] (o1<|wi ((m'9:Int)+1) ((m'9+1:Nat):Int)<|by omega)<|(A.Z ((m'9+1:Nat),b2,l3,dz12,decide (((m'9-a2:Nat):Int)≥(((b2-a2)/8:Nat):Int)),q'10) ⟨(fun R h1 h2=>he R (permIn_trans _ _ _ a2 b2 hp5.1 (rqL.2 R h1 h2).1) (rqL.2 R h1 h2).2),(by omega),rqL.1,(by omega)⟩ (by(simp;omega)) ?_)
  exact A.J [0]
 have p16:=of_decide_eq_false e16
 refine A.c<|A.h (ps 4) [(1,c_ a2),(2,c_ b2),(3,c_ l3),(0,vS al d'11.toList cl),(14,c_ m'9),(9,b_ q'10),(8,b_<|decide (((b2-m'9:Nat):Int)≥(((b2-a2)/8:Nat):Int)))] []<|A.c<|A.kp [.p,.p,.w ((m'9+1:Nat):Int),.p,.p] [2] [(127,vS al d'11.toList cl),(129,c_ (m'9+1:Nat)),(130,c_ b2),(131,c_ l3)] [] (o1<|wi ((m'9:Int)+1) ((m'9+1:Nat):Int)<|by omega)<|A.j<|A.I (some 132) [0] (fun w s h=>ih al d'11 cl (m'9+1:Nat) b2 l3 (by omega) (by omega) (by omega) ‹_› ‹_› w h) ?_
 rintro dz13 hz18
 refine A.D 0 (vS al dz13.toList cl) (dh<|by(simp only[Array.length_toList];exact hz18.1.1.symm))<|A.D 127 (vS al dz13.toList cl) (dh<|by(simp only[Array.length_toList];exact hz18.1.1.symm))<|A.aB ?_
 have hy_:=(by assumption:PermIn _ b2 _ _∧SortedIn ltInt _ b2 _);have rqL:=rpR _ hy_.1 hy_.2;have rqS:=hy_.1.1
 refine A.s<|A.g [.p,.p] [14,127,129,130,131,132] [(2,c_ m'9)]<|(A.Z (a2,m'9,l3,dz13,decide (((b2-m'9:Nat):Int)≥(((b2-a2)/8:Nat):Int)),q'10) ⟨(fun R h1 h2=>he R (permIn_trans _ _ _ a2 b2 hp5.1 (rqL.2 R h1 h2).1) (rqL.2 R h1 h2).2),(by omega),rqL.1,(by omega)⟩ (by(simp;omega)) ?_)
 exact A.J [0]
theorem Fp(al:Option Addr)(d:Array Int)(cl:Nat)(a b lim:Nat)(hb:a≤b∧b≤d.size)(hS:d.size≤100000)(hl:lim≤64)(hB:Below ltInt a b d)(w:World)(hs:HS w (dE [sU al d.toList cl]) [sU al d.toList cl] w):
  Calls Tryz.prog 259 #[vS al d.toList cl,c_ a,c_ b,c_ lim] w fun e w'=> ∃zz,e= .returned ((fun(dz:(Array Int))=>(.tuple #[])) zz)∧(fun(dz:(Array Int))=>PermIn a b d dz∧SortedIn ltInt a b dz) zz∧Turn [sU al d.toList cl] ((fun(dz:(Array Int))=>[sU al dz.toList cl]) zz) w w':=
 KG al d cl a b lim (fun al' d' cl' a' b' lim' hlt_ g0_ g1_ g2_ g3_ w_ y_=>Fp al' d' cl' a' b' lim' g0_ g1_ g2_ g3_ w_ y_) hb hS hl hB w hs
termination_by b-a
decreasing_by exact hlt_
theorem LK(ah:Option Addr)(l:List Int)(c:Nat)(hl:l.length≤100000):
  CS 227 #[vS ah l c] [sU ah l c] (fun(zz:Unit)=>(.tuple #[])) (fun _=>True) fun _=>[sU ah (iy l) c]:=by
 intro w hs
 have hbl:Lib.bitLen l.length≤64:=(by rcases Nat.eq_zero_or_pos l.length with h|h;(rw[h];decide);(have:=Et l.length h hl;omega))
 refine A.C Tryz.func227 rfl hs (A.c<|A.g (ps 3) [] [(2,c_ l.length)]<|?_)
 have hcv1:l=l.toArray.toList:=by simp
 refine A.su 0 (sU ah l.toArray.toList c) rfl (eI hcv1) (A.D 0 (vS ah l.toArray.toList c) (fN hcv1)<|A.s<|A.kp [.p,.p,.p,.w (l.length:Int),.cq<|i_ (Lib.bitLen l.length:Int)] [0,2] [(5,vS ah l.toArray.toList c),(6,c_ l.length),(9,i_ (Lib.bitLen l.length:Int))] [] (oc (wv (l.length:Int)<|by omega)<|o1<|qo<|fun w s=>Fo l.length (by omega) w)<|A.j<|A.I (some 10) [0] (fun w s h=>Fp ah l.toArray c 0 l.length (Lib.bitLen l.length) (by(constructor<;>simp)) ‹_› ‹_› (.inl rfl) w h) ?_)
 rintro dz2 hz1
 refine A.D 5 (vS ah dz2.toList c) (dh<|by(simp only[Array.length_toList];exact hz1.1.1.symm))<|A.aB<|A.su 0 (sU ah (iy l) c) rfl (eI (Nn ‹_›:dz2.toList=(iy l))) (A.aN [0] [] (fun _ w r s=>trivial) () ?_ ?_<|by kernel_rfl)
 ·rfl
 trivial
end Go.Proofs.YtobgjpigngoggaaGreat
namespace Go.Proofs.YtobgjpigngoggaaGreat
open Go V Go.Sort
open Go.RowKit Go.Shelf Go.Lib
def jY(l:List Int):List Int:=compactUpTo l.toArray l.toArray.size
theorem Fq(l:List Int):(jY l).length≤l.length:=by
 unfold jY compactUpTo;rw[List.length_map]
 exact Nat.le_trans (List.length_filter_le _ _)<|by simp
def Tryz.cmpU_ren:Go.Shelf.Ren:=⟨fun|43=>228|n=>n,fun|22=>233|23=>40|3=>3|4=>4|0=>0|n=>n,fun|n=>n⟩
theorem Tryz.cmpU:Go.Proofs.SlLaysE.n43 Tryz.prog Tryz.cmpU_ren:={
 mixed:=by kernel_rfl,
 f43:=⟨Tryz.f228.name,by decide,Tryz.func228.trans<|congrArg some<|by kernel_rfl⟩,
 t0:=Tryz.underlying0,
 a0:=Tryz.isAgg0,
 z0:=Tryz.sizeOf0,
 v0:=Tryz.zeroValue0,
 t3:=Tryz.underlying3,
 a3:=Tryz.isAgg3,
 z3:=Tryz.sizeOf3,
 v3:=Tryz.zeroValue3,
 t4:=Tryz.underlying4,
 a4:=Tryz.isAgg4,
 z4:=Tryz.sizeOf4,
 v4:=Tryz.zeroValue4,
 t22:=Tryz.underlying233,
 a22:=Tryz.isAgg233,
 z22:=Tryz.sizeOf233,
 v22:=Tryz.zeroValue233,
 a23:=Tryz.isAgg40,
 z23:=Tryz.sizeOf40}
set_option maxHeartbeats 4000000 in
set_option maxRecDepth 100000 in
theorem LL(w:World):
  CW 228 #[e_] w e_:=by
 refine A.C Tryz.func228 rfl (HS.nil w) (A.aO [(0,e_)] [] ⟨rfl,trivial⟩ rfl (A.c<|A.h [.p] [(0,e_)] []<|A.d<|A.c<|A.h (ps 3) [(0,e_),(8,b_ true)] []<|A.bX rfl (A.c<|A.h [.p,.p] [(2,e_)] []<|A.e<|A.aL [e_] (fun _ w r s=>⟨fk r rfl,trivial⟩) ?_)))
 rfl
theorem K7(ah:Option Addr)(l:List Int)(c:Nat)(hl:l.length≤100000):
  CS 228 #[vS ah l c] [sU ah l c] (fun(zz:Unit)=>(vS ah (jY l) c)) (fun _=>True) fun _=>[sU ah (jY l) c]:=by
 intro w hs
 have h0:(sU ah l c).holds w:=hs.all _<|by simp
 cases ah with
 |none=>
  have hl0:l=[]∧c=0:=by
   obtain⟨_,h2,_,⟨_,h4⟩|⟨_,_,_,h4,_⟩⟩:=h0
   ·exact⟨List.eq_nil_of_length_eq_zero<|by omega,h4⟩
   ·cases h4
  obtain⟨rfl,rfl⟩:=hl0
  refine(LL w).mono ?_
  rintro e w' ⟨rfl,hf⟩
  refine⟨(),rfl,trivial,?_⟩
  exact Turn.of (hs.kept hf)<|.refl _
 |some a=>
  obtain⟨g,off,rfl⟩: ∃g off,a=⟨g,off,none⟩:=by
   obtain⟨_,_,_,⟨h4,_⟩|⟨g,off,_,h4,_⟩⟩:=id h0
   ·cases h4
   ·cases h4;exact⟨g,off,rfl⟩
  obtain⟨hH,hlt⟩:=Ee (k:= .u64) (fun _=>rfl) h0
  have hcap:l.length≤c:=h0.2.1
  have hC:=AnyE.slices_Compact Tryz.cmpU (Value.int .u64) (fun _=>rfl) (EqlAt.intD _ _ _) (NeqAt.intD _ _ _) 0 (fun w=>Tryz.zeroValue40 w) g off c l.toArray w hH (by simp;omega)<|by simpa using hcap
  rw[show l.toArray.size=l.length by simp] at hC
  refine hC.mono ?_
  rintro e w' ⟨rfl,q,rfl⟩
  refine⟨(),by show Ending.returned _=_;simp only[jY];simp,trivial,?_⟩
  have hle:=Fq l
  have hlen:(jY l).length+(List.replicate (l.length-(jY l).length) (0:Int)).length=l.length:=by simp;omega
  have:=IL (enc:=vB) (k:= .u64) (q:=q) (rest:=List.replicate (l.length-(jY l).length) (0:Int)) (ts:=jY l) (fun _=>rfl) hlen h0
  have e2:compactUpTo l.toArray l.length=jY l:=by unfold jY;simp
  rw[e2];exact this
end Go.Proofs.YtobgjpigngoggaaGreat
namespace Go.Proofs.YtobgjpigngoggaaGreat
open Go V
def tq(R:List Int):Prop:=R.Pairwise (· < ·)
theorem Nq{A:List Int}{y:Int}(h:tq A)(hy: ∀a∈A,a<y):tq (A++[y]):=List.pairwise_append.2 ⟨h,by simp,fun a ha b hb=>by simp at hb;subst hb;exact hy a ha⟩
theorem Io{d:Array Int}(hd: ∀i,i+1<d.size→d[i]! ≤d[i+1]!): ∀m,m≤d.size→(∀y,y∈Go.Lib.compactUpTo d m↔ ∃j,j<m∧d[j]! =y)∧tq (Go.Lib.compactUpTo d m)∧ ∀y∈Go.Lib.compactUpTo d m,y≤d[m-1]!
 |0,_=>⟨fun y=>by simp[Go.Lib.compactUpTo],by simp[Go.Lib.compactUpTo,tq],fun y h=>by simp[Go.Lib.compactUpTo] at h⟩
 |m+1,hm=>by
  obtain⟨h1,h2,h3⟩:=Io hd m<|by omega
  rw[Go.Lib.compactUpTo_succ]
  have hstep: ∀y∈Go.Lib.compactUpTo d m,y≤d[m]! :=fun y hy=>by
   have hy2:=h3 y hy
   cases m with
   |zero=>simp[Go.Lib.compactUpTo] at hy
   |succ q=>have:=hd q (by omega);simp at hy2;omega
  by_cases hk:Go.Lib.keeps d m=true
  ·rw[if_pos hk]
   refine⟨fun y=>?_,?_,fun y hy=>?_⟩
   ·rw[List.mem_append,h1,List.mem_singleton];constructor
    ·rintro(⟨j,hj,e⟩|e)
     ·exact⟨j,by omega,e⟩
     ·exact⟨m,by omega,e.symm⟩
    ·rintro⟨j,hj,e⟩
     by_cases g:j=m
     ·subst g;exact .inr e.symm
     ·exact .inl ⟨j,by omega,e⟩
   ·refine Nq h2 fun y hy=>?_
    have h4:=hstep y hy
    cases m with
    |zero=>simp[Go.Lib.compactUpTo] at hy
    |succ q=>
     have h5:=h3 y hy;have h6:=hd q<|by omega
     simp[Go.Lib.keeps] at hk
     simp at h5
     have h7:d[q+1]! ≠d[q]! :=fun e=>hk e
     omega
   ·rcases List.mem_append.1 hy with hy|hy
    ·exact hstep y hy
    ·simp at hy;subst hy;simp
  ·rw[if_neg hk,List.append_nil]
   have hq:m≠0∧d[m]! =d[m-1]! :=by simp[Go.Lib.keeps] at hk;exact hk
   refine⟨fun y=>?_,h2,fun y hy=>hstep y hy⟩
   rw[h1];constructor
   ·rintro⟨j,hj,e⟩;exact⟨j,by omega,e⟩
   ·rintro⟨j,hj,e⟩
    by_cases g:j=m
    ·subst g;exact⟨j-1,by omega,by rw[←hq.2];exact e⟩
    ·exact⟨j,by omega,e⟩
theorem LM(l:List Int):(iy l).Perm l:=List.mergeSort_perm _ _
theorem Nr(l:List Int):(iy l).Pairwise (· ≤ ·):=by
 have tr: ∀a b c:Int,decide (a≤b)=true→decide (b≤c)=true→decide (a≤c)=true:=fun a b c h1 h2=>by simp only[decide_eq_true_eq] at*;omega
 have to: ∀a b:Int,(decide (a≤b)||decide (b≤a))=true:=fun a b=>by simp only[Bool.or_eq_true,decide_eq_true_eq];omega
 exact(List.pairwise_mergeSort tr to l).imp fun h=>by simpa using h
theorem GA(l:List Int):tq (jY<|iy l)∧ ∀y,y∈jY (iy l)↔y∈l:=by
 have hd: ∀i,i+1<(iy l).toArray.size→(iy l).toArray[i]! ≤(iy l).toArray[i+1]! :=fun i hi=>by
  rw[getElem!_pos _ i<|by omega,getElem!_pos _ (i+1) hi]
  simpa using List.pairwise_iff_getElem.1 (Nr l) i (i+1) (by simp at hi;omega) (by simpa using hi) (by omega)
 obtain⟨h1,h2,_⟩:=Io hd (iy l).toArray.size (Nat.le_refl _)
 refine⟨h2,fun y=>?_⟩
 unfold jY;rw[h1,←(LM l).mem_iff,List.mem_iff_getElem]
 constructor
 ·rintro⟨j,hj,e⟩
  refine⟨j,by simpa using hj,?_⟩
  rw[getElem!_pos _ j hj] at e;simpa using e
 ·rintro⟨j,hj,e⟩
  refine⟨j,by simpa using hj,?_⟩
  rw[getElem!_pos _ j<|by simpa using hj];simpa using e
def gJ(l:List Cv):List Int:=(l.filter fun v=>dK v.ka v.kb v.kc==3||dK v.ka v.kb v.kc==4).map (·.kb)
theorem vm(l:List Cv)(x:Cv):gJ (l++[x])=gJ l++(if(dK x.ka x.kb x.kc==3||dK x.ka x.kb x.kc==4)=true then[x.kb] else[]):=by
 unfold gJ;rw[List.filter_append,List.map_append];by_cases h:(dK x.ka x.kb x.kc==3||dK x.ka x.kb x.kc==4)=true<;>simp[h]
theorem GB(l:List Cv):(gJ l).length≤l.length:=by unfold gJ;rw[List.length_map];exact List.length_filter_le _ _
def jz(l:List Cv):List Int:=jY<|iy<|gJ l
theorem P6(l:List Cv):(jz l).length≤l.length:=Nat.le_trans (Fq _) (by rw[vl];exact GB l)
theorem Ns(al:Option Addr)(l:List Cv)(cl:Nat)(hl:l.length≤1000)(w:World)(r0:eo w al (V.dF fG l))(hs:HI w []):
  CV 177 #[vS al l cl] w [] (fun((al',cl'):(Option Addr)×Nat)=>(vS al' (jz l) cl')) (fun _=>True) fun(al',cl')=>[sU al' (jz l) cl']:=by
 refine A.C Tryz.func177 rfl hs (A.c<|A.g [.p] [] []<|A.c<|A.g [.p] [] [(3,e_)]<|A.d<|A.c<|A.g (ps 3) [0] [(7,vS al l cl),(8,c_ l.length),(9,i_ 0)]<|A.y<|A.aM 40 1 [sU none ([]:List Int) 0] rfl (A.su 0 (sU none (gJ<|l.take 0) 0) rfl (eI (by rfl:([]:List Int)=(gJ<|l.take 0))) (A.D 3 (vS none (gJ<|l.take 0) 0) (congrArg (fun z_:List Int=>some<|Value.slice none z_.length 0) (by rfl:([]:List Int)=(gJ<|l.take 0)))<|A.lp (σ:=Nat×(Option Addr)×Nat) [] (fun(k,ao,co)=>[(9,c_ k),(3,vS ao (gJ<|l.take k) co)]) [0] (fun(k,ao,co)=>[sU ao (gJ<|l.take k) co]) (fun(k,ao,co)=>(k≤l.length)) (fun(k,ao,co)=>l.length-k) (0,none,0) (by omega) ?_ ?_)))
 ·exact A.J [0]
 rintro⟨k,ao,co⟩ hk
 have hk:k≤l.length:=hk
 have hkl:(gJ<|l.take k).length≤k:=Nat.le_trans (GB _) (by simp;omega)
 refine A.c<|A.g [.p] [] [(10,b_<|decide ((k:Int)<(l.length:Int)))]<|A.d<|A.v rfl (fun e1=>?_) (fun e1=>?_)
 ·have p1:=of_decide_eq_true e1
  refine A.p<|A.d<|A.y<|A.c<|A.kp [.ix] [10] [(11,.pointer<|some<|(dR al).add (k*3))] [] (o1<|io (k:Int)<|gW oM (by decide) (ef r0<|by simp[dE])<|by omega) ?_
  obtain⟨x2,hx2⟩: ∃x,(l)[k]? =some x:=⟨_,List.getElem?_eq_getElem<|by omega⟩
  refine A.no [.rd<|fG x2,.al,.st 1] [11] (fun b3=>[(5,p_ b3)]) (fun b3=>[]) (fun b3=>cw b3 (fG x2) 60) (fun b3=>[b3]) (fun b3=>o1<|ro ((dR al).add (k*3))<|fS (vs:=(fG x2)) oM (ef r0<|by simp[dE]) hx2 (Nat.le_of_ble_eq_true rfl) rfl) ?_
  intro b3
  refine A.c<|A.k [.ld 1,.cq<|i_<|dK x2.ka x2.kb x2.kc,.p] [] [(6,i_<|dK x2.ka x2.kb x2.kc)] [b3] (o1<|qo<|fun w s=>pZ x2.ka x2.kb x2.kc w)<|A.c<|A.g [.p,.p,.p,.o,.p,.p,.cl] [6] [(20,b_<|((dK x2.ka x2.kb x2.kc)==3)||((dK x2.ka x2.kb x2.kc)==4))]<|A.v rfl (fun e2=>?_) (fun e2=>?_)
  ·refine A.s<|A.gm [.p,.p,.ld 1] [5,20] [(21,vS ao (gJ<|l.take k) co),(23,u_ x2.kb)] [b3]<|A.j<|A.aE 24 (e:=40) [u_ x2.kb] (by kernel_rfl) rfl (fun _=>by kernel_rfl) _ (fun _=>rfl) ?_
   intro b4
   refine A.j<|A.ap vB (gJ<|l.take k) ([x2.kb]) 0 25 (u_ 0) 8 dI Na (gG (i:=2) rfl) (by simp;omega) ?_
   intro A5 c5
   refine A.g [.p] [21,23,24,25] [(3,vS A5 ((gJ<|l.take k)++([x2.kb])) c5)]<|A.s<|A.k [.w<|(k:Int)+1,.p] [] [(9,i_<|(k:Int)+1)] [] (o1<|wj ((k:Int)+1)<|by omega)<|A.su 0 (sU A5 (gJ<|l.take<|k+1) c5) rfl (eI (by(rw[nV ‹_›,vm];simp_all;done):(gJ<|l.take k)++([x2.kb])=(gJ<|l.take<|k+1))) (A.D 3 (vS A5 (gJ<|l.take<|k+1) c5) (fN<|by(rw[nV ‹_›,vm];simp_all;done))<|A.Z (k+1,A5,c5) (by omega) (by(simp;omega)) ?_)
   exact A.J [0]
  have p2:=e2
  refine A.p<|A.s<|A.k [.w<|(k:Int)+1,.p] [5,20] [(9,i_<|(k:Int)+1)] [] (o1<|wj ((k:Int)+1)<|by omega)<|A.su 0 (sU ao (gJ<|l.take<|k+1) co) rfl (eI (by(rw[nV ‹_›,vm];simp_all;done):(gJ<|l.take k)=(gJ<|l.take<|k+1))) (A.D 3 (vS ao (gJ<|l.take<|k+1) co) (fN<|by(rw[nV ‹_›,vm];simp_all;done))<|A.Z (k+1,ao,co) (by omega) (by(simp;omega)) ?_)
  exact A.J [0]
 have p1:=of_decide_eq_false e1
 refine A.aA<|A.c<|A.N [.p] [7,8,9,10] [(27,vS ao (gJ<|l.take k) co)]<|A.j<|A.I (some 28) [0] (fun w s h=>LK ao (gJ<|l.take k) co (by omega) w h) ?_
 rintro⟨⟩-
 refine A.D 3 (vS ao (iy<|gJ<|l.take k) co) (dh<|by simp[vl])<|A.D 27 (vS ao (iy<|gJ<|l.take k) co) (dh<|by simp[vl])<|A.aB<|A.c<|A.N [.p] [3,27,28] [(29,vS ao (iy<|gJ<|l.take k) co)]<|A.j<|A.I (some 30) [0] (fun w s h=>K7 ao (iy<|gJ<|l.take k) co (by(rw[vl];omega)) w h) ?_
 rintro⟨⟩-
 refine A.g [.p] [29,30] [(2,vS ao (jY<|iy<|gJ<|l.take k) co)]<|A.e<|A.su 0 (sU ao (jz l) co) rfl (eI (by(rw[show k=l.length by omega,List.take_length];rfl):(jY<|iy<|gJ<|l.take k)=(jz l))) (A.Y [0] [vS ao (jY<|iy<|gJ<|l.take k) co] (ao,co) ?_ ?_)
 ·rw[show k=l.length by omega,List.take_length];rfl
 trivial
def uz(v:Cv):Bool:=dK v.ka v.kb v.kc==0
def kK(t:Int)(l:List Cv):Int:=if t<1∨t>65536 then 1 else if l.any uz=true then 21 else 0
def Jl(l:List Cv)(t k:Int):Bool:=decide (eQ l k*t>65536*k)
def jD(t:Int)(l:List Cv):Int×Bool:=if kK t l≠0 then(0,false) else match(jz l).find? (Jl l t) with
 |some k=>(k,true)
 |none=>(0,decide (eL false l*t>65536*1))
def lC(t:Int)(l:List Cv):Int:=if kK t l≠0 then kK t l else if(jD t l).2=true then 22 else 0
variable{t:Int}
theorem yK{x X:Int}(hx:0≤x∧x≤X)(ht:1≤t∧t≤65536):0≤x*t∧x*t≤X*65536:=C0 hx<|by omega
variable{l:List Cv}{f:Cv→Bool}{k:Nat}
theorem Pn{i:Cv}(h:l[k]? =some i)(hf:f i=true):l.any f=true:=List.any_eq_true.2 ⟨i,List.mem_of_getElem? h,hf⟩
theorem H7(hn: ∀x∈l.take k,f x=false)(hk:l.length≤k):l.any f=false:=by
 rw[List.take_of_length_le hk] at hn;rw[List.any_eq_false];intro x hx;simp[hn x hx]
theorem Po{i:Cv}(hn: ∀x∈l.take k,f x=false)(h:l[k]? =some i)(hf:f i=false): ∀x∈l.take (k+1),f x=false:=by
 rw[nV h];intro x hx;rcases List.mem_append.1 hx with hx|hx
 ·exact hn x hx
 ·simp at hx;rw[hx];exact hf
variable{l:List Int}{f:Int→Bool}
theorem Pq{i:Int}(hn: ∀x∈l.take k,f x=false)(h:l[k]? =some i)(hf:f i=false): ∀x∈l.take (k+1),f x=false:=by
 rw[nV h];intro x hx;rcases List.mem_append.1 hx with hx|hx
 ·exact hn x hx
 ·simp at hx;rw[hx];exact hf
theorem OB{x:Int}(hn: ∀x∈l.take k,f x=false)(h:l[k]? =some x)(hf:f x=true):l.find? f=some x:=by
 have hlt:=(List.getElem?_eq_some_iff.1 h).1
 have e:l=l.take k++x::l.drop (k+1):=by
  have:=List.getElem?_eq_some_iff.1 h
  rw[←this.2,List.getElem_cons_drop,List.take_append_drop]
 rw[List.find?_eq_some_iff_append]
 exact⟨hf,_,_,e,fun y hy=>by simp[hn y hy]⟩
theorem GM(hn: ∀x∈l.take k,f x=false)(hk:l.length≤k):l.find? f=none:=by
 rw[List.take_of_length_le hk] at hn;rw[List.find?_eq_none];intro x hx;simp[hn x hx]
variable{l:List Cv}
theorem TR(h:kK t l=0):(1≤t∧t≤65536)∧ ∀v∈l,dK v.ka v.kb v.kc≠0:=by
 unfold kK at h;split at h
 ·omega
 ·split at h
  ·omega
  ·rename_i h1 h2
   refine⟨by omega,fun v hv e=>h2<|List.any_eq_true.2 ⟨v,hv,by unfold uz;rw[e];rfl⟩⟩
theorem OC(hR: ∀v∈l,lF v): ∀y∈jz l,0≤y∧y<18446744073709551616:=fun y hy=>by
 have h:=((GA<|gJ l).2 y).1 hy
 unfold gJ at h
 obtain⟨v,hv,rfl⟩:=List.mem_map.1 h
 exact(lB<|hR v (List.mem_filter.1 hv).1).2.1
theorem Ez(t:Int)(al:Option Addr)(l:List Cv)(cl:Nat)(hl:l.length≤1000)(w:World)(r0:eo w al (V.dF fG l)):
  CW 136 #[i_ t,vS al l cl] w (i_<|kK t l):=by
 refine A.C Tryz.func136 rfl (HS.nil w) (A.c<|A.g [.p] [] []<|A.d<|A.y<|A.c<|A.g [.p,.p,.p,.o,.p,.p,.cl,.p] [0] [(5,b_<|(decide (t<1))||(decide (t>65536)))]<|A.v rfl (fun e1=>?_) (fun e1=>?_))
 ·have p1:=e1;try simp only[dc] at p1
  refine A.c<|A.g [.p] [1,5] [(4,i_ 1)]<|A.e<|A.W [i_ 1] ?_
  refine congrArg (Value.int .i64) ?_;unfold kK;(rw[if_pos<|by omega];done)
 have p1:=e1;try simp only[dc] at p1
 refine A.c<|A.N [.p] [1,5] [(13,vS al l cl)]<|A.j<|A.iX (some 14) [vS al l cl,.func (.func 175) #[] #[]] Tryz.func174 rfl (A.c<|A.g [.p] [] []<|A.c<|A.N [.p,.p] [0,1] [(5,vS al l cl),(6,.func (.func 175) #[] #[])]<|A.j<|A.iX (some 7) [vS al l cl,.func (.func 175) #[] #[]] Tryz.func226 rfl (A.c<|A.g [.p] [] []<|A.d<|A.c<|A.g (ps 3) [] [(7,c_ l.length),(8,i_ 0)]<|A.y<|A.lp (σ:=Nat) [] (fun k=>[(8,c_ k)]) [] (fun k=>[]) (fun k=>(k≤l.length)∧(∀x∈l.take k,uz x=false)) (fun k=>l.length-k) (0:Nat) ⟨(by omega),(by simp)⟩ ?_ ?_))
 ·exact A.J []
 rintro k ⟨hk,hn⟩
 refine A.c<|A.g [.p] [] [(9,b_<|decide ((k:Int)<(l.length:Int)))]<|A.d<|A.v rfl (fun e2=>?_) (fun e2=>?_)
 ·have p2:=of_decide_eq_true e2
  refine A.p<|A.d<|A.y<|A.c<|A.g [.p,.p] [9] [(5,c_ k)]<|A.c<|A.kp [.p,.p,.p,.ix] [] [(11,.func (.func 175) #[] #[]),(14,.pointer<|some<|(dR al).add (k*3))] [] (o1<|io (k:Int)<|gW oM (by decide) (ef r0<|by simp[dE])<|by omega) ?_
  obtain⟨x1,hx1⟩: ∃x,(l)[k]? =some x:=⟨_,List.getElem?_eq_getElem<|by omega⟩
  refine A.kp [.rd<|fG x1] [14] [(15,.agg (fG x1).toArray)] [] (o1<|ro ((dR al).add (k*3))<|fS (vs:=(fG x1)) oM (ef r0<|by simp[dE]) hx1 (Nat.le_of_ble_eq_true rfl) rfl)<|A.j<|A.iX (some 16) [.agg (fG x1).toArray] Tryz.func175 rfl (A.c<|A.n1 [.al,.p] [0] (fun b2=>[(1,p_ b2)]) (fun b2=>cw b2 (fG x1) 60) ?_)
  intro b2
  refine A.c<|A.k [.ld 0,.cq<|b_<|dK x1.ka x1.kb x1.kc !=0,.p,.p] [1] [(2,b_ (!(dK x1.ka x1.kb x1.kc !=0)))] [b2] (o1<|qo<|fun w s=>qe x1.ka x1.kb x1.kc w)<|A.e<|A.pb [b_ (!(dK x1.ka x1.kb x1.kc !=0))]<|A.aJ [] (sd [0])<|A.aB<|A.cn (!(dK x1.ka x1.kb x1.kc !=0)) (fun e3=>?_)<|fun e3=>?_
  ·have p3:=e3;try simp only[dc] at p3
   refine A.c<|A.h [.p,.p] [(4,c_ k)] []<|A.e<|A.pb [c_ k]<|A.h [.p,.p] [(4,b_<|decide ((k:Int)≥0))] []<|A.e<|A.pb [b_<|decide ((k:Int)≥0)]<|A.h [.p] [(12,b_<|decide ((k:Int)≥0))] []<|A.v rfl (fun e4=>?_) (fun e4=>?_)
   ·have p4:=of_decide_eq_true e4
    refine A.c<|A.g [.p] [12] [(4,i_ 21)]<|A.e<|A.W [i_ 21] ?_
    refine congrArg (Value.int .i64) ?_;unfold kK;(rw[if_neg<|by omega,if_pos<|Pn ‹_› (by unfold uz;simp_all)];done)
   have p4:=of_decide_eq_false e4
   refine A.p<|A.c<|A.g [.p] [12] [(4,i_ 0)]<|A.e<|A.W [i_ 0] ?_
   refine congrArg (Value.int .i64) ?_;unfold kK;(rw[if_neg<|by omega,if_neg (by rw[H7 hn<|by omega];decide)];done)
  have p3:=e3;try simp only[dc] at p3
  refine A.p<|A.s<|A.hk [.w<|(k:Int)+1,.p] [(0,vS al l cl),(1,.func (.func 175) #[] #[]),(7,c_ l.length),(8,i_<|(k:Int)+1)] [] (o1<|wj ((k:Int)+1)<|by omega)<|A.Z (k+1) ⟨(by omega),(by exact Po hn ‹_› (by unfold uz;simp_all))⟩ (by omega) ?_
  exact A.J []
 have p2:=of_decide_eq_false e2
 refine A.aA<|A.c<|A.g [.p] [0,1,7,8,9] [(4,i_ (-1))]<|A.e<|A.pb [i_ (-1)]<|A.h [.p,.p] [(4,b_ false)] []<|A.e<|A.pb [b_ false] ?_
 refine A.h [.p] [(12,b_ false)] []<|A.cf<|A.p<|A.c<|A.g [.p] [12] [(4,i_ 0)]<|A.e<|A.W [i_ 0] ?_
 refine congrArg (Value.int .i64) ?_;unfold kK;(rw[if_neg<|by omega,if_neg (by rw[H7 hn<|by omega];decide)];done)
theorem Kp(v t:Int)(hv:0≤v∧v<iZ)(ht:1≤t∧t≤65536)(hp:v*t<iZ)(w:World):
  CW 230 #[.agg #[u_<|nH v,u_<|nL v],i_ t] w (.agg #[u_<|nH<|v*t,u_<|nL<|v*t]):=by
 have h1_:=CL hv;have h2_:=CM v;have p0:0≤v*t:=Int.mul_nonneg hv.1 (by omega);have p1:=yK (x:=nL v) (t:=t) (X:=18446744073709551615) (by omega) ht;have p2:=yK (x:=nH v) (t:=t) (X:=18446744073709551615) (by omega) ht
 have e0:v*t=nH v*t*18446744073709551616+nL v*t:=(by have e_:v=nH v*18446744073709551616+nL v:=(by unfold nH nL;omega);conv=>lhs;rw[e_,Int.add_mul,Int.mul_right_comm])
 refine A.C Tryz.func230 rfl (HS.nil w) (A.c<|A.n2 [.al,.al] [0] (fun b1 b2=>[(2,p_ b1),(4,p_ b2)]) (fun b1 b2=>[cw b1 [u_<|nH v,u_<|nL v] 213,cw b2 [u_ 0,u_ 0] 213]) ?_)
 intro b1 b2
 refine A.c<|A.no [.p,.ld 0,.p,.w t,.cq<|.agg #[u_<|nH<|(nL v)*t,u_<|nL<|(nL v)*t],.al,.st 2] [] (fun b3=>[(5,p_ b3)]) (fun b3=>[]) (fun b3=>cw b3 [u_<|nH<|(nL v)*t,u_<|nL<|(nL v)*t] 213) (fun b3=>[b1,b3]) (fun b3=>oc (wv t<|by omega)<|o1<|qo<|fun w s=>vo (nL v) t ‹_› (by omega) w) ?_
 intro b3
 refine A.c<|A.ks [.p,.ld 2,.p,.ld 0,.p,.w t,.w<|(nH v)*t,.w<|(nH<|(nL v)*t)+((nH v)*t),.p,.st 2] [1,2] [] [(2,cw b3 [u_<|(nH<|(nL v)*t)+((nH v)*t),u_<|nL<|(nL v)*t] 213)] [b3,b1,b3] (oc (wv t<|by omega)<|oc (wo<|wrap_u64 (e:=(nH v)*t) (by unfold iZ at hp;constructor<;>omega))<|o1<|wo<|wrap_u64 (e:=(nH<|(nL v)*t)+((nH v)*t)) (by(have q_:nH (nL v*t)=nL v*t/18446744073709551616:=rfl);unfold iZ at hp;constructor<;>omega))<|A.c<|A.gs [.ld 2,.st 1] [5] [] [(1,cw b2 [u_<|(nH<|(nL v)*t)+((nH v)*t),u_<|nL<|(nL v)*t] 213)] [b3,b2]<|A.e<|A.pc 1 [u_<|(nH<|(nL v)*t)+((nH v)*t),u_<|nL<|(nL v)*t] ?_
 show((.agg #[u_<|(nH<|(nL v)*t)+((nH v)*t),u_<|nL<|(nL v)*t]):Value)=(.agg #[u_<|nH<|v*t,u_<|nL<|v*t])
 have q1_:nL (nL v*t)=nL (v*t):=(by unfold nL at*;omega);have q2_:nH (nL v*t)+nH v*t=nH (v*t):=(by unfold nH at*;omega);rw[q1_,q2_]
theorem yp(v t k:Int)(hv:0≤v∧v<iZ)(ht:1≤t∧t≤65536)(hp:v*t<iZ)(hk:0≤k∧k<18446744073709551616)(w:World):
  CW 180 #[.agg #[u_<|nH v,u_<|nL v],i_ t,u_ k] w (b_<|decide (v*t>65536*k)):=by
 have p0:0≤v*t:=Int.mul_nonneg hv.1<|by omega
 refine A.C Tryz.func180 rfl (HS.nil w) (A.c<|A.n1 [.al,.p] [0] (fun b1=>[(3,p_ b1)]) (fun b1=>cw b1 [u_<|nH v,u_<|nL v] 213) ?_)
 intro b1
 refine A.c<|A.k [.ld 0,.p,.cq<|.agg #[u_<|nH<|v*t,u_<|nL<|v*t],.p,.cq<|.agg #[u_<|nH<|65536*k,u_<|nL<|65536*k],.cq<|i_<|rY (v*t)<|65536*k,.p,.p] [1,2,3] [(6,b_<|decide ((rY (v*t)<|65536*k)>0))] [b1] (oc (qo<|fun ww ss=>Kp v t ‹_› ‹_› ‹_› ww)<|oc (qo<|fun ww ss=>vo 65536 k (by omega) ‹_› ww)<|o1<|qo<|fun ww ss=>MJ (v*t) (65536*k) (by omega) (by(unfold iZ;omega)) ww)<|A.e<|A.W [b_<|decide ((rY (v*t)<|65536*k)>0)] ?_
 refine congrArg Value.bool ?_;rw[Bool.eq_iff_iff];simp only[decide_eq_true_eq];unfold rY;split<;>(try split)<;>omega
abbrev zW(p0)(p1)(p2):=(b_ (decide ((eQ p0 p1)*p2>65536*p1)):Value)
theorem Kq(k:Int)(bl bt:Nat)(al:Option Addr)(l:List Cv)(cl:Nat)(t:Int)(hl:l.length≤1000)(hR: ∀v∈l,lF v)(ht:1≤t∧t≤65536)(hk:0≤k∧k<18446744073709551616)(w:World)(r0:(cw bl [vS al l cl] 125).holds w)(r1:(cw bt [i_ t] 3).holds w)(r2:eo w al (V.dF fG l)):
  CW 179 #[u_ k,p_ bl,p_ bt] w (b_<|decide (eQ l k*t>65536*k)):=by
 refine A.C Tryz.func179 rfl (HS.nil w) (A.c<|A.g [.p] [] []<|A.d<|A.ka [.rd [vS al l cl],.p,.cq<|.agg #[u_<|nH<|eQ l k,u_<|nL<|eQ l k],.rd [i_ t],.p,.cq<|zW l k t,.p] (rg 0 7) [0,1,2] [(4,zW l k t)] [] (oc (ro ⟨bl,0,none⟩ (vs:=[vS al l cl])<|df r0 rfl)<|oc (qo<|fun w s=>Np al l cl k ‹_› ‹_› ‹_› w ((ef r2<|by simp[dE]) w s))<|oc (ro ⟨bt,0,none⟩ (vs:=[i_ t])<|df r1 rfl)<|o1<|qo<|fun w s=>yp (eQ l k) t k (by(have h_:=sW hR hk hl;unfold iZ;omega)) ‹_› (by(have h_:=yK (sW hR hk hl) ht;unfold iZ;omega)) ‹_› w)<|A.e<|A.W [zW l k t] ?_)
 rfl
theorem LP(t:Int)(al:Option Addr)(l:List Cv)(cl:Nat)(hl:l.length≤1000)(hR: ∀v∈l,lF v)(w:World)(r0:eo w al (V.dF fG l)):
  CW 137 #[i_ t,vS al l cl] w (.tuple #[u_<|(jD t l).1,b_<|(jD t l).2]):=by
 refine A.C Tryz.func137 rfl (HS.nil w) (A.c<|A.n2 [.al,.al,.p,.p] [0,1] (fun b1 b2=>[(2,p_ b1),(3,p_ b2)]) (fun b1 b2=>[cw b1 [i_ t] 3,cw b2 [vS al l cl] 125]) ?_)
 intro b1 b2
 refine A.d<|A.c<|A.k [.ld 0,.ld 1,.cq<|i_<|kK t l,.p] [] [(11,b_<|(kK t l)!=0)] [b1,b2] (o1<|qo<|fun w s=>Ez t al l cl ‹_› w ((ef r0<|by simp[dE]) w s))<|A.v rfl (fun e1=>?_) (fun e1=>?_)
 ·have p1:=e1;try simp only[dc] at p1
  refine A.c<|A.g [.p,.p] [2,3,11] [(4,u_ 0),(5,b_ false)]<|A.e<|?_
  have hF_:jD t l=(0,false):=(by unfold jD;(rw[if_pos ‹_›];done))
  refine A.W [u_ 0,b_ false] ?_
  show((.tuple #[u_ 0,b_ false]):Value)=(.tuple #[u_<|(jD t l).1,b_<|(jD t l).2])
  rw[hF_]
 have p1:=e1;try simp only[dc] at p1
 refine A.p<|A.d ?_
 obtain⟨ht,hok⟩:=TR ‹_›
 refine A.s<|A.gm [.ld 1] [11] [(12,vS al l cl)] [b2]<|A.j<|A.I (some 13) [] (fun w s h=>Ns al l cl ‹_› w ((ef r0<|by simp[dE]) w s) h) ?_
 rintro⟨al'3,cl'4⟩-
 refine A.g [.p] [12,13] [(6,vS al'3 (jz l) cl'4)]<|A.c<|A.N [.p,.p] [] [(14,vS al'3 (jz l) cl'4),(15,.func (.func 179) #[] #[p_ b2,p_ b1])]<|A.j<|A.iX (some 16) [vS al'3 (jz l) cl'4,.func (.func 179) #[] #[p_ b2,p_ b1]] Tryz.func178 rfl (A.c<|A.g [.p] [] []<|A.d<|A.c<|A.g (ps 3) [] [(7,i_ ((jz l).length:Int)),(8,i_ 0)]<|A.y<|A.lp (σ:=Nat) [] (fun k=>[(8,c_ k)]) [] (fun k=>[]) (fun k=>(k≤(jz l).length)∧(∀x∈(jz l).take k,Jl l t x=false)) (fun k=>(jz l).length-k) (0:Nat) ⟨(by omega),(by simp)⟩ ?_ ?_)
 ·exact A.J [0,0,0]
 rintro k ⟨hk,hn⟩
 have hkn:=P6 l
 refine A.c<|A.g [.p] [] [(9,b_<|decide ((k:Int)<((jz l).length:Int)))]<|A.d<|A.v rfl (fun e3=>?_) (fun e3=>?_)
 ·have p3:=of_decide_eq_true e3
  refine A.p<|A.d<|A.y<|A.c<|A.g [.p,.p] [9] [(5,c_ k)]<|A.c<|A.kp [.p,.p,.p,.ix] [] [(11,.func (.func 179) #[] #[p_ b2,p_ b1]),(14,.pointer<|some<|(dR al'3).add (k*1))] [] (o1<|dW 0 k dI rfl (by omega)) ?_
  obtain⟨x6,hx6⟩: ∃x,((jz l))[k]? =some x:=⟨_,List.getElem?_eq_getElem<|by omega⟩
  refine A.k [.rd [u_ x6],.cq<|b_<|decide (eQ l x6*t>65536*x6)] [11,14] [(16,b_<|decide (eQ l x6*t>65536*x6))] [] (oc (ro ((dR al'3).add (k*1))<|fS (vs:=[u_ x6]) dI (fM (i:=0) rfl) hx6 (Nat.le_of_ble_eq_true rfl) rfl)<|o1<|qo<|fun w s=>Kq x6 b2 b1 al l cl t ‹_› ‹_› ‹_› (OC hR _<|List.mem_of_getElem? ‹_›) w (s.mem (i:=2) rfl) (s.mem (i:=1) rfl) ((ef r0<|by simp[dE]) w s))<|A.v rfl (fun e4=>?_) (fun e4=>?_)
  ·have p4:=of_decide_eq_true e4
   refine A.c<|A.g [.p,.p] [0,1,7,8,5,16] [(4,c_ k)]<|A.e<|A.pb [c_ k]<|A.h [.p] [(2,p_ b1),(3,p_ b2),(6,vS al'3 (jz l) cl'4),(7,c_ k)] []<|A.d<|A.c<|A.g [.p,.p] [] [(18,b_<|decide ((k:Int)≥0))]<|A.v rfl (fun e5=>?_) (fun e5=>?_)
   ·have p5:=of_decide_eq_true e5
    refine A.c<|A.k [.p,.p,.ix,.rd [u_ x6],.p,.p] [2,3,6,7,18] [(4,u_ x6),(5,b_ true)] [] (oc (dW 0 k dI rfl (by omega))<|o1<|ro ((dR al'3).add (k*1))<|fS (vs:=[u_ x6]) dI (fM (i:=0) rfl) hx6 (Nat.le_of_ble_eq_true rfl) rfl)<|A.e<|?_
    have hF_:jD t l=(x6,true):=(by unfold jD;(rw[if_neg<|by omega,OB hn ‹_› ‹_›];done))
    refine A.W [u_ x6,b_ true] ?_
    show((.tuple #[u_ x6,b_ true]):Value)=(.tuple #[u_<|(jD t l).1,b_<|(jD t l).2])
    rw[hF_]
   have p5:=of_decide_eq_false e5
   refine A.p<|A.d<|A.ka [.ld 2,.cq<|.agg #[u_<|nH<|eL false l,u_<|nL<|eL false l],.ld 1,.cq<|b_<|decide ((eL false l)*t>65536*1),.p,.p] (rg 0 6) [2,3,6,7,18] [(4,u_ 0),(5,b_<|decide ((eL false l)*t>65536*1))] [b2,b1] (oc (qo<|fun w s=>Fz al l cl ‹_› ‹_› w ((ef r0<|by simp[dE]) w s))<|o1<|qo<|fun w s=>yp (eL false l) t 1 (by omega) ‹_› (by omega) (by omega) w)<|A.e ?_
   have hF_:jD t l=(0,decide ((eL false l)*t>65536*1)):=(by unfold jD;(rw[if_neg<|by omega,GM hn<|by omega];done))
   refine A.W [u_ 0,b_<|decide ((eL false l)*t>65536*1)] ?_
   show((.tuple #[u_ 0,b_<|decide ((eL false l)*t>65536*1)]):Value)=(.tuple #[u_<|(jD t l).1,b_<|(jD t l).2])
   rw[hF_]
  have p4:=of_decide_eq_false e4
  refine A.p<|A.s<|A.k [.w<|(k:Int)+1,.p] [5,16] [(8,i_<|(k:Int)+1)] [] (o1<|wj ((k:Int)+1)<|by omega)<|A.Z (k+1) ⟨(by omega),(Pq hn ‹_› ‹_›)⟩ (by omega) ?_
  exact A.J [0,0,0]
 have p3:=of_decide_eq_false e3
 refine A.aA<|A.c<|A.g [.p] [0,1,7,8,9] [(4,i_ (-1))]<|A.e<|A.pb [i_ (-1)]<|A.h [.p] [(2,p_ b1),(3,p_ b2),(6,vS al'3 (jz l) cl'4),(7,i_ (-1))] []<|A.d<|A.c<|A.g [.p,.p] [] [(18,b_ false)]<|A.cf<|A.p<|A.d<|A.ka [.ld 2,.cq<|.agg #[u_<|nH<|eL false l,u_<|nL<|eL false l],.ld 1,.cq<|b_<|decide ((eL false l)*t>65536*1),.p,.p] (rg 0 6) [2,3,6,7,18] [(4,u_ 0),(5,b_<|decide ((eL false l)*t>65536*1))] [b2,b1] (oc (qo<|fun w s=>Fz al l cl ‹_› ‹_› w ((ef r0<|by simp[dE]) w s))<|o1<|qo<|fun w s=>yp (eL false l) t 1 (by(have h_:=sE (st:=false) hR hl;unfold iZ;omega)) ‹_› (by(have h_:=yK (sE (st:=false) hR hl) ht;unfold iZ;omega)) (by omega) w)<|A.e ?_
 have hF_:jD t l=(0,decide ((eL false l)*t>65536*1)):=(by unfold jD;(rw[if_neg<|by omega,GM hn<|by omega];done))
 refine A.W [u_ 0,b_<|decide ((eL false l)*t>65536*1)] ?_
 show((.tuple #[u_ 0,b_<|decide ((eL false l)*t>65536*1)]):Value)=(.tuple #[u_<|(jD t l).1,b_<|(jD t l).2])
 rw[hF_]
theorem EU(t:Int)(al:Option Addr)(l:List Cv)(cl:Nat)(hl:l.length≤1000)(hR: ∀v∈l,lF v)(w:World)(r0:eo w al (V.dF fG l)):
  CW 93 #[i_ t,vS al l cl] w (i_<|lC t l):=by
 refine A.C Tryz.func93 rfl (HS.nil w) (A.c<|A.g [.p] [] []<|A.d<|A.c<|A.k [.p,.p,.cq<|i_<|kK t l,.p] [] [(5,i_<|kK t l)] [] (o1<|qo<|fun w s=>Ez t al l cl ‹_› w ((ef r0<|by simp[dE]) w s))<|A.c<|A.g [.p,.p] [] [(12,b_<|(kK t l)!=0)]<|A.v rfl (fun e1=>?_) (fun e1=>?_))
 ·have p1:=e1;try simp only[dc] at p1
  refine A.c<|A.g [.p,.p] [0,1,5,12] [(4,i_<|kK t l)]<|A.e<|A.W [i_<|kK t l] ?_
  refine congrArg (Value.int .i64) ?_;unfold lC;(rw[if_pos ‹_›];done)
 have p1:=e1;try simp only[dc] at p1
 refine A.p<|A.d<|A.c<|A.k [.p,.p,.cq<|.tuple #[u_<|(jD t l).1,b_<|(jD t l).2],.p,.p,.p,.p,.p] [0,1,5,12] [(7,b_<|(jD t l).2)] [] (o1<|qo<|fun w s=>LP t al l cl ‹_› ‹_› w ((ef r0<|by simp[dE]) w s))<|A.c<|A.g [.p] [7] [(20,b_<|(jD t l).2)]<|A.v rfl (fun e2=>?_) (fun e2=>?_)
 ·have p2:=e2
  refine A.c<|A.g [.p] [20] [(4,i_ 22)]<|A.e<|A.W [i_ 22] ?_
  refine congrArg (Value.int .i64) ?_;unfold lC;(rw[if_neg<|by omega,if_pos ‹_›];done)
 refine A.p<|A.c<|A.g [.p] [20] [(4,i_ 0)]<|A.e<|A.W [i_ 0] ?_
 refine congrArg (Value.int .i64) ?_;unfold lC;(rw[if_neg<|by omega,if_neg<|by simp_all];done)
structure Zc where
 zk:Int
 zi:Int
 zp:Int
 zl:Bool
 ya:Int
 yb:Int
 yc:Int
 va:Int
 vb:Int
 vc:Int
 wa:Int
 wb:Int
 wc:Int
 zn:Int
 zq:Int
 deriving Inhabited,DecidableEq
def jS(x:Zc):List Value:=[(i_ x.zk),(i_ x.zi),(i_ x.zp),(b_ x.zl),(u_ x.ya),(u_ x.yb),(u_ x.yc),(u_ x.va),(u_ x.vb),(u_ x.vc),(u_ x.wa),(u_ x.wb),(u_ x.wc),(i_ x.zn),(i_ x.zq)]
theorem uJ(x:Zc):(jS x).length=15:=rfl
def j0(x:Zc):Prop:=((-9223372036854775808)≤x.zk∧x.zk≤9223372036854775807)∧((-9223372036854775808)≤x.zi∧x.zi≤9223372036854775807)∧((-9223372036854775808)≤x.zp∧x.zp≤9223372036854775807)∧True∧(0≤x.ya∧x.ya≤18446744073709551615)∧(0≤x.yb∧x.yb≤18446744073709551615)∧(0≤x.yc∧x.yc≤18446744073709551615)∧(0≤x.va∧x.va≤18446744073709551615)∧(0≤x.vb∧x.vb≤18446744073709551615)∧(0≤x.vc∧x.vc≤18446744073709551615)∧(0≤x.wa∧x.wa≤18446744073709551615)∧(0≤x.wb∧x.wb≤18446744073709551615)∧(0≤x.wc∧x.wc≤18446744073709551615)∧((-9223372036854775808)≤x.zn∧x.zn≤9223372036854775807)∧((-9223372036854775808)≤x.zq∧x.zq≤9223372036854775807)
def Jj:List FK:=[.int .i64,.int .i64,.int .i64,.bool,.int .u64,.int .u64,.int .u64,.int .u64,.int .u64,.int .u64,.int .u64,.int .u64,.int .u64,.int .i64,.int .i64]
theorem TE(cs:List Value)(h:mY Jj cs): ∃x,cs=jS x∧j0 x:=by
 unfold Jj at h
 obtain⟨v0,cs0,rfl,h0,g0⟩:=gP h
 obtain⟨a0,rfl,r0⟩:=n0 h0
 obtain⟨v1,cs1,rfl,h1,g1⟩:=gP g0
 obtain⟨a1,rfl,r1⟩:=n0 h1
 obtain⟨v2,cs2,rfl,h2,g2⟩:=gP g1
 obtain⟨a2,rfl,r2⟩:=n0 h2
 obtain⟨v3,cs3,rfl,h3,g3⟩:=gP g2
 obtain⟨a3,rfl⟩:=NJ h3
 obtain⟨v4,cs4,rfl,h4,g4⟩:=gP g3
 obtain⟨a4,rfl,r4⟩:=nD h4
 obtain⟨v5,cs5,rfl,h5,g5⟩:=gP g4
 obtain⟨a5,rfl,r5⟩:=nD h5
 obtain⟨v6,cs6,rfl,h6,g6⟩:=gP g5
 obtain⟨a6,rfl,r6⟩:=nD h6
 obtain⟨v7,cs7,rfl,h7,g7⟩:=gP g6
 obtain⟨a7,rfl,r7⟩:=nD h7
 obtain⟨v8,cs8,rfl,h8,g8⟩:=gP g7
 obtain⟨a8,rfl,r8⟩:=nD h8
 obtain⟨v9,cs9,rfl,h9,g9⟩:=gP g8
 obtain⟨a9,rfl,r9⟩:=nD h9
 obtain⟨v10,cs10,rfl,h10,g10⟩:=gP g9
 obtain⟨a10,rfl,r10⟩:=nD h10
 obtain⟨v11,cs11,rfl,h11,g11⟩:=gP g10
 obtain⟨a11,rfl,r11⟩:=nD h11
 obtain⟨v12,cs12,rfl,h12,g12⟩:=gP g11
 obtain⟨a12,rfl,r12⟩:=nD h12
 obtain⟨v13,cs13,rfl,h13,g13⟩:=gP g12
 obtain⟨a13,rfl,r13⟩:=n0 h13
 obtain⟨v14,cs14,rfl,h14,g14⟩:=gP g13
 obtain⟨a14,rfl,r14⟩:=n0 h14
 obtain rfl:=rp g14
 exact⟨⟨a0,a1,a2,a3,a4,a5,a6,a7,a8,a9,a10,a11,a12,a13,a14⟩,rfl,r0,r1,r2,trivial,r4,r5,r6,r7,r8,r9,r10,r11,r12,r13,r14⟩
def vK(z:Zc):Cl:=⟨z.zi,z.zp,z.zl,z.ya,z.yb,z.yc,z.va,z.vb,z.vc,z.wa,z.wb,z.wc,z.zn,z.zq⟩
def gz(kv:List (Int×Cl))(z:Zc):Int:=if z.zk=1 then ia kv (vK z) else if z.zk=3 then ib kv (vK z) else if z.zk=2 then ji kv z.zi else 1
def jL(kv:List (Int×Cl))(z:Zc):List (Int×Cl):=if z.zk=1 then ly kv (vK z) else if z.zk=3 then lU kv (vK z) else if z.zk=2 then oz kv z.zi else kv
def kA(kv:List (Int×Cl)):List Zc→Int
 |[]=>0
 |z::l=>if gz kv z≠0 then gz kv z else kA (jL kv z) l
def tt(kv:List (Int×Cl)):List Zc→Nat
 |[]=>0
 |z::l=>if gz kv z≠0 then 0 else tt (jL kv z) l+1
def di(kv:List (Int×Cl)):List Zc→List (Int×Cl)
 |[]=>kv
 |z::l=>di (jL kv z) l
theorem GG(z:Zc): ∀(l:List Zc)(kv:List (Int×Cl)),di kv (l++[z])=jL (di kv l) z
 |[],kv=>rfl
 |y::l,kv=>GG z l<|jL kv y
theorem GH(z:Zc): ∀(l:List Zc)(kv:List (Int×Cl)),kA kv l=0→kA kv (l++[z])=gz (di kv l) z
 |[],kv,_=>by show(if gz kv z≠0 then gz kv z else 0)=gz kv z;split<;>simp_all
 |y::l,kv,h=>by
  unfold kA at h;split at h
  ·exact absurd h ‹_›
  ·rename_i h1;show(if gz kv y≠0 then gz kv y else kA (jL kv y)<|l++[z])=_;rw[if_neg h1];exact GH z l (jL kv y) h
theorem DI: ∀{l:List Zc}{kv:List (Int×Cl)}{k:Nat}{z:Zc},l[k]? =some z→kA kv (l.take k)=0→gz (di kv<|l.take k) z≠0→kA kv l=gz (di kv<|l.take k) z∧tt kv l=k
 |[],kv,k,z,h,_,_=>by simp at h
 |y::l,kv,0,z,h,h0,h1=>by
  simp at h;subst h;simp only[List.take_zero,di] at h1⊢;unfold kA tt;rw[if_pos h1,if_pos h1];exact⟨rfl,rfl⟩
 |y::l,kv,k+1,z,h,h0,h1=>by
  simp only[List.take_succ_cons,di,kA] at h0 h1⊢
  have h2: ¬gz kv y≠0:=fun h2=>by rw[if_pos h2] at h0;exact h2 h0
  rw[if_neg h2] at h0
  have:=DI (l:=l) (kv:=jL kv y) (by simpa using h) h0 h1
  unfold tt;rw[if_neg h2,if_neg h2,this.1,this.2];exact⟨rfl,rfl⟩
variable{l:List Zc}{kv:List (Int×Cl)}{z:Zc}
theorem xN(h:l[k]? =some z)(h0:kA kv (l.take k)=0)(h1:gz (di kv<|l.take k) z=0):kA kv (l.take<|k+1)=0∧di kv (l.take<|k+1)=jL (di kv<|l.take k) z:=by
 have e:l.take (k+1)=l.take k++[z]:=by rw[List.take_add_one,h];rfl
 rw[e,GH _ _ _ h0,GG];exact⟨h1,rfl⟩
def iN(kv:List (Int×Cl))(t:Int)(l:List Zc):Int:=if t<1∨t>65536 then 1 else if 32<l.length then 2 else if kA kv l≠0 then kA kv l else lC t<|ir<|di kv l
def ja(kv:List (Int×Cl))(t:Int)(l:List Zc):Int:=if t<1∨t>65536 then 0 else if 32<l.length then 0 else if kA kv l≠0 then(tt kv l:Int) else 0
def mH(kv:List (Int×Cl)):Prop:= ∃R,KR kv R
theorem xO(h:dr kv)(z:Zc):dr (jL kv z):=by
 unfold jL;split
 ·exact L6 h _
 ·split
  ·exact L8 h _
  ·split
   ·exact L9 h _
   ·exact h
theorem Iw(h:j0 z):lD (vK z):=h.2
theorem CE(h:mH kv)(hL:dr kv)(hz:j0 z):mH (jL kv z):=by
 obtain⟨R,hR⟩:=h
 unfold jL;split
 ·exact⟨_,O2 hR hL<|Iw hz⟩
 ·split
  ·exact⟨_,O3 hR hL<|Iw hz⟩
  ·split
   ·exact⟨_,O4 hR _⟩
   ·exact⟨R,hR⟩
theorem BF: ∀{l:List Zc}{kv:List (Int×Cl)},dr kv→dr (di kv l)
 |[],kv,h=>h
 |z::l,kv,h=>BF (l:=l)<|xO h z
theorem Ix: ∀{l:List Zc}{kv:List (Int×Cl)},mH kv→dr kv→(∀z∈l,j0 z)→mH (di kv l)
 |[],kv,h,_,_=>h
 |z::l,kv,h,hL,hz=>Ix (l:=l) (CE h hL<|hz z<|by simp) (xO hL z)<|fun y hy=>hz y<|by simp[hy]
theorem Ew(h:mH kv): ∀v∈ir kv,lF v:=by
 obtain⟨R,hR⟩:=h
 intro v hv
 unfold ir at hv
 obtain⟨i,_,rfl⟩:=List.mem_map.1 hv
 have:=IH hR i
 unfold dD at this
 unfold lD at this;unfold lF yX;dsimp only;omega
theorem ES(kv:List (Int×Cl)):(ir kv).length≤kv.length:=by unfold ir;rw[List.length_map];exact oN _ _
theorem DX(h:t<1∨t>65536):iN kv t l=1∧ja kv t l=0:=by unfold iN ja;rw[if_pos h,if_pos h];exact⟨rfl,rfl⟩
theorem DY(h: ¬(t<1∨t>65536))(h2:32<l.length):iN kv t l=2∧ja kv t l=0:=by unfold iN ja;rw[if_neg h,if_neg h,if_pos h2,if_pos h2];exact⟨rfl,rfl⟩
theorem Jk(h: ¬(t<1∨t>65536))(h2: ¬32<l.length){e:Int}(h3:kA kv l=e∧tt kv l=k)(he:e≠0):iN kv t l=e∧ja kv t l=k:=by
 unfold iN ja;rw[if_neg h,if_neg h,if_neg h2,if_neg h2,h3.1,h3.2,if_pos he,if_pos he];exact⟨rfl,rfl⟩
theorem DZ(h: ¬(t<1∨t>65536))(h2: ¬32<l.length)(h3:kA kv l=0):iN kv t l=lC t (ir<|di kv l)∧ja kv t l=0:=by
 unfold iN ja;rw[if_neg h,if_neg h,if_neg h2,if_neg h2,h3];simp
abbrev tN(p0)(p1):=(cw p0 [.map<|some p1] 185:V.dB)
abbrev CG(p0)(p1:Zc):=(i_ (ib p0 (⟨p1.zi,p1.zp,p1.zl,p1.ya,p1.yb,p1.yc,p1.va,p1.vb,p1.vc,p1.wa,p1.wb,p1.wc,p1.zn,p1.zq⟩:Cl)):Value)
abbrev CH(p0)(p1:Zc):=(i_ (ia p0 (⟨p1.zi,p1.zp,p1.zl,p1.ya,p1.yb,p1.yc,p1.va,p1.vb,p1.vc,p1.wa,p1.wb,p1.wc,p1.zn,p1.zq⟩:Cl)):Value)
abbrev yI(p0:Zc):=(.agg #[i_ p0.zi,i_ p0.zp,b_ p0.zl,u_ p0.ya,u_ p0.yb,u_ p0.yc,u_ p0.va,u_ p0.vb,u_ p0.vc,u_ p0.wa,u_ p0.wb,u_ p0.wc,i_ p0.zn,i_ p0.zq]:Value)
theorem GI(bt mb:Nat)(kv:List (Int×Cl))(z:Zc)(hL:dr kv):
  CS 92 #[p_ bt,.agg (jS z).toArray] [tN bt mb,dy mb kv] (fun(kv':(List<|Int×Cl))=>(i_<|gz kv z)) (fun kv'=>kv'=jL kv z) fun kv'=>[tN bt mb,dy mb kv']:=by
 intro w hs
 refine A.C Tryz.func92 rfl hs (A.c<|A.n2 [.al,.al,.p] [0,1] (fun b1 b2=>[(2,p_ b1),(3,p_ b2)]) (fun b1 b2=>[cw b1 [p_ bt] 131,cw b2 (jS z) 84]) ?_)
 intro b1 b2
 refine A.c<|A.g [.p] [] []<|A.d<|A.c<|A.gl [.p,.ld 3] [] [(7,i_ z.zk)] [b2]<|A.y<|A.c<|A.g [.p,.p] [] [(8,b_<|z.zk==1)]<|A.v rfl (fun e1=>?_) (fun e1=>?_)
 ·have p1:=e1;try simp only[dc] at p1
  refine A.s<|A.gl [.ld 2,.p,.p] [2,7,8] [(5,.func (.func 132) #[p_ bt] #[])] [b1]<|A.c<|A.gm [.p,.p,.ld 3] [3,5] [(19,.func (.func 132) #[p_ bt] #[]),(21,yI z)] [b2]<|A.j<|A.I (some 22) [0,0] (fun w s h=>Q9 bt mb kv (⟨z.zi,z.zp,z.zl,z.ya,z.yb,z.yc,z.va,z.vb,z.vc,z.wa,z.wb,z.wc,z.zn,z.zq⟩:Cl) hL.dep hL.len w h) ?_
  rintro kv'3 hz2
  refine A.g [.p] [19,21,22] [(4,CH kv z)]<|A.e<|A.Y [0,0] [CH kv z] (kv'3) ?_ ?_
  ·show((CH kv z):Value)=(i_<|gz kv z)
   refine congrArg (Value.int .i64) ?_;unfold gz;(simp[*];rfl)
  show kv'3=jL kv z
  unfold jL;(simp[*];rfl)
 have p1:=e1;try simp only[dc] at p1
 refine A.c<|A.g [.p,.p] [8] [(12,b_<|z.zk==3)]<|A.v rfl (fun e3=>?_) (fun e3=>?_)
 ·have p3:=e3;try simp only[dc] at p3
  refine A.s<|A.gl [.ld 2,.p,.p] [2,7,12] [(5,.func (.func 133) #[p_ bt] #[])] [b1]<|A.c<|A.gm [.p,.p,.ld 3] [3,5] [(19,.func (.func 133) #[p_ bt] #[]),(21,yI z)] [b2]<|A.j<|A.I (some 22) [0,0] (fun w s h=>Qc bt mb kv (⟨z.zi,z.zp,z.zl,z.ya,z.yb,z.yc,z.va,z.vb,z.vc,z.wa,z.wb,z.wc,z.zn,z.zq⟩:Cl) (by(have h_:=hL.len;omega)) w h) ?_
  rintro kv'4 hz4
  refine A.g [.p] [19,21,22] [(4,CG kv z)]<|A.e<|A.Y [0,0] [CG kv z] (kv'4) ?_ ?_
  ·show((CG kv z):Value)=(i_<|gz kv z)
   refine congrArg (Value.int .i64) ?_;unfold gz;(simp[*];rfl)
  show kv'4=jL kv z
  unfold jL;(simp[*];rfl)
 have p3:=e3;try simp only[dc] at p3
 refine A.c<|A.g [.p,.p] [7,12] [(16,b_<|z.zk==2)]<|A.v rfl (fun e5=>?_) (fun e5=>?_)
 ·have p5:=e5;try simp only[dc] at p5
  refine A.s<|A.g [.p,.p] [2,16] [(5,.func (.func 134) #[] #[p_ b1])]<|A.c<|A.gm [.p,.p,.ld 3] [3,5] [(19,.func (.func 134) #[] #[p_ b1]),(21,yI z)] [b2]<|A.j<|A.iX (some 22) [yI z,p_ b1] Tryz.func134 rfl (A.c<|A.n1 [.al,.p] [0] (fun b5=>[(2,p_ b5)]) (fun b5=>cw b5 [i_ z.zi,i_ z.zp,b_ z.zl,u_ z.ya,u_ z.yb,u_ z.yc,u_ z.va,u_ z.vb,u_ z.vc,u_ z.wa,u_ z.wb,u_ z.wc,i_ z.zn,i_ z.zq] 62) ?_)
  intro b5
  refine A.c<|A.gm [.ld 2,.p,.ld 4] [1,2] [(4,p_ bt),(6,i_ z.zi)] [b1,b5]<|A.j<|A.I (some 7) [0,0] (fun w s h=>Qa bt mb kv z.zi (by(have h_:=hL.len;omega)) w h) ?_
  rintro kv'6 hz6
  refine A.g [.p] [4,6,7] [(3,i_<|ji kv z.zi)]<|A.e<|A.pb [i_<|ji kv z.zi]<|A.aJ [tN bt mb,dy mb kv'6,cw b1 [p_ bt] 131] (sd [4,3])<|A.h [.p] [(4,i_<|ji kv z.zi)] []<|A.e<|A.Y [0,0] [i_<|ji kv z.zi] (kv'6) ?_ ?_
  ·show((i_<|ji kv z.zi):Value)=(i_<|gz kv z)
   refine congrArg (Value.int .i64) ?_;unfold gz;(simp[*];done)
  show kv'6=jL kv z
  unfold jL;(simp[*];done)
 have p5:=e5;try simp only[dc] at p5
 refine A.c<|A.g [.p] [2,3,16] [(4,i_ 1)]<|A.e<|A.Y [0,0] [i_ 1] (kv) ?_ ?_
 ·show((i_ 1):Value)=(i_<|gz kv z)
  refine congrArg (Value.int .i64) ?_;unfold gz;(simp[*];done)
 show kv=jL kv z
 unfold jL;(simp[*];done)
theorem Pe(bt mb:Nat)(kv:List (Int×Cl))(t:Int)(al:Option Addr)(l:List Zc)(cl:Nat)(hL:dr kv)(hK:mH kv)(hz: ∀z∈l,j0 z)(hok:iN kv t l≠0)(w:World)(r0:(cw bt [.map<|some mb] 185).holds w)(r1:(dy mb kv).holds w)(r2:eo w al (V.dF jS l)):
  CW 66 #[p_ bt,i_ t,vS al l cl] w (.tuple #[n_,i_<|ja kv t l,i_<|iN kv t l]):=by
 refine A.C Tryz.func66 rfl (HS.nil w) (A.c<|A.g (ps 3) [] []<|A.d<|A.y<|A.c<|A.g (ps 3) [] [(14,b_ false)]<|A.cf<|A.c<|A.g [.p,.p,.p,.o,.p,.p,.cl,.p] [14] [(17,b_<|(decide (t<1))||(decide (t>65536)))]<|A.v rfl (fun e1=>?_) (fun e1=>?_))
 ·have p1:=e1;try simp only[dc] at p1
  refine A.c<|A.g (ps 3) [0,1,2,17] [(6,n_),(7,i_ 0),(8,i_ 1)]<|A.e<|A.W [n_,i_ 0,i_ 1] ?_
  show((.tuple #[n_,i_ 0,i_ 1]):Value)=(.tuple #[n_,i_<|ja kv t l,i_<|iN kv t l])
  rw[(DX (kv:=kv) (l:=l)<|by omega).1,(DX (kv:=kv) (l:=l)<|by omega).2]
 have p1:=e1;try simp only[dc] at p1
 refine A.c<|A.g (ps 4) [17] [(24,b_<|decide ((l.length:Int)>32))]<|A.v rfl (fun e2=>?_) (fun e2=>?_)
 ·have p2:=of_decide_eq_true e2
  refine A.c<|A.g (ps 3) [0,1,2,24] [(6,n_),(7,i_ 0),(8,i_ 2)]<|A.e<|A.W [n_,i_ 0,i_ 2] ?_
  show((.tuple #[n_,i_ 0,i_ 2]):Value)=(.tuple #[n_,i_<|ja kv t l,i_<|iN kv t l])
  rw[(DY (kv:=kv) (by omega)<|by omega).1,(DY (kv:=kv) (by omega)<|by omega).2]
 have p2:=of_decide_eq_false e2
 refine A.p<|A.c<|A.N [.p] [0,24] [(28,p_ bt)]<|A.j<|A.I (some 29) [] (fun w s h=>Gn bt mb kv w (d6 s r0) (d6 s r1) h) ?_
 rintro⟨bc1,mc2⟩-
 refine A.g [.p] [28,29] [(9,p_ bc1)]<|A.d<|A.c<|A.g (ps 3) [2] [(30,vS al l cl),(31,c_ l.length),(32,i_ 0)]<|A.y<|A.lp (σ:=Nat×(List<|Int×Cl)) [] (fun(k,kw)=>[(32,c_ k)]) [0,0] (fun(k,kw)=>[cw bc1 [.map<|some mc2] 185,dy mc2 kw]) (fun(k,kw)=>(k≤l.length)∧(kw=di kv (l.take k))∧(kA kv (l.take k)=0)∧(dr kw)∧(mH kw)) (fun(k,kw)=>l.length-k) (0,kv) ⟨(by omega),(by rfl),(by rfl),‹_›,‹_›⟩ ?_ ?_
 ·exact A.J [0,0]
 rintro⟨k,kw⟩ ⟨hk,hw,h0,hLw,hKw⟩
 refine A.c<|A.g [.p] [] [(33,b_<|decide ((k:Int)<(l.length:Int)))]<|A.d<|A.v rfl (fun e4=>?_) (fun e4=>?_)
 ·have p4:=of_decide_eq_true e4
  refine A.p<|A.d<|A.y<|A.c<|A.kp [.p,.ix] [33] [(34,c_ k),(35,.pointer<|some<|(dR al).add (k*15))] [] (o1<|io (k:Int)<|gW uJ (by decide) (ef r2<|by simp[dE])<|by omega) ?_
  obtain⟨x3,hx3⟩: ∃x,(l)[k]? =some x:=⟨_,List.getElem?_eq_getElem<|by omega⟩
  refine A.no [.rd<|jS x3,.al,.p,.st 2] [34,35] (fun b4=>[(11,p_ b4),(10,c_ k)]) (fun b4=>[]) (fun b4=>cw b4 (jS x3) 84) (fun b4=>[b4]) (fun b4=>o1<|ro ((dR al).add (k*15))<|fS (vs:=(jS x3)) uJ (ef r2<|by simp[dE]) hx3 (Nat.le_of_ble_eq_true rfl) rfl) ?_
  intro b4
  refine A.c<|A.gm [.p,.ld 2] [11] [(37,p_ bc1),(38,.agg (jS x3).toArray)] [b4]<|A.j<|A.I (some 39) [0,0] (fun w s h=>GI bc1 mc2 kw x3 ‹_› w h) ?_
  rintro kv'5 hz5
  refine A.g [.p] [37,38,39] [(12,i_<|gz kw x3)]<|A.c<|A.g [.p,.p] [] [(41,b_<|(gz kw x3)!=0)]<|A.v rfl (fun e6=>?_) (fun e6=>?_)
  ·have p6:=e6;try simp only[dc] at p6
   refine A.c<|A.h (ps 5) [(6,n_),(7,c_ k),(8,i_<|gz kw x3)] []<|A.e<|A.W [n_,c_ k,i_<|gz kw x3] ?_
   show((.tuple #[n_,c_ k,i_<|gz kw x3]):Value)=(.tuple #[n_,i_<|ja kv t l,i_<|iN kv t l])
   (subst hw;obtain⟨g1_,g2_⟩:=Jk (t:=t) (by omega) (by omega) (DI ‹_› h0 ‹_›) ‹_›;rw[g1_,g2_])
  have p6:=e6;try simp only[dc] at p6
  refine A.p<|A.s<|A.hk [.w<|(k:Int)+1,.p] [(1,i_ t),(9,p_ bc1),(30,vS al l cl),(31,c_ l.length),(32,i_<|(k:Int)+1)] [] (o1<|wj ((k:Int)+1)<|by omega)<|A.Z (k+1,kv'5) ⟨(by omega),(by(subst_vars;exact(xN ‹_› h0 ‹_›).2.symm)),(by(subst hw;exact(xN ‹_› h0 ‹_›).1)),(by(subst_vars;exact xO hLw _)),(by(subst_vars;exact CE hKw hLw<|hz _<|List.mem_of_getElem? ‹_›))⟩ (by(show l.length-(k+1)<l.length-k;omega)) ?_
  exact A.J [0,0]
 have p4:=of_decide_eq_false e4
 refine A.aA<|A.d<|A.c<|A.N [.p,.p] [1,30,31,32,33] [(45,i_ t),(46,p_ bc1)]<|A.j<|A.I (some 47) [] (fun w s h=>FT bc1 mc2 kw (by(have h_:=hLw.len;omega)) w (s.mem (i:=0) rfl) (s.mem (i:=1) rfl) h) ?_
 rintro⟨al'6,cl'7⟩-
 refine A.k [.cq<|i_<|lC t<|ir kw,.p] [45,46,47] [(13,i_<|lC t<|ir kw)] [] (o1<|qo<|fun w s=>EU t al'6 (ir kw) cl'7 (by(exact Nat.le_trans (ES _) (by have h_:=hLw.len;omega))) (Ew hKw) w<|(fM (i:=0) rfl) w s)<|A.c<|A.g [.p,.p] [] [(50,b_<|(lC t<|ir kw)!=0)]<|A.v rfl (fun e8=>?_) (fun e8=>?_)
 ·have p8:=e8;try simp only[dc] at p8
  refine A.c<|A.g (ps 4) [9,13,50] [(6,n_),(7,i_ 0),(8,i_<|lC t<|ir kw)]<|A.e<|A.W [n_,i_ 0,i_<|lC t<|ir kw] ?_
  show((.tuple #[n_,i_ 0,i_<|lC t<|ir kw]):Value)=(.tuple #[n_,i_<|ja kv t l,i_<|iN kv t l])
  have hk2_:l.take k=l:=List.take_of_length_le<|by omega
  rw[hk2_] at hw h0
  obtain⟨g1_,g2_⟩:=DZ (t:=t) (by omega) (by omega) h0
  (subst hw;rw[g1_,g2_])
 have p8:=e8;try simp only[dc] at p8
 refine A.p<|A.c<|A.g (ps 4) [9,13,50] [(6,p_ bc1),(7,i_ 0),(8,i_ 0)]<|A.e<|A.W [p_ bc1,i_ 0,i_ 0] ?_
 show((.tuple #[p_ bc1,i_ 0,i_ 0]):Value)=(.tuple #[n_,i_<|ja kv t l,i_<|iN kv t l])
 have hk2_:l.take k=l:=List.take_of_length_le<|by omega
 rw[hk2_] at hw h0
 obtain⟨g1_,g2_⟩:=DZ (t:=t) (by omega) (by omega) h0
 (subst hw;exact absurd (g1_.trans ‹_›) hok)
theorem TF(bt mb:Nat)(kv:List (Int×Cl))(t:Int)(al:Option Addr)(l:List Zc)(cl:Nat)(hL:dr kv)(hK:mH kv)(hz: ∀z∈l,j0 z)(hok:iN kv t l=0)(w:World)(r0:(tN bt mb).holds w)(r1:(dy mb kv).holds w)(r2:eo w al (V.dF jS l))(hs:HI w []):
  CV 66 #[p_ bt,i_ t,vS al l cl] w [] (fun((bc,mc):Nat×Nat)=>(.tuple #[p_ bc,i_ 0,i_ 0])) (fun _=>True) fun(bc,mc)=>[tN bc mc,dy mc<|di kv l]:=by
 refine A.C Tryz.func66 rfl hs (A.c<|A.g (ps 3) [] []<|A.d<|A.y<|A.c<|A.g (ps 3) [] [(14,b_ false)]<|A.cf<|A.c<|A.g [.p,.p,.p,.o,.p,.p,.cl,.p] [14] [(17,b_<|(decide (t<1))||(decide (t>65536)))]<|A.v rfl (fun e1=>?_) (fun e1=>?_))
 ·exact absurd e1<|by(intro h_;exact absurd ((DX (kv:=kv) (l:=l) (by simp at h_;omega)).1.symm.trans hok)<|by decide)
 have p1:=e1;try simp only[dc] at p1
 refine A.c<|A.g (ps 4) [17] [(24,b_<|decide ((l.length:Int)>32))]<|A.v rfl (fun e2=>?_) (fun e2=>?_)
 ·exact absurd e2<|by(intro h_;exact absurd ((DY (kv:=kv) (t:=t) (l:=l) (by omega) (by simp at h_;omega)).1.symm.trans hok)<|by decide)
 have p2:=of_decide_eq_false e2
 refine A.p<|A.c<|A.N [.p] [0,24] [(28,p_ bt)]<|A.j<|A.I (some 29) [] (fun w s h=>Gn bt mb kv w (d6 s r0) (d6 s r1) h) ?_
 rintro⟨bc1,mc2⟩-
 refine A.g [.p] [28,29] [(9,p_ bc1)]<|A.d<|A.c<|A.g (ps 3) [2] [(30,vS al l cl),(31,c_ l.length),(32,i_ 0)]<|A.y<|A.lp (σ:=Nat×(List<|Int×Cl)) [] (fun(k,kw)=>[(32,c_ k)]) [0,0] (fun(k,kw)=>[tN bc1 mc2,dy mc2 kw]) (fun(k,kw)=>(k≤l.length)∧(kw=di kv (l.take k))∧(kA kv (l.take k)=0)∧(dr kw)∧(mH kw)) (fun(k,kw)=>l.length-k) (0,kv) ⟨(by omega),(by rfl),(by rfl),‹_›,‹_›⟩ ?_ ?_
 ·exact A.J [0,0]
 rintro⟨k,kw⟩ ⟨hk,hw,h0,hLw,hKw⟩
 refine A.c<|A.g [.p] [] [(33,b_<|decide ((k:Int)<(l.length:Int)))]<|A.d<|A.v rfl (fun e4=>?_) (fun e4=>?_)
 ·have p4:=of_decide_eq_true e4
  refine A.p<|A.d<|A.y<|A.c<|A.kp [.p,.ix] [33] [(34,c_ k),(35,.pointer<|some<|(dR al).add (k*15))] [] (o1<|io (k:Int)<|gW uJ (by decide) (ef r2<|by simp[dE])<|by omega) ?_
  obtain⟨x3,hx3⟩: ∃x,(l)[k]? =some x:=⟨_,List.getElem?_eq_getElem<|by omega⟩
  refine A.no [.rd<|jS x3,.al,.p,.st 2] [34,35] (fun b4=>[(11,p_ b4),(10,c_ k)]) (fun b4=>[]) (fun b4=>cw b4 (jS x3) 84) (fun b4=>[b4]) (fun b4=>o1<|ro ((dR al).add (k*15))<|fS (vs:=(jS x3)) uJ (ef r2<|by simp[dE]) hx3 (Nat.le_of_ble_eq_true rfl) rfl) ?_
  intro b4
  refine A.c<|A.gm [.p,.ld 2] [11] [(37,p_ bc1),(38,.agg (jS x3).toArray)] [b4]<|A.j<|A.I (some 39) [0,0] (fun w s h=>GI bc1 mc2 kw x3 ‹_› w h) ?_
  rintro kv'5 hz5
  refine A.g [.p] [37,38,39] [(12,i_<|gz kw x3)]<|A.c<|A.g [.p,.p] [] [(41,b_<|(gz kw x3)!=0)]<|A.v rfl (fun e6=>?_) (fun e6=>?_)
  ·exact absurd e6<|by(intro h_;have h2_: ¬gz kw x3=0:=(by simpa using h_);rw[hw] at h2_;exact absurd ((Jk (by omega) (by omega) (DI ‹_› h0 h2_) h2_).1.symm.trans hok) h2_)
  have p6:=e6;try simp only[dc] at p6
  refine A.p<|A.s<|A.hk [.w<|(k:Int)+1,.p] [(1,i_ t),(9,p_ bc1),(30,vS al l cl),(31,c_ l.length),(32,i_<|(k:Int)+1)] [] (o1<|wj ((k:Int)+1)<|by omega)<|A.Z (k+1,kv'5) ⟨(by omega),(by(subst_vars;exact(xN ‹_› h0 ‹_›).2.symm)),(by(subst hw;exact(xN ‹_› h0 ‹_›).1)),(by(subst_vars;exact xO hLw _)),(by(subst_vars;exact CE hKw hLw<|hz _<|List.mem_of_getElem? ‹_›))⟩ (by(show l.length-(k+1)<l.length-k;omega)) ?_
  exact A.J [0,0]
 have p4:=of_decide_eq_false e4
 refine A.aA<|A.d<|A.c<|A.N [.p,.p] [1,30,31,32,33] [(45,i_ t),(46,p_ bc1)]<|A.j<|A.I (some 47) [] (fun w s h=>FT bc1 mc2 kw (by(have h_:=hLw.len;omega)) w (s.mem (i:=0) rfl) (s.mem (i:=1) rfl) h) ?_
 rintro⟨al'6,cl'7⟩-
 refine A.k [.cq<|i_<|lC t<|ir kw,.p] [45,46,47] [(13,i_<|lC t<|ir kw)] [] (o1<|qo<|fun w s=>EU t al'6 (ir kw) cl'7 (by(exact Nat.le_trans (ES _) (by have h_:=hLw.len;omega))) (Ew hKw) w<|(fM (i:=0) rfl) w s)<|A.c<|A.g [.p,.p] [] [(50,b_<|(lC t<|ir kw)!=0)]<|A.v rfl (fun e8=>?_) (fun e8=>?_)
 ·exact absurd e8<|by(intro h_;have hk2_:l.take k=l:=List.take_of_length_le (by omega);rw[hk2_] at hw h0;rw[hw] at h_;simp at h_;exact absurd ((DZ (by omega) (by omega) h0).1.symm.trans hok) h_)
 refine A.p<|A.c<|A.g (ps 4) [9,13,50] [(6,p_ bc1),(7,i_ 0),(8,i_ 0)]<|A.e ?_
 rw[show kw=(di kv l) from by grind]
 refine A.Y [1,1] [p_ bc1,i_ 0,i_ 0] (bc1,mc2) ?_ ?_
 ·rfl
 trivial
variable{P:Program}{t ti e:TypeId}{k:IntKind}
theorem Jy{ty:TypeId}{i:TypeInfo}{z:Value}{n:Nat}(w:World)(ht:P.underlying t=some (.slice e))(hti:P.underlying ti=some (.int k))(hi:P.info? e=some i)(hz:i.zero=some z)(hzs:z.cells.size=i.size)(hsz:0<i.size)
  (hn:0<n)(h63:n≤maxLen)(hbytes:n*i.bytes≤140737488355328):
  ∃b c' w',(Builtin.append_ #[t,ti] ty #[.slice none 0 0,.int .i64 n]).run P w= .ok (.slice (some ⟨b,0,none⟩) n c') w'∧(sl (some ⟨b,0,none⟩) 0 c' e i.size []).holds w'∧Fr [] w w'∧w.heap.size≤b:=by
 have hge:=grownCap_ge w n 0 e
 have hcm':grownCap w n 0 e≤maxLen:=grownCap_le_maxLen w n 0 e h63
 obtain⟨w',hw'⟩: ∃w',w'=(World.drew w).alloc (.cells (Builtin.zeroCells z.cells n++Builtin.zeroCells z.cells (grownCap w n 0 e-n)) e):=⟨_,rfl⟩
 refine⟨w.heap.size,grownCap w n 0 e,w',?_,⟨by simp,Nat.zero_le _,hcm',.inr ⟨w.heap.size,0,_,rfl,by rw[hw'];exact heap_alloc_new w.drew _,?_,by simp⟩⟩,?_,Nat.le_refl _⟩
 ·subst hw'
  have h48: ¬(Builtin.nextslicecap n 0*i.bytes>2^48):=by
   have h2:=growslice_fits (need:=n) (old:=0) (by omega) hbytes
   omega
  have hmax:IntKind.i64.max=9223372036854775807:=by decide
  have hm63:n≤9223372036854775807:=by simp only[maxLen] at h63;omega
  have hwr:IntKind.i64.wrap (n:Int)=n:=km (e:=(n:Int)) (by constructor<;>omega)
  have hb48: ¬((n:Int)*(i.bytes:Int)>2^48):=by
   have:n*i.bytes≤2^48:=by omega
   have h2:((n*i.bytes:Nat):Int)≤2^48:=by exact_mod_cast this
   rw[Int.natCast_mul] at h2;omega
  have hn0: ¬((n:Int)<0):=by omega
  have hn1:n≠0:=by omega
  simp only[Builtin.append_]
  simp[run_underlying ht,run_underlying hti,sizeOf,typeInfo,zeroValue,hi,hz,Builtin.lenOf,h48,Question.forced,newRow,grownCap,asInt,asIntOf,hwr,hb48,hn0,hn1,Builtin.firstCells]
  have q1: ¬(281474976710656<(n:Int)*(i.bytes:Int)):=by omega
  have q2: ¬(9223372036854775807<(n:Int)):=by omega
  have q3: ¬(n*i.size=0):=Nat.ne_of_gt<|Nat.mul_pos hn hsz
  rw[if_neg q1,if_neg q2,if_neg q3]
 ·simp only[Array.size_append,size_zeroCells,hzs]
  rw[←Nat.add_mul,Nat.zero_add]
  apply Nat.le_of_eq;congr 1;omega
 ·subst hw'
  exact⟨rfl,rfl,rfl,by simp,fun k hk _=>heap_alloc_old w.drew _ hk⟩
theorem A.cE{n:Nat}{env:dM}{w0:World}{S:List Nat}{H:List V.dB}{ops:Array Oper}{o:Oper}{K:Act→World→Prop}(d:Nat){x y:Operand}{z:Value}{sz by_ m:Nat}
  (hok:gC ops n env o (some d)=true)(ho:o.op= .call {callee:= .builtin .append,args:=#[x,y],argTypes:=#[t,ti]})(hx:ev env x=some (.slice none 0 0))(hy:ev env y=some (.int .i64 m))
  (ht:P.underlying t=some (.slice e))(hti:P.underlying ti=some (.int k))(hinf:(P.info? e).map (fun i=>(i.zero,i.size,i.bytes))=some (some z,sz,by_))(hzs:z.cells.size=sz)(hsz:0<sz)(hm:0<m)(h63:m≤maxLen)(hbytes:m*by_≤140737488355328)
  (H':Nat→Nat→List V.dB)(hH: ∀b c,H++[sl (some ⟨b,0,none⟩) 0 c e sz []]=H' b c)
  (h: ∀b c,V.A n ((d,.slice (some ⟨b,0,none⟩) m c)::env) w0 S (H' b c) K):V.A n env w0 S H (eG P ops o K):=by
 intro a w r s
 obtain⟨h1',h2,h3,h4⟩:=jU hok
 unfold eG
 rw[if_pos<|i6 r h1']
 simp only[Option.map_eq_some_iff,Prod.mk.injEq] at hinf
 obtain⟨inf,hinf,hz,hs1,hs2⟩:=hinf
 subst hs1;subst hs2
 obtain⟨b,c,w',hrun,hsl,hfr,hb⟩:=Jy (P:=P) (ty:=o.type) w ht hti hinf hz hzs hsz hm h63 hbytes
 unfold Oper.wp execOp
 simp only[ho,resolve,invoke,builtin,Sem.run_bind,Sem.run_pure,Result.andThen_ok,List.map_toArray,List.map_cons,List.map_nil,r.ev hx,r.ev hy,hrun,Oper.upon,h2]
 refine h b c _ _ (r.put<|h3 d rfl) ?_
 rw[←hH]
 exact s.add hfr hsl (show(fq<|some ⟨b,0,none⟩).Nodup from yg _)<|by simpa[sl,fq] using hb
set_option maxHeartbeats 1000000 in
set_option maxRecDepth 100000 in
theorem MG(n:Nat)(hn:n≤1000)(w:World)(hs:HS w (dE []) [] w):
  Calls Tryz.prog 138 #[.slice none 0 0,c_ n] w fun e w'=> ∃zz:Option Addr×Nat,e= .returned ((fun zz=>match zz with|(al',cl')=>vS al' ([]:List Int) cl') zz)∧(fun zz=>match zz with|(al',cl')=>True) zz∧Turn [] ((fun zz=>match zz with|(al',cl')=>[sI al' ([]:List Int) cl']) zz) w w':=by
 refine A.C Tryz.func138 rfl hs (A.aO [(0,.slice none 0 0),(1,c_ n)] [] ⟨rfl,rfl,trivial⟩ rfl (A.c<|A.h [.p] [(0,.slice none 0 0),(1,c_ n),(4,.slice none 0 0)] []<|A.d<|A.c<|A.h [.p,.p] [(0,.slice none 0 0),(1,c_ n),(6,b_<|decide ((n:Int)<0))] []<|A.v (E:=decide ((n:Int)<0)) rfl (fun e1=>?_) (fun e1=>?_)))
 ·exact absurd e1<|by simp
 refine A.p<|A.d<|A.c<|A.hk [.p,.p,.p,.p,.p,.p,.w<|(n:Int)-0,.p] [(0,.slice none 0 0),(1,i_<|(n:Int)-0)] [] (o1<|wj ((n:Int)-0)<|by omega)<|A.d<|A.aQ [(0,.slice none 0 0),(1,c_ n)] ⟨rfl,congrArg (fun z_=>some<|i_ z_)<|Int.sub_zero _,trivial⟩<|A.s<|A.h [.p,.p] [(0,.slice none 0 0),(1,c_ n),(16,b_<|decide ((n:Int)>0))] []<|A.v (E:=decide ((n:Int)>0)) rfl (fun e2=>?_) (fun e2=>?_)
 ·have hn0:0<n:=by have:=of_decide_eq_true e2;omega
  refine A.s<|A.hp (ps 5) [(0,.slice none 0 0),(20,.slice none 0 0),(21,c_ n)] []<|A.j<|A.cE 22 (t:=65) (ti:=3) (e:=3) (k:= .i64) (z:=i_ 0) (sz:=1) (by_:=8) (m:=n) (by kernel_rfl) rfl rfl rfl (by kernel_rfl) (by kernel_rfl) (by kernel_rfl) (by rfl) (by decide) hn0 (by unfold maxLen;omega) (by omega) (fun b c=>[sI (some ⟨b,0,none⟩) ([]:List Int) c]) (fun _ _=>rfl) ?_
  intro b c
  refine A.hp [.p,.p] [(22,.slice (some ⟨b,0,none⟩) n c),(24,i_ 0)] [] (A.j (A.u (some 25) (.slice (if c=0 then some ⟨b,0,none⟩ else(some ⟨b,0,none⟩:Option Addr).map (·.add 0)) 0 c) (Oa (k:=0) (el:=3) (sz:=1) rfl rfl rfl (by kernel_rfl) (by kernel_rfl) (Nat.zero_le _)) (A.h [.p] [(0,.slice (if c=0 then some ⟨b,0,none⟩ else(some ⟨b,0,none⟩:Option Addr).map (·.add 0)) 0 c)] []<|A.aQ [(0,vS (some ⟨b,0,none⟩) ([]:List Int) c)] (by exact⟨congrArg (fun z_=>some<|Value.slice z_ 0 c) (by split<;>rfl),trivial⟩) ?_)))
  refine A.c<|A.h [.p,.p] [(4,vS (some ⟨b,0,none⟩) ([]:List Int) c)] []<|A.e<|A.aG [0] [vS (some ⟨b,0,none⟩) ([]:List Int) c] (fun _ w r s=>⟨fk r rfl,trivial⟩) (some ⟨b,0,none⟩,c) rfl trivial (by kernel_rfl)
 ·refine A.p<|A.c<|A.h [.p,.p] [(4,.slice none 0 0)] []<|A.aM 3 1 [sI none ([]:List Int) 0] rfl (A.e<|A.aG [0] [.slice none 0 0] (fun _ w r s=>⟨fk r rfl,trivial⟩) (none,0) rfl trivial (by kernel_rfl))
theorem Ko(bs:Nat)(ax:Option Addr)(xs:List Int)(cx:Nat)(ay:Option Addr)(ys:List Int)(cy:Nat)(hx:xs.length≤200)(hy:ys.length≤200)(w:World)(r0:(cw bs [vS ax xs cx,vS ay ys cy] 65).holds w)(r1:eo w ax (V.dF jj xs))(r2:eo w ay (V.dF jj ys))(hs:HI w []):
  CV 95 #[.slice (some ⟨bs,0,none⟩) 2 2] w [] (fun((al',cl'):(Option Addr)×Nat)=>(vS al' (xs++ys) cl')) (fun _=>True) fun(al',cl')=>[sI al' (xs++ys) cl']:=by
 refine A.C Tryz.func95 rfl hs (A.c<|A.g [.p] [] []<|A.c<|A.g [.p] [] [(3,i_ 0)]<|A.d<|A.c<|A.g (ps 3) [] [(9,.slice (some ⟨bs,0,none⟩) 2 2),(10,i_ 2),(11,i_ 0)]<|A.y<|A.aV 400<|A.aC (m:=399)<|A.c<|A.g [.p] [] [(12,b_ true)]<|A.d<|A.ct<|A.p<|A.d<|A.y<|A.c<|A.j<|A.u (some 13) (p_ bs) (kS (off:=0) (sz:=1) (el:=65) (e:=0) (len:=2) rfl rfl rfl (by kernel_rfl) (by kernel_rfl) (by omega))<|A.k [.rd [vS ax xs cx],.p] [12,13] [(5,vS ax xs cx)] [] (o1<|ro ⟨bs,0,none⟩ (vs:=[vS ax xs cx])<|df r0 rfl)<|A.c<|A.k [.p,.p,.p,.w<|0+(xs.length:Int),.p] [5] [(3,i_<|0+(xs.length:Int))] [] (o1<|wj (0+(xs.length:Int))<|by omega)<|A.c<|A.g [.p,.p] [] [(20,b_<|decide ((0+(xs.length:Int))<0))]<|A.v rfl (fun e1=>?_) (fun e1=>?_))
 ·exact absurd e1<|by(intro h_;have h2_:=of_decide_eq_true h_;omega)
 have p1:=of_decide_eq_false e1
 refine A.p<|A.s<|A.g [.p,.p] [20] [(11,i_ 1)]<|A.aC (m:=398)<|A.c<|A.g [.p] [] [(12,b_ true)]<|A.d<|A.ct<|A.p<|A.d<|A.y<|A.c<|A.j<|A.u (some 13) (q_ bs 1) (kS (off:=0) (sz:=1) (el:=65) (e:=1) (len:=2) rfl rfl rfl (by kernel_rfl) (by kernel_rfl) (by omega))<|A.k [.rd [vS ay ys cy],.p] [12,13] [(5,vS ay ys cy)] [] (o1<|ro ⟨bs,1,none⟩ (vs:=[vS ay ys cy])<|df r0 rfl)<|A.c<|A.k [.p,.p,.p,.w<|(0+(xs.length:Int))+(ys.length:Int),.p] [5] [(3,i_<|(0+(xs.length:Int))+(ys.length:Int))] [] (o1<|wj ((0+(xs.length:Int))+(ys.length:Int))<|by omega)<|A.c<|A.g [.p,.p] [] [(20,b_<|decide (((0+(xs.length:Int))+(ys.length:Int))<0))]<|A.v rfl (fun e2=>?_) (fun e2=>?_)
 ·exact absurd e2<|by(intro h_;have h2_:=of_decide_eq_true h_;omega)
 have p2:=of_decide_eq_false e2
 refine A.p<|A.s<|A.g [.p,.p] [20] [(11,i_ 2)]<|A.aC (m:=397)<|A.c<|A.g [.p] [] [(12,b_ false)]<|A.d<|A.cf<|A.aA<|A.d<|A.D 3 (c_ (xs.length+ys.length:Nat)) (mE<|by(show(0+(xs.length:Int))+(ys.length:Int)=((xs.length+ys.length:Nat):Int);omega))<|A.s<|A.hp [.p] [(0,.slice (some ⟨bs,0,none⟩) 2 2),(23,c_ (xs.length+ys.length:Nat))] []<|A.j<|A.I (some 24) [] (fun w s h=>MG (xs.length+ys.length:Nat) (by omega) w h) ?_
 rintro⟨al'1,cl'2⟩-
 refine A.g [.p] [23,24] [(6,vS al'1 ([]:List Int) cl'2)]<|A.d<|A.c<|A.g (ps 3) [0] [(25,.slice (some ⟨bs,0,none⟩) 2 2),(26,i_ 2),(27,i_ 0)]<|A.y<|A.aV 400<|A.aC (m:=399)<|A.c<|A.g [.p] [] [(28,b_ true)]<|A.d<|A.ct<|A.p<|A.d<|A.y<|A.c<|A.j<|A.u (some 29) (p_ bs) (kS (off:=0) (sz:=1) (el:=65) (e:=0) (len:=2) rfl rfl rfl (by kernel_rfl) (by kernel_rfl) (by omega))<|A.k [.rd [vS ax xs cx],.p] [28,29] [(8,vS ax xs cx)] [] (o1<|ro ⟨bs,0,none⟩ (vs:=[vS ax xs cx])<|df r0 rfl)<|A.s<|A.N [.p,.p] [8] [(31,vS al'1 ([]:List Int) cl'2),(32,vS ax xs cx)]<|A.j<|A.ap jj ([]:List Int) xs 0 33 (i_ 0) 8 fD lg (ef r1<|by simp[dE]) (by((simp;omega))) ?_
 intro A4 c4
 refine A.g [.p] [31,32,33] [(6,vS A4 xs c4)]<|A.s<|A.g [.p,.p] [] [(27,i_ 1)]<|A.aC (m:=398)<|A.c<|A.g [.p] [] [(28,b_ true)]<|A.d<|A.ct<|A.p<|A.d<|A.y<|A.c<|A.j<|A.u (some 29) (q_ bs 1) (kS (off:=0) (sz:=1) (el:=65) (e:=1) (len:=2) rfl rfl rfl (by kernel_rfl) (by kernel_rfl) (by omega))<|A.k [.rd [vS ay ys cy],.p] [28,29] [(8,vS ay ys cy)] [] (o1<|ro ⟨bs,1,none⟩ (vs:=[vS ay ys cy])<|df r0 rfl)<|A.s<|A.N [.p,.p] [8] [(31,vS A4 xs c4),(32,vS ay ys cy)]<|A.j<|A.ap jj xs ys 0 33 (i_ 0) 8 fD lg (ef r2<|by simp[dE]) (by((simp;omega))) ?_
 intro A5 c5
 refine A.g [.p] [31,32,33] [(6,vS A5 (xs++ys) c5)]<|A.s<|A.g [.p,.p] [] [(27,i_ 2)]<|A.aC (m:=397)<|A.c<|A.g [.p] [] [(28,b_ false)]<|A.d<|A.cf<|A.aA<|A.c<|A.g [.p,.p] [6,25,26,27,28] [(2,vS A5 (xs++ys) c5)]<|A.e<|A.Y [0] [vS A5 (xs++ys) c5] (A5,c5) ?_ ?_
 ·rfl
 trivial
end Go.Proofs.YtobgjpigngoggaaGreat
namespace Go.Proofs.YtobgjpigngoggaaGreat
open Go V
def kg(kv kw:List (Int×Cl))(i:Int):Bool:=decide (cu kv i≠cu kw i)
abbrev j6(kv:List (Int×Cl)):List Int:=dH kv<|fun v_=>true
def fw(kv kw:List (Int×Cl))(k:Nat):List Int:=((j6 kv++j6 kw).take k).filter (kg kv kw)
def eH(kv kw:List (Int×Cl)):List Int:=Go.Lib.compact<|ga<|(j6 kv++j6 kw).filter (kg kv kw)
variable{kv kw:List (Int×Cl)}{k:Nat}
theorem Iy{i:Int}(h:(j6 kv++j6 kw)[k]? =some i)(hd:kg kv kw i=true):fw kv kw k++[i]=fw kv kw (k+1):=by
 unfold fw;rw[List.take_add_one,h,List.filter_append];simp[hd]
theorem Iz{i:Int}(h:(j6 kv++j6 kw)[k]? =some i)(hd:kg kv kw i=false):fw kv kw k=fw kv kw (k+1):=by
 unfold fw;rw[List.take_add_one,h,List.filter_append];simp[hd]
theorem Nw(kv kw:List (Int×Cl))(k:Nat):(fw kv kw k).length≤k:=Nat.le_trans (List.length_filter_le _ _) (by simp;omega)
theorem GK(h:(j6 kv++j6 kw).length≤k):fw kv kw k=(j6 kv++j6 kw).filter (kg kv kw):=by unfold fw;rw[List.take_of_length_le h]
theorem wQ(kv:List (Int×Cl)):(j6 kv).length≤kv.length:=oN _ _
theorem Dw(l:List Int):(Go.Lib.compact l).length≤l.length:=by
 unfold Go.Lib.compact Go.Lib.compactUpTo;rw[List.length_map];exact Nat.le_trans (List.length_filter_le _ _)<|by simp
open Go.RowKit Go.Sort Go.Shelf Go.Proofs
def Tryz.laysNm220_ren:Go.Shelf.Ren:=⟨fun|20=>97|n=>n,fun|22=>65|3=>3|4=>4|0=>0|n=>n,fun|n=>n⟩
theorem Tryz.laysNm220:Go.Proofs.Lays2.n20 Tryz.prog Tryz.laysNm220_ren:={
 mixed:=by kernel_rfl
 f20:=Tryz.func97.trans<|congrArg some<|by kernel_rfl
 t0:=Tryz.underlying0
 a0:=Tryz.isAgg0
 z0:=Tryz.sizeOf0
 v0:=Tryz.zeroValue0
 t3:=Tryz.underlying3
 a3:=Tryz.isAgg3
 z3:=Tryz.sizeOf3
 v3:=Tryz.zeroValue3
 t4:=Tryz.underlying4
 a4:=Tryz.isAgg4
 z4:=Tryz.sizeOf4
 v4:=Tryz.zeroValue4
 t22:=Tryz.underlying65
 a22:=Tryz.isAgg65
 z22:=Tryz.sizeOf65
 v22:=Tryz.zeroValue65
 i3:=by kernel_rfl}
theorem LN(A:Option Addr)(l:List Int)(c:Nat)(hl:l.length≤100000):
  CS 97 #[vS A l c] [sI A l c] (fun(zz:Unit)=>(vS A (Go.Lib.compact l) c)) (fun _=>True) fun _=>[sI A (Go.Lib.compact l) c]:=by
 intro w hs
 have h0:(sI A l c).holds w:=hs.all _<|by simp
 cases A with
 |none=>
  have hl0:l=[]:=by
   obtain⟨_,h2,_,⟨_,h4⟩|⟨_,_,_,h4,_⟩⟩:=h0
   ·exact List.eq_nil_of_length_eq_zero<|by omega
   ·cases h4
  subst hl0
  refine(Any.slices_Compact_int_empty Tryz.laysNm220 none c w).mono ?_
  rintro e w' ⟨rfl,rfl⟩
  exact⟨(),rfl,trivial,Turn.of hs<|.refl _⟩
 |some a=>
  obtain⟨g,off,rfl⟩: ∃g off,a=⟨g,off,none⟩:=by
   obtain⟨_,_,_,⟨h4,_⟩|⟨g,off,_,h4,_⟩⟩:=id h0
   ·cases h4
   ·cases h4;exact⟨g,off,rfl⟩
  obtain⟨hH,hlt⟩:=Ee (fun _=>rfl) h0
  refine(Any.slices_Compact_int Tryz.laysNm220 g off c l w hH (by omega) h0.2.1).mono ?_
  rintro e w' ⟨rfl,q,rfl⟩
  exact⟨(),rfl,trivial,IL (fun _=>rfl) (by have:=Dw l;simp;omega) h0⟩
abbrev JA(p0)(p1):=((.tuple #[.agg (dx<|dD p0 p1).toArray,i_<|fZ p0 p1]):Value)
theorem JB(bt mb:Nat)(kv:List (Int×Cl))(bu mc:Nat)(kw:List (Int×Cl))(hl:kv.length≤64)(hm:kw.length≤64)(w:World)(r0:(cw bt [.map<|some mb] 185).holds w)(r1:(dy mb kv).holds w)(r2:(cw bu [.map<|some mc] 185).holds w)(r3:(dy mc kw).holds w)(hs:HI w []):
  CV 67 #[p_ bt,p_ bu] w [] (fun((al',cl'):(Option Addr)×Nat)=>(vS al' (eH kv kw) cl')) (fun _=>True) fun(al',cl')=>[sI al' (eH kv kw) cl']:=by
 have hk1:=wQ kv;have hk2:=wQ kw;unfold j6 at hk1 hk2;have hk3:((dH kv<|fun v_=>true)++(dH kw<|fun v_=>true)).length≤128:=by rw[List.length_append];omega
 refine A.C Tryz.func67 rfl hs (A.c<|A.g [.p] [] []<|A.c<|A.g [.p] [] [(5,e_)]<|A.d<|A.c<|A.N [.p] [] [(12,p_ bt)]<|A.j<|A.I (some 13) [] (fun w s h=>BV bt mb kv (by omega) w (d6 s r0) (d6 s r1) h) ?_)
 rintro⟨al'1,cl'2⟩-
 refine A.N [.p] [12] [(13,vS al'1 (dH kv<|fun v_=>true) cl'2),(14,p_ bu)]<|A.j<|A.I (some 15) [] (fun w s h=>BV bu mc kw (by omega) w (d6 s r2) (d6 s r3) h) ?_
 rintro⟨al'4,cl'5⟩-
 refine A.j<|A.aE 16 (e:=65) [vS al'1 (dH kv<|fun v_=>true) cl'2,vS al'4 (dH kw<|fun v_=>true) cl'5] (by kernel_rfl) rfl (fun _=>by kernel_rfl) _ (fun _=>rfl) ?_
 intro b7
 refine A.j<|A.I (some 17) [] (fun w s h=>Ko b7 al'1 (dH kv<|fun v_=>true) cl'2 al'4 (dH kw<|fun v_=>true) cl'5 (by omega) (by omega) w (s.mem (i:=2) rfl) ((fM (i:=1) rfl) w s) ((fM (i:=0) rfl) w s) h) ?_
 rintro⟨al'8,cl'9⟩-
 refine A.g [.p,.p] [13,14,15,16] [(17,vS al'8 ((dH kv<|fun v_=>true)++(dH kw<|fun v_=>true)) cl'9),(18,i_ (((dH kv<|fun v_=>true)++(dH kw<|fun v_=>true)).length:Int)),(19,i_ 0)]<|A.y<|A.aM 3 1 [sI al'8 ((dH kv<|fun v_=>true)++(dH kw<|fun v_=>true)) cl'9,sI al'4 (dH kw<|fun v_=>true) cl'5,sI al'1 (dH kv<|fun v_=>true) cl'2,cw b7 [vS al'1 (dH kv<|fun v_=>true) cl'2,vS al'4 (dH kw<|fun v_=>true) cl'5] 65,sI none ([]:List Int) 0] rfl (A.su 4 (sI none (fw kv kw 0) 0) rfl (eI (by rfl:([]:List Int)=(fw kv kw 0))) (A.D 5 (vS none (fw kv kw 0) 0) (congrArg (fun z_:List Int=>some<|Value.slice none z_.length 0) (by rfl:([]:List Int)=(fw kv kw 0)))<|A.lp (σ:=Nat×(Option Addr)×Nat) [] (fun(k,ao,co)=>[(19,c_ k),(5,vS ao (fw kv kw k) co)]) [4] (fun(k,ao,co)=>[sI ao (fw kv kw k) co]) (fun(k,ao,co)=>(k≤((dH kv<|fun v_=>true)++(dH kw<|fun v_=>true)).length)) (fun(k,ao,co)=>((dH kv<|fun v_=>true)++(dH kw<|fun v_=>true)).length-k) (0,none,0) (by omega) ?_ ?_))
 ·exact A.J [4,0,0,0,0]
 rintro⟨k,ao,co⟩ hk
 have hk:k≤((dH kv<|fun v_=>true)++(dH kw<|fun v_=>true)).length:=hk
 have htl:=Nw kv kw k
 refine A.c<|A.g [.p] [] [(20,b_<|decide ((k:Int)<(((dH kv<|fun v_=>true)++(dH kw<|fun v_=>true)).length:Int)))]<|A.d<|A.v rfl (fun e4=>?_) (fun e4=>?_)
 ·have p4:=of_decide_eq_true e4
  refine A.p<|A.d<|A.y<|A.c<|A.kp [.ix] [20] [(21,.pointer<|some<|(dR al'8).add (k*1))] [] (o1<|dW 1 k fD rfl (by omega)) ?_
  obtain⟨x12,hx12⟩: ∃x,(((dH kv<|fun v_=>true)++(dH kw<|fun v_=>true)))[k]? =some x:=⟨_,List.getElem?_eq_getElem<|by omega⟩
  refine A.k [.rd [i_ x12],.p] [21] [(7,i_ x12)] [] (o1<|ro ((dR al'8).add (k*1))<|fS (vs:=[i_ x12]) fD (fM (i:=1) rfl) hx12 (Nat.le_of_ble_eq_true rfl) rfl)<|A.c<|A.no [.p,.p,.cq<|JA kv x12,.p,.p,.p,.al,.st 5,.p] [] (fun b13=>[(8,p_ b13),(9,i_<|fZ kv x12)]) (fun b13=>[]) (fun b13=>cw b13 (dx<|dD kv x12) 62) (fun b13=>[b13]) (fun b13=>o1<|qo<|fun w s=>rK bt mb kv x12 w (d6 s r0)<|d6 s r1) ?_
  intro b13
  refine A.c<|A.no [.p,.p,.cq<|JA kw x12,.p,.p,.p,.al,.st 6,.p] [] (fun b14=>[(10,p_ b14),(11,i_<|fZ kw x12)]) (fun b14=>[]) (fun b14=>cw b14 (dx<|dD kw x12) 62) (fun b14=>[b14]) (fun b14=>o1<|qo<|fun w s=>rK bu mc kw x12 w (d6 s r2)<|d6 s r3) ?_
  intro b14
  refine A.c<|A.gl [.p,.p,.p,.p,.eq,.p,.o,.ld 5,.ld 6,.eq,.cl] [8,9,10,11] [(44,b_<|(!(((fZ kv x12)==0)==((fZ kw x12)==0)))||(!((((dD kv x12).hi)==((dD kw x12).hi))&&((((dD kv x12).hp)==((dD kw x12).hp))&&((((dD kv x12).hl)==((dD kw x12).hl))&&(((((dD kv x12).ra)==((dD kw x12).ra))&&((((dD kv x12).rb)==((dD kw x12).rb))&&(((dD kv x12).rc)==((dD kw x12).rc))))&&(((((dD kv x12).la)==((dD kw x12).la))&&((((dD kv x12).lb)==((dD kw x12).lb))&&(((dD kv x12).lc)==((dD kw x12).lc))))&&(((((dD kv x12).ua)==((dD kw x12).ua))&&((((dD kv x12).ub)==((dD kw x12).ub))&&(((dD kv x12).uc)==((dD kw x12).uc))))&&((((dD kv x12).hk)==((dD kw x12).hk))&&(((dD kv x12).hq)==((dD kw x12).hq)))))))))))] [b13,b14]<|A.v rfl (fun e5=>?_) (fun e5=>?_)
  ·have hdf:kg kv kw x12=true:=by
    revert e5;unfold kg;cases h1_:cu kv x12 with
    |none=>cases h2_:cu kw x12 with
     |none=>simp[fZ,dD,h1_,h2_,dj]
     |some v_=>simp[fZ,dD,h1_,h2_,dj]
    |some u_=>cases h2_:cu kw x12 with
     |none=>simp[fZ,dD,h1_,h2_,dj]
     |some v_=>obtain⟨_,_,_,_,_,_,_,_,_,_,_,_,_,_⟩:=u_;obtain⟨_,_,_,_,_,_,_,_,_,_,_,_,_,_⟩:=v_;simp[fZ,dD,h1_,h2_];try(grind)
   refine A.s<|A.N [.p,.p] [7,44] [(45,vS ao (fw kv kw k) co),(46,i_ x12)]<|A.j<|A.aE 47 (e:=3) [i_ x12] (by kernel_rfl) rfl (fun _=>by kernel_rfl) _ (fun _=>rfl) ?_
   intro b15
   refine A.j<|A.ap jj (fw kv kw k) ([x12]) 0 48 (i_ 0) 8 fD lg (gG (i:=7) rfl) (by((simp;omega))) ?_
   intro A16 c16
   refine A.g [.p] [45,46,47,48] [(5,vS A16 ((fw kv kw k)++([x12])) c16)]<|A.s<|A.hk [.w<|(k:Int)+1,.p] [(0,p_ bt),(1,p_ bu),(17,vS al'8 ((dH kv<|fun v_=>true)++(dH kw<|fun v_=>true)) cl'9),(18,i_ (((dH kv<|fun v_=>true)++(dH kw<|fun v_=>true)).length:Int)),(19,i_<|(k:Int)+1),(5,vS A16 ((fw kv kw k)++([x12])) c16)] [] (o1<|wj ((k:Int)+1)<|by omega)<|A.su 0 (sI A16 (fw kv kw<|k+1) c16) rfl (eI (Iy ‹_› hdf:(fw kv kw k)++([x12])=(fw kv kw<|k+1))) (A.D 5 (vS A16 (fw kv kw<|k+1) c16) (fN<|Iy ‹_› hdf)<|A.Z (k+1,A16,c16) (by omega) (by(have h_:=(List.getElem?_eq_some_iff.1 (by assumption:((dH kv<|fun v_=>true)++(dH kw<|fun v_=>true))[k]? =some _)).1;show((dH kv<|fun v_=>true)++(dH kw<|fun v_=>true)).length-(k+1)<((dH kv<|fun v_=>true)++(dH kw<|fun v_=>true)).length-k;omega)) ?_)
   exact A.J [0,0,0,0,0]
  have hdf:kg kv kw x12=false:=by
   revert e5;unfold kg;cases h1_:cu kv x12 with
   |none=>cases h2_:cu kw x12 with
    |none=>simp[fZ,dD,h1_,h2_,dj]
    |some v_=>simp[fZ,dD,h1_,h2_,dj]
   |some u_=>cases h2_:cu kw x12 with
    |none=>simp[fZ,dD,h1_,h2_,dj]
    |some v_=>obtain⟨_,_,_,_,_,_,_,_,_,_,_,_,_,_⟩:=u_;obtain⟨_,_,_,_,_,_,_,_,_,_,_,_,_,_⟩:=v_;simp[fZ,dD,h1_,h2_];try(grind)
  refine A.p<|A.s<|A.k [.w<|(k:Int)+1,.p] [7,44] [(19,i_<|(k:Int)+1)] [] (o1<|wj ((k:Int)+1)<|by omega)<|A.su 0 (sI ao (fw kv kw<|k+1) co) rfl (eI (Iz ‹_› hdf:(fw kv kw k)=(fw kv kw<|k+1))) (A.D 5 (vS ao (fw kv kw<|k+1) co) (fN<|Iz ‹_› hdf)<|A.Z (k+1,ao,co) (by omega) (by(have h_:=(List.getElem?_eq_some_iff.1 (by assumption:((dH kv<|fun v_=>true)++(dH kw<|fun v_=>true))[k]? =some _)).1;show((dH kv<|fun v_=>true)++(dH kw<|fun v_=>true)).length-(k+1)<((dH kv<|fun v_=>true)++(dH kw<|fun v_=>true)).length-k;omega)) ?_)
  exact A.J [0,0,0,0,0]
 have p4:=of_decide_eq_false e4
 refine A.aA<|A.c<|A.N [.p] [0,1,17,18,19,20] [(50,vS ao (fw kv kw k) co)]<|A.j<|A.I (some 51) [0] (fun w s h=>uC ao (fw kv kw k) co (by omega) w h) ?_
 rintro⟨⟩-
 refine A.aB<|A.d<|A.D 5 (vS ao (ga<|fw kv kw k) co) (dh<|by rw[nU])<|A.D 50 (vS ao (ga<|fw kv kw k) co) (dh<|by rw[nU])<|A.s<|A.N [.p] [5,50,51] [(52,vS ao (ga<|fw kv kw k) co)]<|A.j<|A.I (some 53) [0] (fun w s h=>LN ao (ga<|fw kv kw k) co (by(rw[nU];omega)) w h) ?_
 rintro⟨⟩-
 refine A.g [.p] [52,53] [(4,vS ao (Go.Lib.compact<|ga<|fw kv kw k) co)]<|A.e<|A.su 0 (sI ao (eH kv kw) co) rfl (eI (by(unfold eH;rw[GK (show((dH kv<|fun v_=>true)++(dH kw<|fun v_=>true)).length≤k from by omega)];done):(Go.Lib.compact<|ga<|fw kv kw k)=(eH kv kw))) (A.Y [0] [vS ao (Go.Lib.compact<|ga<|fw kv kw k) co] (ao,co) ?_ ?_)
 ·show((vS ao (Go.Lib.compact<|ga<|fw kv kw k) co):Value)=(vS ao (eH kv kw) co)
  unfold eH;rw[GK (show((dH kv<|fun v_=>true)++(dH kw<|fun v_=>true)).length≤k from by omega)]
 trivial
end Go.Proofs.YtobgjpigngoggaaGreat
namespace Go.Proofs.YtobgjpigngoggaaGreat
open Go V
def mm(kv kw:List (Int×Cl))(i:Int):Bool:=decide ((dK (dD kv i).ra (dD kv i).rb (dD kv i).rc)>1)||decide ((dK (dD kw i).ra (dD kw i).rb (dD kw i).rc)>1)
variable{l:List Int}{f:Int→Bool}{k:Nat}
theorem TG{i:Int}(h:l[k]? =some i)(hf:f i=true):l.any f=true:=List.any_eq_true.2 ⟨i,List.mem_of_getElem? h,hf⟩
theorem TI(hn: ∀x∈l.take k,f x=false)(hk:l.length≤k):l.any f=false:=by
 rw[List.take_of_length_le hk] at hn;rw[List.any_eq_false];intro x hx;simp[hn x hx]
theorem TJ{i:Int}(hn: ∀x∈l.take k,f x=false)(h:l[k]? =some i)(hf:f i=false): ∀x∈l.take (k+1),f x=false:=by
 rw[List.take_add_one,h];intro x hx
 rcases List.mem_append.1 hx with hx|hx
 ·exact hn x hx
 ·simp at hx;subst hx;exact hf
theorem BG(kv kw:List (Int×Cl)):(eH kv kw).length≤kv.length+kw.length:=by
 unfold eH
 refine Nat.le_trans (Dw _) ?_
 rw[nU]
 refine Nat.le_trans (List.length_filter_le _ _) ?_
 rw[List.length_append];have h1:=wQ kv;have h2:=wQ kw;omega
abbrev JC(p0)(p1):=((.tuple #[.agg (dx<|dD p0 p1).toArray,i_<|fZ p0 p1]):Value)
abbrev CJ(p0)(p1)(p2):=(b_ ((decide ((dK (dD p0 p1).ra (dD p0 p1).rb (dD p0 p1).rc)>1))||(decide ((dK (dD p2 p1).ra (dD p2 p1).rb (dD p2 p1).rc)>1))):Value)
theorem MF(ci:Int)(ba bb:Nat)(bt mb:Nat)(kv:List (Int×Cl))(bu mc:Nat)(kw:List (Int×Cl))(w:World)(r0:(cw ba [p_ bt] 131).holds w)(r1:(cw bb [p_ bu] 131).holds w)(r2:(cw bt [.map<|some mb] 185).holds w)(r3:(dy mb kv).holds w)(r4:(cw bu [.map<|some mc] 185).holds w)(r5:(dy mc kw).holds w):
  CW 102 #[i_ ci,p_ ba,p_ bb] w (b_<|mm kv kw ci):=by
 refine A.C Tryz.func102 rfl (HS.nil w) (A.c<|A.g [.p] [] []<|A.c<|A.no [.rd [p_ bt],.p,.cq<|JC kv ci,.p,.p,.p,.al,.st 0,.p] [1] (fun b1=>[(5,p_ b1)]) (fun b1=>[]) (fun b1=>cw b1 (dx<|dD kv ci) 62) (fun b1=>[b1]) (fun b1=>oc (ro ⟨ba,0,none⟩ (vs:=[p_ bt])<|df r0 rfl)<|o1<|qo<|fun w s=>rK bt mb kv ci w (d6 s r2)<|d6 s r3) ?_)
 intro b1
 refine A.c<|A.no [.rd [p_ bu],.p,.cq<|JC kw ci,.p,.p,.p,.al,.st 1,.p] [0,2] (fun b2=>[(7,p_ b2)]) (fun b2=>[]) (fun b2=>cw b2 (dx<|dD kw ci) 62) (fun b2=>[b2]) (fun b2=>oc (ro ⟨bb,0,none⟩ (vs:=[p_ bu])<|df r1 rfl)<|o1<|qo<|fun w s=>rK bu mc kw ci w (d6 s r4)<|d6 s r5) ?_
 intro b2
 refine A.c<|A.k [.ld 0,.cq<|b_<|decide ((dK (dD kv ci).ra (dD kv ci).rb (dD kv ci).rc)>1),.p,.o,.ld 1,.cq<|b_<|decide ((dK (dD kw ci).ra (dD kw ci).rb (dD kw ci).rc)>1),.cl,.p] [5,7] [(4,CJ kv ci kw)] [b1,b2] (oc (qo<|fun w s=>qg (dD kv ci) w)<|o1<|go (true&&((decide ((dK (dD kv ci).ra (dD kv ci).rb (dD kv ci).rc)>1))==false)) fun h_=>(qo<|fun w s=>qg (dD kw ci) w))<|A.e<|A.W [CJ kv ci kw] ?_
 show((CJ kv ci kw):Value)=(b_<|mm kv kw ci)
 rfl
abbrev um(p0):=(b_ (decide ((p0:Int)≥0)):Value)
theorem TK(bt mb:Nat)(kv:List (Int×Cl))(bu mc:Nat)(kw:List (Int×Cl))(hl:kv.length≤64)(hm:kw.length≤64)(w:World)(r0:(cw bt [.map<|some mb] 185).holds w)(r1:(dy mb kv).holds w)(r2:(cw bu [.map<|some mc] 185).holds w)(r3:(dy mc kw).holds w):
  CW 70 #[p_ bt,p_ bu] w (b_<|(eH kv kw).any (mm kv kw)):=by
 have htl0:=BG kv kw
 refine A.C Tryz.func70 rfl (HS.nil w) (A.c<|A.n2 [.al,.al,.p] [0,1] (fun b1 b2=>[(2,p_ b1),(3,p_ b2)]) (fun b1 b2=>[cw b1 [p_ bt] 131,cw b2 [p_ bu] 131]) ?_)
 intro b1 b2
 refine A.c<|A.gm [.ld 0,.ld 1] [] [(5,p_ bt),(6,p_ bu)] [b1,b2]<|A.j<|A.I (some 7) [] (fun w s h=>JB bt mb kv bu mc kw ‹_› ‹_› w (d6 s r0) (d6 s r1) (d6 s r2) (d6 s r3) h) ?_
 rintro⟨al'3,cl'4⟩-
 refine A.N [.p] [2,3,5,6] [(7,vS al'3 (eH kv kw) cl'4),(8,.func (.func 102) #[] #[p_ b1,p_ b2])]<|A.j<|A.iX (some 9) [vS al'3 (eH kv kw) cl'4,.func (.func 102) #[] #[p_ b1,p_ b2]] Tryz.func68 rfl (A.c<|A.g [.p] [] []<|A.c<|A.N [.p,.p] [0,1] [(5,vS al'3 (eH kv kw) cl'4),(6,.func (.func 102) #[] #[p_ b1,p_ b2])]<|A.j<|A.iX (some 7) [vS al'3 (eH kv kw) cl'4,.func (.func 102) #[] #[p_ b1,p_ b2]] Tryz.func98 rfl (A.c<|A.g [.p] [] []<|A.d<|A.c<|A.g (ps 3) [] [(7,i_ ((eH kv kw).length:Int)),(8,i_ 0)]<|A.y<|A.lp (σ:=Nat) [] (fun k=>[(8,c_ k)]) [] (fun k=>[]) (fun k=>(k≤(eH kv kw).length)∧(∀x∈(eH kv kw).take k,mm kv kw x=false)) (fun k=>(eH kv kw).length-k) (0:Nat) ⟨(by omega),(by simp)⟩ ?_ ?_))
 ·exact A.J [0,0,0]
 rintro k ⟨hk,hn⟩
 have htl:=BG kv kw
 refine A.c<|A.g [.p] [] [(9,b_<|decide ((k:Int)<((eH kv kw).length:Int)))]<|A.d<|A.v rfl (fun e2=>?_) (fun e2=>?_)
 ·have p2:=of_decide_eq_true e2
  refine A.p<|A.d<|A.y<|A.c<|A.g [.p,.p] [9] [(5,c_ k)]<|A.c<|A.kp [.p,.p,.p,.ix] [] [(11,.func (.func 102) #[] #[p_ b1,p_ b2]),(14,.pointer<|some<|(dR al'3).add (k*1))] [] (o1<|dW 0 k fD rfl (by omega)) ?_
  obtain⟨x6,hx6⟩: ∃x,((eH kv kw))[k]? =some x:=⟨_,List.getElem?_eq_getElem<|by omega⟩
  refine A.k [.rd [i_ x6],.cq<|b_<|mm kv kw x6] [11,14] [(16,b_<|mm kv kw x6)] [] (oc (ro ((dR al'3).add (k*1))<|fS (vs:=[i_ x6]) fD (fM (i:=0) rfl) hx6 (Nat.le_of_ble_eq_true rfl) rfl)<|o1<|qo<|fun w s=>MF x6 b1 b2 bt mb kv bu mc kw w (s.mem (i:=1) rfl) (s.mem (i:=2) rfl) (d6 s r0) (d6 s r1) (d6 s r2)<|d6 s r3)<|A.v rfl (fun e3=>?_) (fun e3=>?_)
  ·refine A.c<|A.g [.p,.p] [0,1,7,8,5,16] [(4,c_ k)]<|A.e<|A.pb [c_ k]<|A.h [.p,.p] [(4,um k)] []<|A.e<|A.pb [um k]<|A.h [.p] [(4,um k)] []<|A.e<|A.W [um k] ?_
   show((um k):Value)=(b_<|(eH kv kw).any (mm kv kw))
   refine congrArg Value.bool ?_;(rw[TG ‹_› ‹_›];rfl)
  have p3:=e3
  refine A.p<|A.s<|A.k [.w<|(k:Int)+1,.p] [5,16] [(8,i_<|(k:Int)+1)] [] (o1<|wj ((k:Int)+1)<|by omega)<|A.Z (k+1) ⟨(by omega),(TJ hn ‹_› ‹_›)⟩ (by(show(eH kv kw).length-(k+1)<(eH kv kw).length-k;omega)) ?_
  exact A.J [0,0,0]
 have p2:=of_decide_eq_false e2
 refine A.aA<|A.c<|A.g [.p] [0,1,7,8,9] [(4,i_ (-1))]<|A.e<|A.pb [i_ (-1)]<|A.h [.p,.p] [(4,b_ false)] []<|A.e<|A.pb [b_ false]<|A.h [.p] [(4,b_ false)] []<|A.e<|A.W [b_ false] ?_
 show((b_ false):Value)=(b_<|(eH kv kw).any (mm kv kw))
 refine congrArg Value.bool ?_;(rw[TI hn<|by omega];done)
theorem xP(kv kw:List (Int×Cl)):tq (eH kv kw)∧ ∀z,z∈eH kv kw↔(z∈j6 kv∨z∈j6 kw)∧kg kv kw z=true:=by
 have h:=GA<|(j6 kv++j6 kw).filter (kg kv kw)
 have e:eH kv kw=jY (iy<|(j6 kv++j6 kw).filter (kg kv kw)):=by unfold eH jY Go.Lib.compact;rfl
 rw[e];refine⟨h.1,fun z=>?_⟩
 rw[h.2,List.mem_filter,List.mem_append]
end Go.Proofs.YtobgjpigngoggaaGreat
namespace Go.Proofs.YtobgjpigngoggaaGreat.V
open Go
def co(l:List dB):dB where
 foot:=dE l
 holds w:= ∀it∈l,it.holds w
 loc w w' h hw it hi:=it.loc w w' (fun c hc=>h c<|Ef hi hc)<|hw it hi
 here w hw c hc:=by
  obtain⟨it,hi,hc⟩:=List.mem_flatMap.1 hc
  exact it.here w (hw it hi) c hc
theorem mR(l R:List dB):dE (co l::R)=dE (l++R):=by simp[dE,co]
variable{w:World}{l R:List dB}
theorem HS.coO{w0:World}{S:List Nat}(h:HS w0 S (co l::R) w):HS w0 S (l++R) w:=
 ⟨h.fr,fun it hi=>(List.mem_append.1 hi).elim (fun hi=>h.all _ (List.mem_cons_self ..) it hi) fun hi=>h.all _<|List.mem_cons_of_mem _ hi,by have:=h.nodup;rwa[mR] at this,by have:=h.own;rwa[mR] at this⟩
variable{Is Os X Y:List dB}{w':World}
theorem Turn.coI(h:Turn (Is++X) (Os++Y) w w'):Turn (co Is::X) (co Os::Y) w w':=
 ⟨by rw[mR];exact h.fr,fun it hi=>(List.mem_cons.1 hi).elim (fun e=>e▸fun it hi=>h.all it<|List.mem_append.2<|.inl hi) fun hi=>h.all it<|List.mem_append.2<|.inr hi,by rw[mR];exact h.nodup,by rw[mR,mR];exact h.own⟩
theorem Turn.coR(h:Turn X (Os++Y) w w'):Turn X (co Os::Y) w w':=
 ⟨h.fr,fun it hi=>(List.mem_cons.1 hi).elim (fun e=>e▸fun it hi=>h.all it<|List.mem_append.2<|.inl hi) fun hi=>h.all it<|List.mem_append.2<|.inr hi,by rw[mR];exact h.nodup,by rw[mR];exact h.own⟩
section
variable{β σ:Type}{f:β→List dB}{kv:List (Int×β)}{k:Int}{m:β}
theorem Turn.bag{ek:Int→Value}{ev:β→Value}{b:Nat}{m':β}(hs:HS w (dE [co [dY ek ev b kv,eP f kv]]) [co [dY ek ev b kv,eP f kv]] w)(hm:cu kv k=some m)(hf:f m=Is++R)(hf':f m'=Os++R)(he:ev m'=ev m)
  (h:HS w (dE Is) Is w→Turn Is Os w w'):Turn [co [dY ek ev b kv,eP f kv]] [co [dY ek ev b<|dC kv k m',eP f<|dC kv k m']] w w':=by
 have h0:=hs.coO
 have hmp:(dY ek ev b kv).holds w:=h0.all _<|by simp
 have hb:(eP f kv).holds w:=h0.all _<|by simp
 have hp1:(dE<|Is++(R++[dY ek ev b kv,eP f<|dJ kv k])).Perm (dE<|[dY ek ev b kv,eP f kv]++[]):=by
  have:=(qO hm).flatMap_right (fun p:Int×β=>dE<|f p.2)
  simp only[List.flatMap_cons,hf,kh] at this
  refine List.perm_iff_count.2 fun a=>?_
  have:=List.perm_iff_count.1 this a
  simp only[dE,eP,lE,dY,List.flatMap_cons,List.flatMap_nil,List.append_nil,List.flatMap_append,List.count_append] at this⊢
  omega
 have h1:HS w (dE [co [dY ek ev b kv,eP f kv]]) (Is++(R++[dY ek ev b kv,eP f<|dJ kv k])) w:=by
  refine⟨Fr.refl _ _,fun it hi=>?_,hp1.nodup_iff.2 h0.nodup,fun c hc=> .inl ?_⟩
  ·rcases List.mem_append.1 hi with hi|hi
   ·exact hb (k,m) (nC hm) it (by rw[hf];exact List.mem_append.2<|.inl hi)
   rcases List.mem_append.1 hi with hi|hi
   ·exact hb (k,m) (nC hm) it (by rw[hf];exact List.mem_append.2<|.inr hi)
   ·simp only[List.mem_cons,List.not_mem_nil,or_false] at hi
    rcases hi with rfl|rfl
    ·exact hmp
    ·exact fun p hq=>hb p<|(qO hm).mem_iff.2 (by simp[hq])
  ·have:=hp1.mem_iff.1 hc;rw[mR];exact this
 have h2:=h1.turned (List.Perm.refl _)<|h<|h1.focus<|List.Perm.refl _
 have hq:(dE<|[dY ek ev b<|dC kv k m',eP f<|dC kv k m']++[]).Perm (dE<|Os++(R++[dY ek ev b kv,eP f<|dJ kv k])):=by
  have:=(oh k m' kv).flatMap_right (fun p:Int×β=>dE<|f p.2)
  simp only[List.flatMap_cons,hf',kh] at this
  refine List.perm_iff_count.2 fun a=>?_
  have:=List.perm_iff_count.1 this a
  simp only[dE,eP,lE,dY,List.flatMap_cons,List.flatMap_nil,List.append_nil,List.flatMap_append,List.count_append] at this⊢
  omega
 refine Turn.coR ⟨h2.fr,fun it hi=>?_,hq.nodup_iff.2 h2.nodup,fun c hc=>h2.own c<|hq.mem_iff.1 hc⟩
 simp only[List.append_nil,List.mem_cons,List.not_mem_nil,or_false] at hi
 rcases hi with rfl|rfl
 ·exact Eg (h2.all (dY ek ev b kv)<|by simp)<|zw he hm
 ·intro p hq it hi
  rcases List.mem_cons.1 ((oh k _ kv).mem_iff.1 hq) with rfl|hq
  ·rw[hf'] at hi
   rcases List.mem_append.1 hi with hi|hi
   ·exact h2.all it<|List.mem_append.2<|.inl hi
   ·exact h2.all it<|List.mem_append.2<|.inr<|List.mem_append.2<|.inl hi
  ·exact(show(eP f<|dJ kv k).holds w' from h2.all _<|by simp) p hq it hi
end
section
variable{P:Program}{n:Nat}{env:dM}{w0:World}{S:List Nat}{H R H':List dB}{o:Oper}{G:Act→World→Prop}{β:Type}
variable{encv:β→Value}{x y:Operand}{t kt et:TypeId}
theorem jr{κ:Type}[DecidableEq κ]{enck:κ→Value}{b:Nat}{kv:List (κ×β)}{k:κ}{m:β}{ok:Bool}{v:Value}(hit: ∀w,HS w0 S H w→(dY enck encv b kv).holds w)(hm:cu kv k=some m)(ho:o.op= .lookup t x y ok)(hx:ev env x=some (.map<|some b))(hy:ev env y=some (enck k))
  (ht:P.underlying t=some (.map kt et))(hk:jd P kt enck)(hv:(bif ok then .tuple #[encv m,.bool true] else encv m)=v):Qt P n env w0 S H o v:=
 hY fun a w r s=>by
  subst hv
  obtain⟨⟨es,clock,hb,hE,_⟩,hn⟩:=hit w s
  rcases sC hk hE hn k w with⟨i,v,_,_,hg,hf⟩|⟨hg,_,hf⟩
  ·rw[hm] at hg;cases hg
   cases ok<;>simp[execOp,ho,r.ev hx,r.ev hy,Instr.lookup,run_underlying ht,Go.MapKept.run_getObj_map hb,hk.check,hf]
  ·rw[hm] at hg;cases hg
theorem LO{κ:Type}[DecidableEq κ]{enck:κ→Value}{b:Nat}{kv:List (κ×β)}{k:κ}{ok:Bool}{z v:Value}(hit: ∀w,HS w0 S H w→(dY enck encv b kv).holds w)(hm:cu kv k=none)(ho:o.op= .lookup t x y ok)(hx:ev env x=some (.map<|some b))(hy:ev env y=some (enck k))
  (ht:P.underlying t=some (.map kt et))(hk:jd P kt enck)(hz:(P.info? et).bind (·.zero)=some z)(hv:(bif ok then .tuple #[z,.bool false] else z)=v):Qt P n env w0 S H o v:=
 hY fun a w r s=>by
  subst hv
  obtain⟨⟨es,clock,hb,hE,_⟩,hn⟩:=hit w s
  simp only[Option.bind_eq_some_iff] at hz
  obtain⟨inf,hinf,hz⟩:=hz
  rcases sC hk hE hn k w with⟨i,v,_,_,hg,hf⟩|⟨hg,_,hf⟩
  ·rw[hm] at hg;cases hg
  ·cases ok<;>simp[execOp,ho,r.ev hx,r.ev hy,Instr.lookup,run_underlying ht,Go.MapKept.run_getObj_map hb,hk.check,hf,zeroValue,typeInfo,hinf,hz]
theorem A.bf(i:Nat)(hp:gI [i] H=some ([co l],R))(hH:l++R=H')(h:V.A n env w0 S H' G):V.A n env w0 S H G:=
 A.bH [i] (Os:=l) hp (fun w hw it hi=>hw _ (List.mem_singleton.2 rfl) it hi) (by rw[show[co l]=co l::[] from rfl,mR];simp) hH h
end
end Go.Proofs.YtobgjpigngoggaaGreat.V
namespace Go.Proofs.YtobgjpigngoggaaGreat
open Go V
structure Qu where
 br:Nat
 ar:Option Addr
 sx:List Pk
 cp:Nat
 f:Nat
 n:Nat
 rm:Int
 bs:Int
 k1:Int
 k2:Int
 k3:Int
 k4:Int
 k5:Int
 k6:Int
instance:Inhabited Qu:=⟨⟨0,none,[],0,0,0,0,0,0,0,0,0,0,0⟩⟩
def pE(b:Nat)(q:Qu):List V.dB:=[cw b [p_ q.br,i_ q.rm,i_ q.bs,u_ q.k1,u_ q.k2,u_ q.k3,u_ q.k4,u_ q.k5,u_ q.k6] 269,cw q.br [.slice q.ar q.sx.length q.cp,i_ (q.f:Int),i_ (q.n:Int)] 315,sl q.ar q.sx.length q.cp 45 6<|V.dF gn q.sx]
def ig(b:Option Nat)(q:Qu):V.dB:=match b with|none=>co []|some b=>co<|pE b q
def qp(b:Option Nat):Value:=match b with|none=>n_|some b=>p_ b
def j7(q:Qu):Prop:=q.f<q.sx.length∧q.n≤q.sx.length∧q.sx.length≤64
def qC(q:Qu):List Pk:=(List.range q.n).map fun j=>q.sx.getD ((q.f+j)%q.sx.length) default
theorem kT(q:Qu):(qC q).length=q.n:=by simp[qC]
variable{q:Qu}
theorem OI{p:Pk}(h:j7 q)(hn:q.n<q.sx.length)(r:Qu)(e1:r.sx=q.sx.set ((q.f+q.n)%q.sx.length) p)(e2:r.f=q.f)(e3:r.n=q.n+1):qC r=qC q++[p]:=by
 have h0:0<q.sx.length:=by omega
 unfold qC;rw[e1,e2,e3,List.range_succ,List.map_append,List.length_set]
 congr 1
 ·refine List.map_congr_left fun j hj=>?_
  have hj:=List.mem_range.1 hj
  have:(q.f+q.n)%q.sx.length≠(q.f+j)%q.sx.length:=fun e=>by
   have h1:=h.1
   rcases Nat.lt_or_ge (q.f+q.n) q.sx.length with h2|h2
   ·rw[Nat.mod_eq_of_lt h2,Nat.mod_eq_of_lt<|by omega] at e;omega
   ·rw[Nat.mod_eq_sub_mod h2,Nat.mod_eq_of_lt<|by omega] at e
    rcases Nat.lt_or_ge (q.f+j) q.sx.length with h3|h3
    ·rw[Nat.mod_eq_of_lt h3] at e;omega
    ·rw[Nat.mod_eq_sub_mod h3,Nat.mod_eq_of_lt<|by omega] at e;omega
  simp[List.getD,List.getElem?_set_ne this]
 ·have:=Nat.mod_lt (q.f+q.n) h0
  simp[List.getD,List.getElem?_set_self this]
theorem QH{x:Pk}(h:j7 q)(h0:0<q.n)(hx:q.sx[q.f]? =some x)(r:Qu)(e1:r.sx=q.sx.set q.f default)(e2:r.f=(q.f+1)%q.sx.length)(e3:r.n=q.n-1):qC q=x::qC r:=by
 have hf:=h.1
 unfold qC;rw[e1,e2,e3,List.length_set]
 obtain⟨m,hm⟩: ∃m,q.n=m+1:=⟨q.n-1,by omega⟩
 rw[hm,List.range_succ_eq_map,List.map_cons,List.map_map,Nat.add_sub_cancel]
 congr 1
 ·simp[Nat.mod_eq_of_lt hf,List.getD,hx]
 ·refine List.map_congr_left fun j hj=>?_
  have hj:=List.mem_range.1 hj
  have hn:=h.2.1
  have e:((q.f+1)%q.sx.length+j)%q.sx.length=(q.f+(j+1))%q.sx.length:=by rw[Nat.mod_add_mod];congr 1;omega
  have hne:q.f≠(q.f+(j+1))%q.sx.length:=fun e=>by
   rcases Nat.lt_or_ge (q.f+(j+1)) q.sx.length with h2|h2
   ·rw[Nat.mod_eq_of_lt h2] at e;omega
   ·rw[Nat.mod_eq_sub_mod h2,Nat.mod_eq_of_lt<|by omega] at e;omega
  show(q.sx.getD ((q.f+(j+1))%q.sx.length) default)=(q.sx.set q.f default).getD (((q.f+1)%q.sx.length+j)%q.sx.length) default
  rw[e];simp[List.getD,List.getElem?_set_ne hne]
theorem TZ(b:Option Nat)(q:Qu)(h0:b=none→q.n=0)(w:World)(r:(ig b q).holds w):Calls Tryz.prog 107 #[qp b] w fun e w'=>e= .returned (i_ ((qC q).length:Int))∧Fr [] w w':=by
 rw[kT]
 cases b with
 |none=>rw[h0 rfl];exact ER w
 |some b=>exact Bw b q.br q.ar q.sx q.cp q.f q.n q.rm q.bs q.k1 q.k2 q.k3 q.k4 q.k5 q.k6 w (r _<|by simp[pE])<|r _<|by simp[pE]
variable{l:List V.dB}{w:World}
theorem HS.coS(h:HS w (dE [co l]) [co l] w):HS w (dE l) l w:=by
 have:=h.coO;rw[List.append_nil,mR,List.append_nil] at this;exact this
variable{w':World}
theorem Turn.coS{k:List V.dB}(h:Turn l k w w'):Turn [co l] [co k] w w':=Turn.coI<|by simpa using h
def qN(q:Qu)(p:Pk):Prop:=p.qn≤IntKind.i64.wrap (q.rm-q.bs)∧q.n<q.sx.length
def kH(q:Qu)(p:Pk)(r:Qu)(e:Int):Prop:=j7 r∧r.rm=q.rm∧r.sx.length=q.sx.length∧((qN q p∧e=0∧qC r=qC q++[p]∧r.bs=IntKind.i64.wrap (q.bs+p.qn))∨(¬qN q p∧e=30∧qC r=qC q∧r.bs=q.bs))
def rT(q:Qu)(x:Pk)(r:Qu):Prop:=j7 r∧qC q=x::qC r∧r.rm=q.rm∧r.sx.length=q.sx.length∧r.bs=IntKind.i64.wrap (q.bs-x.qn)
theorem QJ(b:Nat)(q:Qu)(hk:j7 q)(p:Pk)(hp:1≤p.qn∧p.qn≤16384)(w:World)(hs:HS w (dE [ig (some b) q]) [ig (some b) q] w):Calls Tryz.prog 112 #[p_ b,.agg #[u_ p.qi,i_ p.qn,w_ p.qa,w_ p.qb,w_ p.qc,w_ p.qd]] w fun e w'=> ∃zz:Qu×Int,e= .returned (i_ zz.2)∧kH q p zz.1 zz.2∧Turn [ig (some b) q] [ig (some b) zz.1] w w':=by
 have hs':=HS.coS hs
 by_cases hd:p.qn≤IntKind.i64.wrap (q.rm-q.bs)
 ·by_cases hn:q.n<q.sx.length
  ·refine(PL b q.br q.ar q.sx q.cp q.f q.n q.rm q.bs q.k1 q.k2 q.k3 q.k4 q.k5 q.k6 p hp hd hk.1 hn hk.2.2 w hs').mono ?_
   rintro e w' ⟨⟨z1,z4⟩,rfl,-,ht⟩
   exact⟨({q with sx:=q.sx.set ((q.f+q.n)%q.sx.length) p,n:=q.n+1,bs:=_,k1:=z1,k4:=z4},0),rfl,⟨⟨by simpa using hk.1,by simp;omega,by simpa using hk.2.2⟩,rfl,by simp,.inl ⟨⟨hd,hn⟩,rfl,OI hk hn _ rfl rfl rfl,rfl⟩⟩,Turn.coS ht⟩
  ·refine(KW b q.br q.ar q.sx q.cp q.f q.n q.rm q.bs q.k1 q.k2 q.k3 q.k4 q.k5 q.k6 p hp hd (by have:=hk.2.1;omega) w hs').mono ?_
   rintro e w' ⟨⟨z3,z6⟩,rfl,-,ht⟩
   exact⟨({q with k3:=z3,k6:=z6},_),rfl,⟨hk,rfl,rfl,.inr ⟨fun h=>hn h.2,rfl,rfl,rfl⟩⟩,Turn.coS ht⟩
 ·refine(KV b q.br q.ar q.sx q.cp q.f q.n q.rm q.bs q.k1 q.k2 q.k3 q.k4 q.k5 q.k6 p hp (by omega) w hs').mono ?_
  rintro e w' ⟨⟨z3,z6⟩,rfl,-,ht⟩
  exact⟨({q with k3:=z3,k6:=z6},_),rfl,⟨hk,rfl,rfl,.inr ⟨fun h=>hd h.1,rfl,rfl,rfl⟩⟩,Turn.coS ht⟩
theorem T8(b:Nat)(q:Qu)(hk:j7 q)(h0:qC q≠[])(w:World)(hs:HS w (dE [ig (some b) q]) [ig (some b) q] w):Calls Tryz.prog 153 #[p_ b] w fun e w'=> ∃zz:Qu×Pk,e= .returned (.tuple #[.agg #[u_ zz.2.qi,i_ zz.2.qn,w_ zz.2.qa,w_ zz.2.qb,w_ zz.2.qc,w_ zz.2.qd],i_ 0])∧rT q zz.2 zz.1∧Turn [ig (some b) q] [ig (some b) zz.1] w w':=by
 have h0:0<q.n:=by rw[←kT];exact List.length_pos_iff.2 h0
 refine(SI b q.br q.ar q.sx q.cp q.f q.n q.rm q.bs q.k1 q.k2 q.k3 q.k4 q.k5 q.k6 hk.1 hk.2.1 hk.2.2 h0 w<|HS.coS hs).mono ?_
 rintro e w' ⟨⟨x,z2,z5⟩,rfl,hx,ht⟩
 exact⟨({q with sx:=q.sx.set q.f default,f:=(q.f+1)%q.sx.length,n:=q.n-1,bs:=_,k2:=z2,k5:=z5},x),rfl,⟨⟨by simpa using Nat.mod_lt _ (by have:=hk.1;omega),by simp;have:=hk.2.1;omega,by simpa using hk.2.2⟩,QH hk h0 hx _ rfl rfl rfl,rfl,by simp,rfl⟩,Turn.coS ht⟩
def eW(b:Option Nat)(q:Qu):Int:=if b=none∨q.n=0 then 0 else(q.sx.getD q.f default).qn
theorem QK(b:Option Nat)(q:Qu)(hk:b.isSome=true→j7 q)(w:World)(r:(ig b q).holds w):Calls Tryz.prog 214 #[qp b] w fun e w'=>e= .returned (i_<|eW b q)∧Fr [] w w':=by
 cases b with
 |none=>exact K6 w
 |some b=>
  have hk:=hk rfl
  by_cases hn:q.n=0
  ·rw[show eW (some b) q=0 from if_pos<|.inr hn]
   exact KU b q.br q.ar q.sx q.cp q.f q.n q.rm q.bs q.k1 q.k2 q.k3 q.k4 q.k5 q.k6 hn w (r _<|by simp[pE]) (r _<|by simp[pE])<|r _<|by simp[pE]
  ·rw[show eW (some b) q=(q.sx.getD q.f default).qn from if_neg<|by simp[hn]]
   exact PK b q.br q.ar q.sx q.cp q.f q.n q.rm q.bs q.k1 q.k2 q.k3 q.k4 q.k5 q.k6 hk.1 hk.2.1 hk.2.2 (by omega) w (r _<|by simp[pE]) (r _<|by simp[pE])<|rL<|r (sl q.ar q.sx.length q.cp 45 6<|V.dF gn q.sx)<|by simp[pE]
theorem T9(m:Nat)(rm:Int)(h1:1≤m)(h2:m≤64)(h3:1≤rm∧rm≤1048576)(w:World)(hs:HS w (dE []) [] w):Calls Tryz.prog 108 #[i_ (m:Int),i_ rm] w fun e w'=> ∃zz:Nat×Qu,e= .returned (.tuple #[p_ zz.1,i_ 0])∧(j7 zz.2∧qC zz.2=[]∧zz.2.rm=rm∧zz.2.bs=0∧zz.2.sx.length=m)∧Turn [] [ig (some zz.1) zz.2] w w':=by
 refine(SD m rm h1 h2 h3 w hs).mono ?_
 rintro e w' ⟨⟨bq,br,al⟩,rfl,-,ht⟩
 exact⟨(bq,⟨br,al,List.replicate m default,m,0,0,rm,0,0,0,0,0,0,0⟩),rfl,⟨⟨by simp;omega,by simp,by simpa using h2⟩,rfl,rfl,rfl,by simp⟩,Turn.coR (Y:=[]) (by rw[List.append_nil];exact ht)⟩
structure En where
 eb:Nat
 qb:Option Nat
 q:Qu
 ec:Cl
 tot:Int
 du:Du
 sh:Sh
 li:Li
 deriving Inhabited
def nF(m:En):List Value:=qp m.qb::(dx m.ec++u_ m.tot::(fg m.du++iD m.sh++gv m.li))
def fz(m:En):List V.dB:=[ig m.qb m.q,cw m.eb (nF m) 225]
abbrev rZ(b:Nat)(kb:List (Int×En)):V.dB:=dY (fun k:Int=>i_ k) (fun m:En=>p_ m.eb) b kb
def eT(b:Nat)(kb:List (Int×En)):V.dB:=co [rZ b kb,eP fz kb]
variable{b:Nat}{kb:List (Int×En)}
theorem mT(h:(eT b kb).holds w):(rZ b kb).holds w:=h _<|by simp
variable{i:Int}{m:En}
theorem fy(h:(eT b kb).holds w)(hm:cu kb i=some m):(cw m.eb (nF m) 225).holds w:=uf (h (eP fz kb)<|by simp) hm _<|by simp[fz]
theorem VS{w0:World}{S:List Nat}{H:List V.dB}{off:Nat}{k:Int}{vs:List Value}(i:Nat)(hi:H[i]? =some (eT b kb))(hm:cu kb k=some m)(hv:((nF m).drop off).take vs.length=vs:=by rfl):lQ w0 S H ⟨m.eb,off,none⟩ vs:=fi (fun ww ss=>fy (ss.mem hi) hm) hv
theorem JK(h:(eT b kb).holds w)(hm:cu kb i=some m):(ig m.qb m.q).holds w:=uf (h (eP fz kb)<|by simp) hm _<|by simp[fz]
structure kQ(m:En):Prop where
 lf:m.ec.hl=true↔m.qb.isSome=true
 no:m.qb=none→m.q.n=0
 qu:m.qb.isSome=true→j7 m.q
theorem uq(b:Nat)(kb:List (Int×En))(i:Int)(m:En)(qx:Value)(hm:cu kb i=some m)(hq:qp m.qb=qx)(ho:kQ m)(w:World)(r:(eT b kb).holds w):Calls Tryz.prog 107 #[qx] w fun e w'=>e= .returned (i_ ((qC m.q).length:Int))∧Fr [] w w':=
 hq▸TZ m.qb m.q ho.no w (JK r hm)
theorem GR(hm:cu kb i=some m)(hs:HS w (dE [eT b kb]) [eT b kb] w)(h:HS w (dE [ig m.qb m.q]) [ig m.qb m.q] w→Turn [ig m.qb m.q] [ig m.qb q] w w'):Turn [eT b kb] [eT b<|dC kb i {m with q:=q}] w w':=
 Turn.bag (f:=fz) (m':={m with q:=q}) (R:=[cw m.eb (nF m) 225]) hs hm rfl rfl rfl h
theorem FI(hm:cu kb i=some m)(hs:HS w (dE [eT b kb]) [eT b kb] w):HS w (dE [ig m.qb m.q]) [ig m.qb m.q] w:=by
 have h:=(HS.coS hs).all (eP fz kb) (by simp)
 refine HS.start w _ (fun it hi=>by rw[List.mem_singleton] at hi;subst hi;exact uf h hm _<|by simp[fz]) ?_
 have hn:=(HS.coS hs).nodup
 rw[show[rZ b kb,eP fz kb]=[rZ b kb]++[eP fz kb] from rfl,kh] at hn
 have hn:=(List.nodup_append.1 hn).2.1
 rw[show dE [eP fz kb]=lE fz kb by simp[dE,eP]] at hn
 have:=((qO hm).flatMap_right (fun p:Int×En=>dE<|fz p.2)).nodup_iff.1 hn
 simp only[List.flatMap_cons] at this
 have:=(List.nodup_append.1 this).1
 rw[show fz m=[ig m.qb m.q]++[cw m.eb (nF m) 225] from rfl,kh] at this
 exact(List.nodup_append.1 this).1
theorem QL(b:Nat)(kb:List (Int×En))(i:Int)(m:En)(qx:Value)(c:Nat)(p:Pk)(hm:cu kb i=some m)(hc:m.qb=some c)(hq:qp m.qb=qx)(ho:kQ m)(hp:1≤p.qn∧p.qn≤16384)(w:World)(hs:HS w (dE [eT b kb]) [eT b kb] w):Calls Tryz.prog 112 #[qx,.agg #[u_ p.qi,i_ p.qn,w_ p.qa,w_ p.qb,w_ p.qc,w_ p.qd]] w fun e w'=> ∃zz:Qu×Int,e= .returned (i_ zz.2)∧kH m.q p zz.1 zz.2∧Turn [eT b kb] [eT b<|dC kb i {m with q:=zz.1}] w w':=by
 subst hq
 have hf:=FI hm hs
 rw[hc] at hf
 rw[show qp m.qb=p_ c by rw[hc];rfl]
 refine(QJ c m.q (ho.qu (by rw[hc];rfl)) p hp w hf).mono ?_
 rintro e w' ⟨zz,h1,h2,h3⟩
 exact⟨zz,h1,h2,GR hm hs fun _=>by rw[hc];exact h3⟩
theorem Ta(b:Nat)(kb:List (Int×En))(i:Int)(m:En)(qx:Value)(hm:cu kb i=some m)(hq:qp m.qb=qx)(ho:kQ m)(h0:qC m.q≠[])(w:World)(hs:HS w (dE [eT b kb]) [eT b kb] w):Calls Tryz.prog 153 #[qx] w fun e w'=> ∃zz:Qu×Pk,e= .returned (.tuple #[.agg #[u_ zz.2.qi,i_ zz.2.qn,w_ zz.2.qa,w_ zz.2.qb,w_ zz.2.qc,w_ zz.2.qd],i_ 0])∧rT m.q zz.2 zz.1∧Turn [eT b kb] [eT b<|dC kb i {m with q:=zz.1}] w w':=by
 subst hq
 have hf:=FI hm hs
 rcases hc:m.qb with _|c
 ·exact absurd (List.eq_nil_of_length_eq_zero (by rw[kT];exact ho.no hc)) h0
 ·rw[hc] at hf
  rw[←hc,show qp m.qb=p_ c by rw[hc];rfl]
  refine(T8 c m.q (ho.qu (by rw[hc];rfl)) h0 w hf).mono ?_
  rintro e w' ⟨zz,h1,h2,h3⟩
  exact⟨zz,h1,h2,GR hm hs fun _=>by rw[hc];exact h3⟩
theorem GU(b:Nat)(kb:List (Int×En))(i:Int)(m:En)(qx:Value)(hq:qp m.qb=qx)(ho:kQ m)(w:World)(r:(co [dY (fun k:Int=>i_ k) (fun m:En=>p_ m.eb) b kb,eP fz<|dJ kb i,ig m.qb m.q]).holds w):Calls Tryz.prog 214 #[qx] w fun e w'=>e= .returned (i_<|eW m.qb m.q)∧Fr [] w w':=
 hq▸QK m.qb m.q ho.qu w (r _<|by simp)
section
variable{P:Program}{n:Nat}{env:dM}{w0:World}{S:List Nat}{H R H':List V.dB}{G:Act→World→Prop}
def pF(b:Nat)(kb:List (Int×En))(i:Int)(m:En):V.dB:=co [rZ b kb,eP fz<|dJ kb i,ig m.qb m.q]
theorem A.bA(j:Nat)(hp:gI [j] H=some ([eT b kb],R))(hm:cu kb i=some m)(hH:pF b kb i m::cw m.eb (nF m) 225::R=H')(h:V.A n env w0 S H' G):V.A n env w0 S H G:=by
 refine A.bH [j] (Os:=[pF b kb i m,cw m.eb (nF m) 225]) hp ?_ ?_ hH h
 ·intro w hw it hi
  have hb:(eT b kb).holds w:=hw _<|List.mem_singleton.2 rfl
  have hg:(eP fz kb).holds w:=hb _<|by simp
  simp only[List.mem_cons,List.not_mem_nil,or_false] at hi
  rcases hi with rfl|rfl
  ·intro it hi
   simp only[List.mem_cons,List.not_mem_nil,or_false] at hi
   rcases hi with rfl|rfl|rfl
   ·exact mT hb
   ·exact fun p hq=>hg p<|(qO hm).mem_iff.2 (by simp[hq])
   ·exact JK hb hm
  ·exact fy hb hm
 ·have:=(qO hm).flatMap_right (fun p:Int×En=>dE<|fz p.2)
  simp only[List.flatMap_cons] at this
  simp only[pF,eT,dE,co,eP,lE,dY,fz,cw,List.flatMap_cons,List.flatMap_nil,List.append_nil] at this⊢
  refine List.Perm.trans ?_<|(List.Perm.refl [b]).append this.symm
  rw[List.append_assoc]
  refine(List.Perm.refl [b]).append ?_
  rw[List.append_assoc]
  exact List.perm_append_comm
theorem A.az{m':En}{t:List Value}(is:List Nat)(hp:gI is H=some ([pF b kb i m,cw m.eb t 225],R))(hm:cu kb i=some m)(he:m'.eb=m.eb∧m'.qb=m.qb∧m'.q=m.q)(ht:nF m'=t)(hH:eT b (dC kb i m')::R=H')(h:V.A n env w0 S H' G):V.A n env w0 S H G:=by
 obtain⟨h1,h2,h3⟩:=he
 refine A.bH is (Os:=[eT b<|dC kb i m']) hp ?_ ?_ hH h
 ·intro w hw it hi
  have hr:(pF b kb i m).holds w:=hw _<|by simp
  have hk:(cw m.eb t 225).holds w:=hw _<|by simp
  rw[List.mem_singleton] at hi;subst hi
  intro it hi
  simp only[List.mem_cons,List.not_mem_nil,or_false] at hi
  rcases hi with rfl|rfl
  ·exact Eg (hr (rZ b kb)<|by simp)<|zw (ev:=fun m:En=>p_ m.eb) (show p_ m'.eb=p_ m.eb by rw[h1]) hm
  ·intro p hq it hi
   rcases List.mem_cons.1 ((oh i _ kb).mem_iff.1 hq) with rfl|hq
   ·simp only[fz,List.mem_cons,List.not_mem_nil,or_false] at hi
    rcases hi with rfl|rfl
    ·show(ig m'.qb m'.q).holds w
     rw[h2,h3];exact hr _<|by simp
    ·show(cw m'.eb (nF m') 225).holds w
     rw[h1,ht];exact hk
   ·exact(show(eP fz<|dJ kb i).holds w from hr _<|by simp) p hq it hi
 ·have:=(oh i m' kb).flatMap_right (fun p:Int×En=>dE<|fz p.2)
  simp only[List.flatMap_cons] at this
  simp only[pF,eT,dE,co,eP,lE,dY,fz,cw,List.flatMap_cons,List.flatMap_nil,List.append_nil,h1,h2,h3] at this⊢
  refine List.perm_iff_count.2 fun a=>?_
  have:=List.perm_iff_count.1 this a
  simp only[List.count_append] at this⊢
  omega
end
theorem OJ(h:(pF b kb i m).holds w):(rZ b kb).holds w:=h _<|by simp
variable{β:Type}
theorem jM(kv:List (Int×β))(k:Int)(v:β):cu (dC kv k v) k=some v:=by rw[fm,if_pos rfl]
theorem Ny(bs mb mo mk:Nat)(ym:List (Int×Pl))(on:List (Int×Int))(kv:List (Int×MB))(ci:Int)(hno:jF ym ci=false)(w:World)(r0:(cw bs [.map<|some mb,.map<|some mo,.map<|some mk] 197).holds w)(r1:(iT mb ym).holds w)(r2:(gK mo on).holds w)(r3:(gx mk kv).holds w)(r4:(fJ kv).holds w):
  CW 74 #[p_ bs,i_ ci] w (.tuple #[e_,i_ 6]):=by
 refine A.C Tryz.func74 rfl (HS.nil w) (A.c<|A.g [.p,.p] [] []<|A.d<|A.y<|A.c<|A.g (ps 3) [] [(10,b_ false)]<|A.cf<|A.c<|A.kp [.p,.p,.p,.rd [.map<|some mb],.p] [10] [(17,.map<|some mb),(18,i_ ci)] [] (o1<|ro ⟨bs,0,none⟩ (vs:=[.map<|some mb])<|df r0 rfl)<|A.j<|A.u (some 19) _ (qL 3 200 ci dQ (fun w s=>d6 s r1)<|ee<|by kernel_rfl)<|A.g (ps 3) [17,18,19] [(13,b_<|(((cu ym ci).getD dQ).pf)==0)]<|A.v rfl (fun e1=>?_) (fun e1=>?_))
 ·refine A.c<|A.g [.p,.p] [0,1,13] [(4,e_),(5,i_ 6)]<|A.e<|A.W [e_,i_ 6] ?_
  rfl
 exact absurd e1<|by(intro h_;unfold jF at hno;simp at h_ hno;exact h_ hno)
theorem Nz(bs mb mo mk:Nat)(ym:List (Int×Pl))(on:List (Int×Int))(kv:List (Int×MB))(ci:Int)(hlf:jF ym ci=true)(his:fR on kv ci=true)(w:World)(r0:(cw bs [.map<|some mb,.map<|some mo,.map<|some mk] 197).holds w)(r1:(iT mb ym).holds w)(r2:(gK mo on).holds w)(r3:(gx mk kv).holds w)(r4:(fJ kv).holds w):
  CW 74 #[p_ bs,i_ ci] w (.tuple #[e_,i_ 8]):=by
 refine A.C Tryz.func74 rfl (HS.nil w) (A.c<|A.g [.p,.p] [] []<|A.d<|A.y<|A.c<|A.g (ps 3) [] [(10,b_ false)]<|A.cf<|A.c<|A.kp [.p,.p,.p,.rd [.map<|some mb],.p] [10] [(17,.map<|some mb),(18,i_ ci)] [] (o1<|ro ⟨bs,0,none⟩ (vs:=[.map<|some mb])<|df r0 rfl)<|A.j<|A.u (some 19) _ (qL 3 200 ci dQ (fun w s=>d6 s r1)<|ee<|by kernel_rfl)<|A.g (ps 3) [17,18,19] [(13,b_<|(((cu ym ci).getD dQ).pf)==0)]<|A.v rfl (fun e1=>?_) (fun e1=>?_))
 ·exact absurd e1<|by(intro h_;unfold jF at hlf;simp at h_ hlf;exact hlf h_)
 refine A.c<|A.k [.p,.p,.cq<|b_<|fR on kv ci,.p] [13] [(22,b_<|fR on kv ci)] [] (o1<|qo<|fun w s=>uo bs mb mo mk ym on kv ci w (d6 s r0) (d6 s r1) (d6 s r2) (d6 s r3)<|d6 s r4)<|A.v rfl (fun e2=>?_) (fun e2=>?_)
 ·refine A.c<|A.g [.p,.p] [0,1,22] [(4,e_),(5,i_ 8)]<|A.e<|A.W [e_,i_ 8] ?_
  rfl
 exact absurd e2<|by(rw[his];simp)
theorem TQ(bs mb mo mk:Nat)(ym:List (Int×Pl))(on:List (Int×Int))(kv:List (Int×MB))(ci:Int)(hlf:jF ym ci=true)(his:fR on kv ci=false)(hd0:jE ym 40 ci):
  CS 74 #[p_ bs,i_ ci] [cw bs [.map<|some mb,.map<|some mo,.map<|some mk] 197,iT mb ym,gK mo on,gx mk kv,fJ kv] (fun((kv',al',cl'):(List<|Int×MB)×(Option Addr)×Nat)=>(.tuple #[vS al' ((fV ym (kx kv) 40 ci).1) cl',i_ 0])) (fun(kv',al',cl')=>kx kv'=(fV ym (kx kv) 40 ci).2) fun(kv',al',cl')=>[cw bs [.map<|some mb,.map<|some mo,.map<|some mk] 197,iT mb ym,gK mo<|dC on ci<|da ym ci,gx mk kv',fJ kv',sI al' ((fV ym (kx kv) 40 ci).1) cl']:=by
 intro w hs
 refine A.C Tryz.func74 rfl hs (A.c<|A.g [.p,.p] [] []<|A.d<|A.y<|A.c<|A.g (ps 3) [] [(10,b_ false)]<|A.cf<|A.c<|A.gm [.p,.p,.p,.ld 0,.p] [10] [(17,.map<|some mb),(18,i_ ci)] [bs]<|A.j<|A.u (some 19) _ (kD (kt:=3) (et:=200) (enck:=(fun k:Int=>i_ k)) (encv:=(fun v_:Pl=>(.agg (qK v_).toArray))) (b:=mb) (kv:=ym) (k:=ci) (d0:=dQ) (fun w s=>s.mem (i:=1) rfl) rfl rfl rfl (by kernel_rfl) (ee<|by kernel_rfl) (by kernel_rfl) rfl)<|A.g (ps 3) [17,18,19] [(13,b_<|(((cu ym ci).getD dQ).pf)==0)]<|A.v rfl (fun e1=>?_) (fun e1=>?_))
 ·exact absurd e1<|by(intro h_;unfold jF at hlf;simp at h_ hlf;exact hlf h_)
 refine A.c<|A.k [.p,.p,.cq<|b_<|fR on kv ci,.p] [13] [(22,b_<|fR on kv ci)] [] (o1<|qo<|fun w s=>uo bs mb mo mk ym on kv ci w (s.mem (i:=0) rfl) (s.mem (i:=1) rfl) (s.mem (i:=2) rfl) (s.mem (i:=3) rfl)<|s.mem (i:=4) rfl)<|A.v rfl (fun e2=>?_) (fun e2=>?_)
 ·exact absurd e2<|by(rw[his];simp)
 refine A.p<|A.d<|A.O [12] 13<|A.dT 3 [.p,.p,.p,.ld 0,.p,.p,.p,.p,.ld 0,.p] (rg 0 10) [22] [(29,.map<|some mo),(30,i_ ci),(34,.map<|some mb),(35,i_ ci)] [bs,bs]<|A.aR 10 (some 36) (.agg (qK<|(cu ym ci).getD dQ).toArray) rfl (by kernel_rfl) (by kernel_rfl) (kD (kt:=3) (et:=200) (enck:=(fun k:Int=>i_ k)) (encv:=(fun v_:Pl=>(.agg (qK v_).toArray))) (b:=mb) (kv:=ym) (k:=ci) (d0:=dQ) (fun w s=>s.mem (i:=1) rfl) rfl rfl rfl (by kernel_rfl) (ee<|by kernel_rfl) (by kernel_rfl) rfl) (A.pT 1 [.p] [11] [(0,p_ bs),(1,i_ ci),(29,.map<|some mo),(30,i_ ci),(37,i_<|((cu ym ci).getD dQ).pp)] []<|A.F 12 rfl (A.mP 3 3 2 ci (((cu ym ci).getD dQ).pp) rfl (ee<|by kernel_rfl) (A.E<|A.M<|A.c<|A.hp [.p] [(0,p_ bs),(1,i_ ci),(38,i_ ci)] []<|A.j<|A.aE 39 (e:=3) [i_ ci] (by kernel_rfl) rfl (fun _=>by kernel_rfl) _ (fun _=>rfl) ?_)))
 intro b1
 refine A.g [.p] [38,39] [(6,.slice (some ⟨b1,0,none⟩) 1 1)]<|A.d<|A.bM 5 (b:=b1) 1 1 [cw bs [.map<|some mb,.map<|some mo,.map<|some mk] 197,iT mb ym,gK mo<|dC on ci<|((cu ym ci).getD dQ).pp,gx mk kv,fJ kv,sI (some ⟨b1,0,none⟩) ([ci]) 1] rfl rfl (by decide) rfl (A.s<|A.h [.p,.p] [(0,p_ bs),(6,vS (some ⟨b1,0,none⟩) ([ci]) 1),(7,i_ ci)] []<|A.y<|A.su 5 (sI (some ⟨b1,0,none⟩) (([]:List Int)++[ci]) 1) rfl (eI (by rfl:[ci]=(([]:List Int)++[ci]))) (A.D 6 (vS (some ⟨b1,0,none⟩) (([]:List Int)++[ci]) 1) (fN<|by rfl)<|A.lp (σ:=Int×Nat×(List Int)×(List<|Int×MB)×(Option Addr)×Nat) [] (fun(i,n,pre,kvk,ao,co)=>[(7,i_ i),(6,vS ao (pre++[i]) co)]) [0,0,0,0,0,0] (fun(i,n,pre,kvk,ao,co)=>[cw bs [.map<|some mb,.map<|some mo,.map<|some mk] 197,iT mb ym,gK mo<|dC on ci<|((cu ym ci).getD dQ).pp,gx mk kvk,fJ kvk,sI ao (pre++[i]) co]) (fun(i,n,pre,kvk,ao,co)=>((pre++(fV ym (kx kvk) n i).1,(fV ym (kx kvk) n i).2)=fV ym (kx kv) 40 ci)∧(jE ym n i)∧(pre.length+n≤40)) (fun(i,n,pre,kvk,ao,co)=>n) (ci,40,([]:List Int),kv,some ⟨b1,0,none⟩,1) ⟨(by rfl),‹_›,(by simp)⟩ ?_ ?_))
 ·exact A.J [0,0,0,0,0,0]
 rintro⟨i,n,pre,kvk,ao,co⟩ ⟨hp,hd,hl⟩
 obtain⟨n,rfl⟩: ∃m,n=m+1:=by cases n with|zero=>exact hd.elim|succ m=>exact⟨m,rfl⟩
 refine A.y<|A.c<|A.gm [.p,.p,.p,.ld 0,.p] [] [(44,.map<|some mb),(45,i_ i)] [bs]<|A.j<|A.u (some 46) _ (kD (kt:=3) (et:=200) (enck:=(fun k:Int=>i_ k)) (encv:=(fun v_:Pl=>(.agg (qK v_).toArray))) (b:=mb) (kv:=ym) (k:=i) (d0:=dQ) (fun w s=>s.mem (i:=1) rfl) rfl rfl rfl (by kernel_rfl) (ee<|by kernel_rfl) (by kernel_rfl) rfl)<|A.g [.p,.p] [44,45,46] [(8,i_<|((cu ym i).getD dQ).pp)]<|A.c<|A.gm [.p,.p,.p,.ld 0,.p] [] [(51,.map<|some mk),(52,i_<|((cu ym i).getD dQ).pp)] [bs] ?_
 rcases hk2:cu kvk (((cu ym i).getD dQ).pp) with _|m2
 ·have hx2:=AW hk2
  refine A.j<|A.u (some 53) (.map none) (iw (wt hk2)<|qL 3 194 (((cu ym i).getD dQ).pp) m0 (qM 3 rfl)<|ee<|by kernel_rfl)<|A.j<|A.u (some 54) (i_ 0) (zv (kt:=3) (et:=3) rfl rfl (by kernel_rfl))<|A.g [.p] [51,52,53,54] [(9,i_ 0)]<|A.d<|A.c<|A.g [.p,.p] [] [(56,b_ true)]<|A.ct<|A.s<|A.gm [.p,.p,.p,.ld 0,.p] [56] [(60,.map<|some mk),(61,i_<|((cu ym i).getD dQ).pp)] [bs]<|A.j<|A.aY (fun k:Int=>i_ k) (fun x:Int=>i_ x) 62 (by kernel_rfl) rfl (fun m3=>[cw bs [.map<|some mb,.map<|some mo,.map<|some mk] 197,iT mb ym,gK mo<|dC on ci<|((cu ym ci).getD dQ).pp,gx mk kvk,fJ kvk,sI ao (pre++[i]) co,gK m3 ([]:List (Int×Int))]) (fun _=>rfl) ?_
  intro m3
  refine A.j<|A.bS (kt:=3) (et:=194) (enck:=(fun k:Int=>i_ k)) (encv:=nm) (kv:=kvk) (k:=((cu ym i).getD dQ).pp) 3 (⟨some m3,([]:List (Int×Int))⟩:MB) [cw bs [.map<|some mb,.map<|some mo,.map<|some mk] 197,iT mb ym,gK mo<|dC on ci<|((cu ym ci).getD dQ).pp,gx mk<|dC kvk (((cu ym i).getD dQ).pp) (⟨some m3,([]:List (Int×Int))⟩:MB),fJ kvk,sI ao (pre++[i]) co,gK m3 ([]:List (Int×Int))] (by kernel_rfl) rfl rfl rfl rfl (by kernel_rfl) (ee<|by kernel_rfl) rfl rfl (A.bQ [cw bs [.map<|some mb,.map<|some mo,.map<|some mk] 197,iT mb ym,gK mo<|dC on ci<|((cu ym ci).getD dQ).pp,gx mk<|dC kvk (((cu ym i).getD dQ).pp) (⟨some m3,([]:List (Int×Int))⟩:MB),fJ<|dJ kvk<|((cu ym i).getD dQ).pp,sI ao (pre++[i]) co,gK m3 ([]:List (Int×Int))] (by rw[tW hk2]) ?_)
  have hk4:cu (dC kvk (((cu ym i).getD dQ).pp) (⟨some m3,([]:List (Int×Int))⟩:MB)) (((cu ym i).getD dQ).pp)=some (⟨some m3,([]:List (Int×Int))⟩:MB):=by rw[i7,if_pos rfl]
  refine A.aB<|A.c<|A.hp [.p,.p,.p,.ld 0,.p] [(0,p_ bs),(7,i_ i),(6,vS ao (pre++[i]) co),(8,i_<|((cu ym i).getD dQ).pp),(9,i_ 0),(66,.map<|some mk),(67,i_<|((cu ym i).getD dQ).pp)] [bs]<|A.j<|A.u (some 68) (.map<|some m3) (iw (rE hk4 rfl)<|qL 3 194 (((cu ym i).getD dQ).pp) m0 (qM 3 rfl)<|ee<|by kernel_rfl)<|A.N [.p] [7,66,67] [(69,i_ i)]<|A.j<|A.mP 3 3 6 i 1 rfl (ee<|by kernel_rfl) (A.aB<|A.d<|A.d<|A.r0 [3,3,4] [gx mk<|dC kvk (((cu ym i).getD dQ).pp) (⟨some m3,dC ([]:List (Int×Int)) i 1⟩:MB),fJ<|dC kvk (((cu ym i).getD dQ).pp) (⟨some m3,dC ([]:List (Int×Int)) i 1⟩:MB)] rfl (fun w hs=>uP mk (dC kvk (((cu ym i).getD dQ).pp) (⟨some m3,([]:List (Int×Int))⟩:MB)) kvk (((cu ym i).getD dQ).pp) m3 (dC ([]:List (Int×Int)) i 1) _ (by rw[zr]) (hk4) hs) ?_)
  have hq:kx (dC kvk (((cu ym i).getD dQ).pp) (⟨some m3,dC ([]:List (Int×Int)) i 1⟩:MB))=lT (kx kvk) (da ym i) i:=by funext q;rw[ue];unfold lT;simp only[];split<;>simp_all[da]
  refine A.s<|A.h (ps 6) [(0,p_ bs),(6,vS ao (pre++[i]) co),(8,i_<|((cu ym i).getD dQ).pp),(73,i_<|((cu ym i).getD dQ).pp),(74,b_<|(((cu ym i).getD dQ).pp)==0),(75,b_<|(((cu ym i).getD dQ).pp)==0)] []<|A.v rfl (fun e3=>?_) (fun e3=>?_)
  ·have p3:=e3;try simp only[dc] at p3
   refine A.d ?_
   have hs_:kx kvk (da ym i)≠[]∨da ym i=0:=by unfold da;(right;assumption)
   refine A.s<|A.g (ps 3) [0,6,8,73,74,75] [(4,vS ao (pre++[i]) co),(5,i_ 0)]<|A.e<|?_
   rw[show dC on ci (((cu ym ci).getD dQ).pp)=(dC on ci<|da ym ci) from by rfl]
   refine A.su 5 (sI ao ((fV ym (kx kv) 40 ci).1) co) rfl (eI (by(rw[←hp,nY hs_]):(pre++[i])=((fV ym (kx kv) 40 ci).1))) (A.Y [2,2,2,0,0,0] [vS ao (pre++[i]) co,i_ 0] ((dC kvk (((cu ym i).getD dQ).pp) (⟨some m3,dC ([]:List (Int×Int)) i 1⟩:MB)),ao,co) ?_ ?_)
   ·show((.tuple #[vS ao (pre++[i]) co,i_ 0]):Value)=(.tuple #[vS ao ((fV ym (kx kv) 40 ci).1) co,i_ 0])
    (rw[←hp,nY hs_])
   show kx (dC kvk (((cu ym i).getD dQ).pp) (⟨some m3,dC ([]:List (Int×Int)) i 1⟩:MB))=(fV ym (kx kv) 40 ci).2
   (rw[hq,←hp,nY hs_])
  refine A.p<|A.d ?_
  have hg_: ¬(kx kvk (da ym i)≠[]∨da ym i=0):=by unfold da;rw[hx2];(simp_all;done)
  refine A.s<|A.N [.p,.p] [75] [(77,vS ao (pre++[i]) co),(78,i_<|((cu ym i).getD dQ).pp)]<|A.j<|A.aE 79 (e:=3) [i_<|((cu ym i).getD dQ).pp] (by kernel_rfl) rfl (fun _=>by kernel_rfl) _ (fun _=>rfl) ?_
  intro b5
  refine A.j<|A.ap jj (pre++[i]) ([((cu ym i).getD dQ).pp]) 5 80 (i_ 0) 8 fD lg (gG (i:=6) rfl) (by(simp;omega)) ?_
  intro A6 c6
  refine A.g [.p] [77,78,79,80] [(6,vS A6 ((pre++[i])++([((cu ym i).getD dQ).pp])) c6)]<|A.s<|A.g [.p,.p] [8] [(7,i_<|((cu ym i).getD dQ).pp)] ?_
  have hnx:((pre++[i])++(fV ym (kx<|dC kvk (((cu ym i).getD dQ).pp) (⟨some m3,dC ([]:List (Int×Int)) i 1⟩:MB)) n<|da ym i).1,(fV ym (kx<|dC kvk (((cu ym i).getD dQ).pp) (⟨some m3,dC ([]:List (Int×Int)) i 1⟩:MB)) n<|da ym i).2)=fV ym (kx kv) 40 ci∧jE ym n (da ym i):=by rw[hq,←hp,yJ hg_];exact⟨by simp,hd.resolve_left fun h_=>hg_<|.inr h_⟩
  refine A.su 5 (sI A6 ((pre++[i])++[((cu ym i).getD dQ).pp]) c6) rfl (eI (by rfl:(pre++[i])++([((cu ym i).getD dQ).pp])=((pre++[i])++[((cu ym i).getD dQ).pp]))) (A.D 6 (vS A6 ((pre++[i])++[((cu ym i).getD dQ).pp]) c6) (fN<|by rfl)<|A.Z (((cu ym i).getD dQ).pp,n,pre++[i],dC kvk (((cu ym i).getD dQ).pp) (⟨some m3,dC ([]:List (Int×Int)) i 1⟩:MB),A6,c6) ⟨hnx.1,hnx.2,(by(simp;omega))⟩ (by(simp;done)) ?_)
  exact A.J [2,2,2,0,0,0]
 have hx2:=AX hk2
 refine A.rs [4] (fun b2:Nat=>m2.mb=some b2) (fun b2=>[fJ<|dJ kvk<|((cu ym i).getD dQ).pp,gK b2 m2.mx]) (fun w hs=>F8 kvk (((cu ym i).getD dQ).pp) hk2 hs) rfl (fun b2 hm2=>?_)
 refine A.j<|A.u (some 53) (.map<|some b2) (iw (rE hk2 hm2)<|qL 3 194 (((cu ym i).getD dQ).pp) m0 (qM 5 rfl)<|ee<|by kernel_rfl)<|A.j<|A.u (some 54) (c_ m2.mx.length) (ru (kt:=3) (et:=3) (enck:=(fun k:Int=>i_ k)) (encv:=(fun x:Int=>i_ x)) (b:=b2) (kv:=m2.mx) (qM 1 rfl) rfl rfl (by kernel_rfl))<|A.h [.p] [(0,p_ bs),(7,i_ i),(6,vS ao (pre++[i]) co),(8,i_<|((cu ym i).getD dQ).pp),(9,c_ m2.mx.length)] []<|A.d<|A.c<|A.g [.p,.p] [] [(56,b_<|(m2.mx.length:Int)==0)]<|A.v rfl (fun e4=>?_) (fun e4=>?_)
 ·refine A.s<|A.gm [.p,.p,.p,.ld 2,.p] [56] [(60,.map<|some mk),(61,i_<|((cu ym i).getD dQ).pp)] [bs]<|A.j<|A.aY (fun k:Int=>i_ k) (fun x:Int=>i_ x) 62 (by kernel_rfl) rfl (fun m7=>[fJ<|dJ kvk<|((cu ym i).getD dQ).pp,gK b2 m2.mx,cw bs [.map<|some mb,.map<|some mo,.map<|some mk] 197,iT mb ym,gK mo<|dC on ci<|((cu ym ci).getD dQ).pp,gx mk kvk,sI ao (pre++[i]) co,gK m7 ([]:List (Int×Int))]) (fun _=>rfl) ?_
  intro m7
  refine A.j<|A.mP 3 194 5 (((cu ym i).getD dQ).pp) (⟨some m7,([]:List (Int×Int))⟩:MB) rfl (ee<|by kernel_rfl) ?_
  have hk8:cu (dC kvk (((cu ym i).getD dQ).pp) (⟨some m7,([]:List (Int×Int))⟩:MB)) (((cu ym i).getD dQ).pp)=some (⟨some m7,([]:List (Int×Int))⟩:MB):=by rw[i7,if_pos rfl]
  refine A.aB<|A.c<|A.hp [.p,.p,.p,.ld 2,.p] [(0,p_ bs),(7,i_ i),(6,vS ao (pre++[i]) co),(8,i_<|((cu ym i).getD dQ).pp),(9,c_ m2.mx.length),(66,.map<|some mk),(67,i_<|((cu ym i).getD dQ).pp)] [bs]<|A.j<|A.u (some 68) (.map<|some m7) (iw (rE hk8 rfl)<|qL 3 194 (((cu ym i).getD dQ).pp) m0 (qM 5 rfl)<|ee<|by kernel_rfl)<|A.N [.p] [7,66,67] [(69,i_ i)]<|A.j<|A.mP 3 3 7 i 1 rfl (ee<|by kernel_rfl) (A.aB<|A.d<|A.d<|A.r0 [5,0,5] [gx mk<|dC kvk (((cu ym i).getD dQ).pp) (⟨some m7,dC ([]:List (Int×Int)) i 1⟩:MB),fJ<|dC kvk (((cu ym i).getD dQ).pp) (⟨some m7,dC ([]:List (Int×Int)) i 1⟩:MB)] rfl (fun w hs=>uP mk (dC kvk (((cu ym i).getD dQ).pp) (⟨some m7,([]:List (Int×Int))⟩:MB)) kvk (((cu ym i).getD dQ).pp) m7 (dC ([]:List (Int×Int)) i 1) _ (by rw[zr]) (hk8) hs) ?_)
  have hq:kx (dC kvk (((cu ym i).getD dQ).pp) (⟨some m7,dC ([]:List (Int×Int)) i 1⟩:MB))=lT (kx kvk) (da ym i) i:=by funext q;rw[ue];unfold lT;simp only[];split<;>simp_all[da]
  refine A.s<|A.h [.p,.p,.p,.o,.p,.p,.cl] [(0,p_ bs),(6,vS ao (pre++[i]) co),(8,i_<|((cu ym i).getD dQ).pp),(75,b_<|(decide ((m2.mx.length:Int)>0))||((((cu ym i).getD dQ).pp)==0))] []<|A.v rfl (fun e5=>?_) (fun e5=>?_)
  ·refine A.d ?_
   have hs_:kx kvk (da ym i)≠[]∨da ym i=0:=by unfold da;(simp_all;done)
   refine A.s<|A.g (ps 3) [0,6,8,75] [(4,vS ao (pre++[i]) co),(5,i_ 0)]<|A.e<|?_
   rw[show dC on ci (((cu ym ci).getD dQ).pp)=(dC on ci<|da ym ci) from by rfl]
   refine A.su 6 (sI ao ((fV ym (kx kv) 40 ci).1) co) rfl (eI (by(rw[←hp,nY hs_]):(pre++[i])=((fV ym (kx kv) 40 ci).1))) (A.Y [3,3,3,0,0,1] [vS ao (pre++[i]) co,i_ 0] ((dC kvk (((cu ym i).getD dQ).pp) (⟨some m7,dC ([]:List (Int×Int)) i 1⟩:MB)),ao,co) ?_ ?_)
   ·show((.tuple #[vS ao (pre++[i]) co,i_ 0]):Value)=(.tuple #[vS ao ((fV ym (kx kv) 40 ci).1) co,i_ 0])
    (rw[←hp,nY hs_])
   show kx (dC kvk (((cu ym i).getD dQ).pp) (⟨some m7,dC ([]:List (Int×Int)) i 1⟩:MB))=(fV ym (kx kv) 40 ci).2
   (rw[hq,←hp,nY hs_])
  refine A.p<|A.d ?_
  have hg_: ¬(kx kvk (da ym i)≠[]∨da ym i=0):=by unfold da;rw[hx2];(simp_all;done)
  refine A.s<|A.N [.p,.p] [75] [(77,vS ao (pre++[i]) co),(78,i_<|((cu ym i).getD dQ).pp)]<|A.j<|A.aE 79 (e:=3) [i_<|((cu ym i).getD dQ).pp] (by kernel_rfl) rfl (fun _=>by kernel_rfl) _ (fun _=>rfl) ?_
  intro b9
  refine A.j<|A.ap jj (pre++[i]) ([((cu ym i).getD dQ).pp]) 6 80 (i_ 0) 8 fD lg (gG (i:=7) rfl) (by(simp;omega)) ?_
  intro A10 c10
  refine A.g [.p] [77,78,79,80] [(6,vS A10 ((pre++[i])++([((cu ym i).getD dQ).pp])) c10)]<|A.s<|A.g [.p,.p] [8] [(7,i_<|((cu ym i).getD dQ).pp)] ?_
  have hnx:((pre++[i])++(fV ym (kx<|dC kvk (((cu ym i).getD dQ).pp) (⟨some m7,dC ([]:List (Int×Int)) i 1⟩:MB)) n<|da ym i).1,(fV ym (kx<|dC kvk (((cu ym i).getD dQ).pp) (⟨some m7,dC ([]:List (Int×Int)) i 1⟩:MB)) n<|da ym i).2)=fV ym (kx kv) 40 ci∧jE ym n (da ym i):=by rw[hq,←hp,yJ hg_];exact⟨by simp,hd.resolve_left fun h_=>hg_<|.inr h_⟩
  refine A.su 6 (sI A10 ((pre++[i])++[((cu ym i).getD dQ).pp]) c10) rfl (eI (by rfl:(pre++[i])++([((cu ym i).getD dQ).pp])=((pre++[i])++[((cu ym i).getD dQ).pp]))) (A.D 6 (vS A10 ((pre++[i])++[((cu ym i).getD dQ).pp]) c10) (fN<|by rfl)<|A.Z (((cu ym i).getD dQ).pp,n,pre++[i],dC kvk (((cu ym i).getD dQ).pp) (⟨some m7,dC ([]:List (Int×Int)) i 1⟩:MB),A10,c10) ⟨hnx.1,hnx.2,(by(simp;omega))⟩ (by(simp;done)) ?_)
  exact A.J [3,3,3,0,0,1]
 refine A.p<|A.c<|A.gm [.p,.p,.p,.ld 2,.p] [56] [(66,.map<|some mk),(67,i_<|((cu ym i).getD dQ).pp)] [bs]<|A.j<|A.u (some 68) (.map<|some b2) (iw (rE hk2 hm2)<|qL 3 194 (((cu ym i).getD dQ).pp) m0 (qM 5 rfl)<|ee<|by kernel_rfl)<|A.N [.p] [7,66,67] [(69,i_ i)]<|A.j<|A.mP 3 3 1 i 1 rfl (ee<|by kernel_rfl) (A.aB<|A.d<|A.d<|A.r0 [5,0,0] [gx mk<|dC kvk (((cu ym i).getD dQ).pp) (⟨some b2,dC m2.mx i 1⟩:MB),fJ<|dC kvk (((cu ym i).getD dQ).pp) (⟨some b2,dC m2.mx i 1⟩:MB)] rfl (fun w hs=>uP mk kvk kvk (((cu ym i).getD dQ).pp) b2 (dC m2.mx i 1) _ (by rfl) (hk2.trans<|congrArg some<|BZ hm2) hs) ?_)
 have hq:kx (dC kvk (((cu ym i).getD dQ).pp) (⟨some b2,dC m2.mx i 1⟩:MB))=lT (kx kvk) (da ym i) i:=by funext q;rw[ue];unfold lT;simp only[];split<;>simp_all[da]
 refine A.s<|A.h [.p,.p,.p,.o,.p,.p,.cl] [(0,p_ bs),(6,vS ao (pre++[i]) co),(8,i_<|((cu ym i).getD dQ).pp),(75,b_<|(decide ((m2.mx.length:Int)>0))||((((cu ym i).getD dQ).pp)==0))] []<|A.v rfl (fun e6=>?_) (fun e6=>?_)
 ·refine A.d ?_
  have hs_:kx kvk (da ym i)≠[]∨da ym i=0:=by unfold da;(left;rw[hx2];intro h_;simp[h_] at*;done)
  refine A.s<|A.g (ps 3) [0,6,8,75] [(4,vS ao (pre++[i]) co),(5,i_ 0)]<|A.e<|?_
  rw[show dC on ci (((cu ym ci).getD dQ).pp)=(dC on ci<|da ym ci) from by rfl]
  refine A.su 5 (sI ao ((fV ym (kx kv) 40 ci).1) co) rfl (eI (by(rw[←hp,nY hs_]):(pre++[i])=((fV ym (kx kv) 40 ci).1))) (A.Y [2,2,2,0,0,0] [vS ao (pre++[i]) co,i_ 0] ((dC kvk (((cu ym i).getD dQ).pp) (⟨some b2,dC m2.mx i 1⟩:MB)),ao,co) ?_ ?_)
  ·show((.tuple #[vS ao (pre++[i]) co,i_ 0]):Value)=(.tuple #[vS ao ((fV ym (kx kv) 40 ci).1) co,i_ 0])
   (rw[←hp,nY hs_])
  show kx (dC kvk (((cu ym i).getD dQ).pp) (⟨some b2,dC m2.mx i 1⟩:MB))=(fV ym (kx kv) 40 ci).2
  (rw[hq,←hp,nY hs_])
 refine A.p<|A.d ?_
 have hg_: ¬(kx kvk (da ym i)≠[]∨da ym i=0):=by unfold da;rw[hx2];(simp_all;done)
 refine A.s<|A.N [.p,.p] [75] [(77,vS ao (pre++[i]) co),(78,i_<|((cu ym i).getD dQ).pp)]<|A.j<|A.aE 79 (e:=3) [i_<|((cu ym i).getD dQ).pp] (by kernel_rfl) rfl (fun _=>by kernel_rfl) _ (fun _=>rfl) ?_
 intro b11
 refine A.j<|A.ap jj (pre++[i]) ([((cu ym i).getD dQ).pp]) 5 80 (i_ 0) 8 fD lg (gG (i:=6) rfl) (by(simp;omega)) ?_
 intro A12 c12
 refine A.g [.p] [77,78,79,80] [(6,vS A12 ((pre++[i])++([((cu ym i).getD dQ).pp])) c12)]<|A.s<|A.g [.p,.p] [8] [(7,i_<|((cu ym i).getD dQ).pp)] ?_
 have hnx:((pre++[i])++(fV ym (kx<|dC kvk (((cu ym i).getD dQ).pp) (⟨some b2,dC m2.mx i 1⟩:MB)) n<|da ym i).1,(fV ym (kx<|dC kvk (((cu ym i).getD dQ).pp) (⟨some b2,dC m2.mx i 1⟩:MB)) n<|da ym i).2)=fV ym (kx kv) 40 ci∧jE ym n (da ym i):=by rw[hq,←hp,yJ hg_];exact⟨by simp,hd.resolve_left fun h_=>hg_<|.inr h_⟩
 refine A.su 5 (sI A12 ((pre++[i])++[((cu ym i).getD dQ).pp]) c12) rfl (eI (by rfl:(pre++[i])++([((cu ym i).getD dQ).pp])=((pre++[i])++[((cu ym i).getD dQ).pp]))) (A.D 6 (vS A12 ((pre++[i])++[((cu ym i).getD dQ).pp]) c12) (fN<|by rfl)<|A.Z (((cu ym i).getD dQ).pp,n,pre++[i],dC kvk (((cu ym i).getD dQ).pp) (⟨some b2,dC m2.mx i 1⟩:MB),A12,c12) ⟨hnx.1,hnx.2,(by(simp;omega))⟩ (by(simp;done)) ?_)
 exact A.J [2,2,2,0,0,0]
def fK(kv:List (Int×Cl))(i:Int):Bool:=decide ((dK (dD kv i).la (dD kv i).lb (dD kv i).lc)>1)
def nq(kv:List (Int×Cl))(ym:List (Int×Pl))(i:Int):List (Int×Pl):=if fK kv i=true then dC ym i ⟨(dD kv i).hp,if(dD kv i).hl=true then 1 else 0⟩ else ym
def tX(kv:List (Int×Cl))(k:Nat):List (Int×Pl):=((dH kv<|fun v_=>true).take k).foldl (nq kv) []
def fO(kv:List (Int×Cl)):List (Int×Pl):=(dH kv<|fun v_=>true).foldl (nq kv) []
variable{kv:List (Int×Cl)}{k:Nat}
theorem zC(h:(dH kv<|fun v_=>true)[k]? =some i):tX kv (k+1)=nq kv (tX kv k) i:=by
 unfold tX;rw[List.take_add_one,h];simp
theorem ML(h:(dH kv<|fun v_=>true).length≤k):tX kv k=fO kv:=by unfold tX fO;rw[List.take_of_length_le h]
set_option maxHeartbeats 4000000 in
set_option maxRecDepth 100000 in
theorem OA(bt mc:Nat)(kc:List (Int×Cl))(hl:kc.length≤1000)(w:World)(r0:(cw bt [.map<|some mc] 185).holds w)(r1:(dy mc kc).holds w)(hs:HI w []):
  CV 62 #[p_ bt] w [] (fun((bs,mb,mo,mk):Nat×Nat×Nat×Nat)=>(p_ bs)) (fun _=>True) fun(bs,mb,mo,mk)=>[cw bs [.map<|some mb,.map<|some mo,.map<|some mk] 197,iT mb<|fO kc,gK mo ([]:List (Int×Int)),gx mk ([]:List (Int×MB)),fJ ([]:List (Int×MB))]:=by
 have hkl:=oN kc<|fun v_=>true
 refine A.C Tryz.func62 rfl hs (A.aO [(0,p_ bt)] [] ⟨rfl,trivial⟩ rfl (A.c<|A.h [.p] [(0,p_ bt)] []<|A.c<|A.j<|A.aY (fun k:Int=>i_ k) (fun v_:Pl=>(.agg (qK v_).toArray)) 9 (by kernel_rfl) rfl (fun m1=>[iT m1 ([]:List (Int×Pl))]) (fun _=>rfl) ?_))
 intro m1
 refine A.j<|A.aY (fun k:Int=>i_ k) (fun x:Int=>i_ x) 10 (by kernel_rfl) rfl (fun m2=>[iT m1 ([]:List (Int×Pl)),gK m2 ([]:List (Int×Int))]) (fun _=>rfl) ?_
 intro m2
 refine A.j<|A.aY (fun k:Int=>i_ k) nm 11 (by kernel_rfl) rfl (fun m3=>[iT m1 ([]:List (Int×Pl)),gK m2 ([]:List (Int×Int)),gx m3 ([]:List (Int×MB))]) (fun _=>rfl) ?_
 intro m3
 refine A.m1 [.p,.al,.p] (fun b4=>[(0,p_ bt),(3,p_ b4)]) (fun _=>[]) (fun b4=>cw b4 [.map<|some m1,.map<|some m2,.map<|some m3] 197) (fun b4=>[]) ?_
 intro b4
 refine A.d<|A.c<|A.hp [.p] [(0,p_ bt),(3,p_ b4),(14,p_ bt)] []<|A.j<|A.I (some 15) [] (fun w s h=>BV bt mc kc (by first|assumption|omega) w (d6 s r0) (d6 s r1) h) ?_
 rintro⟨al'5,cl'6⟩-
 refine A.h [.p,.p] [(0,p_ bt),(3,p_ b4),(15,vS al'5 (dH kc<|fun v_=>true) cl'6),(16,i_ ((dH kc<|fun v_=>true).length:Int)),(17,i_ 0)] []<|A.y<|A.aX (fun(zz:Nat×(List<|Int×Pl))=>match zz with|(k,ymk)=>[(0,p_ bt),(3,p_ b4),(15,vS al'5 (dH kc<|fun v_=>true) cl'6),(16,i_ ((dH kc<|fun v_=>true).length:Int)),(17,c_ k)]) (fun(zz:Nat×(List<|Int×Pl))=>match zz with|(k,ymk)=>[cw b4 [.map<|some m1,.map<|some m2,.map<|some m3] 197,iT m1 ymk,gK m2 ([]:List (Int×Int)),gx m3 ([]:List (Int×MB)),sI al'5 (dH kc<|fun v_=>true) cl'6]) (fun(zz:Nat×(List<|Int×Pl))=>match zz with|(k,ymk)=>(k≤(dH kc<|fun v_=>true).length)∧(ymk=tX kc k)) (fun(zz:Nat×(List<|Int×Pl))=>match zz with|(k,ymk)=>(dH kc<|fun v_=>true).length-k) (0,([]:List (Int×Pl))) ⟨(by omega),(by rfl)⟩ ?_ ?_
 ·exact A.aI [4,1,1,1,0] ⟨rfl,rfl,rfl,rfl,rfl,trivial⟩<|by kernel_rfl
 ·rintro⟨k,ymk⟩ ⟨hk,hy⟩
  refine A.aO [(0,p_ bt),(3,p_ b4),(15,vS al'5 (dH kc<|fun v_=>true) cl'6),(16,i_ ((dH kc<|fun v_=>true).length:Int)),(17,c_ k)] [cw b4 [.map<|some m1,.map<|some m2,.map<|some m3] 197,iT m1 ymk,gK m2 ([]:List (Int×Int)),gx m3 ([]:List (Int×MB)),sI al'5 (dH kc<|fun v_=>true) cl'6] ⟨rfl,rfl,rfl,rfl,rfl,trivial⟩ rfl (A.c<|A.h [.p] [(0,p_ bt),(3,p_ b4),(15,vS al'5 (dH kc<|fun v_=>true) cl'6),(16,i_ ((dH kc<|fun v_=>true).length:Int)),(17,c_ k),(18,b_<|decide ((k:Int)<((dH kc<|fun v_=>true).length:Int)))] []<|A.d<|A.v (E:=decide ((k:Int)<((dH kc<|fun v_=>true).length:Int))) rfl (fun e2=>?_) (fun e2=>?_))
  ·skip
   have p2:=of_decide_eq_true e2
   refine A.p<|A.d<|A.y<|A.c<|A.hq [.ix] [(0,p_ bt),(3,p_ b4),(15,vS al'5 (dH kc<|fun v_=>true) cl'6),(16,i_ ((dH kc<|fun v_=>true).length:Int)),(17,c_ k),(19,.pointer<|some<|(dR al'5).add (k*1))] [] (o1<|dW 4 k fD rfl (by first|omega|(simp;omega)|(simp;done))) ?_
   obtain⟨x8,hx8⟩: ∃x,((dH kc<|fun v_=>true))[k]? =some x:=⟨_,List.getElem?_eq_getElem<|by omega⟩
   refine A.hk [.rd [i_ x8],.p] [(0,p_ bt),(3,p_ b4),(15,vS al'5 (dH kc<|fun v_=>true) cl'6),(16,i_ ((dH kc<|fun v_=>true).length:Int)),(17,c_ k),(5,i_ x8)] [] (o1<|ro ((dR al'5).add (k*1))<|fS (vs:=[i_ x8]) fD (fM (i:=4) rfl) hx8 (Nat.le_of_ble_eq_true rfl) rfl)<|A.c<|A.au [.p,.p,.cq<|.tuple #[.agg (dx<|dD kc x8).toArray,i_<|fZ kc x8],.p,.p,.p,.al,.st 5,.p] [0,3,15,16,17,5,6] (fun b9=>[(0,p_ bt),(3,p_ b4),(15,vS al'5 (dH kc<|fun v_=>true) cl'6),(16,i_ ((dH kc<|fun v_=>true).length:Int)),(17,c_ k),(5,i_ x8),(6,p_ b9)]) (fun b9=>[cw b4 [.map<|some m1,.map<|some m2,.map<|some m3] 197,iT m1 ymk,gK m2 ([]:List (Int×Int)),gx m3 ([]:List (Int×MB)),sI al'5 (dH kc<|fun v_=>true) cl'6,cw b9 (dx<|dD kc x8) 62]) (fun b9=>[b9]) (fun _=>(fun κ=>κ.call 72 [p_ bt,i_ x8] (.tuple #[.agg (dx<|dD kc x8).toArray,i_<|fZ kc x8])∧True)) (fun _=>by kernel_rfl) (fun b9=>⟨(fun w s=>rK bt mc kc x8 w (d6 s r0)<|d6 s r1),trivial⟩) ?_
   intro b9
   refine A.d<|A.c<|A.hk [.ld 5,.cq<|b_<|decide ((dK (dD kc x8).la (dD kc x8).lb (dD kc x8).lc)>1),.p] [(0,p_ bt),(3,p_ b4),(15,vS al'5 (dH kc<|fun v_=>true) cl'6),(16,i_ ((dH kc<|fun v_=>true).length:Int)),(17,c_ k),(5,i_ x8),(6,p_ b9),(29,b_ (!(decide ((dK (dD kc x8).la (dD kc x8).lb (dD kc x8).lc)>1))))] [b9] (o1<|qo<|fun w s=>nP (dD kc x8) w)<|A.v (E:= !(decide ((dK (dD kc x8).la (dD kc x8).lb (dD kc x8).lc)>1))) rfl (fun e3=>?_) (fun e3=>?_)
   ·skip
    refine A.aA<|A.s<|A.hk [.w<|(k:Int)+1,.p] [(0,p_ bt),(3,p_ b4),(15,vS al'5 (dH kc<|fun v_=>true) cl'6),(16,i_ ((dH kc<|fun v_=>true).length:Int)),(17,i_<|(k:Int)+1)] [] (o1<|wj ((k:Int)+1)<|by omega)<|A.Z (k+1,ymk) ⟨(by omega),(by(rw[zC ‹_›];unfold nq fK;subst hy;first|(simp_all;done)|(simp[*];done)|grind))⟩ (by(show(dH kc<|fun v_=>true).length-(k+1)<(dH kc<|fun v_=>true).length-k;omega)) ?_
    exact A.aI [0,0,0,0,0] ⟨rfl,rfl,rfl,rfl,rfl,trivial⟩<|by kernel_rfl
   ·skip
    refine A.p<|A.c<|A.m1 [.p,.ld 5,.p,.al,.st 6] (fun b10=>[(0,p_ bt),(3,p_ b4),(15,vS al'5 (dH kc<|fun v_=>true) cl'6),(16,i_ ((dH kc<|fun v_=>true).length:Int)),(17,c_ k),(5,i_ x8),(6,p_ b9),(8,p_ b10)]) (fun _=>[]) (fun b10=>cw b10 [i_<|(dD kc x8).hp,i_ 0] 200) (fun b10=>[b9,b10]) ?_
    intro b10
    refine A.d<|A.c<|A.h [.p,.ld 5] [(0,p_ bt),(3,p_ b4),(15,vS al'5 (dH kc<|fun v_=>true) cl'6),(16,i_ ((dH kc<|fun v_=>true).length:Int)),(17,c_ k),(5,i_ x8),(8,p_ b10),(34,b_<|(dD kc x8).hl)] [b9]<|A.v (E:=(dD kc x8).hl) rfl (fun e4=>?_) (fun e4=>?_)
    ·skip
     refine A.s<|A.gT [.p,.st 6] [(0,p_ bt),(3,p_ b4),(15,vS al'5 (dH kc<|fun v_=>true) cl'6),(16,i_ ((dH kc<|fun v_=>true).length:Int)),(17,c_ k),(5,i_ x8),(8,p_ b10)] [(6,cw b10 [i_<|(dD kc x8).hp,i_ 1] 200)] [b10]<|A.O [6] 7<|A.pT 1 [.p,.p,.p,.ld 0,.p,.ld 6] (rg 0 6) [(0,p_ bt),(3,p_ b4),(15,vS al'5 (dH kc<|fun v_=>true) cl'6),(16,i_ ((dH kc<|fun v_=>true).length:Int)),(17,c_ k),(39,.map<|some m1),(40,i_ x8),(41,.agg #[i_<|(dD kc x8).hp,i_ 1])] [b4,b10]<|A.F 6 rfl (A.mP 3 200 1 x8 (⟨(dD kc x8).hp,1⟩:Pl) rfl (ee<|by kernel_rfl) (A.E<|A.M<|(A.s<|A.hk [.w<|(k:Int)+1,.p] [(0,p_ bt),(3,p_ b4),(15,vS al'5 (dH kc<|fun v_=>true) cl'6),(16,i_ ((dH kc<|fun v_=>true).length:Int)),(17,i_<|(k:Int)+1)] [] (o1<|wj ((k:Int)+1)<|by omega)<|A.Z (k+1,dC ymk x8 (⟨(dD kc x8).hp,1⟩:Pl)) ⟨(by omega),(by(rw[zC ‹_›];unfold nq fK;subst hy;first|(simp_all;done)|(simp[*];done)|grind))⟩ (by(show(dH kc<|fun v_=>true).length-(k+1)<(dH kc<|fun v_=>true).length-k;omega)) ?_)))
     exact A.aI [0,0,0,0,0] ⟨rfl,rfl,rfl,rfl,rfl,trivial⟩<|by kernel_rfl
    ·skip
     refine A.p<|A.O [6] 7<|A.pT 1 [.p,.p,.p,.ld 0,.p,.ld 6] (rg 0 6) [(0,p_ bt),(3,p_ b4),(15,vS al'5 (dH kc<|fun v_=>true) cl'6),(16,i_ ((dH kc<|fun v_=>true).length:Int)),(17,c_ k),(39,.map<|some m1),(40,i_ x8),(41,.agg #[i_<|(dD kc x8).hp,i_ 0])] [b4,b10]<|A.F 6 rfl (A.mP 3 200 1 x8 (⟨(dD kc x8).hp,0⟩:Pl) rfl (ee<|by kernel_rfl) (A.E<|A.M<|(A.s<|A.hk [.w<|(k:Int)+1,.p] [(0,p_ bt),(3,p_ b4),(15,vS al'5 (dH kc<|fun v_=>true) cl'6),(16,i_ ((dH kc<|fun v_=>true).length:Int)),(17,i_<|(k:Int)+1)] [] (o1<|wj ((k:Int)+1)<|by omega)<|A.Z (k+1,dC ymk x8 (⟨(dD kc x8).hp,0⟩:Pl)) ⟨(by omega),(by(rw[zC ‹_›];unfold nq fK;subst hy;first|(simp_all;done)|(simp[*];done)|grind))⟩ (by(show(dH kc<|fun v_=>true).length-(k+1)<(dH kc<|fun v_=>true).length-k;omega)) ?_)))
     exact A.aI [0,0,0,0,0] ⟨rfl,rfl,rfl,rfl,rfl,trivial⟩<|by kernel_rfl
  ·skip
   have p2:=of_decide_eq_false e2
   refine A.aA<|A.d<|A.cP [cw b4 [.map<|some m1,.map<|some m2,.map<|some m3] 197,iT m1 ymk,gK m2 ([]:List (Int×Int)),gx m3 ([]:List (Int×MB)),sI al'5 (dH kc<|fun v_=>true) cl'6,fJ ([]:List (Int×MB))] rfl (A.s<|A.h [.p,.p] [(2,p_ b4)] []<|A.e ?_)
   rw[show ymk=(fO kc) from by first|rfl|(rw[hy,ML<|by omega])]
   refine A.aG [0,0,0,0,1] [p_ b4] (fun _ w r s=>⟨fk r rfl,trivial⟩) (b4,m1,m2,m3) ?_ ?_<|by kernel_rfl
   ·rfl
   ·trivial
structure Vt where
 be:Nat
 bt:Nat
 mb:Nat
 t:T
 kv:List (Int×It)
def ew(ty:TypeId)(v:Vt):List V.dB:=[cw v.be [p_ v.bt,.map<|some v.mb] ty,cw v.bt [.pointer<|T.ptr v.t] 251,dU 361 v.t,dY (fun k:Int=>i_ k) (fun y:It=>(.agg #[u_ y.ka,i_ y.ki,u_ y.va,i_ y.vi])) v.mb v.kv]
abbrev Jm(b:Nat)(kk:List (Int×Vt)):V.dB:=dY (fun k:Int=>i_ k) (fun v:Vt=>p_ v.be) b kk
def ep(b:Nat)(kk:List (Int×Vt)):V.dB:=co [Jm b kk,eP (ew 192) kk]
def fY(v:Vt)(t:T)(kv:List (Int×It)):V.dB:=co<|ew 190 {v with t:=t,kv:=kv}
variable{kk:List (Int×Vt)}
theorem oZ(h:(ep b kk).holds w):(Jm b kk).holds w:=h _<|by simp
variable{v:Vt}
theorem yN(h:(ep b kk).holds w)(hm:cu kk i=some v): ∀it∈ew 192 v,it.holds w:=uf (h (eP (ew 192) kk)<|by simp) hm
theorem JL(b:Nat)(kk:List (Int×Vt))(i:Int)(v:Vt)(hm:cu kk i=some v)(ho:dq v.t v.kv)(w:World)(r:(ep b kk).holds w):Calls Tryz.prog 164 #[p_ v.be] w fun e w'=>e= .returned (u_<|i9 v.t.toL)∧Fr [] w w':=
 have h:=yN r hm
 Q7 v.be v.bt v.mb v.t v.kv ho w (h _<|by simp[ew]) (h _<|by simp[ew]) (h _<|by simp[ew]) (h _<|by simp[ew])
theorem JM(b:Nat)(kk:List (Int×Vt))(i:Int)(v:Vt)(hm:cu kk i=some v)(ho:dq v.t v.kv)(w:World)(r:(ep b kk).holds w):Calls Tryz.prog 148 #[p_ v.be] w fun e w'=>e= .returned (.tuple #[u_<|(v.t.toL.head?.getD default).ka,b_<|v.t.toL.head?.isSome])∧Fr [] w w':=
 have h:=yN r hm
 Q8 v.be v.bt v.mb v.t v.kv ho w (h _<|by simp[ew]) (h _<|by simp[ew]) (h _<|by simp[ew]) (h _<|by simp[ew])
theorem Tc(b:Nat)(kk:List (Int×Vt))(i:Int)(v:Vt)(hm:cu kk i=some v)(w:World)(r:(ep b kk).holds w):Calls Tryz.prog 218 #[p_ v.be] w fun e w'=>e= .returned (i_ (v.kv.length:Int))∧Fr [] w w':=
 have h:=yN r hm
 IE v.be v.bt v.mb v.t v.kv w (h _<|by simp[ew]) (h _<|by simp[ew]) (h _<|by simp[ew]) (h _<|by simp[ew])
theorem QM(b:Nat)(kk:List (Int×Vt))(i:Int)(v:Vt)(n:Int)(hm:cu kk i=some v)(ho:dq v.t v.kv)(w:World)(r:(ep b kk).holds w):Calls Tryz.prog 210 #[p_ v.be,u_ n] w fun e w'=>e= .returned (.tuple #[i_<|((eR (dS n 9223372036854775807) v.t.toL).getD default).ki,b_<|(eR (dS n 9223372036854775807) v.t.toL).isSome])∧Fr [] w w':=
 have h:=yN r hm
 OW v.be v.bt v.mb v.t v.kv n ho w (h _<|by simp[ew]) (h _<|by simp[ew]) (h _<|by simp[ew]) (h _<|by simp[ew])
theorem E0{f:β→List V.dB}{ek:Int→Value}{ev:β→Value}{kv:List (Int×β)}{m:β}(hm:cu kv i=some m)(hs:HS w (dE [co [dY ek ev b kv,eP f kv]]) [co [dY ek ev b kv,eP f kv]] w):HS w (dE<|f m) (f m) w:=by
 have h:=(HS.coS hs).all (eP f kv) (by simp)
 refine HS.start w _ (uf h hm) ?_
 have hn:=(HS.coS hs).nodup
 rw[show[dY ek ev b kv,eP f kv]=[dY ek ev b kv]++[eP f kv] from rfl,kh] at hn
 have hn:=(List.nodup_append.1 hn).2.1
 rw[show dE [eP f kv]=lE f kv by simp[dE,eP]] at hn
 have:=((qO hm).flatMap_right (fun p:Int×β=>dE<|f p.2)).nodup_iff.1 hn
 simp only[List.flatMap_cons] at this
 exact(List.nodup_append.1 this).1
theorem AI{v':Vt}(hm:cu kk i=some v)(hb:v'.be=v.be)(hs:HS w (dE [ep b kk]) [ep b kk] w)(h:Turn (ew 192 v) (ew 192 v') w w'):Turn [ep b kk] [ep b<|dC kk i v'] w w':=
 Turn.bag (f:=ew 192) (R:=[]) hs hm (by simp) (by simp) (by rw[hb]) fun _=>h
theorem Td(b:Nat)(kk:List (Int×Vt))(i:Int)(v:Vt)(c x y:Int)(hm:cu kk i=some v)(ho:dq v.t v.kv)(hl:v.kv.length≤700)(w:World)(hs:HS w (dE [ep b kk]) [ep b kk] w):Calls Tryz.prog 207 #[p_ v.be,i_ c,u_ x,u_ y] w fun e w'=> ∃zz:T,e= .returned (i_ 0)∧dq zz (dC v.kv c ⟨x,c,y,c⟩)∧Turn [ep b kk] [ep b<|dC kk i {v with t:=zz,kv:=dC v.kv c ⟨x,c,y,c⟩}] w w':=by
 refine(Q6 v.be v.bt v.mb v.t v.kv c x y ho hl w<|E0 (f:=ew 192) (m:=v) hm hs).mono ?_
 rintro e w' ⟨zt,h1,h2,h3⟩
 exact⟨zt,h1,h2,AI hm rfl hs h3⟩
theorem QN(b:Nat)(kk:List (Int×Vt))(i:Int)(v:Vt)(c:Int)(hm:cu kk i=some v)(ho:dq v.t v.kv)(hl:v.kv.length≤700)(w:World)(hs:HS w (dE [ep b kk]) [ep b kk] w):Calls Tryz.prog 217 #[p_ v.be,i_ c] w fun e w'=> ∃zz:Int×T,e= .returned (i_ zz.1)∧dq zz.2 (dJ v.kv c)∧Turn [ep b kk] [ep b<|dC kk i {v with t:=zz.2,kv:=dJ v.kv c}] w w':=by
 have hf:=E0 (f:=ew 192) (m:=v) hm hs
 by_cases hd:cu v.kv c=none
 ·refine(KJ v.be v.bt v.mb v.t v.kv c hd w (hf.all _<|by simp[ew]) (hf.all _<|by simp[ew]) (hf.all _<|by simp[ew])<|hf.all _<|by simp[ew]).mono ?_
  rintro e w' ⟨rfl,h2⟩
  refine⟨(6,v.t),rfl,by rw[tW hd];exact ho,AI (v':={v with t:=v.t,kv:=dJ v.kv c}) hm rfl hs ?_⟩
  have:({v with t:=v.t,kv:=dJ v.kv c}:Vt)=v:=by rw[tW hd]
  rw[this];exact Turn.of (hf.kept h2)<|.refl _
 ·refine(Kv v.be v.bt v.mb v.t v.kv c ho hd hl w hf).mono ?_
  rintro e w' ⟨zt,h1,h2,h3⟩
  exact⟨(0,zt),h1,h2,AI hm rfl hs h3⟩
def pG(v:Vt):V.dB:=co<|ew 192 v
theorem uu(w:World)(hs:HS w (dE []) [] w):Calls Tryz.prog 61 #[] w fun e w'=> ∃zz:Vt,e= .returned (p_ zz.be)∧(zz.kv=[]∧zz.t=T.nil)∧Turn [] [pG zz] w w':=by
 refine(Q3 w hs).mono ?_
 rintro e w' ⟨⟨be,bt,mb⟩,h1,-,h3⟩
 exact⟨⟨be,bt,mb,T.nil,[]⟩,h1,⟨rfl,rfl⟩,Turn.coR (Y:=[]) (by rw[List.append_nil];exact h3)⟩
theorem yO(w:World)(hs:HS w (dE []) [] w):Calls Tryz.prog 60 #[] w fun e w'=> ∃zz:Vt,e= .returned (p_ zz.be)∧True∧Turn [] [fY zz T.nil []] w w':=by
 refine(Q2 w hs).mono ?_
 rintro e w' ⟨⟨be,bt,mb⟩,h1,-,h3⟩
 exact⟨⟨be,bt,mb,T.nil,[]⟩,h1,trivial,Turn.coR (Y:=[]) (by rw[List.append_nil];exact h3)⟩
theorem CP(v:Vt)(t:T)(kv:List (Int×It))(c x y:Int)(ho:dq t kv)(hl:kv.length≤700)(w:World)(hs:HS w (dE [fY v t kv]) [fY v t kv] w):Calls Tryz.prog 147 #[p_ v.be,i_ c,u_ x,u_ y] w fun e w'=> ∃zz:T,e= .returned (i_ 0)∧dq zz (dC (dJ kv c) c ⟨x,c,y,c⟩)∧Turn [fY v t kv] [fY v zz<|dC (dJ kv c) c ⟨x,c,y,c⟩] w w':=by
 refine(Q5 v.be v.bt v.mb t kv c x y ho hl w<|HS.coS hs).mono ?_
 rintro e w' ⟨zt,h1,h2,h3⟩
 exact⟨zt,h1,h2,Turn.coS h3⟩
theorem Hk(v:Vt)(t:T)(kv:List (Int×It))(c:Int)(ho:dq t kv)(hl:kv.length≤700)(w:World)(hs:HS w (dE [fY v t kv]) [fY v t kv] w):Calls Tryz.prog 202 #[p_ v.be,i_ c] w fun e w'=> ∃zz:Int×T,e= .returned (i_ zz.1)∧dq zz.2 (dJ kv c)∧Turn [fY v t kv] [fY v zz.2<|dJ kv c] w w':=by
 have hf:=HS.coS hs
 by_cases hd:cu kv c=none
 ·refine(Db v.be v.bt v.mb t kv c hd w (hf.all _<|by simp[ew]) (hf.all _<|by simp[ew]) (hf.all _<|by simp[ew])<|hf.all _<|by simp[ew]).mono ?_
  rintro e w' ⟨rfl,h2⟩
  refine⟨(6,t),rfl,by rw[tW hd];exact ho,?_⟩
  rw[tW hd];exact Turn.of (hs.kept h2)<|.refl _
 ·refine(ED v.be v.bt v.mb t kv c ho hd hl w hf).mono ?_
  rintro e w' ⟨zt,h1,h2,h3⟩
  exact⟨(0,zt),h1,h2,Turn.coS h3⟩
theorem QO(v:Vt)(t:T)(kv:List (Int×It))(n:Int)(ho:dq t kv)(w:World)(r:(fY v t kv).holds w):Calls Tryz.prog 209 #[p_ v.be,u_ n] w fun e w'=>e= .returned (.tuple #[i_<|((eS (dS n 9223372036854775807) t.toL).getD default).ki,b_<|(eS (dS n 9223372036854775807) t.toL).isSome])∧Fr [] w w':=
 OV v.be v.bt v.mb t kv n ho w (r _<|by simp[ew]) (r _<|by simp[ew]) (r _<|by simp[ew]) (r _<|by simp[ew])
theorem QP(v:Vt)(t:T)(kv:List (Int×It))(ho:dq t kv)(w:World)(r:(fY v t kv).holds w):Calls Tryz.prog 163 #[p_ v.be] w fun e w'=>e= .returned (u_<|nG t.toL)∧Fr [] w w':=
 OX v.be v.bt v.mb t kv ho w (r _<|by simp[ew]) (r _<|by simp[ew]) (r _<|by simp[ew]) (r _<|by simp[ew])
structure Ac where
 bs:Nat
 mb:Nat
 mo:Nat
 ml:Nat
 ym:List (Int×Pl)
 deriving Inhabited
def jA(a:Ac)(on:List (Int×Int))(kv:List (Int×MB)):List V.dB:=[cw a.bs [.map<|some a.mb,.map<|some a.mo,.map<|some a.ml] 197,iT a.mb a.ym,gK a.mo on,gx a.ml kv,fJ kv]
def fE(a:Ac)(on:List (Int×Int))(kv:List (Int×MB)):V.dB:=co<|jA a on kv
theorem Jc(a:Ac)(on:List (Int×Int))(kv:List (Int×MB))(c:Int)(w:World)(r:(fE a on kv).holds w):Calls Tryz.prog 109 #[p_ a.bs,i_ c] w fun e w'=>e= .returned (b_<|fR on kv c)∧Fr [] w w':=
 uo a.bs a.mb a.mo a.ml a.ym on kv c w (r _<|by simp[jA]) (r _<|by simp[jA]) (r _<|by simp[jA]) (r _<|by simp[jA]) (r _<|by simp[jA])
def oG(ym:List (Int×Pl))(on:List (Int×Int))(kv:List (Int×MB))(c:Int)(on':List (Int×Int))(kv':List (Int×MB))(l:List Int)(e:Int):Prop:=
 (jF ym c=true∧fR on kv c=false∧e=0∧l=(fV ym (kx kv) 40 c).1∧on'=dC on c (da ym c)∧kx kv'=(fV ym (kx kv) 40 c).2)∨((jF ym c=false∨fR on kv c=true)∧e≠0∧l=[]∧on'=on∧kv'=kv)
def qR(ym:List (Int×Pl))(on:List (Int×Int))(kv:List (Int×MB))(c:Int)(on':List (Int×Int))(kv':List (Int×MB))(l:List Int)(e:Int):Prop:=
 (jF ym c=true∧fR on kv c=true∧e=0∧l=(fp ym (kx kv) 40 c).1∧on'=dJ on c∧kx kv'=(fp ym (kx kv) 40 c).2)∨((jF ym c=false∨fR on kv c=false)∧e≠0∧l=[]∧on'=on∧kv'=kv)
variable{on:List (Int×Int)}
theorem zH{a:Ac}{kv:List (Int×MB)}(hs:HS w (dE [fE a on kv]) [fE a on kv] w)(h:Fr [] w w'):Turn [fE a on kv] [fE a on kv,sI none [] 0] w w':=
 Turn.of ((hs.kept h).add (Fr.refl _ _) (it:=sI none [] 0) (xh 3 1 w') List.nodup_nil (by intro b hb;cases hb)) (.refl _)
theorem DL(a:Ac)(on:List (Int×Int))(kv:List (Int×MB))(c:Int)(hd:jE a.ym 40 c)(w:World)(hs:HS w (dE [fE a on kv]) [fE a on kv] w):Calls Tryz.prog 74 #[p_ a.bs,i_ c] w fun e w'=> ∃zz:List (Int×Int)×List (Int×MB)×Option Addr×List Int×Nat×Int,e= .returned (.tuple #[vS zz.2.2.1 zz.2.2.2.1 zz.2.2.2.2.1,i_ zz.2.2.2.2.2])∧oG a.ym on kv c zz.1 zz.2.1 zz.2.2.2.1 zz.2.2.2.2.2∧Turn [fE a on kv] [fE a zz.1 zz.2.1,sI zz.2.2.1 zz.2.2.2.1 zz.2.2.2.2.1] w w':=by
 have hf:=HS.coS hs
 have r: ∀it∈jA a on kv,it.holds w:=hf.all
 by_cases hl:jF a.ym c=true
 ·by_cases hi:fR on kv c=true
  ·refine(Nz a.bs a.mb a.mo a.ml a.ym on kv c hl hi w (r _<|by simp[jA]) (r _<|by simp[jA]) (r _<|by simp[jA]) (r _<|by simp[jA])<|r _<|by simp[jA]).mono ?_
   rintro e w' ⟨rfl,h2⟩
   exact⟨(on,kv,none,[],0,8),rfl,.inr ⟨.inr hi,by simp,rfl,rfl,rfl⟩,zH hs h2⟩
  ·have hi:fR on kv c=false:=by simpa using hi
   refine(TQ a.bs a.mb a.mo a.ml a.ym on kv c hl hi hd w hf).mono ?_
   rintro e w' ⟨⟨kv',al,cl⟩,h1,h2,h3⟩
   exact⟨(_,kv',al,_,cl,0),h1,.inl ⟨hl,hi,rfl,rfl,rfl,h2⟩,Turn.coI (X:=[]) (by rw[List.append_nil];exact h3)⟩
 ·have hl:jF a.ym c=false:=by simpa using hl
  refine(Ny a.bs a.mb a.mo a.ml a.ym on kv c hl w (r _<|by simp[jA]) (r _<|by simp[jA]) (r _<|by simp[jA]) (r _<|by simp[jA])<|r _<|by simp[jA]).mono ?_
  rintro e w' ⟨rfl,h2⟩
  exact⟨(on,kv,none,[],0,6),rfl,.inr ⟨.inl hl,by simp,rfl,rfl,rfl⟩,zH hs h2⟩
theorem Tf(a:Ac)(on:List (Int×Int))(kv:List (Int×MB))(c:Int)(hd:jE a.ym 40 c)(w:World)(hs:HS w (dE [fE a on kv]) [fE a on kv] w):Calls Tryz.prog 216 #[p_ a.bs,i_ c] w fun e w'=> ∃zz:List (Int×Int)×List (Int×MB)×Option Addr×List Int×Nat×Int,e= .returned (.tuple #[vS zz.2.2.1 zz.2.2.2.1 zz.2.2.2.2.1,i_ zz.2.2.2.2.2])∧qR a.ym on kv c zz.1 zz.2.1 zz.2.2.2.1 zz.2.2.2.2.2∧Turn [fE a on kv] [fE a zz.1 zz.2.1,sI zz.2.2.1 zz.2.2.2.1 zz.2.2.2.2.1] w w':=by
 have hf:=HS.coS hs
 have r: ∀it∈jA a on kv,it.holds w:=hf.all
 by_cases hl:jF a.ym c=false∨fR on kv c=false
 ·refine(MK a.bs a.mb a.mo a.ml a.ym on kv c hl w (r _<|by simp[jA]) (r _<|by simp[jA]) (r _<|by simp[jA]) (r _<|by simp[jA])<|r _<|by simp[jA]).mono ?_
  rintro e w' ⟨rfl,h2⟩
  exact⟨(on,kv,none,[],0,6),rfl,.inr ⟨hl,by simp,rfl,rfl,rfl⟩,zH hs h2⟩
 ·have h1:jF a.ym c=true:=by cases h:jF a.ym c<;>simp_all
  have h2:fR on kv c=true:=by cases h:fR on kv c<;>simp_all
  refine(Pm a.bs a.mb a.mo a.ml a.ym on kv c h1 h2 hd w hf).mono ?_
  rintro e w' ⟨⟨kv',al,cl⟩,e1,e2,h3⟩
  exact⟨(_,kv',al,_,cl,0),e1,.inl ⟨h1,h2,rfl,rfl,rfl,e2⟩,Turn.coI (X:=[]) (by rw[List.append_nil];exact h3)⟩
theorem JO(bt mc:Nat)(kc:List (Int×Cl))(hl:kc.length≤1000)(w:World)(r0:(cw bt [.map<|some mc] 185).holds w)(r1:(dy mc kc).holds w)(hs:HS w (dE []) [] w):Calls Tryz.prog 62 #[p_ bt] w fun e w'=> ∃zz:Ac,e= .returned (p_ zz.bs)∧zz.ym=fO kc∧Turn [] [fE zz [] []] w w':=by
 refine(OA bt mc kc hl w r0 r1 hs).mono ?_
 rintro e w' ⟨⟨bs,mb,mo,mk⟩,h1,-,h3⟩
 exact⟨⟨bs,mb,mo,mk,fO kc⟩,h1,rfl,Turn.coR (Y:=[]) (by rw[List.append_nil];exact h3)⟩
theorem kG(h:fK kv i=true): ∃c,cu kv i=some c∧dD kv i=c:=by
 cases e:cu kv i with
 |some c=>exact⟨c,rfl,iu e⟩
 |none=>exfalso;unfold fK at h;rw[BX e] at h;revert h;decide
theorem G6(kv:List (Int×Cl)): ∀(l:List Int)(m:List (Int×Pl))(i:Int),cu (l.foldl (nq kv) m) i=if i∈l∧fK kv i=true then some ⟨(dD kv i).hp,if(dD kv i).hl=true then 1 else 0⟩ else cu m i
 |[],m,i=>by simp
 |x::l,m,i=>by
  rw[List.foldl_cons,G6 kv l]
  by_cases hs:fK kv i=true
  ·by_cases hl:i∈l
   ·simp[hl,hs]
   ·rw[if_neg<|fun h=>hl h.1]
    by_cases e:i=x
    ·subst e;rw[if_pos (c:=i∈i::l∧fK kv i=true) ⟨by simp,hs⟩];unfold nq;rw[if_pos hs,fm,if_pos rfl]
    ·rw[if_neg (fun h=>by rcases List.mem_cons.1 h.1 with h|h;exact e h;exact hl h)]
     unfold nq;split
     ·rw[fm,if_neg<|fun h=>e h.symm]
     ·rfl
  ·rw[if_neg<|fun h=>hs h.2,if_neg<|fun h=>hs h.2]
   unfold nq;split
   ·rename_i hx;rw[fm,if_neg<|fun h=>hs (by rw[←h];exact hx)]
   ·rfl
theorem FN(i:Int):cu (fO kv) i=if fK kv i=true then some ⟨(dD kv i).hp,if(dD kv i).hl=true then 1 else 0⟩ else none:=by
 unfold fO;rw[G6]
 by_cases hs:fK kv i=true
 ·obtain⟨c,h1,_⟩:=kG hs
  rw[if_pos hs,if_pos ⟨rj h1 rfl,hs⟩]
 ·rw[if_neg hs,if_neg<|fun h=>hs h.2];rfl
theorem uM(i:Int):da (fO kv) i=if fK kv i=true then(dD kv i).hp else 0:=by
 unfold da;rw[FN];split<;>rfl
theorem uU(i:Int):jF (fO kv) i=(fK kv i&&(dD kv i).hl):=by
 unfold jF;rw[FN];by_cases h:fK kv i=true
 ·rw[if_pos h,h];cases hh:(dD kv i).hl<;>simp
 ·rw[if_neg h];simp[dQ,h]
theorem G7: ∀(n:Nat)(i:Int),fU kv n i<n→jE (fO kv) n i
 |0,_,h=>by omega
 |n+1,i,h=>by
  unfold jE;rw[uM]
  by_cases hs:fK kv i=true
  ·obtain⟨c,h1,h2⟩:=kG hs
   rw[if_pos hs];right
   unfold fU at h;rw[h1] at h;simp at h
   exact G7 n _ h
  ·rw[if_neg hs];exact .inl rfl
variable{ym:List (Int×Pl)}
theorem G8: ∀(n:Nat)(i:Int),jE ym n i→jE ym (n+1) i
 |0,_,h=>h.elim
 |n+1,i,h=>by
  rcases h with h|h
  ·exact .inl h
  ·exact .inr<|G8 n _ h
theorem FO: ∀(m n:Nat),jE ym n i→jE ym (n+m) i
 |0,_,h=>h
 |m+1,n,h=>G8 _ _<|FO m n h
theorem uA(hL:dr kv)(i:Int):jE (fO kv) 40 i:=
 FO 23 17 (G7 17 i (by have:=hL.dep i;unfold dep at this;omega))
def db(kv:List (Int×Cl))(i:Int):List Int:=fx kv i<|dep kv i
variable{c:Cl}
theorem jB(hL:dr kv)(h:cu kv i=some c):dep kv i=dep kv c.hp+1:=by
 have h1:dep kv i=fU kv 16 c.hp+1:=by unfold dep;rw[fU,h,iu h];rfl
 have h2:=hL.dep i
 rw[h1];congr 1;unfold dep
 exact(zI kv 1 16 c.hp<|by omega).symm
theorem vu(h:cu kv i=none):dep kv i=0:=by unfold dep;rw[fU,h];rfl
theorem jN(hL:dr kv)(h:cu kv i=some c):db kv i=i::db kv c.hp:=by
 unfold db;rw[jB hL h];unfold fx
 rw[List.range_succ_eq_map,List.map_cons,List.map_map]
 congr 1
 refine List.map_congr_left fun j _=>?_
 show fl kv i (j+1)=_
 rw[rz,iu h]
theorem nB(h:cu kv i=none):db kv i=[]:=by unfold db;rw[vu h];rfl
theorem rJ(hL:dr kv)(hs:fK kv i=true):(dD kv i).hp=0∨(fK kv (dD kv i).hp=true∧(dD kv (dD kv i).hp).hl=false):=by
 obtain⟨c,h1,h2⟩:=kG hs
 rcases hL.par i c h1 with h|⟨p,h3,h4⟩
 ·left;rw[h2];exact h
 ·by_cases h0:c.hp=0
  ·left;rw[h2];exact h0
  ·right;rw[h2]
   have h5:=hL.shr i c h1 (by unfold fK at hs;rw[h2] at hs;simpa using hs)
   refine⟨?_,by rw[iu h3];exact h4⟩
   unfold iV at h5;unfold fK
   have:(c.hp==0)=false:=by simpa using h0
   rw[this] at h5;simpa using h5
structure oy(kv:List (Int×Cl))(ol:List Int)(A:Int→Prop):Prop where
 sh: ∀i,A i→fK kv i=true
 up: ∀i,A i→(dD kv i).hp=0∨A (dD kv i).hp
 sup: ∀i,A i→i∈ol∨ ∃r,A r∧(dD kv r).hp=i
 ons: ∀i∈ol,A i
 lf: ∀i∈ol,(dD kv i).hl=true
def pJ(kv:List (Int×Cl))(A:Int→Prop)(F:Int→List (Int×Int)):Prop:= ∀p,((F p).map (·.1)).Nodup∧ ∀i,(cu (F p) i≠none↔A i∧(dD kv i).hp=p)
variable{ol:List Int}{A:Int→Prop}
theorem uN(hL:dr kv)(h:oy kv ol A): ∀(n:Nat)(i:Int),dep kv i≤n→A i→ ∀q∈db kv i,A q
 |0,i,hn,hi,q,hq=>by
  unfold db at hq;rw[show dep kv i=0 by omega] at hq;simp[fx] at hq
 |n+1,i,hn,hi,q,hq=>by
  obtain⟨c,h1,h2⟩:=kG<|h.sh i hi
  rw[jN hL h1] at hq
  rcases List.mem_cons.1 hq with rfl|hq
  ·exact hi
  ·rcases h.up i hi with h0|h0
   ·rw[h2] at h0;rw[h0,nB<|mU hL] at hq;cases hq
   ·rw[h2] at h0;exact uN hL h n _ (by rw[jB hL h1] at hn;omega) h0 q hq
theorem FP(hL:dr kv)(h:oy kv ol A): ∀(n:Nat)(i:Int),17≤dep kv i+n→A i→ ∃m∈ol,i∈db kv m
 |0,i,hn,hi=>by have:=hL.dep i;omega
 |n+1,i,hn,hi=>by
  obtain⟨c,h1,h2⟩:=kG<|h.sh i hi
  rcases h.sup i hi with h0|⟨r,h3,h4⟩
  ·exact⟨i,h0,by rw[jN hL h1];simp⟩
  ·obtain⟨d,h5,h6⟩:=kG<|h.sh r h3
   rw[h6] at h4
   obtain⟨m,hm,hr⟩:=FP hL h n r (by rw[jB hL h5,h4];omega) h3
   refine⟨m,hm,?_⟩
   exact upc_trans hL (by rw[jN hL h5];exact List.mem_cons_of_mem _ (by rw[h4,jN hL h1];simp)) hr
where
 upc_trans {kv:List (Int×Cl)} (hL:dr kv) {i r m:Int} (h1:i∈db kv r) (h2:r∈db kv m):i∈db kv m:=by
  have key: ∀(n:Nat)(m:Int),dep kv m≤n→r∈db kv m→i∈db kv m:=by
   intro n
   induction n with
   |zero=>intro m hm hr;unfold db at hr;rw[show dep kv m=0 by omega] at hr;simp[fx] at hr
   |succ n ih=>
    intro m hm hr
    cases e:cu kv m with
    |none=>rw[nB e] at hr;cases hr
    |some c=>
     rw[jN hL e] at hr⊢
     rcases List.mem_cons.1 hr with rfl|hr
     ·rw[jN hL e] at h1;exact h1
     ·exact List.mem_cons_of_mem _<|ih _ (by rw[jB hL e] at hm;omega) hr
  exact key _ m (Nat.le_refl _) h2
theorem qm(hL:dr kv)(h:oy kv ol A)(i:Int):A i↔ ∃m∈ol,i∈db kv m:=
 ⟨fun hi=>FP hL h 17 i (by omega) hi,fun⟨m,hm,hi⟩=>uN hL h _ m (Nat.le_refl _) (h.ons m hm) i hi⟩
theorem wX(hL:dr kv): ∀(n:Nat)(p q:Int),dep kv p≤n→q∈db kv p→dep kv q≤dep kv p
 |0,p,q,hn,hq=>by unfold db at hq;rw[show dep kv p=0 by omega] at hq;simp[fx] at hq
 |n+1,p,q,hn,hq=>by
  cases e:cu kv p with
  |none=>rw[nB e] at hq;cases hq
  |some c=>
   rw[jN hL e] at hq
   rcases List.mem_cons.1 hq with rfl|hq
   ·omega
   ·have h2:=jB hL e;have:=wX hL n c.hp q (by omega) hq;omega
theorem vQ{l:List (Int×Int)}:l≠[]↔ ∃i,cu l i≠none:=by
 constructor
 ·intro h
  cases l with
  |nil=>exact absurd rfl h
  |cons p l=>exact⟨p.1,by simp[cu]⟩
 ·rintro⟨i,h⟩ rfl;exact h rfl
variable{F:Int→List (Int×Int)}
theorem OT(h:pJ kv A F)(i:Int):pJ kv (fun q=>A q∨q=i) (lT F (dD kv i).hp i):=by
 intro p;unfold lT
 by_cases e:(dD kv i).hp=p
 ·simp only[if_pos e];subst e
  refine⟨kj (h _).1 _ _,fun q=>?_⟩
  rw[fm];by_cases eq:i=q
  ·subst eq;simp
  ·rw[if_neg eq,(h _).2];constructor
   ·rintro⟨h1,h2⟩;exact⟨.inl h1,h2⟩
   ·rintro⟨h1|h1,h2⟩
    ·exact⟨h1,h2⟩
    ·exact absurd h1.symm eq
 ·simp only[if_neg e]
  refine⟨(h p).1,fun q=>?_⟩
  rw[(h p).2];constructor
  ·rintro⟨h1,h2⟩;exact⟨.inl h1,h2⟩
  ·rintro⟨h1|h1,h2⟩
   ·exact⟨h1,h2⟩
   ·subst h1;exact absurd h2 e
theorem OU(h:pJ kv A F)(i:Int):pJ kv (fun q=>A q∧q≠i) (iK F (dD kv i).hp i):=by
 intro p;unfold iK
 by_cases e:(dD kv i).hp=p
 ·simp only[if_pos e];subst e
  refine⟨kB (h _).1 _,fun q=>?_⟩
  rw[iG (h _).1];by_cases eq:i=q
  ·subst eq;simp
  ·rw[if_neg eq,(h _).2];constructor
   ·rintro⟨h1,h2⟩;exact⟨⟨h1,fun h=>eq h.symm⟩,h2⟩
   ·rintro⟨⟨h1,_⟩,h2⟩;exact⟨h1,h2⟩
 ·simp only[if_neg e]
  refine⟨(h p).1,fun q=>?_⟩
  rw[(h p).2];constructor
  ·rintro⟨h1,h2⟩;exact⟨⟨h1,fun h=>e<|h▸h2⟩,h2⟩
  ·rintro⟨⟨h1,_⟩,h2⟩;exact⟨h1,h2⟩
structure CZ(kv:List (Int×Cl))(ol:List Int)(A:Int→Prop)(i:Int):Prop where
 sh: ∀q,A q→fK kv q=true
 up: ∀q,A q→(dD kv q).hp=0∨A (dD kv q).hp∨(dD kv q).hp=i
 sup: ∀q,A q→q∈ol∨ ∃r,A r∧(dD kv r).hp=q
 me:i∈ol∨ ∃r,A r∧(dD kv r).hp=i
 mysh:fK kv i=true
 no: ¬A i
 ons: ∀q∈ol,A q∨q=i
 lf: ∀q∈ol,(dD kv q).hl=true
theorem FQ(hL:dr kv)(hs:fK kv i=true):(dD kv i).hp≠i:=by
 obtain⟨c,h1,h2⟩:=kG hs
 obtain⟨h3,h4⟩:=hL.key i c h1
 have:=(sA h4).2.2
 rw[h2,←h3];exact fun e=>this e.symm
open Classical in
theorem ID(hL:dr kv): ∀(n:Nat)(i:Int)(A:Int→Prop)(F:Int→List (Int×Int)),CZ kv ol A i→pJ kv A F→jE (fO kv) n i→
  ∃A':Int→Prop,oy kv ol A'∧pJ kv A' (fV (fO kv) F n i).2∧(∀q,A q→A' q)∧(fV (fO kv) F n i).1=(db kv i).filter (fun q=>decide (¬A q))∧A' i
 |0,i,A,F,hW,hF,hd=>hd.elim
 |n+1,i,A,F,hW,hF,hd=>by
  have hp:da (fO kv) i=(dD kv i).hp:=by rw[uM,if_pos hW.mysh]
  have hfa:=OT hF i
  obtain⟨c,h1,h2⟩:=kG hW.mysh
  have hne:=FQ hL hW.mysh
  have hiff: ∀p,p=(dD kv i).hp→p≠0→(F p≠[]↔A p):=by
   intro p hpe hp0
   rw[vQ];constructor
   ·rintro⟨q,hq⟩
    obtain⟨h3,h4⟩:=((hF p).2 q).1 hq
    rcases hW.up q h3 with h|h|h
    ·exact absurd (h4.symm.trans h) hp0
    ·rw[h4] at h;exact h
    ·exact absurd ((hpe.symm.trans h4.symm).trans h) hne
   ·intro ha
    rcases hW.sup p ha with h|⟨r,h3,h4⟩
    ·have h5:=hW.lf p h
     rcases rJ hL hW.mysh with h6|⟨_,h6⟩
     ·exact absurd (hpe.trans h6) hp0
     ·rw[←hpe,h5] at h6;cases h6
    ·exact⟨r,((hF p).2 r).2 ⟨h3,h4⟩⟩
  by_cases hst:F (da (fO kv) i)≠[]∨da (fO kv) i=0
  ·rw[nY hst]
   rw[hp] at hst⊢
   have hcl:(dD kv i).hp=0∨A (dD kv i).hp:=by
    by_cases h0:(dD kv i).hp=0
    ·exact .inl h0
    ·rcases hst with h|h
     ·exact .inr<|(hiff _ rfl h0).1 h
     ·exact absurd h h0
   have hA':oy kv ol (fun q=>A q∨q=i):=by
    refine⟨?_,?_,?_,fun q hq=>hW.ons q hq,hW.lf⟩
    ·rintro q (h|rfl)
     ·exact hW.sh q h
     ·exact hW.mysh
    ·rintro q (h|rfl)
     ·rcases hW.up q h with h|h|h
      ·exact .inl h
      ·exact .inr<|.inl h
      ·exact .inr<|.inr h
     ·rcases hcl with h|h
      ·exact .inl h
      ·exact .inr<|.inl h
    ·rintro q (h|rfl)
     ·rcases hW.sup q h with h|⟨r,h3,h4⟩
      ·exact .inl h
      ·exact .inr ⟨r,.inl h3,h4⟩
     ·rcases hW.me with h|⟨r,h3,h4⟩
      ·exact .inl h
      ·exact .inr ⟨r,.inl h3,h4⟩
   refine⟨_,hA',hfa,fun q h=> .inl h,?_,.inr rfl⟩
   rw[jN hL h1,List.filter_cons,if_pos<|by simpa using hW.no]
   have:(db kv c.hp).filter (fun q=>decide (¬A q))=[]:=by
    rw[List.filter_eq_nil_iff];intro q hq
    rw[h2] at hcl
    rcases hcl with h|h
    ·rw[h,nB<|mU hL] at hq;cases hq
    ·have hqA:=uN hL hA' _ c.hp (Nat.le_refl _) (.inl h) q hq
     rcases hqA with h3|h3
     ·simpa using h3
     ·exfalso
      have:=wX hL _ c.hp q (Nat.le_refl _) hq
      rw[h3,jB hL h1] at this;omega
   rw[this]
  ·rw[yJ hst]
   rw[hp] at hst⊢
   have h0:(dD kv i).hp≠0:=fun h=>hst<|.inr h
   have hnp: ¬A (dD kv i).hp:=fun h=>hst<|.inl<|(hiff _ rfl h0).2 h
   have hsp:fK kv (dD kv i).hp=true:=by
    rcases rJ hL hW.mysh with h|h
    ·exact absurd h h0
    ·exact h.1
   have hW':CZ kv ol (fun q=>A q∨q=i) (dD kv i).hp:=by
    refine⟨?_,?_,?_,.inr ⟨i,.inr rfl,rfl⟩,hsp,?_,fun q hq=> .inl (hW.ons q hq),hW.lf⟩
    ·rintro q (h|rfl)
     ·exact hW.sh q h
     ·exact hW.mysh
    ·rintro q (h|rfl)
     ·rcases hW.up q h with h|h|h
      ·exact .inl h
      ·exact .inr<|.inl<|.inl h
      ·exact .inr<|.inl<|.inr h
     ·exact .inr<|.inr rfl
    ·rintro q (h|rfl)
     ·rcases hW.sup q h with h|⟨r,h3,h4⟩
      ·exact .inl h
      ·exact .inr ⟨r,.inl h3,h4⟩
     ·rcases hW.me with h|⟨r,h3,h4⟩
      ·exact .inl h
      ·exact .inr ⟨r,.inl h3,h4⟩
    ·rintro(h|h)
     ·exact hnp h
     ·exact hne h
   have hd':jE (fO kv) n (dD kv i).hp:=by
    rcases hd with h|h
    ·rw[hp] at h;exact absurd h h0
    ·rw[hp] at h;exact h
   obtain⟨A',a1,a2,a3,a4,a5⟩:=ID hL n _ _ _ hW' hfa hd'
   refine⟨A',a1,a2,fun q h=>a3 q<|.inl h,?_,a3 i<|.inr rfl⟩
   rw[a4,jN hL h1,List.filter_cons,if_pos<|by simpa using hW.no,h2]
   refine congrArg (i:: ·)<|List.filter_congr fun q hq=>?_
   have hqi: ¬q=i:=by
    intro e
    have:=wX hL _ c.hp q (Nat.le_refl _) hq
    rw[e,jB hL h1] at this;omega
   simp[hqi]
structure BU(kv:List (Int×Cl))(ol:List Int)(A:Int→Prop)(i:Int):Prop where
 sh: ∀q,A q→fK kv q=true
 up: ∀q,A q→(dD kv q).hp=0∨A (dD kv q).hp
 sup: ∀q,A q→q≠i→q∈ol∨ ∃r,A r∧(dD kv r).hp=q
 me:A i
 lone: ∀r,A r→(dD kv r).hp≠i
 no:i∉ol
 ons: ∀q∈ol,A q
 lf: ∀q∈ol,(dD kv q).hl=true
open Classical in
theorem G9(hL:dr kv): ∀(n:Nat)(i:Int)(A:Int→Prop)(F:Int→List (Int×Int)),BU kv ol A i→pJ kv A F→jE (fO kv) n i→
  ∃A':Int→Prop,oy kv ol A'∧pJ kv A' (fp (fO kv) F n i).2∧(∀q,A' q→A q∧q≠i)∧(fp (fO kv) F n i).1=(db kv i).filter (fun q=>decide (¬A' q))
 |0,i,A,F,hW,hF,hd=>hd.elim
 |n+1,i,A,F,hW,hF,hd=>by
  have mysh:=hW.sh i hW.me
  have hp:da (fO kv) i=(dD kv i).hp:=by rw[uM,if_pos mysh]
  have hfa:=OU hF i
  obtain⟨c,h1,h2⟩:=kG mysh
  have hne:=FQ hL mysh
  have hcl:=hW.up i hW.me
  by_cases hst:iK F (da (fO kv) i) i (da (fO kv) i)≠[]∨da (fO kv) i=0
  ·rw[qj hst]
   rw[hp] at hst⊢
   have hA':oy kv ol (fun q=>A q∧q≠i):=by
    refine⟨fun q h=>hW.sh q h.1,?_,?_,fun q hq=>⟨hW.ons q hq,fun e=>hW.no<|e▸hq⟩,hW.lf⟩
    ·rintro q ⟨h,hqi⟩
     rcases hW.up q h with h3|h3
     ·exact .inl h3
     ·exact .inr ⟨h3,fun e=>hW.lone q h e⟩
    ·rintro q ⟨h,hqi⟩
     rcases hW.sup q h hqi with h3|⟨r,h3,h4⟩
     ·exact .inl h3
     ·by_cases hri:r=i
      ·subst hri
       rcases hst with h5|h5
       ·obtain⟨s,hs⟩:=vQ.1 h5
        obtain⟨h6,h7⟩:=((hfa _).2 s).1 hs
        exact .inr ⟨s,h6,h7.trans h4⟩
       ·exfalso
        have hq0:q=0:=h4.symm.trans h5
        have:=hW.sh q h
        obtain⟨d,h6,_⟩:=kG this
        rw[hq0,mU hL] at h6;cases h6
      ·exact .inr ⟨r,⟨h3,hri⟩,h4⟩
   refine⟨_,hA',hfa,fun q h=>h,?_⟩
   rw[jN hL h1,List.filter_cons,if_pos<|by simp]
   refine congrArg (i:: ·)<|Eq.symm<|List.filter_eq_nil_iff.2 fun q hq=>?_
   rw[h2] at hcl
   rcases hcl with h|h
   ·rw[h,nB<|mU hL] at hq;cases hq
   ·have hci:c.hp≠i:=by rw[←h2];exact hne
    have hqA:=uN hL hA' _ c.hp (Nat.le_refl _) ⟨h,hci⟩ q hq
    simpa using hqA
  ·rw[BI hst]
   rw[hp] at hst⊢
   have h0:(dD kv i).hp≠0:=fun h=>hst<|.inr h
   have hE: ∀r,(A r∧r≠i)→(dD kv r).hp≠(dD kv i).hp:=fun r hr e=>hst<|.inl<|vQ.2 ⟨r,((hfa _).2 r).2 ⟨hr,e⟩⟩
   have hpA:A (dD kv i).hp:=hcl.resolve_left h0
   have hW':BU kv ol (fun q=>A q∧q≠i) (dD kv i).hp:=by
    refine⟨fun q h=>hW.sh q h.1,?_,?_,⟨hpA,hne⟩,fun r hr=>hE r hr,?_,fun q hq=>⟨hW.ons q hq,fun e=>hW.no<|e▸hq⟩,hW.lf⟩
    ·rintro q ⟨h,hqi⟩
     rcases hW.up q h with h3|h3
     ·exact .inl h3
     ·exact .inr ⟨h3,fun e=>hW.lone q h e⟩
    ·rintro q ⟨h,hqi⟩ hqp
     rcases hW.sup q h hqi with h3|⟨r,h3,h4⟩
     ·exact .inl h3
     ·by_cases hri:r=i
      ·subst hri;exact absurd h4.symm hqp
      ·exact .inr ⟨r,⟨h3,hri⟩,h4⟩
    ·intro h
     have h5:=hW.lf _ h
     rcases rJ hL mysh with h6|⟨_,h6⟩
     ·exact h0 h6
     ·rw[h5] at h6;cases h6
   have hd':jE (fO kv) n (dD kv i).hp:=by
    rcases hd with h|h
    ·rw[hp] at h;exact absurd h h0
    ·rw[hp] at h;exact h
   obtain⟨A',a1,a2,a3,a4⟩:=G9 hL n _ _ _ hW' hfa hd'
   refine⟨A',a1,a2,fun q h=>(a3 q h).1,?_⟩
   rw[a4,jN hL h1,List.filter_cons,if_pos (by simp;exact fun h=>(a3 i h).1.2 rfl),h2]
def i5(c:Cl):Cv:=⟨c.ra,c.rb,c.rc⟩
def lH(c:Cl):Cv:=⟨c.la,c.lb,c.lc⟩
def nM(c:Cl):Cv:=⟨c.ua,c.ub,c.uc⟩
theorem Hl(hL:dr kv): ∀(n:Nat)(i:Int),dep kv i≤n→ ∀j,j<dep kv i→cu kv (fl kv i j)≠none
 |0,i,hn,j,hj=>by omega
 |n+1,i,hn,j,hj=>by
  cases e:cu kv i with
  |none=>rw[vu e] at hj;omega
  |some c=>
   cases j with
   |zero=>show cu kv i≠none;rw[e];simp
   |succ j=>
    rw[rz,iu e]
    rw[jB hL e] at hj hn
    exact Hl hL n _ (by omega) j<|by omega
theorem GV(hL:dr kv): ∀(n:Nat)(i:Int),dep kv i≤n→cu kv (fl kv i<|dep kv i)=none
 |0,i,hn=>by
  cases e:cu kv i with
  |none=>rw[vu e];exact e
  |some c=>have:=jB hL e;omega
 |n+1,i,hn=>by
  cases e:cu kv i with
  |none=>rw[vu e];exact e
  |some c=>
   rw[jB hL e,rz,iu e]
   rw[jB hL e] at hn
   exact GV hL n _<|by omega
theorem DN(bt mc:Nat)(kc:List (Int×Cl))(ci:Int)(hL:dr kc)(w:World)(r0:(cw bt [.map<|some mc] 185).holds w)(r1:(dy mc kc).holds w)(hs:HS w (dE []) [] w):Calls Tryz.prog 101 #[p_ bt,i_ ci] w fun e w'=> ∃zz:Option Addr×Nat,e= .returned (vS zz.1 (db kc ci) zz.2)∧True∧Turn [] [sI zz.1 (db kc ci) zz.2] w w':=by
 refine(JU bt mc kc ci (dep kc ci) (fun j hj=>Hl hL _ ci (Nat.le_refl _) j hj) (GV hL _ ci<|Nat.le_refl _) (by have:=hL.dep ci;omega) w r0 r1 hs).mono ?_
 rintro e w' ⟨⟨al,cl⟩,h1,-,h3⟩
 exact⟨(al,cl),h1,trivial,h3⟩
variable{kc:List (Int×Cl)}
theorem AK(hL:dr kc)(i:Int):(db kc i).length≤17:=by unfold db;rw[AT];have:=hL.dep i;omega
def kL(on:List (Int×Int))(ka:List (Int×MB))(kk:List (Int×Vt))(m:En):Int:=if m.ec.hl=true∨fR on ka m.ec.hi=false then m.li.uq11 else eE m.li.uq11<|i9<|((cu kk m.ec.hi).map fun v:Vt=>v.t.toL).getD []
def jg(kc:List (Int×Cl))(n:Nat)(kk:List (Int×Vt)):Prop:= ∀p,(p=0∨ ∃c,cu kc p=some c∧c.hl=false)→ ∃v,cu kk p=some v∧dq v.t v.kv∧v.kv.length≤n
def fH(kc:List (Int×Cl))(kb:List (Int×En)):Prop:= ∀i,(cu kb i).map (·.ec)=cu kc i∧ ∀m,cu kb i=some m→kQ m
theorem tO(h:fH kc kb)(hc:cu kc i=some c): ∃m,cu kb i=some m∧m.ec=c∧kQ m:=by
 have h1:=(h i).1
 cases e:cu kb i with
 |none=>rw[e,hc] at h1;cases h1
 |some m=>rw[e,hc] at h1;exact⟨m,rfl,by simpa using h1,(h i).2 m e⟩
theorem lP(h:fH kc kb)(hm:cu kb i=some m):cu kc i=some m.ec:=by have h1:=(h i).1;rw[hm] at h1;exact h1.symm
theorem CU(hL:dr kc)(h:fH kc kb)(hm:cu kb i=some m):m.ec.hi=i:=(hL.key i _<|lP h hm).1
variable{n:Nat}
theorem xT(hL:dr kc)(h:fH kc kb)(hk:jg kc n kk)(hm:cu kb i=some m): ∃v,cu kk m.ec.hp=some v∧dq v.t v.kv∧v.kv.length≤n:=by
 refine hk _ ?_
 rcases hL.par i _ (lP h hm) with h1|⟨p,h1,h2⟩
 ·exact .inl h1
 ·exact .inr ⟨p,h1,h2⟩
def tY(on:List (Int×Int))(ka:List (Int×MB))(kk:List (Int×Vt))(m:En)(i:Int)(v:Vt)(t:T):Vt:={v with t:=t,kv:=dC v.kv i ⟨m.sh.sq11,i,kL on ka kk m,i⟩}
def kM(on:List (Int×Int))(ka:List (Int×MB))(kb:List (Int×En)):List Int→List (Int×Vt)→List (Int×Vt)→Prop
 |[],kk,kk'=>kk'=kk
 |i::l,kk,kk'=>(fR on ka i=false∧kM on ka kb l kk kk')∨(fR on ka i=true∧ ∃m v t,cu kb i=some m∧cu kk m.ec.hp=some v∧dq t (tY on ka kk m i v t).kv∧kM on ka kb l (dC kk m.ec.hp<|tY on ka kk m i v t) kk')
theorem QQ(h:jg kc n kk){p:Int}(he:dq v.t v.kv)(hl:v.kv.length≤n+1):jg kc (n+1) (dC kk p v):=fun q hq=>by
 rw[fm];by_cases e:p=q
 ·rw[if_pos e];exact⟨v,rfl,he,hl⟩
 ·rw[if_neg e];obtain⟨v,h1,h2,h3⟩:=h q hq;exact⟨v,h1,h2,by omega⟩
theorem zZ(k:Int)(v:β): ∀kv:List (Int×β),(dC kv k v).length≤kv.length+1
 |[]=>by simp[dC]
 |p::kv=>by unfold dC;split<;>simp;exact zZ k v kv
theorem Ti(sb:Nat)(lt lm:Int)(bt mc:Nat)(kc:List (Int×Cl))(my:Nat)(kb:List (Int×En))(a:Ac)(on:List (Int×Int))(ka:List (Int×MB))(eb:Nat)(mk:Nat)(kk:List (Int×Vt))(ck ac:Int)(i:Int)(m:En)(hm:cu kb i=some m)(hL:dr kc)(hB:fH kc kb)(hK:jg kc n kk)(w:World)(r0:(cw sb [i_ lt,i_ lm,p_ bt,.map<|some my,p_ a.bs,p_ eb,.map<|some mk,u_ ck,u_ ac] 141).holds w)(r1:(cw bt [.map<|some mc] 185).holds w)(r2:(dy mc kc).holds w)(r3:(eT my kb).holds w)(r4:(fE a on ka).holds w)(r5:(ep mk kk).holds w):
  CW 208 #[p_ sb,p_ m.eb] w (u_<|kL on ka kk m):=by
 refine A.C Tryz.func208 rfl (HS.nil w) (A.c<|A.g [.p] [] []<|A.d<|A.d<|A.ka [.p,.p,.p,.p,.rd [b_ m.ec.hl],.p,.o,.p,.p,.p,.rd [p_ a.bs],.p,.p,.p,.p,.rd [i_ m.ec.hi],.cq<|b_<|fR on ka m.ec.hi,.p,.cl] (rg 0 18) [] [(22,b_<|m.ec.hl||(!(fR on ka m.ec.hi)))] [] (oc (ro ⟨m.eb,3,none⟩ (vs:=[b_ m.ec.hl])<|fi (fun w s=>(fy (d6 s r3) hm:)) rfl)<|oc (go (true&&(m.ec.hl==false)) fun h_=>(ro ⟨sb,4,none⟩ (vs:=[p_ a.bs])<|df r0 rfl))<|oc (go (true&&(m.ec.hl==false)) fun h_=>(ro ⟨m.eb,1,none⟩ (vs:=[i_ m.ec.hi])<|fi (fun w s=>(fy (d6 s r3) hm:)) rfl))<|o1<|go (true&&(m.ec.hl==false)) fun h_=>(qo<|fun w s=>Jc a on ka m.ec.hi w<|d6 s r4))<|A.v rfl (fun e1=>?_) (fun e1=>?_))
 ·have p1:=e1
  refine A.c<|A.k [.p,.p,.p,.p,.rd [u_ m.li.uq11],.p] [0,1,22] [(4,u_ m.li.uq11)] [] (o1<|ro ⟨m.eb,59,none⟩ (vs:=[u_ m.li.uq11])<|fi (fun w s=>(fy (d6 s r3) hm:)) rfl)<|A.e<|A.W [u_ m.li.uq11] ?_
  show((u_ m.li.uq11):Value)=(u_<|kL on ka kk m)
  unfold kL;simp_all
 refine A.p<|A.d ?_
 obtain⟨m1,hk1,hE1,hl1⟩:=hK _<|.inr ⟨_,(CU hL hB hm).symm▸lP hB hm,by simp_all⟩
 refine A.O [16] 18<|A.kd 4 [.p,.p,.p,.p,.rd [u_ m.li.uq11],.p,.p,.p,.rd [.map<|some mk],.p,.p,.p,.p,.rd [i_ m.ec.hi]] (rg 0 14) [0,1,22] [(32,u_ m.li.uq11),(36,.map<|some mk),(41,i_ m.ec.hi)] [] (oc (ro ⟨m.eb,59,none⟩ (vs:=[u_ m.li.uq11])<|fi (fun w s=>(fy (d6 s r3) hm:)) rfl)<|oc (ro ⟨sb,6,none⟩ (vs:=[.map<|some mk])<|df r0 rfl)<|o1<|ro ⟨m.eb,1,none⟩ (vs:=[i_ m.ec.hi])<|fi (fun w s=>(fy (d6 s r3) hm:)) rfl)<|A.aR 14 (some 42) (p_ m1.be) rfl (by kernel_rfl) (by kernel_rfl) (jr (kt:=3) (et:=136) (k:=m.ec.hi) (fun w s=>oZ<|d6 s r5) hk1 rfl rfl rfl (by kernel_rfl) (ee<|by kernel_rfl) rfl) (A.pO 2 [.cq<|u_<|i9 m1.t.toL] [15] [(32,u_ m.li.uq11),(43,u_<|i9 m1.t.toL)] [] (o1<|qo<|fun w s=>JL mk kk m.ec.hi m1 hk1 ‹_› w (d6 s r5))<|A.F 16 rfl (A.iX (some 44) [u_ m.li.uq11,u_<|i9 m1.t.toL] Tryz.func251 rfl (A.c<|A.g [.p] [] []<|A.c<|A.g (ps 4) [0,1] [(4,u_<|eE m.li.uq11<|i9 m1.t.toL)]<|A.e<|A.pb [u_<|eE m.li.uq11<|i9 m1.t.toL]<|A.E<|A.pT 0 [.p] [17] [(4,u_<|eE m.li.uq11<|i9 m1.t.toL)] []<|A.M<|A.e<|A.W [u_<|eE m.li.uq11<|i9 m1.t.toL] ?_)))
 show((u_<|eE m.li.uq11<|i9 m1.t.toL):Value)=(u_<|kL on ka kk m)
 unfold kL;simp_all
variable{ka:List (Int×MB)}{L:List Int}{kk':List (Int×Vt)}
theorem Tj(hk:L[k]? =some i)(hA:fR on ka i=false)(h:kM on ka kb (L.drop<|k+1) kk kk'):kM on ka kb (L.drop k) kk kk':=by
 obtain⟨h1,h2⟩:=List.getElem?_eq_some_iff.1 hk
 rw[List.drop_eq_getElem_cons h1,h2];exact .inl ⟨hA,h⟩
theorem Tm{t:T}(hk:L[k]? =some i)(hA:fR on ka i=true)(hm:cu kb i=some m)(hv:cu kk m.ec.hp=some v)(he:dq t (tY on ka kk m i v t).kv)
  (h:kM on ka kb (L.drop<|k+1) (dC kk m.ec.hp<|tY on ka kk m i v t) kk'):kM on ka kb (L.drop k) kk kk':=by
 obtain⟨h1,h2⟩:=List.getElem?_eq_some_iff.1 hk
 rw[List.drop_eq_getElem_cons h1,h2];exact .inr ⟨hA,m,v,t,hm,hv,he,h⟩
theorem GW(hL:dr kc): ∀(n:Nat)(i z:Int),dep kc i≤n→z∈db kc i→ ∃c,cu kc z=some c
 |0,i,z,hn,hz=>by unfold db at hz;rw[show dep kc i=0 by omega] at hz;simp[fx] at hz
 |n+1,i,z,hn,hz=>by
  cases e:cu kc i with
  |none=>rw[nB e] at hz;cases hz
  |some c=>
   rw[jN hL e] at hz
   rcases List.mem_cons.1 hz with rfl|hz
   ·exact⟨c,e⟩
   ·exact GW hL n _ z (by rw[jB hL e] at hn;omega) hz
theorem Hm(hL:dr kc)(hB:fH kc kb){z:Int}(hk:(db kc i)[k]? =some z): ∃m,cu kb z=some m∧kQ m:=by
 obtain⟨c,hc⟩:=GW hL _ i z (Nat.le_refl _)<|List.mem_of_getElem? hk
 obtain⟨m,h1,-,h2⟩:=tO hB hc
 exact⟨m,h1,h2⟩
abbrev BK(p0)(p1)(p2)(p3)(p4)(p5:Ac)(p6)(p7)(p8)(p9)(p10)(p11)(p12)(p13)(p14)(p15):=([cw p0 [i_ p1,i_ p2,p_ p3,.map<|some p4,p_ p5.bs,p_ p6,.map<|some p7,u_ p8,u_ p9] 141,cw p3 [.map<|some p10] 185,dy p10 p11,eT p4 p12,fE p5 p13 p14,ep p7 p15]:List V.dB)
theorem vr(sb:Nat)(lt lm:Int)(bt mc:Nat)(kc:List (Int×Cl))(my:Nat)(kb:List (Int×En))(a:Ac)(on:List (Int×Int))(ka:List (Int×MB))(eb:Nat)(mk:Nat)(kk:List (Int×Vt))(ck ac:Int)(ci:Int)(hL:dr kc)(hB:fH kc kb)(hK:jg kc 600 kk)(w:World)(hs:HI w (BK sb lt lm bt my a eb mk ck ac mc kc kb on ka kk)):
  CV 151 #[p_ sb,i_ ci] w (BK sb lt lm bt my a eb mk ck ac mc kc kb on ka kk) (fun(kk':(List<|Int×Vt))=>(.tuple #[])) (fun kk'=>kM on ka kb (db kc ci) kk kk') fun kk'=>(BK sb lt lm bt my a eb mk ck ac mc kc kb on ka kk'):=by
 have hul:=AK hL ci
 refine A.C Tryz.func151 rfl hs (A.c<|A.gm [.p,.p,.p,.ld 0,.p] [1] [(10,p_ bt),(11,i_ ci)] [sb]<|A.j<|A.I (some 12) [] (fun w s h=>DN bt mc kc ci ‹_› w (s.mem (i:=1) rfl) (s.mem (i:=2) rfl) h) ?_)
 rintro⟨al'1,cl'2⟩-
 refine A.g [.p,.p] [10,11] [(12,vS al'1 (db kc ci) cl'2),(13,i_ ((db kc ci).length:Int)),(14,i_ 0)]<|A.y<|A.lp (σ:=Nat×(List<|Int×Vt)) [] (fun(k,kkk)=>[(14,c_ k)]) [6] (fun(k,kkk)=>[ep mk kkk]) (fun(k,kkk)=>(k≤(db kc ci).length)∧(∀kk',kM on ka kb ((db kc ci).drop k) kkk kk'→kM on ka kb (db kc ci) kk kk')∧(jg kc (600+k) kkk)) (fun(k,kkk)=>(db kc ci).length-k) (0,kk) ⟨(by omega),(fun _ h=>h),hK⟩ ?_ ?_
 ·exact A.J [6,0,0,0,0,0,0]
 rintro⟨k,kkk⟩ ⟨hk,hS,hKk⟩
 refine A.c<|A.g [.p] [] [(15,b_<|decide ((k:Int)<((db kc ci).length:Int)))]<|A.d<|A.v rfl (fun e2=>?_) (fun e2=>?_)
 ·have p2:=of_decide_eq_true e2
  refine A.p<|A.d<|A.y<|A.c<|A.kp [.ix] [15] [(16,.pointer<|some<|(dR al'1).add (k*1))] [] (o1<|dW 1 k fD rfl (by omega)) ?_
  obtain⟨x4,hx4⟩: ∃x,((db kc ci))[k]? =some x:=⟨_,List.getElem?_eq_getElem<|by omega⟩
  refine A.k [.rd [i_ x4],.p] [16] [(5,i_ x4)] [] (o1<|ro ((dR al'1).add (k*1))<|fS (vs:=[i_ x4]) fD (fM (i:=1) rfl) hx4 (Nat.le_of_ble_eq_true rfl) rfl)<|A.c<|A.gm [.p,.p,.p,.ld 2,.p] [] [(21,.map<|some my),(22,i_ x4)] [sb] ?_
  obtain⟨m5,hk5,hEO5⟩:=Hm hL hB ‹_›
  refine A.j<|A.u (some 23) _ (jr (kt:=3) (et:=167) (k:=x4) (fun w s=>mT<|s.mem (i:=5) rfl) hk5 rfl rfl rfl (by kernel_rfl) (ee<|by kernel_rfl) rfl)<|A.g [.p] [21,22,23] [(6,p_ m5.eb)]<|A.c<|A.k [.p,.p,.p,.ld 2,.p,.cq<|b_<|fR on ka x4] [] [(29,b_<|fR on ka x4)] [sb] (o1<|qo<|fun w s=>Jc a on ka x4 w<|s.mem (i:=6) rfl)<|A.v rfl (fun e3=>?_) (fun e3=>?_)
  ·obtain⟨m6,hk6,hE6,hl6⟩:=xT hL hB hKk hk5
   refine A.O [19] 20<|A.kd 2 [.p,.p,.p,.ld 2,.p,.p,.p,.p,.rd [i_ m5.ec.hp],.p,.p,.p,.p,.p,.rd [u_ m5.sh.sq11],.p,.p,.cq<|u_<|kL on ka kkk m5] [0,1,2,3,4,5,6,7,8,10,11,12,13,14,15,16,17,18] [5,6,29] [(33,.map<|some mk),(38,i_ m5.ec.hp),(40,i_ x4),(45,u_ m5.sh.sq11),(48,u_<|kL on ka kkk m5)] [sb] (oc (ro ⟨m5.eb,2,none⟩ (vs:=[i_ m5.ec.hp])<|fi (fun w s=>(fy (s.mem (i:=5) rfl) hk5:)) rfl)<|oc (ro ⟨m5.eb,48,none⟩ (vs:=[u_ m5.sh.sq11])<|fi (fun w s=>(fy (s.mem (i:=5) rfl) hk5:)) rfl)<|o1<|qo<|fun w s=>Ti sb lt lm bt mc kc my kb a on ka eb mk kkk ck ac x4 m5 hk5 ‹_› ‹_› ‹_› w (s.mem (i:=2) rfl) (s.mem (i:=3) rfl) (s.mem (i:=4) rfl) (s.mem (i:=5) rfl) (s.mem (i:=6) rfl) (s.mem (i:=0) rfl))<|A.aR 9 (some 39) (p_ m6.be) rfl (by kernel_rfl) (by kernel_rfl) (jr (kt:=3) (et:=136) (k:=m5.ec.hp) (fun w s=>oZ<|s.mem (i:=0) rfl) hk6 rfl rfl rfl (by kernel_rfl) (ee<|by kernel_rfl) rfl) (A.F 19 rfl (A.I (some 49) [0] (fun w s h=>Td mk kkk m5.ec.hp m6 x4 m5.sh.sq11 (kL on ka kkk m5) hk6 ‹_› (by omega) w h) ?_))
   rintro zt7 hz4
   refine A.E<|A.M<|A.s<|A.hk [.w<|(k:Int)+1,.p] [(0,p_ sb),(12,vS al'1 (db kc ci) cl'2),(13,i_ ((db kc ci).length:Int)),(14,i_<|(k:Int)+1)] [] (o1<|wj ((k:Int)+1)<|by omega)<|A.Z (k+1,dC kkk m5.ec.hp {m6 with t:=zt7,kv:=dC m6.kv x4 ⟨m5.sh.sq11,x4,kL on ka kkk m5,x4⟩}) ⟨(by omega),(fun _ h=>hS _<|Tm ‹_› ‹_› ‹_› ‹_› ‹_› h),(QQ hKk ‹_› (Nat.le_trans (zZ _ _ _)<|Nat.succ_le_succ ‹_›))⟩ (by(show(db kc ci).length-(k+1)<(db kc ci).length-k;omega)) ?_
   exact A.J [0,0,0,0,0,0,0]
  have p3:=e3
  refine A.p<|A.s<|A.k [.w<|(k:Int)+1,.p] [5,6,29] [(14,i_<|(k:Int)+1)] [] (o1<|wj ((k:Int)+1)<|by omega)<|A.Z (k+1,kkk) ⟨(by omega),(fun _ h=>hS _<|Tj ‹_› ‹_› h),(fun p hp=>(hKk p hp).imp fun v h=>⟨h.1,h.2.1,by omega⟩)⟩ (by(show(db kc ci).length-(k+1)<(db kc ci).length-k;omega)) ?_
  exact A.J [0,0,0,0,0,0,0]
 have p2:=of_decide_eq_false e2
 refine A.aA<|A.aN [2,2,2,2,2,0] [] (fun _ w r s=>trivial) (kkk) ?_ ?_<|by kernel_rfl
 ·rfl
 exact hS _ (by rw[List.drop_eq_nil_of_le<|by omega];rfl)
theorem Ho(hL:dr kc): ∀(n:Nat)(i:Int)(F:Int→List (Int×Int)),fK kc i=true→ ∀z∈(fV (fO kc) F n i).1,fK kc z=true
 |0,i,F,hs,z,hz=>by simp[fV] at hz;rw[hz];exact hs
 |n+1,i,F,hs,z,hz=>by
  unfold fV at hz
  split at hz
  ·simp at hz;rw[hz];exact hs
  ·rename_i hp
   rcases List.mem_cons.1 hz with rfl|hz
   ·exact hs
   ·refine Ho hL n _ _ ?_ z hz
    rw[uM,if_pos hs] at hp⊢
    rcases rJ hL hs with h0|h0
    ·exact absurd (.inr h0) hp
    ·exact h0.1
variable{on':List (Int×Int)}{ka':List (Int×MB)}{l:List Int}
theorem GX{c er:Int}(hL:dr kc)(hy:ym=fO kc)(h:oG ym on ka c on' ka' l er): ∀z∈l,fK kc z=true:=by
 intro z hz
 rcases h with⟨h1,-,-,h2,-⟩|⟨-,-,h2,-⟩
 ·rw[hy] at h1 h2
  rw[h2] at hz
  refine Ho hL 40 c _ ?_ z hz
  rw[uU] at h1;simp at h1;exact h1.1
 ·rw[h2] at hz;cases hz
theorem GY{c er:Int}(h:oG ym on ka c on' ka' l er):l.length≤41:=by
 have: ∀(n:Nat)(i:Int)(F:Int→List (Int×Int)),(fV ym F n i).1.length≤n+1:=fun n=>by
  induction n with
  |zero=>intro i F;simp[fV]
  |succ n ih=>intro i F;unfold fV;split<;>simp;exact ih _ _
 rcases h with⟨-,-,-,h2,-⟩|⟨-,-,h2,-⟩
 ·rw[h2];exact this 40 _ _
 ·rw[h2];simp
theorem CX(hB:fH kc kb){z:Int}(h:fK kc z=true): ∃m,cu kb z=some m∧kQ m:=by
 obtain⟨c,h1,-⟩:=kG h
 obtain⟨m,h2,-,h3⟩:=tO hB h1
 exact⟨m,h2,h3⟩
def oq(kk:List (Int×Vt))(p:Int):Int:=((((cu kk p).map fun v:Vt=>v.t.toL).getD []).head?.getD default).ka
def oH(kk:List (Int×Vt))(now:Int)(m:En):En:={m with sh:=jf m.sh (lH m.ec) (oq kk m.ec.hp) m.tot,li:=kz m.li (nM m.ec) now m.tot}
def j8(kk:List (Int×Vt))(now:Int):List Int→List (Int×En)→List (Int×En)
 |[],kb=>kb
 |i::l,kb=>j8 kk now l (match cu kb i with|some m=>dC kb i (oH kk now m)|none=>kb)
variable{now:Int}{m':En}
theorem FM(hk:L[k]? =some i)(hm:cu kb i=some m)(e:oH kk now m=m'):j8 kk now (L.drop<|k+1) (dC kb i m')=j8 kk now (L.drop k) kb:=by
 obtain⟨h1,h2⟩:=List.getElem?_eq_some_iff.1 hk
 rw[List.drop_eq_getElem_cons h1,h2,j8,hm];subst e;rfl
theorem xU(h:fH kc kb)(hm:cu kb i=some m)(he:m'.ec=m.ec)(ho:kQ m'):fH kc (dC kb i m'):=fun j=>by
 rw[fm];by_cases e:i=j
 ·rw[if_pos e];subst e
  refine⟨?_,fun m2 h2=>by cases h2;exact ho⟩
  have:=lP h hm;rw[this];simp[he]
 ·rw[if_neg e];exact h j
theorem Hq(h:kQ m)(h1:m'.ec=m.ec)(h2:m'.qb=m.qb)(h3:m'.q=m.q):kQ m':=⟨by rw[h1,h2];exact h.lf,by rw[h2,h3];exact h.no,by rw[h2,h3];exact h.qu⟩
theorem sH(h:fH kc kb)(hm:cu kb i=some m)(h1:m'.ec=m.ec)(h2:m'.qb=m.qb)(h3:m'.q=m.q):fH kc (dC kb i m'):=xU h hm h1<|Hq ((h i).2 m hm) h1 h2 h3
def jK(c:Cl):Bool:=decide (dK c.ra c.rb c.rc>1)
def pH(c:Cl):Bool:=decide (dK c.la c.lb c.lc>1)
def yP(kc:List (Int×Cl))(now h i:Int)(m:En)(kb:List (Int×En))(ym:List (Int×Pl))(on:List (Int×Int))(ka:List (Int×MB))(et:T)(ek:List (Int×It))(kk:List (Int×Vt))(kb':List (Int×En))(on':List (Int×Int))(ka':List (Int×MB))(et':T)(ek':List (Int×It))(kk':List (Int×Vt)):Prop:=
 ∃kb1,((jK m.ec=true∧kb1=dC kb i {m with du:=iR m.du (i5 m.ec) now h}∧ek'=dC (dJ ek m.ec.hi) m.ec.hi ⟨(iR m.du (i5 m.ec) now h).dq21,m.ec.hi,(iR m.du (i5 m.ec) now h).dq22,m.ec.hi⟩∧dq et' ek')∨(jK m.ec=false∧kb1=kb∧ek'=ek∧et'=et))∧
  ((pH m.ec=true∧ ∃l er,oG ym on ka m.ec.hi on' ka' l er∧kb'=j8 kk now l kb1∧kM on' ka' kb' (db kc m.ec.hi) kk kk')∨(pH m.ec=false∧kb'=kb1∧on'=on∧ka'=ka∧kk'=kk))
abbrev BL(p0:En)(p1)(p2):=(u_ ((iR p0.du (i5 p0.ec) p1 p2).dq22):Value)
abbrev BM(p0:En)(p1)(p2):=(u_ ((iR p0.du (i5 p0.ec) p1 p2).dq21):Value)
abbrev Hr(p0:En):=((b_<|decide (dK p0.ec.la p0.ec.lb p0.ec.lc>1)):Value)
abbrev sY(p0:En)(p1):=(gv<|kz p0.li (nM p0.ec) p1 p0.tot)
abbrev py(p0)(p1):=(cw p0 [.map<|some p1] 185:V.dB)
abbrev pz(p0)(p1)(p2)(p3)(p4)(p5:Ac)(p6:Vt)(p7)(p8)(p9):=(cw p0 [i_ p1,i_ p2,p_ p3,.map<|some p4,p_ p5.bs,p_ p6.be,.map<|some p7,u_ p8,u_ p9] 141:V.dB)
theorem OK(sb:Nat)(lt lm:Int)(bt mc:Nat)(kc:List (Int×Cl))(my:Nat)(kb:List (Int×En))(a:Ac)(on:List (Int×Int))(ka:List (Int×MB))(tl:Vt)(et:T)(ek:List (Int×It))(mk:Nat)(kk:List (Int×Vt))(ck ac:Int)(now i:Int)(m:En)(h:Int)(hm:cu kb i=some m)(hL:dr kc)(hB:fH kc kb)(hK:jg kc 600 kk)(hy:a.ym=fO kc)(hE:dq et ek)(hl:ek.length≤600):
  CS 113 #[p_ sb,u_ now,p_ m.eb,i_ h] [pz sb lt lm bt my a tl mk ck ac,py bt mc,dy mc kc,eT my kb,fE a on ka,fY tl et ek,ep mk kk] (fun((kb',on',ka',et',ek',kk'):(List<|Int×En)×(List<|Int×Int)×(List<|Int×MB)×T×(List<|Int×It)×(List<|Int×Vt))=>(.tuple #[])) (fun(kb',on',ka',et',ek',kk')=>yP kc now h i m kb a.ym on ka et ek kk kb' on' ka' et' ek' kk') fun(kb',on',ka',et',ek',kk')=>[pz sb lt lm bt my a tl mk ck ac,py bt mc,dy mc kc,eT my kb',fE a on' ka',fY tl et' ek',ep mk kk']:=by
 intro w hs
 have hdp:=fun i=>hy▸uA hL i
 refine A.C Tryz.func113 rfl hs (A.d<|A.s<|A.hk [.p,.p,.p,.p,.rd [i_ m.ec.hi],.p] [(0,p_ sb),(1,u_ now),(2,p_ m.eb),(3,i_ h),(8,i_ m.ec.hi)] [] (o1<|ro ⟨m.eb,1,none⟩ (vs:=[i_ m.ec.hi])<|fi (fun w s=>(fy (s.mem (i:=3) rfl) hm:)) rfl)<|A.d<|A.d<|A.s<|A.hk [.p,.p,.p,.rd<|dx m.ec,.cq<|b_<|decide (dK m.ec.ra m.ec.rb m.ec.rc>1)] [(0,p_ sb),(1,u_ now),(2,p_ m.eb),(3,i_ h),(8,i_ m.ec.hi),(25,b_<|decide (dK m.ec.ra m.ec.rb m.ec.rc>1))] [] (oc (ro ⟨m.eb,1,none⟩ (vs:=(dx m.ec))<|fi (fun w s=>(fy (s.mem (i:=3) rfl) hm:)) rfl)<|o1<|qo<|fun w s=>qg m.ec w)<|A.v (E:=decide (dK m.ec.ra m.ec.rb m.ec.rc>1)) rfl (fun e1=>?_) (fun e1=>?_))
 ·have p1:=of_decide_eq_true e1
  refine A.d<|A.bA 3 rfl hm rfl (A.O [15] 16<|A.pO 1 [.p,.p,.p,.p,.ld 1,.p,.p,.p,.p,.ld 1,.p,.p,.cq<|.agg (fg<|iR m.du (i5 m.ec) now h).toArray,.p,.p] (rg 0 15) [(0,p_ sb),(1,u_ now),(2,p_ m.eb),(8,i_ m.ec.hi),(38,.agg (fg<|iR m.du (i5 m.ec) now h).toArray),(40,q_ m.eb 16)] [m.eb,m.eb] (o1<|qo<|fun w s=>Rj m.du (i5 m.ec) now h w)<|A.F 15 rfl (A.sT 1 (fg<|iR m.du (i5 m.ec) now h) rfl (A.E<|A.M<|A.az (m':=({m with du:=(iR m.du (i5 m.ec) now h)}:En)) [0,0] rfl hm ⟨rfl,rfl,rfl⟩ rfl rfl ?_)))
  have hk1:=jM kb i ({m with du:=(iR m.du (i5 m.ec) now h)}:En)
  refine A.O [15] 16<|A.pO 1 [.p,.p,.p,.ld 1,.p,.p,.p,.p,.p,.rd [BM m now h],.p,.p,.p,.p,.rd [BL m now h]] (rg 0 15) [(0,p_ sb),(1,u_ now),(2,p_ m.eb),(8,i_ m.ec.hi),(44,p_ tl.be),(45,i_ m.ec.hi),(50,BM m now h),(55,BL m now h)] [sb] (oc (ro ⟨m.eb,36,none⟩ (vs:=[BM m now h])<|fi (fun w s=>(fy (s.mem (i:=0) rfl) hk1:)) rfl)<|o1<|ro ⟨m.eb,37,none⟩ (vs:=[BL m now h])<|fi (fun w s=>(fy (s.mem (i:=0) rfl) hk1:)) rfl)<|A.F 15 rfl (A.I (some 56) [5] (fun w s hh=>CP tl et ek m.ec.hi ((iR m.du (i5 m.ec) now h).dq21) ((iR m.du (i5 m.ec) now h).dq22) (by assumption) (by omega) w hh) ?_)
  rintro zt2 hz2
  refine A.E<|A.M<|A.d<|A.d<|A.s<|A.hk [.p,.p,.p,.rd<|dx m.ec,.cq<|Hr m,.p] [(0,p_ sb),(1,u_ now),(8,i_ m.ec.hi),(62,b_ (!(decide (dK m.ec.la m.ec.lb m.ec.lc>1))))] [] (oc (ro ⟨m.eb,1,none⟩ (vs:=(dx m.ec))<|fi (fun w s=>(fy (s.mem (i:=1) rfl) hk1:)) rfl)<|o1<|qo<|fun w s=>nP m.ec w)<|A.v (E:= !(decide (dK m.ec.la m.ec.lb m.ec.lc>1))) rfl (fun e3=>?_) (fun e3=>?_)
  ·refine A.e<|A.aG [2,2,2,1,1,0,0] [] (fun _ w r s=>trivial) ((dC kb i ({m with du:=(iR m.du (i5 m.ec) now h)}:En)),on,ka,zt2,dC (dJ ek m.ec.hi) m.ec.hi ⟨((iR m.du (i5 m.ec) now h).dq21),m.ec.hi,(iR m.du (i5 m.ec) now h).dq22,m.ec.hi⟩,kk) ?_ ?_<|by kernel_rfl
   ·rfl
   exact⟨_,.inl ⟨(by unfold jK;(simp_all;done)),rfl,rfl,by assumption⟩,.inr ⟨(by unfold pH;(simp_all;done)),rfl,rfl,rfl,rfl⟩⟩
  refine A.p<|A.c<|A.hp [.p,.p,.p,.ld 2,.p] [(0,p_ sb),(1,u_ now),(8,i_ m.ec.hi),(67,p_ a.bs),(68,i_ m.ec.hi)] [sb]<|A.j<|A.I (some 69) [5] (fun w s h=>DL a on ka m.ec.hi (hdp _) w h) ?_
  rintro⟨on'3,ka'4,al'5,l'6,cl'7,er8⟩ hz4
  dsimp only at hz4
  refine A.h (ps 5) [(0,p_ sb),(1,u_ now),(8,i_ m.ec.hi),(9,vS al'5 l'6 cl'7)] []<|A.d<|A.d ?_
  have hmem:=GX hL hy ‹_›
  have hlen:=GY ‹_›
  refine A.s<|A.h (ps 3) [(0,p_ sb),(1,u_ now),(8,i_ m.ec.hi),(72,vS al'5 l'6 cl'7),(73,c_ l'6.length),(74,i_ 0)] []<|A.y<|A.aX (fun((k,kbk):Nat×(List<|Int×En))=>[(0,p_ sb),(1,u_ now),(8,i_ m.ec.hi),(72,vS al'5 l'6 cl'7),(73,c_ l'6.length),(74,c_ k)]) (fun((k,kbk):Nat×(List<|Int×En))=>[eT my kbk,fE a on'3 ka'4,sI al'5 l'6 cl'7,fY tl zt2<|dC (dJ ek m.ec.hi) m.ec.hi ⟨((iR m.du (i5 m.ec) now h).dq21),m.ec.hi,(iR m.du (i5 m.ec) now h).dq22,m.ec.hi⟩,pz sb lt lm bt my a tl mk ck ac,py bt mc,dy mc kc,ep mk kk]) (fun((k,kbk):Nat×(List<|Int×En))=>(k≤l'6.length)∧(j8 kk now (l'6.drop k) kbk=j8 kk now l'6 (dC kb i ({m with du:=(iR m.du (i5 m.ec) now h)}:En)))∧(fH kc kbk)) (fun((k,kbk):Nat×(List<|Int×En))=>l'6.length-k) (0,dC kb i ({m with du:=(iR m.du (i5 m.ec) now h)}:En)) ⟨(by omega),(by rfl),(sH hB hm rfl rfl rfl)⟩ ?_ ?_
  ·exact A.aI [3,0,0,0,0,0,0,0] ⟨rfl,rfl,rfl,rfl,rfl,rfl,trivial⟩<|by kernel_rfl
  rintro⟨k,kbk⟩ ⟨hk,hU,hBk⟩
  refine A.aO [(0,p_ sb),(1,u_ now),(8,i_ m.ec.hi),(72,vS al'5 l'6 cl'7),(73,c_ l'6.length),(74,c_ k)] [eT my kbk,fE a on'3 ka'4,sI al'5 l'6 cl'7,fY tl zt2<|dC (dJ ek m.ec.hi) m.ec.hi ⟨((iR m.du (i5 m.ec) now h).dq21),m.ec.hi,(iR m.du (i5 m.ec) now h).dq22,m.ec.hi⟩,pz sb lt lm bt my a tl mk ck ac,py bt mc,dy mc kc,ep mk kk] ⟨rfl,rfl,rfl,rfl,rfl,rfl,trivial⟩ rfl (A.c<|A.h [.p] [(0,p_ sb),(1,u_ now),(8,i_ m.ec.hi),(72,vS al'5 l'6 cl'7),(73,c_ l'6.length),(74,c_ k),(75,b_<|decide ((k:Int)<(l'6.length:Int)))] []<|A.d<|A.v (E:=decide ((k:Int)<(l'6.length:Int))) rfl (fun e5=>?_) (fun e5=>?_))
  ·have p5:=of_decide_eq_true e5
   refine A.p<|A.d<|A.y<|A.c<|A.hq [.ix] [(0,p_ sb),(1,u_ now),(8,i_ m.ec.hi),(72,vS al'5 l'6 cl'7),(73,c_ l'6.length),(74,c_ k),(76,.pointer<|some<|(dR al'5).add (k*1))] [] (o1<|dW 2 k fD rfl (by omega)) ?_
   obtain⟨x10,hx10⟩: ∃x,(l'6)[k]? =some x:=⟨_,List.getElem?_eq_getElem<|by omega⟩
   refine A.hk [.rd [i_ x10],.p] [(0,p_ sb),(1,u_ now),(8,i_ m.ec.hi),(72,vS al'5 l'6 cl'7),(73,c_ l'6.length),(74,c_ k),(12,i_ x10)] [] (o1<|ro ((dR al'5).add (k*1))<|fS (vs:=[i_ x10]) fD (fM (i:=2) rfl) hx10 (Nat.le_of_ble_eq_true rfl) rfl)<|A.c<|A.hp [.p,.p,.p,.ld 4,.p] [(0,p_ sb),(1,u_ now),(8,i_ m.ec.hi),(72,vS al'5 l'6 cl'7),(73,c_ l'6.length),(74,c_ k),(81,.map<|some my),(82,i_ x10)] [sb] ?_
   obtain⟨m11,hk11,hec11,hEO11⟩:=CX hBk<|hmem _<|List.mem_of_getElem? hx10
   refine A.j<|A.u (some 83) _ (jr (kt:=3) (et:=167) (k:=x10) (fun w s=>mT<|s.mem (i:=0) rfl) hk11 rfl rfl rfl (by kernel_rfl) (ee<|by kernel_rfl) rfl)<|A.h [.p] [(0,p_ sb),(1,u_ now),(8,i_ m.ec.hi),(72,vS al'5 l'6 cl'7),(73,c_ l'6.length),(74,c_ k),(13,p_ m11.eb)] []<|A.d ?_
   obtain⟨m12,hk12,hE12,hl12⟩:=xT hL hBk hK hk11
   refine A.O [] 16<|A.pO 7 [.p,.p,.p,.ld 4,.p,.p,.p,.p,.rd [i_ m11.ec.hp]] (rg 0 9) [(0,p_ sb),(1,u_ now),(8,i_ m.ec.hi),(72,vS al'5 l'6 cl'7),(73,c_ l'6.length),(74,c_ k),(13,p_ m11.eb),(88,.map<|some mk),(93,i_ m11.ec.hp)] [sb] (o1<|ro ⟨m11.eb,2,none⟩ (vs:=[i_ m11.ec.hp])<|fi (fun ww ss=>(fy (ss.mem (i:=0) rfl) hk11:)) rfl)<|A.aR 9 (some 94) (p_ m12.be) rfl (by kernel_rfl) (by kernel_rfl) (jr (kt:=3) (et:=136) (k:=m11.ec.hp) (fun ww ss=>oZ<|ss.mem (i:=7) rfl) hk12 rfl rfl rfl (by kernel_rfl) (ee<|by kernel_rfl) rfl) (A.pO 0 [.cq<|.tuple #[u_<|(m12.t.toL.head?.getD default).ka,b_<|m12.t.toL.head?.isSome],.p,.p,.p,.p,.p] (rg 10 6) [(0,p_ sb),(1,u_ now),(8,i_ m.ec.hi),(72,vS al'5 l'6 cl'7),(73,c_ l'6.length),(74,c_ k),(13,p_ m11.eb),(14,u_<|(m12.t.toL.head?.getD default).ka)] [] (o1<|qo<|fun ww ss=>JM mk kk m11.ec.hp m12 hk12 (by assumption) ww<|ss.mem (i:=7) rfl)<|A.M<|A.d<|A.bA 0 rfl hk11 rfl ?_)
   refine A.bQ [pF my kbk x10 m11,cw m11.eb (nF m11) 225,fE a on'3 ka'4,sI al'5 l'6 cl'7,fY tl zt2<|dC (dJ ek m.ec.hi) m.ec.hi ⟨((iR m.du (i5 m.ec) now h).dq21),m.ec.hi,(iR m.du (i5 m.ec) now h).dq22,m.ec.hi⟩,pz sb lt lm bt my a tl mk ck ac,py bt mc,dy mc kc,ep mk kk] rfl (A.O [18] 19<|A.pO 1 [.p,.p,.p,.p,.ld 1,.p,.p,.p,.p,.ld 1,.p,.p,.p,.p,.ld 1,.cq<|.agg (iD<|jf m11.sh (lH m11.ec) ((m12.t.toL.head?.getD default).ka) m11.tot).toArray,.p,.p] (rg 0 18) [(0,p_ sb),(1,u_ now),(8,i_ m.ec.hi),(72,vS al'5 l'6 cl'7),(73,c_ l'6.length),(74,c_ k),(13,p_ m11.eb),(113,.agg (iD<|jf m11.sh (lH m11.ec) ((m12.t.toL.head?.getD default).ka) m11.tot).toArray),(115,q_ m11.eb 38)] [m11.eb,m11.eb,m11.eb] (o1<|qo<|fun ww ss=>I5 m11.sh (lH m11.ec) ((m12.t.toL.head?.getD default).ka) m11.tot ww) ?_)
   refine A.F 18 rfl (A.sT 1 (iD<|jf m11.sh (lH m11.ec) ((m12.t.toL.head?.getD default).ka) m11.tot) rfl ?_)
   refine A.E<|A.M<|A.O [18] 19<|A.pO 1 [.p,.p,.p,.p,.ld 1,.p,.p,.p,.p,.ld 1,.p,.p,.p,.p,.ld 1,.cq<|.agg (sY m11 now).toArray,.p,.p] (rg 0 18) [(0,p_ sb),(1,u_ now),(8,i_ m.ec.hi),(72,vS al'5 l'6 cl'7),(73,c_ l'6.length),(74,c_ k),(131,.agg (sY m11 now).toArray),(133,q_ m11.eb 49)] [m11.eb,m11.eb,m11.eb] (o1<|qo<|fun ww ss=>I7 m11.li (nM m11.ec) now m11.tot ww) ?_
   refine A.F 18 rfl (A.sT 1 (sY m11 now) rfl ?_)
   refine A.E<|A.M<|A.az (m':=({m11 with sh:=(jf m11.sh (lH m11.ec) ((m12.t.toL.head?.getD default).ka) m11.tot),li:=(kz m11.li (nM m11.ec) now m11.tot)}:En)) [0,0] rfl hk11 ⟨rfl,rfl,rfl⟩ rfl rfl ?_
   have hk13:=jM kbk x10 ({m11 with sh:=(jf m11.sh (lH m11.ec) ((m12.t.toL.head?.getD default).ka) m11.tot),li:=(kz m11.li (nM m11.ec) now m11.tot)}:En)
   refine(A.s<|A.hk [.w<|(k:Int)+1,.p] [(0,p_ sb),(1,u_ now),(8,i_ m.ec.hi),(72,vS al'5 l'6 cl'7),(73,c_ l'6.length),(74,i_<|(k:Int)+1)] [] (o1<|wj ((k:Int)+1)<|by omega)<|A.Z (k+1,dC kbk x10 ({m11 with sh:=(jf m11.sh (lH m11.ec) ((m12.t.toL.head?.getD default).ka) m11.tot),li:=(kz m11.li (nM m11.ec) now m11.tot)}:En)) ⟨(by omega),(by exact(FM ‹_› ‹_› (by unfold oH oq;simp_all)).trans hU),(by apply sH hBk<;>first|assumption|rfl)⟩ (by(show l'6.length-(k+1)<l'6.length-k;omega)) ?_)
   exact A.aI [0,0,0,0,0,0,0,0] ⟨rfl,rfl,rfl,rfl,rfl,rfl,trivial⟩<|by kernel_rfl
  have p5:=of_decide_eq_false e5
  refine A.aA<|A.s<|A.hp [.p,.p] [(135,p_ sb),(136,i_ m.ec.hi)] []<|A.j<|A.I (some 137) [4,4,4,0,0,2] (fun w s h=>vr sb lt lm bt mc kc my kbk a on'3 ka'4 tl.be mk kk ck ac m.ec.hi ‹_› ‹_› ‹_› w h) ?_
  rintro kk'14 hz6
  refine A.aB<|A.aN [0,0,0,0,0,2,0] [] (fun _ w r s=>trivial) (kbk,on'3,ka'4,zt2,dC (dJ ek m.ec.hi) m.ec.hi ⟨((iR m.du (i5 m.ec) now h).dq21),m.ec.hi,(iR m.du (i5 m.ec) now h).dq22,m.ec.hi⟩,kk'14) ?_ ?_<|by kernel_rfl
  ·rfl
  exact⟨_,.inl ⟨(by unfold jK;(simp_all;done)),rfl,rfl,by assumption⟩,.inl ⟨(by unfold pH;(simp_all;done)),_,_,by assumption,(by rw[←hU,List.drop_eq_nil_of_le<|by omega];rfl),by assumption⟩⟩
 have p1:=of_decide_eq_false e1
 refine A.p<|A.d<|A.d<|A.s<|A.hk [.p,.p,.p,.rd<|dx m.ec,.cq<|Hr m,.p] [(0,p_ sb),(1,u_ now),(8,i_ m.ec.hi),(62,b_ (!(decide (dK m.ec.la m.ec.lb m.ec.lc>1))))] [] (oc (ro ⟨m.eb,1,none⟩ (vs:=(dx m.ec))<|fi (fun w s=>(fy (s.mem (i:=3) rfl) hm:)) rfl)<|o1<|qo<|fun w s=>nP m.ec w)<|A.v (E:= !(decide (dK m.ec.la m.ec.lb m.ec.lc>1))) rfl (fun e7=>?_) (fun e7=>?_)
 ·refine A.e<|A.aG [0,0,0,0,0,0,0] [] (fun _ w r s=>trivial) (kb,on,ka,et,ek,kk) ?_ ?_<|by kernel_rfl
  ·rfl
  exact⟨_,.inr ⟨(by unfold jK;(simp_all;done)),rfl,rfl,rfl⟩,.inr ⟨(by unfold pH;(simp_all;done)),rfl,rfl,rfl,rfl⟩⟩
 refine A.p<|A.c<|A.hp [.p,.p,.p,.ld 0,.p] [(0,p_ sb),(1,u_ now),(8,i_ m.ec.hi),(67,p_ a.bs),(68,i_ m.ec.hi)] [sb]<|A.j<|A.I (some 69) [4] (fun w s h=>DL a on ka m.ec.hi (hdp _) w h) ?_
 rintro⟨on'15,ka'16,al'17,l'18,cl'19,er20⟩ hz8
 dsimp only at hz8
 refine A.h (ps 5) [(0,p_ sb),(1,u_ now),(8,i_ m.ec.hi),(9,vS al'17 l'18 cl'19)] []<|A.d<|A.d ?_
 have hmem:=GX hL hy ‹_›
 have hlen:=GY ‹_›
 refine A.s<|A.h (ps 3) [(0,p_ sb),(1,u_ now),(8,i_ m.ec.hi),(72,vS al'17 l'18 cl'19),(73,c_ l'18.length),(74,i_ 0)] []<|A.y<|A.aX (fun((k,kbk):Nat×(List<|Int×En))=>[(0,p_ sb),(1,u_ now),(8,i_ m.ec.hi),(72,vS al'17 l'18 cl'19),(73,c_ l'18.length),(74,c_ k)]) (fun((k,kbk):Nat×(List<|Int×En))=>[eT my kbk,fE a on'15 ka'16,sI al'17 l'18 cl'19,pz sb lt lm bt my a tl mk ck ac,py bt mc,dy mc kc,fY tl et ek,ep mk kk]) (fun((k,kbk):Nat×(List<|Int×En))=>(k≤l'18.length)∧(j8 kk now (l'18.drop k) kbk=j8 kk now l'18 kb)∧(fH kc kbk)) (fun((k,kbk):Nat×(List<|Int×En))=>l'18.length-k) (0,kb) ⟨(by omega),(by rfl),hB⟩ ?_ ?_
 ·exact A.aI [5,0,0,0,0,0,0,0] ⟨rfl,rfl,rfl,rfl,rfl,rfl,trivial⟩<|by kernel_rfl
 rintro⟨k,kbk⟩ ⟨hk,hU,hBk⟩
 refine A.aO [(0,p_ sb),(1,u_ now),(8,i_ m.ec.hi),(72,vS al'17 l'18 cl'19),(73,c_ l'18.length),(74,c_ k)] [eT my kbk,fE a on'15 ka'16,sI al'17 l'18 cl'19,pz sb lt lm bt my a tl mk ck ac,py bt mc,dy mc kc,fY tl et ek,ep mk kk] ⟨rfl,rfl,rfl,rfl,rfl,rfl,trivial⟩ rfl (A.c<|A.h [.p] [(0,p_ sb),(1,u_ now),(8,i_ m.ec.hi),(72,vS al'17 l'18 cl'19),(73,c_ l'18.length),(74,c_ k),(75,b_<|decide ((k:Int)<(l'18.length:Int)))] []<|A.d<|A.v (E:=decide ((k:Int)<(l'18.length:Int))) rfl (fun e9=>?_) (fun e9=>?_))
 ·have p9:=of_decide_eq_true e9
  refine A.p<|A.d<|A.y<|A.c<|A.hq [.ix] [(0,p_ sb),(1,u_ now),(8,i_ m.ec.hi),(72,vS al'17 l'18 cl'19),(73,c_ l'18.length),(74,c_ k),(76,.pointer<|some<|(dR al'17).add (k*1))] [] (o1<|dW 2 k fD rfl (by omega)) ?_
  obtain⟨x22,hx22⟩: ∃x,(l'18)[k]? =some x:=⟨_,List.getElem?_eq_getElem<|by omega⟩
  refine A.hk [.rd [i_ x22],.p] [(0,p_ sb),(1,u_ now),(8,i_ m.ec.hi),(72,vS al'17 l'18 cl'19),(73,c_ l'18.length),(74,c_ k),(12,i_ x22)] [] (o1<|ro ((dR al'17).add (k*1))<|fS (vs:=[i_ x22]) fD (fM (i:=2) rfl) hx22 (Nat.le_of_ble_eq_true rfl) rfl)<|A.c<|A.hp [.p,.p,.p,.ld 3,.p] [(0,p_ sb),(1,u_ now),(8,i_ m.ec.hi),(72,vS al'17 l'18 cl'19),(73,c_ l'18.length),(74,c_ k),(81,.map<|some my),(82,i_ x22)] [sb] ?_
  obtain⟨m23,hk23,hec23,hEO23⟩:=CX hBk<|hmem _<|List.mem_of_getElem? hx22
  refine A.j<|A.u (some 83) _ (jr (kt:=3) (et:=167) (k:=x22) (fun w s=>mT<|s.mem (i:=0) rfl) hk23 rfl rfl rfl (by kernel_rfl) (ee<|by kernel_rfl) rfl)<|A.h [.p] [(0,p_ sb),(1,u_ now),(8,i_ m.ec.hi),(72,vS al'17 l'18 cl'19),(73,c_ l'18.length),(74,c_ k),(13,p_ m23.eb)] []<|A.d ?_
  obtain⟨m24,hk24,hE24,hl24⟩:=xT hL hBk hK hk23
  refine A.O [] 16<|A.pO 7 [.p,.p,.p,.ld 3,.p,.p,.p,.p,.rd [i_ m23.ec.hp]] (rg 0 9) [(0,p_ sb),(1,u_ now),(8,i_ m.ec.hi),(72,vS al'17 l'18 cl'19),(73,c_ l'18.length),(74,c_ k),(13,p_ m23.eb),(88,.map<|some mk),(93,i_ m23.ec.hp)] [sb] (o1<|ro ⟨m23.eb,2,none⟩ (vs:=[i_ m23.ec.hp])<|fi (fun ww ss=>(fy (ss.mem (i:=0) rfl) hk23:)) rfl)<|A.aR 9 (some 94) (p_ m24.be) rfl (by kernel_rfl) (by kernel_rfl) (jr (kt:=3) (et:=136) (k:=m23.ec.hp) (fun ww ss=>oZ<|ss.mem (i:=7) rfl) hk24 rfl rfl rfl (by kernel_rfl) (ee<|by kernel_rfl) rfl) (A.pO 0 [.cq<|.tuple #[u_<|(m24.t.toL.head?.getD default).ka,b_<|m24.t.toL.head?.isSome],.p,.p,.p,.p,.p] (rg 10 6) [(0,p_ sb),(1,u_ now),(8,i_ m.ec.hi),(72,vS al'17 l'18 cl'19),(73,c_ l'18.length),(74,c_ k),(13,p_ m23.eb),(14,u_<|(m24.t.toL.head?.getD default).ka)] [] (o1<|qo<|fun ww ss=>JM mk kk m23.ec.hp m24 hk24 (by assumption) ww<|ss.mem (i:=7) rfl)<|A.M<|A.d<|A.bA 0 rfl hk23 rfl ?_)
  refine A.bQ [pF my kbk x22 m23,cw m23.eb (nF m23) 225,fE a on'15 ka'16,sI al'17 l'18 cl'19,pz sb lt lm bt my a tl mk ck ac,py bt mc,dy mc kc,fY tl et ek,ep mk kk] rfl (A.O [18] 19<|A.pO 1 [.p,.p,.p,.p,.ld 1,.p,.p,.p,.p,.ld 1,.p,.p,.p,.p,.ld 1,.cq<|.agg (iD<|jf m23.sh (lH m23.ec) ((m24.t.toL.head?.getD default).ka) m23.tot).toArray,.p,.p] (rg 0 18) [(0,p_ sb),(1,u_ now),(8,i_ m.ec.hi),(72,vS al'17 l'18 cl'19),(73,c_ l'18.length),(74,c_ k),(13,p_ m23.eb),(113,.agg (iD<|jf m23.sh (lH m23.ec) ((m24.t.toL.head?.getD default).ka) m23.tot).toArray),(115,q_ m23.eb 38)] [m23.eb,m23.eb,m23.eb] (o1<|qo<|fun ww ss=>I5 m23.sh (lH m23.ec) ((m24.t.toL.head?.getD default).ka) m23.tot ww) ?_)
  refine A.F 18 rfl (A.sT 1 (iD<|jf m23.sh (lH m23.ec) ((m24.t.toL.head?.getD default).ka) m23.tot) rfl ?_)
  refine A.E<|A.M<|A.O [18] 19<|A.pO 1 [.p,.p,.p,.p,.ld 1,.p,.p,.p,.p,.ld 1,.p,.p,.p,.p,.ld 1,.cq<|.agg (sY m23 now).toArray,.p,.p] (rg 0 18) [(0,p_ sb),(1,u_ now),(8,i_ m.ec.hi),(72,vS al'17 l'18 cl'19),(73,c_ l'18.length),(74,c_ k),(131,.agg (sY m23 now).toArray),(133,q_ m23.eb 49)] [m23.eb,m23.eb,m23.eb] (o1<|qo<|fun ww ss=>I7 m23.li (nM m23.ec) now m23.tot ww) ?_
  refine A.F 18 rfl (A.sT 1 (sY m23 now) rfl ?_)
  refine A.E<|A.M<|A.az (m':=({m23 with sh:=(jf m23.sh (lH m23.ec) ((m24.t.toL.head?.getD default).ka) m23.tot),li:=(kz m23.li (nM m23.ec) now m23.tot)}:En)) [0,0] rfl hk23 ⟨rfl,rfl,rfl⟩ rfl rfl ?_
  have hk25:=jM kbk x22 ({m23 with sh:=(jf m23.sh (lH m23.ec) ((m24.t.toL.head?.getD default).ka) m23.tot),li:=(kz m23.li (nM m23.ec) now m23.tot)}:En)
  refine(A.s<|A.hk [.w<|(k:Int)+1,.p] [(0,p_ sb),(1,u_ now),(8,i_ m.ec.hi),(72,vS al'17 l'18 cl'19),(73,c_ l'18.length),(74,i_<|(k:Int)+1)] [] (o1<|wj ((k:Int)+1)<|by omega)<|A.Z (k+1,dC kbk x22 ({m23 with sh:=(jf m23.sh (lH m23.ec) ((m24.t.toL.head?.getD default).ka) m23.tot),li:=(kz m23.li (nM m23.ec) now m23.tot)}:En)) ⟨(by omega),(by exact(FM ‹_› ‹_› (by unfold oH oq;simp_all)).trans hU),(by apply sH hBk<;>first|assumption|rfl)⟩ (by(show l'18.length-(k+1)<l'18.length-k;omega)) ?_)
  exact A.aI [0,0,0,0,0,0,0,0] ⟨rfl,rfl,rfl,rfl,rfl,rfl,trivial⟩<|by kernel_rfl
 have p9:=of_decide_eq_false e9
 refine A.aA<|A.s<|A.hp [.p,.p] [(135,p_ sb),(136,i_ m.ec.hi)] []<|A.j<|A.I (some 137) [3,3,3,0,0,2] (fun w s h=>vr sb lt lm bt mc kc my kbk a on'15 ka'16 tl.be mk kk ck ac m.ec.hi ‹_› ‹_› ‹_› w h) ?_
 rintro kk'26 hz10
 refine A.aB<|A.aN [0,0,0,0,0,2,0] [] (fun _ w r s=>trivial) (kbk,on'15,ka'16,et,ek,kk'26) ?_ ?_<|by kernel_rfl
 ·rfl
 exact⟨_,.inr ⟨(by unfold jK;(simp_all;done)),rfl,rfl,rfl⟩,.inl ⟨(by unfold pH;(simp_all;done)),_,_,by assumption,(by rw[←hU,List.drop_eq_nil_of_le<|by omega];rfl),by assumption⟩⟩
def kY(kk:List (Int×Vt))(now:Int)(i:Int):Option It:=eR (dS now 9223372036854775807)<|((cu kk i).map fun v:Vt=>v.t.toL).getD []
theorem vt(h:cu kk i=some v):eR (dS now 9223372036854775807) v.t.toL=kY kk now i:=by unfold kY;rw[h];rfl
def o9(kb:List (Int×En))(i:Int):Bool:=((cu kb i).map fun m:En=>m.ec.hl).getD false
def o0(kb:List (Int×En))(kk:List (Int×Vt))(now:Int):Nat→Int→Prop
 |0,_=>False
 |f+1,i=>(∃v,cu kk i=some v∧dq v.t v.kv)∧ ∀y,kY kk now i=some y→ ∃m,cu kb y.ki=some m∧(m.ec.hl=true∨o0 kb kk now f y.ki)
def jQ(kb:List (Int×En))(kk:List (Int×Vt))(now:Int):Nat→Int→Option Int
 |0,_=>none
 |f+1,i=>match kY kk now i with
  |none=>none
  |some y=>if o9 kb y.ki then some y.ki else jQ kb kk now f y.ki
variable{f:Nat}
theorem LU(hk:cu kk i=some v)(h:(eR (dS now 9223372036854775807) v.t.toL).isSome=false):jQ kb kk now (f+1) i=none:=by
 rw[vt hk] at h
 unfold jQ;cases e:kY kk now i with
 |none=>rfl
 |some y=>rw[e] at h;cases h
theorem LV(hk:cu kk i=some v)(h:(eR (dS now 9223372036854775807) v.t.toL).isSome=true)(hm:cu kb ((eR (dS now 9223372036854775807) v.t.toL).getD default).ki=some m)(hl:m.ec.hl=true):jQ kb kk now (f+1) i=some ((eR (dS now 9223372036854775807) v.t.toL).getD default).ki:=by
 rw[vt hk] at h hm⊢
 unfold jQ;cases e:kY kk now i with
 |none=>rw[e] at h;cases h
 |some y=>rw[e] at hm;simp only[Option.getD_some] at hm⊢;unfold o9;rw[hm];simp[hl]
theorem GZ(hk:cu kk i=some v)(h:(eR (dS now 9223372036854775807) v.t.toL).isSome=true)(hm:cu kb ((eR (dS now 9223372036854775807) v.t.toL).getD default).ki=some m)(hl:m.ec.hl=false)(hd:o0 kb kk now (f+1) i):jQ kb kk now (f+1) i=jQ kb kk now f ((eR (dS now 9223372036854775807) v.t.toL).getD default).ki∧o0 kb kk now f ((eR (dS now 9223372036854775807) v.t.toL).getD default).ki:=by
 rw[vt hk] at h hm⊢
 cases e:kY kk now i with
 |none=>rw[e] at h;cases h
 |some y=>
  rw[e] at hm;simp only[Option.getD_some] at hm⊢
  obtain⟨m2,h1,h2⟩:=hd.2 y e
  rw[hm] at h1;cases h1
  rw[hl] at h2
  refine⟨?_,h2.resolve_left<|by simp⟩
  conv=>lhs;unfold jQ
  rw[e];unfold o9;simp[hm,hl]
theorem OL(hk:cu kk i=some v)(h:(eR (dS now 9223372036854775807) v.t.toL).isSome=true)(hd:o0 kb kk now (f+1) i): ∃m,cu kb ((eR (dS now 9223372036854775807) v.t.toL).getD default).ki=some m:=by
 rw[vt hk] at h⊢
 cases e:kY kk now i with
 |none=>rw[e] at h;cases h
 |some y=>obtain⟨m,h1,-⟩:=hd.2 y e;exact⟨m,h1⟩
def Jn(o:Option Int):Int×Bool×Bool:=match o with|some i=>(i,false,true)|none=>(0,false,false)
def eU(et:T)(kb:List (Int×En))(kk:List (Int×Vt))(now:Int):Int×Bool×Bool:=
 match eS (dS now 9223372036854775807) et.toL with
 |some y=>(y.ki,true,true)
 |none=>Jn<|jQ kb kk now 17 0
theorem OM{et:T}(h:(eS (dS now 9223372036854775807) et.toL).isSome=true):eU et kb kk now=(((eS (dS now 9223372036854775807) et.toL).getD default).ki,true,true):=by
 unfold eU;cases e:eS (dS now 9223372036854775807) et.toL with
 |none=>rw[e] at h;cases h
 |some y=>rfl
theorem G0{et:T}{o:Option Int}(h:(eS (dS now 9223372036854775807) et.toL).isSome=false)(hd:jQ kb kk now 17 0=o):eU et kb kk now=Jn o:=by
 subst hd;unfold eU;cases e:eS (dS now 9223372036854775807) et.toL with
 |none=>rfl
 |some y=>rw[e] at h;cases h
theorem MU(sb:Nat)(lt lm:Int)(bt mc:Nat)(kc:List (Int×Cl))(my:Nat)(kb:List (Int×En))(a:Ac)(on:List (Int×Int))(ka:List (Int×MB))(tl:Vt)(et:T)(ek:List (Int×It))(mk:Nat)(kk:List (Int×Vt))(ck ac:Int)(now:Int)(hE:dq et ek)(hD:o0 kb kk now 17 0)(w:World)(r0:(cw sb [i_ lt,i_ lm,p_ bt,.map<|some my,p_ a.bs,p_ tl.be,.map<|some mk,u_ ck,u_ ac] 141).holds w)(r1:(cw bt [.map<|some mc] 185).holds w)(r2:(dy mc kc).holds w)(r3:(eT my kb).holds w)(r4:(fE a on ka).holds w)(r5:(fY tl et ek).holds w)(r6:(ep mk kk).holds w):
  CW 152 #[p_ sb,u_ now] w (.tuple #[i_<|(eU et kb kk now).1,b_<|(eU et kb kk now).2.1,b_<|(eU et kb kk now).2.2]):=by
 refine A.C Tryz.func152 rfl (HS.nil w) (A.c<|A.g (ps 3) [] []<|A.d<|A.c<|A.k [.p,.p,.p,.rd [p_ tl.be],.p,.cq<|.tuple #[i_<|((eS (dS now 9223372036854775807) et.toL).getD default).ki,b_<|(eS (dS now 9223372036854775807) et.toL).isSome],.p,.p,.p,.p,.p] [] [(7,i_<|((eS (dS now 9223372036854775807) et.toL).getD default).ki),(8,b_<|(eS (dS now 9223372036854775807) et.toL).isSome)] [] (oc (ro ⟨sb,5,none⟩ (vs:=[p_ tl.be])<|df r0 rfl)<|o1<|qo<|fun w s=>QO tl et ek now ‹_› w (d6 s r5))<|A.c<|A.g [.p] [8] [(21,b_<|(eS (dS now 9223372036854775807) et.toL).isSome)]<|A.v rfl (fun e1=>?_) (fun e1=>?_))
 ·refine A.c<|A.g (ps 4) [0,1,7,21] [(4,i_<|((eS (dS now 9223372036854775807) et.toL).getD default).ki),(5,b_ true),(6,b_ true)]<|A.e<|A.W [i_<|((eS (dS now 9223372036854775807) et.toL).getD default).ki,b_ true,b_ true] ?_
  show((.tuple #[i_<|((eS (dS now 9223372036854775807) et.toL).getD default).ki,b_ true,b_ true]):Value)=(.tuple #[i_<|(eU et kb kk now).1,b_<|(eU et kb kk now).2.1,b_<|(eU et kb kk now).2.2])
  (rw[OM<|by(simp_all;done)];done)
 refine A.p<|A.c<|A.g [.p] [7,21] [(9,i_ 0)]<|A.y<|A.lp (σ:=Nat×Int) [] (fun(n,i)=>[(9,i_ i)]) [] (fun(n,i)=>[]) (fun(n,i)=>(o0 kb kk now n i)∧(jQ kb kk now n i=jQ kb kk now 17 0)) (fun(n,i)=>n) (17,0) ⟨hD,(by rfl)⟩ ?_ ?_
 ·exact A.J []
 rintro⟨n,i⟩ ⟨hd,hv⟩
 obtain⟨n,rfl⟩: ∃m,n=m+1:=by cases n with|zero=>exact hd.elim|succ m=>exact⟨m,rfl⟩
 refine A.y<|A.c<|A.kp [.p,.p,.p,.rd [.map<|some mk],.p] [9] [(27,.map<|some mk),(28,i_ i)] [] (o1<|ro ⟨sb,6,none⟩ (vs:=[.map<|some mk])<|df r0 rfl) ?_
 obtain⟨m1,hk1,hER1⟩:=hd.1
 refine A.j<|A.u (some 29) _ (jr (kt:=3) (et:=136) (k:=i) (fun w s=>oZ<|d6 s r6) hk1 rfl rfl rfl (by kernel_rfl) (ee<|by kernel_rfl) rfl)<|A.k [.p,.cq<|.tuple #[i_<|((eR (dS now 9223372036854775807) m1.t.toL).getD default).ki,b_<|(eR (dS now 9223372036854775807) m1.t.toL).isSome],.p,.p,.p,.p,.p] [27,28,29] [(10,i_<|((eR (dS now 9223372036854775807) m1.t.toL).getD default).ki),(11,b_<|(eR (dS now 9223372036854775807) m1.t.toL).isSome)] [] (o1<|qo<|fun w s=>QM mk kk i m1 now hk1 ‹_› w (d6 s r6))<|A.d<|A.c<|A.g [.p,.p] [11] [(35,b_ (!((eR (dS now 9223372036854775807) m1.t.toL).isSome)))]<|A.v rfl (fun e2=>?_) (fun e2=>?_)
 ·refine A.c (A.g (ps 3) [0,1,10,35] [(4,i_ 0),(5,b_ false),(6,b_ false)]<|A.e<|A.W [i_ 0,b_ false,b_ false] ?_)
  (rw[G0 (by(simp_all;done))<|hv.symm.trans<|LU ‹_› (by(simp_all;done))];rfl)
 refine A.p<|A.c<|A.g [.p,.p] [10,35] [(9,i_<|((eR (dS now 9223372036854775807) m1.t.toL).getD default).ki)]<|A.c<|A.kp [.p,.p,.p,.rd [.map<|some my],.p] [] [(40,.map<|some my),(41,i_<|((eR (dS now 9223372036854775807) m1.t.toL).getD default).ki)] [] (o1<|ro ⟨sb,3,none⟩ (vs:=[.map<|some my])<|df r0 rfl) ?_
 obtain⟨m2,hk2⟩:=OL ‹_› (by simp_all) hd
 refine A.j<|A.u (some 42) _ (jr (kt:=3) (et:=167) (k:=((eR (dS now 9223372036854775807) m1.t.toL).getD default).ki) (fun w s=>mT<|d6 s r3) hk2 rfl rfl rfl (by kernel_rfl) (ee<|by kernel_rfl) rfl)<|A.k [.p,.p,.p,.rd [b_ m2.ec.hl]] [40,41,42] [(46,b_ m2.ec.hl)] [] (o1<|ro ⟨m2.eb,3,none⟩ (vs:=[b_ m2.ec.hl])<|fi (fun w s=>(fy (d6 s r3) hk2:)) rfl)<|A.v rfl (fun e3=>?_) (fun e3=>?_)
 ·refine A.c (A.g (ps 4) [0,1,9,46] [(4,i_<|((eR (dS now 9223372036854775807) m1.t.toL).getD default).ki),(5,b_ false),(6,b_ true)]<|A.e<|A.W [i_<|((eR (dS now 9223372036854775807) m1.t.toL).getD default).ki,b_ false,b_ true] ?_)
  (rw[G0 (by(simp_all;done))<|hv.symm.trans<|LV ‹_› (by(simp_all;done)) ‹_› ‹_›];rfl)
 refine A.p<|A.Z (n,((eR (dS now 9223372036854775807) m1.t.toL).getD default).ki) ⟨((GZ ‹_› (by simp_all) ‹_› (by simp_all) hd).2),((GZ ‹_› (by simp_all) ‹_› (by simp_all) hd).1.symm.trans hv)⟩ (by(show n<n+1;omega)) ?_
 exact A.J []
end Go.Proofs.YtobgjpigngoggaaGreat
