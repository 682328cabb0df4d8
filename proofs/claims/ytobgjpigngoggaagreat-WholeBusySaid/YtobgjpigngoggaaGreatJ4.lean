/- The functions of the scheduler, layer by layer, proved operation by operation for all arguments, under the conditions that each theorem states: part 4. -/
import Derived.Sort.LotA
import Derived.Sort.LotB
import Derived.Sort.LotC
import Derived.Sort.LotD1
import Derived.Sort.LotD3
import Derived.Sort.LotD4
import Derived.Test.YtobgjpigngoggaaGreatProg
import Derived.Shelf.SlicesE.Compact
import Derived.Ground.SlgnProg
import Derived.Shelf.Slices.CompactI
import Derived.Test.YtobgjpigngoggaaGreatJ3
set_option linter.unusedVariables false
set_option linter.unusedSimpArgs false
set_option maxHeartbeats 4000000
set_option maxRecDepth 100000
namespace Go.Proofs.YtobgjpigngoggaaGreat
open Go V Go.Sort
theorem Nv(al:bn)(d:Array Int)(cl:Nat)(a b p:Nat)(hb:a≤p∧p<b∧b≤d.size)(hS:d.size≤100000):
  CS 278 #[vS al d.toList cl,c_ a,c_ b,c_ p] [sU al d.toList cl] (fun((m',d'):Nat×(Array Int))=>(c_ m')) (fun(m',d')=>partitionEqual ltInt d a b p=(m',d')∧d'.size=d.size) fun(m',d')=>[sU al d'.toList cl]:=by
 intro w hs
 refine aU Tryz.func278 rfl hs (aD []<|aE<|bL [13,15] 16<|cO 3 [.ix,.rd [u_<|d[p]!],.ix,.rd [u_<|d[a]!],.ix] (rg 0 13) [(13,vS al d.toList cl),(14,c_ p),(18,u_<|d[p]!),(22,u_<|d[a]!),(23,.pointer<|some<|(aZ al).add (a*1))] (oc (bH 0 p aR rfl (by(simp;omega)))<|oc (dF 0 p [u_<|d[p]!] aR rfl (eK<|by omega))<|oc (bH 0 a aR rfl (by(simp;omega)))<|oc (dF 0 a [u_<|d[a]!] aR rfl (eK<|by omega))<|o1<|bH 0 a aR rfl (by(simp;omega)))<|an 13 rfl (fB 0 a (d[p]!) rfl aR (by(simp;omega)) (aW 0 (vS al (d.toList.set a<|d[p]!) cl) (cE<|by simp)<|aW 13 (vS al (d.toList.set a<|d[p]!) cl) (cE<|by simp)<|cD<|cO 1 [.ix] [14] [(24,.pointer<|some<|(aZ al).add (p*1))] (o1<|bH 0 p aR rfl (by(simp;omega)))<|an 15 rfl (fB 0 p (d[a]!) rfl aR (by(simp;omega)) (aW 0 (vS al ((d.toList.set a<|d[p]!).set p (d[a]!)) cl) (cE<|by simp)<|cb ?_)))))
 obtain⟨d101,hdd101⟩: ∃z,z=swp d a p:=⟨_,rfl⟩;have hszd101:d101.size=d.size:=(by rw[hdd101];exact jK _ _ _)
 have hcv2:((d.toList.set a<|d[p]!).set p (d[a]!))=d101.toList:=by rw[hdd101];exact lu _ _ _
 refine bj 0 (sU al d101.toList cl) rfl (cw hcv2) (aW 0 (vS al d101.toList cl) (eW hcv2)<|bW [.w ((a+1:Nat):Int),.w ((b-1:Nat):Int)] [(9,c_ (a+1:Nat)),(10,c_ (b-1:Nat))] (oc (wi ((a:Int)+1) ((a+1:Nat):Int)<|by omega)<|o1<|wi ((b:Int)-1) ((b-1:Nat):Int)<|by omega)<|aE<|aO<|eA (σ:=Nat×Nat×(Array Int)) [] (fun(i2,j2,d3)=>[(9,c_ i2),(10,c_ j2),(0,vS al d3.toList cl)]) [0] (fun(i2,j2,d3)=>[sU al d3.toList cl]) (fun(i2,j2,d3)=>(partEqLoop ltInt a i2 j2 d3=partEqLoop ltInt a (a+1) (b-1) d101)∧(d3.size=d.size)∧(a+1≤i2∧i2≤j2+1∧j2<b)) (fun(i2,j2,d3)=>j2+1-i2) ((a+1:Nat),(b-1:Nat),d101) ⟨(by rfl),(by omega),(by omega)⟩ ?_ ?_)
 ·exact bB [0]
 rintro⟨i2,j2,d3⟩ ⟨he,hz,hi⟩
 refine aO<|aE<|aO<|eA (σ:=Nat) [] (fun i3=>[(9,c_ i3)]) [] (fun i3=>[]) (fun i3=>(scanUp (fun x=> !ltInt d3[a]! x) d3 j2 i3=scanUp (fun x=> !ltInt d3[a]! x) d3 j2 i2)∧(i2≤i3∧i3≤j2+1)) (fun i3=>j2+1-i3) (i2:Nat) ⟨(by rfl),(by omega)⟩ ?_ ?_
 ·exact bB [0]
 rintro i3 ⟨hu3,hi3⟩
 refine aE<|aE<|fS [.o,.ix,.rd [u_<|d3[a]!],.ix,.rd [u_<|d3[i3]!],.cq<|b_<|decide ((d3[a]!)<(d3[i3]!)),.cl] (rg 0 15) [] [(43,b_<|(decide ((i3:Int)≤(j2:Int)))&&(!(decide ((d3[a]!)<(d3[i3]!)))))] (oc (go (true&&((decide ((i3:Int)≤(j2:Int)))==true)) fun h_=>(bH 0 a aR rfl (by(simp;omega))))<|oc (go (true&&((decide ((i3:Int)≤(j2:Int)))==true)) fun h_=>(dF 0 a [u_<|d3[a]!] aR rfl (eK<|by omega)))<|oc (go (true&&((decide ((i3:Int)≤(j2:Int)))==true)) fun h_=>(bH 0 i3 aR rfl (by(simp at h_⊢;omega))))<|oc (go (true&&((decide ((i3:Int)≤(j2:Int)))==true)) fun h_=>(dF 0 i3 [u_<|d3[i3]!] aR rfl (eK<|by(simp at h_;omega))))<|o1<|go (true&&((decide ((i3:Int)≤(j2:Int)))==true)) fun h_=>(qw<|kH (d3[a]!)<|d3[i3]!))<|aI rfl (fun e1=>?_) (fun e1=>?_)
 ·have p1:=e1;try simp only[bQ] at p1
  refine aP<|aO<|aM<|az [.w ((i3+1:Nat):Int)] [(9,c_ (i3+1:Nat))] (o1<|wi ((i3:Int)+1) ((i3+1:Nat):Int)<|by omega) ?_
  have hst_:scanUp (fun x=> !ltInt d3[a]! x) d3 j2 i3=_:=Es (p:=(fun x=> !ltInt d3[a]! x)) e1
  refine bC ((i3+1:Nat)) ⟨(hst_.symm.trans hu3),(by omega)⟩ (by omega) ?_
  exact bB [0]
 refine bR<|aE<|aO<|eA (σ:=Nat) [43] (fun j3=>[(10,c_ j3)]) [] (fun j3=>[]) (fun j3=>(scanDown (fun x=>ltInt d3[a]! x) d3 i3 j3=scanDown (fun x=>ltInt d3[a]! x) d3 i3 j2)∧(i3≤j3+1∧j3≤j2)) (fun j3=>j3) (j2:Nat) ⟨(by rfl),(by omega)⟩ ?_ ?_
 ·exact bB [0]
 rintro j3 ⟨hv3,hj3⟩
 refine aE<|aE<|fS [.o,.ix,.rd [u_<|d3[a]!],.ix,.rd [u_<|d3[j3]!],.cq<|b_<|decide ((d3[a]!)<(d3[j3]!)),.cl] (rg 0 14) [] [(59,b_<|(decide ((i3:Int)≤(j3:Int)))&&(decide ((d3[a]!)<(d3[j3]!))))] (oc (go (true&&((decide ((i3:Int)≤(j3:Int)))==true)) fun h_=>(bH 0 a aR rfl (by(simp;omega))))<|oc (go (true&&((decide ((i3:Int)≤(j3:Int)))==true)) fun h_=>(dF 0 a [u_<|d3[a]!] aR rfl (eK<|by omega)))<|oc (go (true&&((decide ((i3:Int)≤(j3:Int)))==true)) fun h_=>(bH 0 j3 aR rfl (by(simp;omega))))<|oc (go (true&&((decide ((i3:Int)≤(j3:Int)))==true)) fun h_=>(dF 0 j3 [u_<|d3[j3]!] aR rfl (eK<|by omega)))<|o1<|go (true&&((decide ((i3:Int)≤(j3:Int)))==true)) fun h_=>(qw<|kH (d3[a]!)<|d3[j3]!))<|aI rfl (fun e2=>?_) (fun e2=>?_)
 ·have p2:=e2;try simp only[bQ] at p2
  refine aP<|aO<|aM<|az [.w ((j3-1:Nat):Int)] [(10,c_ (j3-1:Nat))] (o1<|wi ((j3:Int)-1) ((j3-1:Nat):Int)<|by omega) ?_
  have hst_:scanDown (fun x=>ltInt d3[a]! x) d3 i3 j3=_:=Eu (p:=(fun x=>ltInt d3[a]! x)) (by omega) e2
  refine bC ((j3-1:Nat)) ⟨(hst_.symm.trans hv3),(by omega)⟩ (by omega) ?_
  exact bB [0]
 refine bR<|aE<|aE ?_
 have hI3:scanUp (fun x=> !ltInt d3[a]! x) d3 j2 i2=i3:=(by rw[←hu3];exact Et (p:=(fun x=> !ltInt d3[a]! x)) e1)
 have hne3:=ne_eq (by omega) e1 e2
 have hJ3:scanDown (fun x=>ltInt d3[a]! x) d3 i3 j2=j3:=(by rw[←hv3];exact Ew (p:=(fun x=>ltInt d3[a]! x)) e2)
 refine bX [(64,b_<|decide ((i3:Int)>(j3:Int)))]<|aI rfl (fun e3=>?_) (fun e3=>?_)
 ·have p3:=dZ e3
  refine bR<|ni<|nh rfl ((aD [(8,c_ i3)]<|aF ?_))
  have hP:partitionEqual ltInt d a b p=(i3,d3):=by unfold partitionEqual;rw[←hdd101];exact he.symm.trans<|SK hI3 hJ3<|by omega
  refine bJ [0] [c_ i3] (i3,d3) ?_ ?_
  ·rfl
  exact⟨hP,by omega⟩
 have p3:=ga e3
 refine au<|bL [13,15] 16<|cO 3 [.ix,.rd [u_<|d3[j3]!],.ix,.rd [u_<|d3[i3]!],.ix] (rg 0 13) [(67,vS al d3.toList cl),(68,c_ j3),(72,u_<|d3[j3]!),(76,u_<|d3[i3]!),(77,.pointer<|some<|(aZ al).add (i3*1))] (oc (bH 0 j3 aR rfl (by(simp;omega)))<|oc (dF 0 j3 [u_<|d3[j3]!] aR rfl (eK<|by omega))<|oc (bH 0 i3 aR rfl (by(simp;omega)))<|oc (dF 0 i3 [u_<|d3[i3]!] aR rfl (eK<|by omega))<|o1<|bH 0 i3 aR rfl (by(simp;omega)))<|an 13 rfl (fB 0 i3 (d3[j3]!) rfl aR (by(simp;omega)) (aW 0 (vS al (d3.toList.set i3<|d3[j3]!) cl) (cE<|by simp)<|aW 67 (vS al (d3.toList.set i3<|d3[j3]!) cl) (cE<|by simp)<|cD<|cO 1 [.ix] [14] [(78,.pointer<|some<|(aZ al).add (j3*1))] (o1<|bH 0 j3 aR rfl (by(simp;omega)))<|an 15 rfl (fB 0 j3 (d3[i3]!) rfl aR (by(simp;omega)) (aW 0 (vS al ((d3.toList.set i3<|d3[j3]!).set j3 (d3[i3]!)) cl) (cE<|by simp)<|cb ?_))))
 obtain⟨d103,hdd103⟩: ∃z,z=swp d3 i3 j3:=⟨_,rfl⟩;have hszd103:d103.size=d3.size:=(by rw[hdd103];exact jK _ _ _)
 have hcv4:((d3.toList.set i3<|d3[j3]!).set j3 (d3[i3]!))=d103.toList:=by rw[hdd103];exact lu _ _ _
 refine bj 0 (sU al d103.toList cl) rfl (cw hcv4) (aW 0 (vS al d103.toList cl) (eW hcv4)<|bW [.w ((i3+1:Nat):Int)] [(9,c_ (i3+1:Nat))] (o1<|wi ((i3:Int)+1) ((i3+1:Nat):Int)<|by omega)<|aM<|az [.w ((j3-1:Nat):Int)] [(10,c_ (j3-1:Nat))] (o1<|wi ((j3:Int)-1) ((j3-1:Nat):Int)<|by omega) ?_)
 have hst_:partEqLoop ltInt a i2 j2 d3=_:=SN hI3 hJ3<|by omega
 refine bC ((i3+1:Nat),(j3-1:Nat),d103) ⟨(by(rw[hdd103];exact hst_.symm.trans he)),(by omega),(by omega)⟩ (by(simp;omega)) ?_
 exact bB [0]
abbrev tu(p0):=([(10,c_ (p0+1:Nat))]:aT)
abbrev DJ(p0)(p1):=([(132,.pointer<|some<|(aZ p0).add ((p1-1:Nat)*1))]:aT)
abbrev yp(p0)(p1):=(b_ (decide (((p0-p1:Nat):Int)≥2)):Value)
abbrev vr(p0)(p1:Array Int)(p2)(p3):=((vS p0 ((p1.toList.set p2<|p1[(p2-1:Nat)]!).set (p2-1:Nat) (p1[p2]!)) p3):Value)
abbrev DK(p0)(p1:Array Int)(p2)(p3):=([(119,vS p0 p1.toList p2),(121,c_ (p3-1:Nat)),(126,u_<|p1[(p3-1:Nat)]!),(130,u_<|p1[p3]!),(131,.pointer<|some<|(aZ p0).add (p3*1))]:aT)
abbrev oZ(p0)(p1:Array Int)(p2)(p3):=((vS p0 (p1.toList.set p2<|p1[(p2-1:Nat)]!) p3):Value)
theorem O6(al:bn)(d:Array Int)(cl:Nat)(a b:Nat)(hb:a<b∧b≤d.size)(hS:d.size≤100000):
  CS 277 #[vS al d.toList cl,c_ a,c_ b] [sU al d.toList cl] (fun((q',d'):Bool×(Array Int))=>(b_ q')) (fun(q',d')=>partialInsertionSort ltInt d a b=(d',q')∧d'.size=d.size) fun(q',d')=>[sU al d'.toList cl]:=by
 intro w hs
 refine aU Tryz.func277 rfl hs (aD []<|bW [.w ((a+1:Nat):Int)] [(7,c_ (a+1:Nat))] (o1<|wi ((a:Int)+1) ((a+1:Nat):Int)<|by omega)<|aE<|aD [(8,i_ 0)]<|aO<|eA (σ:=Nat×Nat×(Array Int)) [] (fun(k,i1,d1)=>[(8,c_ k),(7,c_ i1),(0,vS al d1.toList cl)]) [0] (fun(k,i1,d1)=>[sU al d1.toList cl]) (fun(k,i1,d1)=>(partialIns ltInt a b (5-k) i1 d1=partialInsertionSort ltInt d a b)∧(d1.size=d.size)∧(a+1≤i1∧i1≤b∧k≤5)) (fun(k,i1,d1)=>5-k) (0,(a+1:Nat),d) ⟨(by rfl),(by rfl),(by omega)⟩ ?_ ?_)
 ·exact bB [0]
 rintro⟨k,i1,d1⟩ ⟨he,hz,hi⟩
 refine aE<|aD [(14,b_<|decide ((k:Int)<5))]<|aI rfl (fun e1=>?_) (fun e1=>?_)
 ·have p1:=dZ e1
  refine au<|aO<|aE<|aO<|eA (σ:=Nat) [14] (fun i2=>[(7,c_ i2)]) [] (fun i2=>[]) (fun i2=>(scanSorted ltInt d1 b i2=scanSorted ltInt d1 b i1)∧(i1≤i2∧i2≤b)) (fun i2=>b-i2) (i1:Nat) ⟨(by rfl),(by omega)⟩ ?_ ?_
  ·exact bB [0]
  rintro i2 ⟨hs,hi2⟩
  refine aE<|aE<|fS [.o,.ix,.rd [u_<|d1[i2]!],.w ((i2-1:Nat):Int),.ix,.rd [u_<|d1[(i2-1:Nat)]!],.cq<|b_<|decide ((d1[i2]!)<(d1[(i2-1:Nat)]!)),.cl] (rg 0 16) [] [(32,b_<|(decide ((i2:Int)<(b:Int)))&&(!(decide ((d1[i2]!)<(d1[(i2-1:Nat)]!)))))] (oc (go (true&&((decide ((i2:Int)<(b:Int)))==true)) fun h_=>(bH 0 i2 aR rfl (by(simp at h_⊢;omega))))<|oc (go (true&&((decide ((i2:Int)<(b:Int)))==true)) fun h_=>(dF 0 i2 [u_<|d1[i2]!] aR rfl (eK<|by(simp at h_;omega))))<|oc (go (true&&((decide ((i2:Int)<(b:Int)))==true)) fun h_=>(wi ((i2:Int)-1) ((i2-1:Nat):Int)<|by omega))<|oc (go (true&&((decide ((i2:Int)<(b:Int)))==true)) fun h_=>(bH 0 (i2-1:Nat) aR rfl (by(simp;omega))))<|oc (go (true&&((decide ((i2:Int)<(b:Int)))==true)) fun h_=>(dF 0 (i2-1:Nat) [u_<|d1[(i2-1:Nat)]!] aR rfl (eK<|by omega)))<|o1<|go (true&&((decide ((i2:Int)<(b:Int)))==true)) fun h_=>(qw<|kH (d1[i2]!)<|d1[(i2-1:Nat)]!))<|aI rfl (fun e2=>?_) (fun e2=>?_)
  ·have p2:=e2;try simp only[bQ] at p2
   refine aP<|aO<|aM<|az [.w ((i2+1:Nat):Int)] [(7,c_ (i2+1:Nat))] (o1<|wi ((i2:Int)+1) ((i2+1:Nat):Int)<|by omega) ?_
   have hst_:scanSorted ltInt d1 b i2=_:=Wy e2
   refine bC ((i2+1:Nat)) ⟨(hst_.symm.trans hs),(by omega)⟩ (by omega) ?_
   exact bB [0]
  have p2:=e2;try simp only[bQ] at p2
  refine bR<|aE<|aE ?_
  have hI:scanSorted ltInt d1 b i1=i2:=(by rw[←hs];exact Wz e2)
  refine bX [(37,b_<|(i2:Int)==(b:Int))]<|aI rfl (fun e3=>?_) (fun e3=>?_)
  ·have p3:=e3;try simp only[bQ] at p3
   refine aD [(6,b_ true)]<|aF<|bJ [0] [b_ true] (true,d1) ?_ ?_
   ·rfl
   (refine⟨?_,by omega⟩;rw[nl<|by omega,XA hI<|by omega] at he;exact he.symm)
  have p3:=e3;try simp only[bQ] at p3
  refine au<|bW [.w ((b-a:Nat):Int)] [(41,b_<|decide (((b-a:Nat):Int)<50))] (o1<|wi ((b:Int)-(a:Int)) ((b-a:Nat):Int)<|by omega)<|aI rfl (fun e4=>?_) (fun e4=>?_)
  ·have p4:=dZ e4
   refine aD [(6,b_ false)]<|aF<|bJ [0] [b_ false] (false,d1) ?_ ?_
   ·rfl
   (refine⟨?_,by omega⟩;rw[nl<|by omega,XC hI (by omega)<|by omega] at he;exact he.symm)
  have p4:=ga e4
  refine au<|bL [15,17] 18<|cO 3 [.w ((i2-1:Nat):Int),.w ((i2-1:Nat):Int),.ix,.rd [u_<|d1[(i2-1:Nat)]!],.ix,.rd [u_<|d1[i2]!],.ix] (rg 0 15) [(44,vS al d1.toList cl),(46,c_ (i2-1:Nat)),(51,u_<|d1[(i2-1:Nat)]!),(55,u_<|d1[i2]!),(56,.pointer<|some<|(aZ al).add (i2*1))] (oc (wi ((i2:Int)-1) ((i2-1:Nat):Int)<|by omega)<|oc (wi ((i2:Int)-1) ((i2-1:Nat):Int)<|by omega)<|oc (bH 0 (i2-1:Nat) aR rfl (by(simp;omega)))<|oc (dF 0 (i2-1:Nat) [u_<|d1[(i2-1:Nat)]!] aR rfl (eK<|by omega))<|oc (bH 0 i2 aR rfl (by(simp;omega)))<|oc (dF 0 i2 [u_<|d1[i2]!] aR rfl (eK<|by omega))<|o1<|bH 0 i2 aR rfl (by(simp;omega)))<|an 15 rfl (fB 0 i2 (d1[(i2-1:Nat)]!) rfl aR (by(simp;omega)) (aW 0 (oZ al d1 i2 cl) (cE<|by simp)<|aW 44 (oZ al d1 i2 cl) (cE<|by simp)<|cD<|cO 1 [.ix] [16] [(57,.pointer<|some<|(aZ al).add ((i2-1:Nat)*1))] (o1<|bH 0 (i2-1:Nat) aR rfl (by(simp;omega)))<|an 17 rfl (fB 0 (i2-1:Nat) (d1[i2]!) rfl aR (by(simp;omega)) (aW 0 (vr al d1 i2 cl) (cE<|by simp)<|cb ?_))))
  obtain⟨d101,hdd101⟩: ∃z,z=swp d1 i2 (i2-1:Nat):=⟨_,rfl⟩;have hszd101:d101.size=d1.size:=(by rw[hdd101];exact jK _ _ _)
  have hcv2:((d1.toList.set i2<|d1[(i2-1:Nat)]!).set (i2-1:Nat) (d1[i2]!))=d101.toList:=by rw[hdd101];exact lu _ _ _
  refine bj 0 (sU al d101.toList cl) rfl (cw hcv2) (aW 0 (vS al d101.toList cl) (eW hcv2)<|aE<|bW [.w ((i2-a:Nat):Int)] [(61,yp i2 a)] (o1<|wi ((i2:Int)-(a:Int)) ((i2-a:Nat):Int)<|by omega)<|aI rfl (fun e5=>?_) (fun e5=>?_))
  ·have p5:=dZ e5
   refine bW [.w ((i2-1:Nat):Int)] [(9,c_ (i2-1:Nat))] (o1<|wi ((i2:Int)-1) ((i2-1:Nat):Int)<|by omega)<|aO<|eA (σ:=Nat×(Array Int)) [] (fun(j3,d3)=>[(9,c_ j3),(0,vS al d3.toList cl)]) [0] (fun(j3,d3)=>[sU al d3.toList cl]) (fun(j3,d3)=>(shiftDown ltInt j3 d3=shiftDown ltInt (i2-1) d101)∧(d3.size=d.size)∧(j3<b)) (fun(j3,d3)=>j3) ((i2-1:Nat),d101) ⟨(by rfl),(by omega),(by omega)⟩ ?_ ?_
   ·exact bB [0]
   rintro⟨j3,d3⟩ ⟨hsd,hz3,hj3⟩
   refine aE<|aD [(65,b_<|decide ((j3:Int)≥1))]<|aI rfl (fun e6=>?_) (fun e6=>?_)
   ·have p6:=dZ e6
    refine au<|aO<|aE<|aE<|fS [.ix,.rd [u_<|d3[j3]!],.w ((j3-1:Nat):Int),.ix,.rd [u_<|d3[(j3-1:Nat)]!],.cq<|b_<|decide ((d3[j3]!)<(d3[(j3-1:Nat)]!))] (rg 0 11) [] [(78,b_ (!(decide ((d3[j3]!)<(d3[(j3-1:Nat)]!)))))] (oc (bH 0 j3 aR rfl (by(simp;omega)))<|oc (dF 0 j3 [u_<|d3[j3]!] aR rfl (eK<|by omega))<|oc (wi ((j3:Int)-1) ((j3-1:Nat):Int)<|by omega)<|oc (bH 0 (j3-1:Nat) aR rfl (by(simp;omega)))<|oc (dF 0 (j3-1:Nat) [u_<|d3[(j3-1:Nat)]!] aR rfl (eK<|by omega))<|o1<|qw<|kH (d3[j3]!)<|d3[(j3-1:Nat)]!)<|aI rfl (fun e7=>?_) (fun e7=>?_)
    ·have p7:=e7;try simp only[bQ] at p7
     refine bR<|ni<|nh rfl ((aE ?_))
     have hF1:d3=fixDown ltInt a i2 (swp d1 i2<|i2-1):=(by unfold fixDown;rw[←hdd101];(rw[if_pos<|by omega,←hsd,Wg (by omega)<|by omega];done))
     refine aM<|az [.w ((b-i2:Nat):Int)] [(98,yp b i2)] (o1<|wi ((b:Int)-(i2:Int)) ((b-i2:Nat):Int)<|by omega)<|aI rfl (fun e8=>?_) (fun e8=>?_)
     ·have p8:=dZ e8
      refine bW [.w ((i2+1:Nat):Int)] (tu i2) (o1<|wi ((i2:Int)+1) ((i2+1:Nat):Int)<|by omega)<|aO<|eA (σ:=Nat×(Array Int)) [] (fun(j4,d4)=>[(10,c_ j4),(0,vS al d4.toList cl)]) [0] (fun(j4,d4)=>[sU al d4.toList cl]) (fun(j4,d4)=>(shiftUp ltInt b j4 d4=shiftUp ltInt b (i2+1) d3)∧(d4.size=d.size)∧(1≤j4∧j4≤b)) (fun(j4,d4)=>b-j4) ((i2+1:Nat),d3) ⟨(by rfl),(by omega),(by omega)⟩ ?_ ?_
      ·exact bB [0]
      rintro⟨j4,d4⟩ ⟨hsu,hz4,hj4⟩
      refine aE<|aD [(8,c_ k),(7,c_ i2),(10,c_ j4),(0,vS al d4.toList cl),(103,b_<|decide ((j4:Int)<(b:Int)))]<|aI rfl (fun e9=>?_) (fun e9=>?_)
      ·have p9:=dZ e9
       refine au<|aO<|aE<|aE<|fS [.ix,.rd [u_<|d4[j4]!],.w ((j4-1:Nat):Int),.ix,.rd [u_<|d4[(j4-1:Nat)]!],.cq<|b_<|decide ((d4[j4]!)<(d4[(j4-1:Nat)]!))] (rg 0 11) [] [(116,b_ (!(decide ((d4[j4]!)<(d4[(j4-1:Nat)]!)))))] (oc (bH 0 j4 aR rfl (by(simp;omega)))<|oc (dF 0 j4 [u_<|d4[j4]!] aR rfl (eK<|by omega))<|oc (wi ((j4:Int)-1) ((j4-1:Nat):Int)<|by omega)<|oc (bH 0 (j4-1:Nat) aR rfl (by(simp;omega)))<|oc (dF 0 (j4-1:Nat) [u_<|d4[(j4-1:Nat)]!] aR rfl (eK<|by omega))<|o1<|qw<|kH (d4[j4]!)<|d4[(j4-1:Nat)]!)<|aI rfl (fun e10=>?_) (fun e10=>?_)
       ·have p10:=e10;try simp only[bQ] at p10
        refine bR<|ni<|nh rfl ((aM<|az [.w ((k+1:Nat):Int)] [(8,c_ (k+1:Nat))] (o1<|wi ((k:Int)+1) ((k+1:Nat):Int)<|by omega) ?_))
        have hF2:d4=fixUp ltInt b i2 d3:=(by unfold fixUp;(rw[if_pos<|by omega,←hsu,Ee (by omega)<|by omega];done))
        have hst_:partialIns ltInt a b (5-(k+1)+1) i1 d1=_:=py (s:=5-(k+1)) hI (by omega) (by omega) hF1 hF2
        refine bC ((k+1:Nat),i2,d4) ⟨(by(rw[nl<|by omega] at he;exact hst_.symm.trans he)),(by omega),(by omega)⟩ (by(simp;omega)) ?_
        exact bB [0]
       have p10:=e10;try simp only[bQ] at p10
       refine aP<|bL [15,17] 18<|cO 3 [.w ((j4-1:Nat):Int),.w ((j4-1:Nat):Int),.ix,.rd [u_<|d4[(j4-1:Nat)]!],.ix,.rd [u_<|d4[j4]!],.ix] (rg 0 15) (DK al d4 cl j4) (oc (wi ((j4:Int)-1) ((j4-1:Nat):Int)<|by omega)<|oc (wi ((j4:Int)-1) ((j4-1:Nat):Int)<|by omega)<|oc (bH 0 (j4-1:Nat) aR rfl (by(simp;omega)))<|oc (dF 0 (j4-1:Nat) [u_<|d4[(j4-1:Nat)]!] aR rfl (eK<|by omega))<|oc (bH 0 j4 aR rfl (by(simp;omega)))<|oc (dF 0 j4 [u_<|d4[j4]!] aR rfl (eK<|by omega))<|o1<|bH 0 j4 aR rfl (by(simp;omega)))<|an 15 rfl (fB 0 j4 (d4[(j4-1:Nat)]!) rfl aR (by(simp;omega)) (aW 0 (oZ al d4 j4 cl) (cE<|by simp)<|aW 119 (oZ al d4 j4 cl) (cE<|by simp)<|cD<|cO 1 [.ix] [16] (DJ al j4) (o1<|bH 0 (j4-1:Nat) aR rfl (by(simp;omega)))<|an 17 rfl (fB 0 (j4-1:Nat) (d4[j4]!) rfl aR (by(simp;omega)) (aW 0 (vr al d4 j4 cl) (cE<|by simp)<|cb ?_))))
       obtain⟨d103,hdd103⟩: ∃z,z=swp d4 j4 (j4-1:Nat):=⟨_,rfl⟩;have hszd103:d103.size=d4.size:=(by rw[hdd103];exact jK _ _ _)
       have hcv4:((d4.toList.set j4<|d4[(j4-1:Nat)]!).set (j4-1:Nat) (d4[j4]!))=d103.toList:=by rw[hdd103];exact lu _ _ _
       refine bj 0 (sU al d103.toList cl) rfl (cw hcv4) (aW 0 (vS al d103.toList cl) (eW hcv4)<|aM<|az [.w ((j4+1:Nat):Int)] (tu j4) (o1<|wi ((j4:Int)+1) ((j4+1:Nat):Int)<|by omega) ?_)
       have hst_:shiftUp ltInt b j4 d4=_:=Ed (by omega)<|by omega
       refine bC ((j4+1:Nat),d103) ⟨(by(rw[hdd103];exact hst_.symm.trans hsu)),(by omega),(by omega)⟩ (by(simp;omega)) ?_
       exact bB [0]
      have p9:=ga e9
      refine bR<|aM<|az [.w ((k+1:Nat):Int)] [(8,c_ (k+1:Nat))] (o1<|wi ((k:Int)+1) ((k+1:Nat):Int)<|by omega) ?_
      have hF2:d4=fixUp ltInt b i2 d3:=(by unfold fixUp;(rw[if_pos<|by omega,←hsu,Ef<|by omega];done))
      have hst_:partialIns ltInt a b (5-(k+1)+1) i1 d1=_:=py (s:=5-(k+1)) hI (by omega) (by omega) hF1 hF2
      refine bC ((k+1:Nat),i2,d4) ⟨(by(rw[nl<|by omega] at he;exact hst_.symm.trans he)),(by omega),(by omega)⟩ (by(simp;omega)) ?_
      exact bB [0]
     have p8:=ga e8
     refine aP<|aM<|az [.w ((k+1:Nat):Int)] [(8,c_ (k+1:Nat))] (o1<|wi ((k:Int)+1) ((k+1:Nat):Int)<|by omega) ?_
     have hF2:d3=fixUp ltInt b i2 d3:=(by unfold fixUp;(rw[if_neg<|by omega];done))
     have hst_:partialIns ltInt a b (5-(k+1)+1) i1 d1=_:=py (s:=5-(k+1)) hI (by omega) (by omega) hF1 hF2
     refine bC ((k+1:Nat),i2,d3) ⟨(by(rw[nl<|by omega] at he;exact hst_.symm.trans he)),(by omega),(by omega)⟩ (by(simp;omega)) ?_
     exact bB [0]
    have p7:=e7;try simp only[bQ] at p7
    refine aP<|bL [15,17] 18<|cO 3 [.w ((j3-1:Nat):Int),.w ((j3-1:Nat):Int),.ix,.rd [u_<|d3[(j3-1:Nat)]!],.ix,.rd [u_<|d3[j3]!],.ix] (rg 0 15) [(81,vS al d3.toList cl),(83,c_ (j3-1:Nat)),(88,u_<|d3[(j3-1:Nat)]!),(92,u_<|d3[j3]!),(93,.pointer<|some<|(aZ al).add (j3*1))] (oc (wi ((j3:Int)-1) ((j3-1:Nat):Int)<|by omega)<|oc (wi ((j3:Int)-1) ((j3-1:Nat):Int)<|by omega)<|oc (bH 0 (j3-1:Nat) aR rfl (by(simp;omega)))<|oc (dF 0 (j3-1:Nat) [u_<|d3[(j3-1:Nat)]!] aR rfl (eK<|by omega))<|oc (bH 0 j3 aR rfl (by(simp;omega)))<|oc (dF 0 j3 [u_<|d3[j3]!] aR rfl (eK<|by omega))<|o1<|bH 0 j3 aR rfl (by(simp;omega)))<|an 15 rfl (fB 0 j3 (d3[(j3-1:Nat)]!) rfl aR (by(simp;omega)) (aW 0 (oZ al d3 j3 cl) (cE<|by simp)<|aW 81 (oZ al d3 j3 cl) (cE<|by simp)<|cD<|cO 1 [.ix] [16] [(94,.pointer<|some<|(aZ al).add ((j3-1:Nat)*1))] (o1<|bH 0 (j3-1:Nat) aR rfl (by(simp;omega)))<|an 17 rfl (fB 0 (j3-1:Nat) (d3[j3]!) rfl aR (by(simp;omega)) (aW 0 (vr al d3 j3 cl) (cE<|by simp)<|cb ?_))))
    obtain⟨d105,hdd105⟩: ∃z,z=swp d3 j3 (j3-1:Nat):=⟨_,rfl⟩;have hszd105:d105.size=d3.size:=(by rw[hdd105];exact jK _ _ _)
    have hcv6:((d3.toList.set j3<|d3[(j3-1:Nat)]!).set (j3-1:Nat) (d3[j3]!))=d105.toList:=by rw[hdd105];exact lu _ _ _
    refine bj 0 (sU al d105.toList cl) rfl (cw hcv6) (aW 0 (vS al d105.toList cl) (eW hcv6)<|aM<|az [.w ((j3-1:Nat):Int)] [(9,c_ (j3-1:Nat))] (o1<|wi ((j3:Int)-1) ((j3-1:Nat):Int)<|by omega) ?_)
    have hst_:shiftDown ltInt j3 d3=_:=We (by omega)<|by omega
    refine bC ((j3-1:Nat),d105) ⟨(by(rw[hdd105];exact hst_.symm.trans hsd)),(by omega),(by omega)⟩ (by(simp;omega)) ?_
    exact bB [0]
   have p6:=ga e6
   refine bR<|aE ?_
   have hF1:d3=fixDown ltInt a i2 (swp d1 i2<|i2-1):=(by unfold fixDown;rw[←hdd101];(rw[if_pos<|by omega,←hsd,show j3=0 by omega];rfl))
   refine aM<|az [.w ((b-i2:Nat):Int)] [(98,yp b i2)] (o1<|wi ((b:Int)-(i2:Int)) ((b-i2:Nat):Int)<|by omega)<|aI rfl (fun e11=>?_) (fun e11=>?_)
   ·have p11:=dZ e11
    refine bW [.w ((i2+1:Nat):Int)] (tu i2) (o1<|wi ((i2:Int)+1) ((i2+1:Nat):Int)<|by omega)<|aO<|eA (σ:=Nat×(Array Int)) [] (fun(j4,d4)=>[(10,c_ j4),(0,vS al d4.toList cl)]) [0] (fun(j4,d4)=>[sU al d4.toList cl]) (fun(j4,d4)=>(shiftUp ltInt b j4 d4=shiftUp ltInt b (i2+1) d3)∧(d4.size=d.size)∧(1≤j4∧j4≤b)) (fun(j4,d4)=>b-j4) ((i2+1:Nat),d3) ⟨(by rfl),(by omega),(by omega)⟩ ?_ ?_
    ·exact bB [0]
    rintro⟨j4,d4⟩ ⟨hsu,hz4,hj4⟩
    refine aE<|aD [(8,c_ k),(7,c_ i2),(10,c_ j4),(0,vS al d4.toList cl),(103,b_<|decide ((j4:Int)<(b:Int)))]<|aI rfl (fun e12=>?_) (fun e12=>?_)
    ·have p12:=dZ e12
     refine au<|aO<|aE<|aE<|fS [.ix,.rd [u_<|d4[j4]!],.w ((j4-1:Nat):Int),.ix,.rd [u_<|d4[(j4-1:Nat)]!],.cq<|b_<|decide ((d4[j4]!)<(d4[(j4-1:Nat)]!))] (rg 0 11) [] [(116,b_ (!(decide ((d4[j4]!)<(d4[(j4-1:Nat)]!)))))] (oc (bH 0 j4 aR rfl (by(simp;omega)))<|oc (dF 0 j4 [u_<|d4[j4]!] aR rfl (eK<|by omega))<|oc (wi ((j4:Int)-1) ((j4-1:Nat):Int)<|by omega)<|oc (bH 0 (j4-1:Nat) aR rfl (by(simp;omega)))<|oc (dF 0 (j4-1:Nat) [u_<|d4[(j4-1:Nat)]!] aR rfl (eK<|by omega))<|o1<|qw<|kH (d4[j4]!)<|d4[(j4-1:Nat)]!)<|aI rfl (fun e13=>?_) (fun e13=>?_)
     ·have p13:=e13;try simp only[bQ] at p13
      refine bR<|ni<|nh rfl ((aM<|az [.w ((k+1:Nat):Int)] [(8,c_ (k+1:Nat))] (o1<|wi ((k:Int)+1) ((k+1:Nat):Int)<|by omega) ?_))
      have hF2:d4=fixUp ltInt b i2 d3:=(by unfold fixUp;(rw[if_pos<|by omega,←hsu,Ee (by omega)<|by omega];done))
      have hst_:partialIns ltInt a b (5-(k+1)+1) i1 d1=_:=py (s:=5-(k+1)) hI (by omega) (by omega) hF1 hF2
      refine bC ((k+1:Nat),i2,d4) ⟨(by(rw[nl<|by omega] at he;exact hst_.symm.trans he)),(by omega),(by omega)⟩ (by(simp;omega)) ?_
      exact bB [0]
     have p13:=e13;try simp only[bQ] at p13
     refine aP<|bL [15,17] 18<|cO 3 [.w ((j4-1:Nat):Int),.w ((j4-1:Nat):Int),.ix,.rd [u_<|d4[(j4-1:Nat)]!],.ix,.rd [u_<|d4[j4]!],.ix] (rg 0 15) (DK al d4 cl j4) (oc (wi ((j4:Int)-1) ((j4-1:Nat):Int)<|by omega)<|oc (wi ((j4:Int)-1) ((j4-1:Nat):Int)<|by omega)<|oc (bH 0 (j4-1:Nat) aR rfl (by(simp;omega)))<|oc (dF 0 (j4-1:Nat) [u_<|d4[(j4-1:Nat)]!] aR rfl (eK<|by omega))<|oc (bH 0 j4 aR rfl (by(simp;omega)))<|oc (dF 0 j4 [u_<|d4[j4]!] aR rfl (eK<|by omega))<|o1<|bH 0 j4 aR rfl (by(simp;omega)))<|an 15 rfl (fB 0 j4 (d4[(j4-1:Nat)]!) rfl aR (by(simp;omega)) (aW 0 (oZ al d4 j4 cl) (cE<|by simp)<|aW 119 (oZ al d4 j4 cl) (cE<|by simp)<|cD<|cO 1 [.ix] [16] (DJ al j4) (o1<|bH 0 (j4-1:Nat) aR rfl (by(simp;omega)))<|an 17 rfl (fB 0 (j4-1:Nat) (d4[j4]!) rfl aR (by(simp;omega)) (aW 0 (vr al d4 j4 cl) (cE<|by simp)<|cb ?_))))
     obtain⟨d107,hdd107⟩: ∃z,z=swp d4 j4 (j4-1:Nat):=⟨_,rfl⟩;have hszd107:d107.size=d4.size:=(by rw[hdd107];exact jK _ _ _)
     have hcv8:((d4.toList.set j4<|d4[(j4-1:Nat)]!).set (j4-1:Nat) (d4[j4]!))=d107.toList:=by rw[hdd107];exact lu _ _ _
     refine bj 0 (sU al d107.toList cl) rfl (cw hcv8) (aW 0 (vS al d107.toList cl) (eW hcv8)<|aM<|az [.w ((j4+1:Nat):Int)] (tu j4) (o1<|wi ((j4:Int)+1) ((j4+1:Nat):Int)<|by omega) ?_)
     have hst_:shiftUp ltInt b j4 d4=_:=Ed (by omega)<|by omega
     refine bC ((j4+1:Nat),d107) ⟨(by(rw[hdd107];exact hst_.symm.trans hsu)),(by omega),(by omega)⟩ (by(simp;omega)) ?_
     exact bB [0]
    have p12:=ga e12
    refine bR<|aM<|az [.w ((k+1:Nat):Int)] [(8,c_ (k+1:Nat))] (o1<|wi ((k:Int)+1) ((k+1:Nat):Int)<|by omega) ?_
    have hF2:d4=fixUp ltInt b i2 d3:=(by unfold fixUp;(rw[if_pos<|by omega,←hsu,Ef<|by omega];done))
    have hst_:partialIns ltInt a b (5-(k+1)+1) i1 d1=_:=py (s:=5-(k+1)) hI (by omega) (by omega) hF1 hF2
    refine bC ((k+1:Nat),i2,d4) ⟨(by(rw[nl<|by omega] at he;exact hst_.symm.trans he)),(by omega),(by omega)⟩ (by(simp;omega)) ?_
    exact bB [0]
   have p11:=ga e11
   refine aP<|aM<|az [.w ((k+1:Nat):Int)] [(8,c_ (k+1:Nat))] (o1<|wi ((k:Int)+1) ((k+1:Nat):Int)<|by omega) ?_
   have hF2:d3=fixUp ltInt b i2 d3:=(by unfold fixUp;(rw[if_neg<|by omega];done))
   have hst_:partialIns ltInt a b (5-(k+1)+1) i1 d1=_:=py (s:=5-(k+1)) hI (by omega) (by omega) hF1 hF2
   refine bC ((k+1:Nat),i2,d3) ⟨(by(rw[nl<|by omega] at he;exact hst_.symm.trans he)),(by omega),(by omega)⟩ (by(simp;omega)) ?_
   exact bB [0]
  have p5:=ga e5
  refine au ?_
  have hF1:d101=fixDown ltInt a i2 (swp d1 i2<|i2-1):=(by unfold fixDown;rw[←hdd101];(rw[if_neg<|by omega];done))
  refine aM<|az [.w ((b-i2:Nat):Int)] [(98,yp b i2)] (o1<|wi ((b:Int)-(i2:Int)) ((b-i2:Nat):Int)<|by omega)<|aI rfl (fun e14=>?_) (fun e14=>?_)
  ·have p14:=dZ e14
   refine bW [.w ((i2+1:Nat):Int)] (tu i2) (o1<|wi ((i2:Int)+1) ((i2+1:Nat):Int)<|by omega)<|aO<|eA (σ:=Nat×(Array Int)) [] (fun(j4,d4)=>[(10,c_ j4),(0,vS al d4.toList cl)]) [0] (fun(j4,d4)=>[sU al d4.toList cl]) (fun(j4,d4)=>(shiftUp ltInt b j4 d4=shiftUp ltInt b (i2+1) d101)∧(d4.size=d.size)∧(1≤j4∧j4≤b)) (fun(j4,d4)=>b-j4) ((i2+1:Nat),d101) ⟨(by rfl),(by omega),(by omega)⟩ ?_ ?_
   ·exact bB [0]
   rintro⟨j4,d4⟩ ⟨hsu,hz4,hj4⟩
   refine aE<|aD [(103,b_<|decide ((j4:Int)<(b:Int)))]<|aI rfl (fun e15=>?_) (fun e15=>?_)
   ·have p15:=dZ e15
    refine au<|aO<|aE<|aE<|fS [.ix,.rd [u_<|d4[j4]!],.w ((j4-1:Nat):Int),.ix,.rd [u_<|d4[(j4-1:Nat)]!],.cq<|b_<|decide ((d4[j4]!)<(d4[(j4-1:Nat)]!))] (rg 0 11) [] [(116,b_ (!(decide ((d4[j4]!)<(d4[(j4-1:Nat)]!)))))] (oc (bH 0 j4 aR rfl (by(simp;omega)))<|oc (dF 0 j4 [u_<|d4[j4]!] aR rfl (eK<|by omega))<|oc (wi ((j4:Int)-1) ((j4-1:Nat):Int)<|by omega)<|oc (bH 0 (j4-1:Nat) aR rfl (by(simp;omega)))<|oc (dF 0 (j4-1:Nat) [u_<|d4[(j4-1:Nat)]!] aR rfl (eK<|by omega))<|o1<|qw<|kH (d4[j4]!)<|d4[(j4-1:Nat)]!)<|aI rfl (fun e16=>?_) (fun e16=>?_)
    ·have p16:=e16;try simp only[bQ] at p16
     refine bR<|ni<|nh rfl ((aM<|az [.w ((k+1:Nat):Int)] [(8,c_ (k+1:Nat))] (o1<|wi ((k:Int)+1) ((k+1:Nat):Int)<|by omega) ?_))
     have hF2:d4=fixUp ltInt b i2 d101:=(by unfold fixUp;(rw[if_pos<|by omega,←hsu,Ee (by omega)<|by omega];done))
     have hst_:partialIns ltInt a b (5-(k+1)+1) i1 d1=_:=py (s:=5-(k+1)) hI (by omega) (by omega) hF1 hF2
     refine bC ((k+1:Nat),i2,d4) ⟨(by(rw[nl<|by omega] at he;exact hst_.symm.trans he)),(by omega),(by omega)⟩ (by(simp;omega)) ?_
     exact bB [0]
    have p16:=e16;try simp only[bQ] at p16
    refine aP<|bL [15,17] 18<|cO 3 [.w ((j4-1:Nat):Int),.w ((j4-1:Nat):Int),.ix,.rd [u_<|d4[(j4-1:Nat)]!],.ix,.rd [u_<|d4[j4]!],.ix] (rg 0 15) (DK al d4 cl j4) (oc (wi ((j4:Int)-1) ((j4-1:Nat):Int)<|by omega)<|oc (wi ((j4:Int)-1) ((j4-1:Nat):Int)<|by omega)<|oc (bH 0 (j4-1:Nat) aR rfl (by(simp;omega)))<|oc (dF 0 (j4-1:Nat) [u_<|d4[(j4-1:Nat)]!] aR rfl (eK<|by omega))<|oc (bH 0 j4 aR rfl (by(simp;omega)))<|oc (dF 0 j4 [u_<|d4[j4]!] aR rfl (eK<|by omega))<|o1<|bH 0 j4 aR rfl (by(simp;omega)))<|an 15 rfl (fB 0 j4 (d4[(j4-1:Nat)]!) rfl aR (by(simp;omega)) (aW 0 (oZ al d4 j4 cl) (cE<|by simp)<|aW 119 (oZ al d4 j4 cl) (cE<|by simp)<|cD<|cO 1 [.ix] [16] (DJ al j4) (o1<|bH 0 (j4-1:Nat) aR rfl (by(simp;omega)))<|an 17 rfl (fB 0 (j4-1:Nat) (d4[j4]!) rfl aR (by(simp;omega)) (aW 0 (vr al d4 j4 cl) (cE<|by simp)<|cb ?_))))
    obtain⟨d109,hdd109⟩: ∃z,z=swp d4 j4 (j4-1:Nat):=⟨_,rfl⟩;have hszd109:d109.size=d4.size:=(by rw[hdd109];exact jK _ _ _)
    have hcv10:((d4.toList.set j4<|d4[(j4-1:Nat)]!).set (j4-1:Nat) (d4[j4]!))=d109.toList:=by rw[hdd109];exact lu _ _ _
    refine bj 0 (sU al d109.toList cl) rfl (cw hcv10) (aW 0 (vS al d109.toList cl) (eW hcv10)<|aM<|az [.w ((j4+1:Nat):Int)] (tu j4) (o1<|wi ((j4:Int)+1) ((j4+1:Nat):Int)<|by omega) ?_)
    have hst_:shiftUp ltInt b j4 d4=_:=Ed (by omega)<|by omega
    refine bC ((j4+1:Nat),d109) ⟨(by(rw[hdd109];exact hst_.symm.trans hsu)),(by omega),(by omega)⟩ (by(simp;omega)) ?_
    exact bB [0]
   have p15:=ga e15
   refine bR<|aM<|az [.w ((k+1:Nat):Int)] [(8,c_ (k+1:Nat))] (o1<|wi ((k:Int)+1) ((k+1:Nat):Int)<|by omega) ?_
   have hF2:d4=fixUp ltInt b i2 d101:=(by unfold fixUp;(rw[if_pos<|by omega,←hsu,Ef<|by omega];done))
   have hst_:partialIns ltInt a b (5-(k+1)+1) i1 d1=_:=py (s:=5-(k+1)) hI (by omega) (by omega) hF1 hF2
   refine bC ((k+1:Nat),i2,d4) ⟨(by(rw[nl<|by omega] at he;exact hst_.symm.trans he)),(by omega),(by omega)⟩ (by(simp;omega)) ?_
   exact bB [0]
  have p14:=ga e14
  refine aP<|aM<|az [.w ((k+1:Nat):Int)] [(8,c_ (k+1:Nat))] (o1<|wi ((k:Int)+1) ((k+1:Nat):Int)<|by omega) ?_
  have hF2:d101=fixUp ltInt b i2 d101:=(by unfold fixUp;(rw[if_neg<|by omega];done))
  have hst_:partialIns ltInt a b (5-(k+1)+1) i1 d1=_:=py (s:=5-(k+1)) hI (by omega) (by omega) hF1 hF2
  refine bC ((k+1:Nat),i2,d101) ⟨(by(rw[nl<|by omega] at he;exact hst_.symm.trans he)),(by omega),(by omega)⟩ (by omega) ?_
  exact bB [0]
 have p1:=ga e1
 refine bR<|aD [(6,b_ false)]<|aF<|bJ [0] [b_ false] (false,d1) ?_ ?_
 ·rfl
 (refine⟨?_,by omega⟩;rw[show 5-k=0 by omega] at he;exact he.symm)
def iq(l:List Int):List Int:=l.mergeSort fun x y=>decide (x≤y)
theorem xp(l:bT):(iq l).length=l.length:=by unfold iq;simp
theorem QM{l:bT}{d':Array Int}(h:PermIn 0 l.length l.toArray d'∧SortedIn ltInt 0 l.length d'):d'.toList=iq l:=by
 have e:=sorted_unique_holds (lt:=ltInt) swo_ltInt (fun x y h1 h2=>by simp only[ltInt,decide_eq_false_iff_not] at h1 h2;omega) l.toArray d' (by simpa using h.1)<|by simpa using h.2
 rw[e];unfold iq
 congr 1;funext x y;simp only[ltInt]
 rw[Bool.eq_iff_iff];simp
theorem NH(al:bn)(d:Array Int)(cl:Nat)(a b lim:Nat)(ih: ∀(al':bn)(d':Array Int)(cl':Nat)(a' b' lim':Nat),b'-a'<b-a→ ∀(hb:a'≤b'∧b'≤d'.size)(hS:d'.size≤100000)(hl:lim'≤64)(hB:Below ltInt a' b' d')(w:World)(hs:HI w [sU al' d'.toList cl']),Calls Tryz.prog 259 #[vS al' d'.toList cl',c_ a',c_ b',c_ lim'] w fun e w'=> ∃zz,e= .returned ((fun(dz:(Array Int))=>(.tuple #[])) zz)∧(fun(dz:(Array Int))=>PermIn a' b' d' dz∧SortedIn ltInt a' b' dz) zz∧Turn [sU al' d'.toList cl'] ((fun(dz:(Array Int))=>[sU al' dz.toList cl']) zz) w w')(hb:a≤b∧b≤d.size)(hS:d.size≤100000)(hl:lim≤64)(hB:Below ltInt a b d)(w:World)(hs:HS w (aL [sU al d.toList cl]) [sU al d.toList cl] w):
  CV 259 #[vS al d.toList cl,c_ a,c_ b,c_ lim] w [sU al d.toList cl] (fun(dz:(Array Int))=>(.tuple #[])) (fun dz=>PermIn a b d dz∧SortedIn ltInt a b dz) fun dz=>[sU al dz.toList cl]:=by
 refine aU Tryz.func259 rfl hs (aD [(8,b_ true)]<|aD [(9,b_ true)]<|aO<|eA (σ:=Nat×Nat×Nat×(Array Int)×Bool×Bool) [] (fun(a2,b2,l2,d2,wb,wp)=>[(1,c_ a2),(2,c_ b2),(3,c_ l2),(0,vS al d2.toList cl),(8,b_ wb),(9,b_ wp)]) [0] (fun(a2,b2,l2,d2,wb,wp)=>[sU al d2.toList cl]) (fun(a2,b2,l2,d2,wb,wp)=>(∀R,PermIn a2 b2 d2 R→SortedIn ltInt a2 b2 R→PermIn a b d R∧SortedIn ltInt a b R)∧(d2.size=d.size)∧(Below ltInt a2 b2 d2)∧(a≤a2∧a2≤b2∧b2≤b∧l2≤64)) (fun(a2,b2,l2,d2,wb,wp)=>b2-a2) (a,b,lim,d,true,true) ⟨(fun R h1 h2=>⟨h1,h2⟩),(by rfl),hB,(by omega)⟩ ?_ ?_)
 ·exact bB [0]
 rintro⟨a2,b2,l2,d2,wb,wp⟩ ⟨he,hz,hB2,hr⟩
 refine aO<|bW [.w ((b2-a2:Nat):Int)] [(10,c_ (b2-a2:Nat))] (o1<|wi ((b2:Int)-(a2:Int)) ((b2-a2:Nat):Int)<|by omega)<|aE<|aD [(23,b_<|decide (((b2-a2:Nat):Int)≤12))]<|aI rfl (fun e1=>?_) (fun e1=>?_)
 ·have p1:=dZ e1
  refine aC<|bA 3 [] [(24,vS al d2.toList cl),(25,c_ a2),(26,c_ b2)]<|aG<|bM (some 27) [0] (O1 al d2 cl a2 b2 (by omega)<|by omega) ?_
  rintro d'1 hz2
  refine aW 24 (vS al d'1.toList cl) (cE<|by(simp only[Array.length_toList];exact hz2.2.symm))<|dP<|aF<|cN [0] [] (fun _ w r s=>trivial) (d'1) ?_ ?_<|by kernel_rfl
  ·rfl
  (have h_:=(by assumption:_=insertionSort ltInt d2 a2 b2∧_);rw[h_.1];have h2_:=insertionSort_holds (lt:=ltInt) swo_ltInt d2 a2 b2 (by omega) (by omega);exact he _ h2_.1 h2_.2)
 have p1:=ga e1
 refine au<|aD [(29,b_<|(l2:Int)==0)]<|aI rfl (fun e3=>?_) (fun e3=>?_)
 ·refine aC<|bA 3 [] [(30,vS al d2.toList cl),(31,c_ a2),(32,c_ b2)]<|aG<|bM (some 33) [0] (Nu al d2 cl a2 b2 (by omega)<|by omega) ?_
  rintro d'2 hz4
  refine aW 30 (vS al d'2.toList cl) (cE<|by(simp only[Array.length_toList];exact hz4.2.symm))<|dP<|aF<|cN [0] [] (fun _ w r s=>trivial) (d'2) ?_ ?_<|by kernel_rfl
  ·rfl
  (have h_:=(by assumption:_=heapSort ltInt d2 a2 b2∧_);rw[h_.1];have h2_:=heapSort_holds (lt:=ltInt) swo_ltInt d2 a2 b2 (by omega) (by omega);exact he _ h2_.1 h2_.2)
 have p3:=e3;try simp only[bQ] at p3
 refine aP<|Ad (fun((l3,d3):Nat×(Array Int))=>[(1,c_ a2),(2,c_ b2),(8,b_ wb),(9,b_ wp),(10,c_ (b2-a2:Nat)),(3,c_ l3),(0,vS al d3.toList cl)]) (fun((l3,d3):Nat×(Array Int))=>[sU al d3.toList cl]) (fun((l3,d3):Nat×(Array Int))=>(PermIn a2 b2 d2 d3∧d3.size=d.size)∧(l3≤64)) ?_ ?_
 ·refine aD [(35,b_ (!wb))]<|fx (!wb) (fun e5=>?_)<|fun e5=>?_
  ·have p5:=e5
   refine aC<|bA 3 [] [(36,vS al d2.toList cl),(37,c_ a2),(38,c_ b2)]<|aG<|bM (some 39) [0] (QL al d2 cl a2 b2 (by omega)<|by omega) ?_
   rintro d'3 hz6
   refine aW 0 (vS al d'3.toList cl) (cE<|by(simp only[Array.length_toList];exact hz6.2.symm))<|aW 36 (vS al d'3.toList cl) (cE<|by(simp only[Array.length_toList];exact hz6.2.symm))<|dP<|aM<|az [.w ((l2-1:Nat):Int)] [(3,c_ (l2-1:Nat))] (o1<|wi ((l2:Int)-1) ((l2-1:Nat):Int)<|by omega)<|jR ((l2-1:Nat),d'3) ⟨(by(have h_:=(by assumption:PermIn a2 b2 d2 _∧_);exact⟨h_.1,by omega⟩)),(by omega)⟩ ?_
   exact bB [0]
  refine aP<|jR (l2,d2) ⟨⟨permIn_refl _ _ _,hz⟩,(by omega)⟩ ?_
  exact bB [0]
 rintro⟨l3,d3⟩ ⟨hp3,hl3⟩
 refine aC<|bA 3 [] [(43,vS al d3.toList cl),(44,c_ a2),(45,c_ b2)]<|aG<|bM (some 46) [0] (QJ al d3 cl a2 b2 (by omega)<|by omega) ?_
 rintro⟨⟩-
 refine ak [(11,i_ ((rawPivot ltInt d3 a2 b2).1:Int)),(12,i_<|hintCode<|hintOf (rawPivot ltInt d3 a2 b2).2)]<|Ad (fun((p4,h4,d4):Nat×Int×(Array Int))=>[(1,c_ a2),(2,c_ b2),(8,b_ wb),(9,b_ wp),(10,c_ (b2-a2:Nat)),(3,c_ l3),(11,c_ p4),(12,i_ h4),(0,vS al d4.toList cl)]) (fun((p4,h4,d4):Nat×Int×(Array Int))=>[sU al d4.toList cl]) (fun((p4,h4,d4):Nat×Int×(Array Int))=>(PermIn a2 b2 d2 d4∧d4.size=d.size)∧(a2≤p4∧p4<b2)) ?_ ?_
 ·refine aE ?_
  have hcp:=choosePivot_holds ltInt d3 a2 b2 (by omega);rw[choosePivot_eq] at hcp;simp only[] at hcp
  obtain⟨pv,hpv_⟩: ∃z,z=(rawPivot ltInt d3 a2 b2).1:=⟨_,rfl⟩;rw[←hpv_] at hcp
  refine aW 11 (c_ pv) (ko<|by rw[hpv_]) ?_
  obtain⟨hc,hhc_⟩: ∃z,z=(hintCode<|hintOf (rawPivot ltInt d3 a2 b2).2):=⟨_,rfl⟩
  refine aW 12 (i_ hc) (ko<|by rw[hhc_])<|bX [(50,b_<|hc==2)]<|fx (hc==2) (fun e8=>?_)<|fun e8=>?_
  ·refine aC<|bA 3 [] [(51,vS al d3.toList cl),(52,c_ a2),(53,c_ b2)]<|aG<|bM (some 54) [0] (O2 al d3 cl a2 b2 (by omega)<|by omega) ?_
   rintro d'4 hz9
   refine aW 0 (vS al d'4.toList cl) (cE<|by(simp only[Array.length_toList];exact hz9.2.symm))<|aW 51 (vS al d'4.toList cl) (cE<|by(simp only[Array.length_toList];exact hz9.2.symm))<|dP<|bW [.w ((b2-1:Nat):Int),.w ((pv-a2:Nat):Int),.w (((b2-1)-(pv-a2):Nat):Int)] [(11,c_ ((b2-1)-(pv-a2):Nat))] (oc (wi ((b2:Int)-1) ((b2-1:Nat):Int)<|by omega)<|oc (wi ((pv:Int)-(a2:Int)) ((pv-a2:Nat):Int)<|by omega)<|o1<|wi (((b2-1:Nat):Int)-((pv-a2:Nat):Int)) (((b2-1)-(pv-a2):Nat):Int)<|by omega)<|bX [(12,i_ 1)]<|jR (((b2-1)-(pv-a2):Nat),1,d'4) ⟨(by(have h_:=(by assumption:_=reverseRange d3 a2 b2∧_);refine⟨permIn_trans _ _ _ a2 b2 hp3.1 ?_,by omega⟩;rw[h_.1];exact reverseRange_holds d3 a2 b2 (by omega)<|by omega)),(by omega)⟩ ?_
   exact bB [0]
  refine aP<|jR (pv,hc,d3) ⟨hp3,(by omega)⟩ ?_
  exact bB [0]
 rintro⟨p4,h4,d4⟩ ⟨hp4,hpv⟩
 refine Ad (fun(zz:(Array Int))=>match zz with|d5=>[(1,c_ a2),(2,c_ b2),(8,b_ wb),(9,b_ wp),(10,c_ (b2-a2:Nat)),(3,c_ l3),(11,c_ p4),(0,vS al d5.toList cl)]) (fun(zz:(Array Int))=>match zz with|d5=>[sU al d5.toList cl]) (fun(zz:(Array Int))=>match zz with|d5=>(PermIn a2 b2 d2 d5∧d5.size=d.size)) ?_ ?_
 ·refine aC<|bF [.o,.cl,.o,.cl] [(68,b_<|(wb&&wp)&&(h4==1))]<|aI rfl (fun e10=>?_) (fun e10=>?_)
  ·refine aC<|bA 3 [] [(69,vS al d4.toList cl),(70,c_ a2),(71,c_ b2)]<|aG<|bM (some 72) [0] (O6 al d4 cl a2 b2 (by omega)<|by omega) ?_
   rintro⟨q'5,d'6⟩ hz11
   refine aW 0 (vS al d'6.toList cl) (cE<|by(simp only[Array.length_toList];exact hz11.2.symm))<|aW 69 (vS al d'6.toList cl) (cE<|by(simp only[Array.length_toList];exact hz11.2.symm))<|dP<|fx (q'5) (fun e12=>?_)<|fun e12=>?_
   ·refine aF<|cN [0] [] (fun _ w r s=>trivial) (d'6) ?_ ?_<|by kernel_rfl
    ·rfl
    (have h_:=(by assumption:partialInsertionSort ltInt d4 a2 b2=_∧_);have h2_:=partialInsertionSort_holds (lt:=ltInt) swo_ltInt d4 a2 b2 (by omega) (by omega)<|hB2.perm (by omega) hp4.1;rw[h_.1] at h2_;exact he _ (permIn_trans _ _ _ a2 b2 hp4.1 h2_.1)<|h2_.2 ‹_›)
   refine aP<|jR (d'6) (by(have h_:=(by assumption:partialInsertionSort ltInt d4 a2 b2=_∧_);have h2_:=partialInsertionSort_holds (lt:=ltInt) swo_ltInt d4 a2 b2 (by omega) (by omega)<|hB2.perm (by omega) hp4.1;rw[h_.1] at h2_;exact⟨permIn_trans _ _ _ a2 b2 hp4.1 h2_.1,by omega⟩)) ?_
   exact bB [0]
  refine aP<|jR (d4) hp4 ?_
  exact bB [0]
 rintro d5 hp5
 have hp5:PermIn a2 b2 d2 d5∧d5.size=d.size:=hp5
 have hB5:Below ltInt a2 b2 d5:=hB2.perm (by omega) hp5.1
 refine aE<|aE<|fS [.o,.w ((a2-1:Nat):Int),.ix,.rd [u_<|d5[(a2-1:Nat)]!],.ix,.rd [u_<|d5[p4]!],.cq<|b_<|decide ((d5[(a2-1:Nat)]!)<(d5[p4]!)),.cl] (rg 0 15) [] [(87,b_<|(decide ((a2:Int)>0))&&(!(decide ((d5[(a2-1:Nat)]!)<(d5[p4]!)))))] (oc (go (true&&((decide ((a2:Int)>0))==true)) fun h_=>(wo<|(j8 (e:=(a2:Int)-1)<|by(constructor<;>omega)).trans (by(simp at h_;omega):((a2:Int)-1:Int)=((a2-1:Nat):Int))))<|oc (go (true&&((decide ((a2:Int)>0))==true)) fun h_=>(bH 0 (a2-1:Nat) aR rfl (by(simp;omega))))<|oc (go (true&&((decide ((a2:Int)>0))==true)) fun h_=>(dF 0 (a2-1:Nat) [u_<|d5[(a2-1:Nat)]!] aR rfl (eK<|by omega)))<|oc (go (true&&((decide ((a2:Int)>0))==true)) fun h_=>(bH 0 p4 aR rfl (by(simp;omega))))<|oc (go (true&&((decide ((a2:Int)>0))==true)) fun h_=>(dF 0 p4 [u_<|d5[p4]!] aR rfl (eK<|by omega)))<|o1<|go (true&&((decide ((a2:Int)>0))==true)) fun h_=>(qw<|kH (d5[(a2-1:Nat)]!)<|d5[p4]!)) ?_
 refine aI rfl (fun e13=>?_) (fun e13=>?_)
 ·have p13:=e13;try simp only[bQ] at p13
  refine aC<|bA 4 [] [(88,vS al d5.toList cl),(89,c_ a2),(90,c_ b2),(91,c_ p4)]<|aG<|bM (some 92) [0] (Nv al d5 cl a2 b2 p4 (by omega)<|by omega) ?_
  rintro⟨m'7,d'8⟩ hz14
  refine aW 0 (vS al d'8.toList cl) (cE<|by(simp only[Array.length_toList];exact hz14.2.symm))<|aW 88 (vS al d'8.toList cl) (cE<|by(simp only[Array.length_toList];exact hz14.2.symm))<|ak [(13,c_ m'7)]<|aE ?_
  have hx_:=(by assumption:partitionEqual ltInt d5 a2 b2 p4=_∧_);have hnl_:ltInt d5[a2-1]! d5[p4]! =false:=(by unfold ltInt;simp_all);obtain⟨rq1,rq2,rqS,rqB,rqE⟩:=round_eq swo_ltInt (partitionEqual_holds (lt:=ltInt)) (by omega) hpv.1 hpv.2 (by omega) hB5 hnl_ hx_.1
  refine bX [(1,c_ m'7)]<|bR<|bC (m'7,b2,l3,d'8,wb,wp) ⟨(fun R h1 h2=>he R (permIn_trans _ _ _ a2 b2 hp5.1 (rqE R h1 h2).1) (rqE R h1 h2).2),(by omega),rqB,(by omega)⟩ (by(simp;omega)) ?_
  exact bB [0]
 refine aP<|aC<|bA 4 [] [(95,vS al d5.toList cl),(96,c_ a2),(97,c_ b2),(98,c_ p4)]<|aG<|bM (some 99) [0] (O4 al d5 cl a2 b2 p4 (by omega)<|by omega) ?_
 rintro⟨m'9,q'10,d'11⟩ hz15
 refine aW 0 (vS al d'11.toList cl) (cE<|by(simp only[Array.length_toList];exact hz15.2.symm))<|aW 95 (vS al d'11.toList cl) (cE<|by(simp only[Array.length_toList];exact hz15.2.symm))<|ak [(14,c_ m'9),(15,b_ q'10)]<|aD [(9,b_ q'10)]<|aE ?_
 have hx_:=(by assumption:partition ltInt d5 a2 b2 p4=_∧_);obtain⟨rp1,rp2,rp3,rp4,rp5,rpL,rpR⟩:=round_part swo_ltInt (partition_holds (lt:=ltInt)) hpv.1 hpv.2 (by omega) hB5 hx_.1
 refine aM<|az [.w ((m'9-a2:Nat):Int),.w ((b2-m'9:Nat):Int)] [(16,c_ (m'9-a2:Nat)),(17,c_ (b2-m'9:Nat))] (oc (wi ((m'9:Int)-(a2:Int)) ((m'9-a2:Nat):Int)<|by omega)<|o1<|wi ((b2:Int)-(m'9:Int)) ((b2-m'9:Nat):Int)<|by omega)<|bW [.w (((b2-a2)/8:Nat):Int)] [(18,c_ ((b2-a2)/8:Nat))] (o1<|wo<|(j8 (e:=((b2-a2:Nat):Int).tdiv 8)<|by(rw[VZ];constructor<;>omega)).trans (by rfl:(((b2-a2:Nat):Int).tdiv 8:Int)=(((b2-a2)/8:Nat):Int))) ?_
 refine aD [(113,b_<|decide (((m'9-a2:Nat):Int)<((b2-m'9:Nat):Int)))]<|aI rfl (fun e16=>?_) (fun e16=>?_)
 ·have p16:=dZ e16
  refine aD [(1,c_ a2),(2,c_ b2),(3,c_ l3),(0,vS al d'11.toList cl),(14,c_ m'9),(9,b_ q'10),(8,b_<|decide (((m'9-a2:Nat):Int)≥(((b2-a2)/8:Nat):Int)))]<|aC<|bA 4 [] [(117,vS al d'11.toList cl),(118,c_ a2),(119,c_ m'9),(120,c_ l3)]<|aG<|bM (some 121) [0] (ih al d'11 cl a2 m'9 l3 (by omega) (by omega) (by omega) ‹_› ‹_›) ?_
  rintro dz12 hz17
  refine aW 0 (vS al dz12.toList cl) (cE<|by(simp only[Array.length_toList];exact hz17.1.1.symm))<|aW 117 (vS al dz12.toList cl) (cE<|by(simp only[Array.length_toList];exact hz17.1.1.symm))<|dP ?_
  have hy_:=(by assumption:PermIn a2 _ _ _∧SortedIn ltInt a2 _ _);have rqL:=rpL _ hy_.1 hy_.2;have rqS:=hy_.1.1
  refine aM<|az [.w ((m'9+1:Nat):Int)] [(1,c_ (m'9+1:Nat))] (o1<|wi ((m'9:Int)+1) ((m'9+1:Nat):Int)<|by omega)<|(bC ((m'9+1:Nat),b2,l3,dz12,decide (((m'9-a2:Nat):Int)≥(((b2-a2)/8:Nat):Int)),q'10) ⟨(fun R h1 h2=>he R (permIn_trans _ _ _ a2 b2 hp5.1 (rqL.2 R h1 h2).1) (rqL.2 R h1 h2).2),(by omega),rqL.1,(by omega)⟩ (by(simp;omega)) ?_)
  exact bB [0]
 have p16:=ga e16
 refine aD [(1,c_ a2),(2,c_ b2),(3,c_ l3),(0,vS al d'11.toList cl),(14,c_ m'9),(9,b_ q'10),(8,b_<|decide (((b2-m'9:Nat):Int)≥(((b2-a2)/8:Nat):Int)))]<|aC<|dm 5 [.w ((m'9+1:Nat):Int)] [(127,vS al d'11.toList cl),(129,c_ (m'9+1:Nat)),(130,c_ b2),(131,c_ l3)] (o1<|wi ((m'9:Int)+1) ((m'9+1:Nat):Int)<|by omega)<|aG<|bM (some 132) [0] (ih al d'11 cl (m'9+1:Nat) b2 l3 (by omega) (by omega) (by omega) ‹_› ‹_›) ?_
 rintro dz13 hz18
 refine aW 0 (vS al dz13.toList cl) (cE<|by(simp only[Array.length_toList];exact hz18.1.1.symm))<|aW 127 (vS al dz13.toList cl) (cE<|by(simp only[Array.length_toList];exact hz18.1.1.symm))<|dP ?_
 have hy_:=(by assumption:PermIn _ b2 _ _∧SortedIn ltInt _ b2 _);have rqL:=rpR _ hy_.1 hy_.2;have rqS:=hy_.1.1
 refine bX [(2,c_ m'9)]<|(bC (a2,m'9,l3,dz13,decide (((b2-m'9:Nat):Int)≥(((b2-a2)/8:Nat):Int)),q'10) ⟨(fun R h1 h2=>he R (permIn_trans _ _ _ a2 b2 hp5.1 (rqL.2 R h1 h2).1) (rqL.2 R h1 h2).2),(by omega),rqL.1,(by omega)⟩ (by(simp;omega)) ?_)
 exact bB [0]
theorem IH(al:bn)(d:Array Int)(cl:Nat)(a b lim:Nat)(hb:a≤b∧b≤d.size)(hS:d.size≤100000)(hl:lim≤64)(hB:Below ltInt a b d)(w:World)(hs:HS w (aL [sU al d.toList cl]) [sU al d.toList cl] w):
  Calls Tryz.prog 259 #[vS al d.toList cl,c_ a,c_ b,c_ lim] w fun e w'=> ∃zz,e= .returned ((fun(dz:(Array Int))=>(.tuple #[])) zz)∧(fun(dz:(Array Int))=>PermIn a b d dz∧SortedIn ltInt a b dz) zz∧Turn [sU al d.toList cl] ((fun(dz:(Array Int))=>[sU al dz.toList cl]) zz) w w':=
 NH al d cl a b lim (fun al' d' cl' a' b' lim' hlt_ g0_ g1_ g2_ g3_ w_ y_=>IH al' d' cl' a' b' lim' g0_ g1_ g2_ g3_ w_ y_) hb hS hl hB w hs
termination_by b-a
decreasing_by exact hlt_
theorem Nw(ah:bn)(l:bT)(c:Nat)(hl:l.length≤100000):
  CS 227 #[vS ah l c] [sU ah l c] (fun(zz:Unit)=>(.tuple #[])) (fun _=>True) fun _=>[sU ah (iq l) c]:=by
 intro w hs
 have hbl:Lib.bitLen l.length≤64:=(by rcases Nat.eq_zero_or_pos l.length with h|h;(rw[h];decide);(have:=Gz l.length h hl;omega))
 refine aU Tryz.func227 rfl hs (aD [(2,c_ l.length)]<|?_)
 have hcv1:l=l.toArray.toList:=by simp
 refine bj 0 (sU ah l.toArray.toList c) rfl (cw hcv1) (aW 0 (vS ah l.toArray.toList c) (eW hcv1)<|aM<|dm 5 [.w (l.length:Int),.cq<|i_ (Lib.bitLen l.length:Int)] [(5,vS ah l.toArray.toList c),(6,c_ l.length),(9,i_ (Lib.bitLen l.length:Int))] (oc (wv (l.length:Int)<|by omega)<|o1<|qw<|IG l.length<|by omega)<|aG<|bM (some 10) [0] (IH ah l.toArray c 0 l.length (Lib.bitLen l.length) (by(constructor<;>simp)) ‹_› ‹_› (.inl rfl)) ?_)
 rintro dz2 hz1
 refine aW 5 (vS ah dz2.toList c) (cE<|by(simp only[Array.length_toList];exact hz1.1.1.symm))<|dP<|bj 0 (sU ah (iq l) c) rfl (cw (QM ‹_›:dz2.toList=(iq l))) (jk [0] [] (fun _ w r s=>trivial) () ?_ ?_<|by kernel_rfl)
 ·rfl
 trivial
end Go.Proofs.YtobgjpigngoggaaGreat
namespace Go.Proofs.YtobgjpigngoggaaGreat
open Go V Go.Sort
open Go.RowKit Go.Shelf Go.Lib
def jf(l:List Int):List Int:=compactUpTo l.toArray l.toArray.size
theorem II(l:bT):(jf l).length≤l.length:=by
 unfold jf compactUpTo;rw[List.length_map]
 exact Nat.le_trans (List.length_filter_le _ _)<|by simp
def Tryz.cmpU_ren:Go.Shelf.Ren:=⟨fun|43=>228|n=>n,fun|22=>233|23=>40|3=>3|4=>4|0=>0|n=>n,fun|n=>n⟩
theorem Tryz.cmpU:Go.Proofs.SlLaysE.n43 Tryz.prog Tryz.cmpU_ren:={
 mixed:=by kernel_rfl,
 f43:=⟨Tryz.f228.name,by decide,Tryz.func228.trans<|congrArg some<|by kernel_rfl⟩,
 t0:=Tryz.underlying0,
 a0:=Tryz.isAgg0,
 z0:=Tryz.sizeOf0,
 v0:=Tryz.zeroValue0,
 t3:=Tryz.underlying3,
 a3:=Tryz.isAgg3,
 z3:=Tryz.sizeOf3,
 v3:=Tryz.zeroValue3,
 t4:=Tryz.underlying4,
 a4:=Tryz.isAgg4,
 z4:=Tryz.sizeOf4,
 v4:=Tryz.zeroValue4,
 t22:=Tryz.underlying233,
 a22:=Tryz.isAgg233,
 z22:=Tryz.sizeOf233,
 v22:=Tryz.zeroValue233,
 a23:=Tryz.isAgg40,
 z23:=Tryz.sizeOf40}
set_option maxHeartbeats 4000000 in
set_option maxRecDepth 100000 in
theorem Nx(w:World):
  CW 228 #[e_] w e_:=by
 refine aU Tryz.func228 rfl (HS.nil w) (eo [(0,e_)] [] ⟨rfl,trivial⟩ rfl (aD []<|aE<|aD [(8,b_ true)]<|kE rfl (aD [(2,e_)]<|aF<|gX [e_] (fun _ w r s=>⟨dM r rfl,trivial⟩) ?_)))
 rfl
theorem N2(ah:bn)(l:bT)(c:Nat)(hl:l.length≤100000):
  CS 228 #[vS ah l c] [sU ah l c] (fun(zz:Unit)=>(vS ah (jf l) c)) (fun _=>True) fun _=>[sU ah (jf l) c]:=by
 intro w hs
 have h0:(sU ah l c).holds w:=hs.all _<|by simp
 cases ah with
 |none=>
  have hl0:l=[]∧c=0:=by
   obtain⟨_,h2,_,⟨_,h4⟩|⟨_,_,_,h4,_⟩⟩:=h0
   ·exact⟨List.eq_nil_of_length_eq_zero<|by omega,h4⟩
   ·cases h4
  obtain⟨rfl,rfl⟩:=hl0
  refine(Nx w).mono ?_
  rintro e w' ⟨rfl,hf⟩
  refine⟨(),rfl,trivial,?_⟩
  exact Turn.of (hs.kept hf)<|.refl _
 |some a=>
  obtain⟨g,off,rfl⟩: ∃g off,a=⟨g,off,none⟩:=by
   obtain⟨_,_,_,⟨h4,_⟩|⟨g,off,_,h4,_⟩⟩:=id h0
   ·cases h4
   ·cases h4;exact⟨g,off,rfl⟩
  obtain⟨hH,hlt⟩:=Gm (k:= .u64) (fun _=>rfl) h0
  have hcap:l.length≤c:=h0.2.1
  have hC:=AnyE.slices_Compact Tryz.cmpU (Value.int .u64) (fun _=>rfl) (EqlAt.intD _ _ _) (NeqAt.intD _ _ _) 0 (fun w=>Tryz.zeroValue40 w) g off c l.toArray w hH (by simp;omega)<|by simpa using hcap
  rw[show l.toArray.size=l.length by simp] at hC
  refine hC.mono ?_
  rintro e w' ⟨rfl,q,rfl⟩
  refine⟨(),by show Ending.returned _=_;simp only[jf];simp,trivial,?_⟩
  have hle:=II l
  have hlen:(jf l).length+(List.replicate (l.length-(jf l).length) (0:Int)).length=l.length:=by simp;omega
  have:=KN (enc:=fP) (k:= .u64) (q:=q) (rest:=List.replicate (l.length-(jf l).length) (0:Int)) (ts:=jf l) (fun _=>rfl) hlen h0
  have e2:compactUpTo l.toArray l.length=jf l:=by unfold jf;simp
  rw[e2];exact this
end Go.Proofs.YtobgjpigngoggaaGreat
namespace Go.Proofs.YtobgjpigngoggaaGreat
open Go V
def uy(R:List Int):Prop:=R.Pairwise (· < ·)
theorem QO{A:bT}{y:Int}(h:uy A)(hy: ∀a∈A,a<y):uy (A++[y]):=List.pairwise_append.2 ⟨h,by simp,fun a ha b hb=>by simp at hb;subst hb;exact hy a ha⟩
theorem Kt{d:Array Int}(hd: ∀i,i+1<d.size→d[i]! ≤d[i+1]!): ∀m,m≤d.size→(∀y,y∈Go.Lib.compactUpTo d m↔ ∃j,j<m∧d[j]! =y)∧uy (Go.Lib.compactUpTo d m)∧ ∀y∈Go.Lib.compactUpTo d m,y≤d[m-1]!
 |0,_=>⟨fun y=>by simp[Go.Lib.compactUpTo],by simp[Go.Lib.compactUpTo,uy],fun y h=>by simp[Go.Lib.compactUpTo] at h⟩
 |m+1,hm=>by
  obtain⟨h1,h2,h3⟩:=Kt hd m<|by omega
  rw[Go.Lib.compactUpTo_succ]
  have hstep: ∀y∈Go.Lib.compactUpTo d m,y≤d[m]! :=fun y hy=>by
   have hy2:=h3 y hy
   cases m with
   |zero=>simp[Go.Lib.compactUpTo] at hy
   |succ q=>have:=hd q (by omega);simp at hy2;omega
  by_cases hk:Go.Lib.keeps d m=true
  ·rw[if_pos hk]
   refine⟨fun y=>?_,?_,fun y hy=>?_⟩
   ·rw[List.mem_append,h1,List.mem_singleton];constructor
    ·rintro(⟨j,hj,e⟩|e)
     ·exact⟨j,by omega,e⟩
     ·exact⟨m,by omega,e.symm⟩
    ·rintro⟨j,hj,e⟩
     by_cases g:j=m
     ·subst g;exact .inr e.symm
     ·exact .inl ⟨j,by omega,e⟩
   ·refine QO h2 fun y hy=>?_
    have h4:=hstep y hy
    cases m with
    |zero=>simp[Go.Lib.compactUpTo] at hy
    |succ q=>
     have h5:=h3 y hy;have h6:=hd q<|by omega
     simp[Go.Lib.keeps] at hk
     simp at h5
     have h7:d[q+1]! ≠d[q]! :=fun e=>hk e
     omega
   ·rcases List.mem_append.1 hy with hy|hy
    ·exact hstep y hy
    ·simp at hy;subst hy;simp
  ·rw[if_neg hk,List.append_nil]
   have hq:m≠0∧d[m]! =d[m-1]! :=by simp[Go.Lib.keeps] at hk;exact hk
   refine⟨fun y=>?_,h2,fun y hy=>hstep y hy⟩
   rw[h1];constructor
   ·rintro⟨j,hj,e⟩;exact⟨j,by omega,e⟩
   ·rintro⟨j,hj,e⟩
    by_cases g:j=m
    ·subst g;exact⟨j-1,by omega,by rw[←hq.2];exact e⟩
    ·exact⟨j,by omega,e⟩
theorem Ny(l:bT):(iq l).Perm l:=List.mergeSort_perm _ _
theorem QP(l:bT):(iq l).Pairwise (· ≤ ·):=by
 have tr: ∀a b c:Int,decide (a≤b)=true→decide (b≤c)=true→decide (a≤c)=true:=fun a b c h1 h2=>by simp only[decide_eq_true_eq] at*;omega
 have to: ∀a b:Int,(decide (a≤b)||decide (b≤a))=true:=fun a b=>by simp only[Bool.or_eq_true,decide_eq_true_eq];omega
 exact(List.pairwise_mergeSort tr to l).imp fun h=>by simpa using h
theorem IM(l:bT):uy (jf<|iq l)∧ ∀y,y∈jf (iq l)↔y∈l:=by
 have hd: ∀i,i+1<(iq l).toArray.size→(iq l).toArray[i]! ≤(iq l).toArray[i+1]! :=fun i hi=>by
  rw[getElem!_pos _ i<|by omega,getElem!_pos _ (i+1) hi]
  simpa using List.pairwise_iff_getElem.1 (QP l) i (i+1) (by simp at hi;omega) (by simpa using hi) (by omega)
 obtain⟨h1,h2,_⟩:=Kt hd (iq l).toArray.size (Nat.le_refl _)
 refine⟨h2,fun y=>?_⟩
 unfold jf;rw[h1,←(Ny l).mem_iff,List.mem_iff_getElem]
 constructor
 ·rintro⟨j,hj,e⟩
  refine⟨j,by simpa using hj,?_⟩
  rw[getElem!_pos _ j hj] at e;simpa using e
 ·rintro⟨j,hj,e⟩
  refine⟨j,by simpa using hj,?_⟩
  rw[getElem!_pos _ j<|by simpa using hj];simpa using e
def fi(l:List Cv):List Int:=(l.filter fun v=>aV v.ka v.kb v.kc==3||aV v.ka v.kb v.kc==4).map (·.kb)
theorem xq(l:List Cv)(x:Cv):fi (l++[x])=fi l++(if(aV x.ka x.kb x.kc==3||aV x.ka x.kb x.kc==4)=true then[x.kb] else[]):=by
 unfold fi;rw[List.filter_append,List.map_append];by_cases h:(aV x.ka x.kb x.kc==3||aV x.ka x.kb x.kc==4)=true<;>simp[h]
theorem IN(l:List Cv):(fi l).length≤l.length:=by unfold fi;rw[List.length_map];exact List.length_filter_le _ _
def kP(l:List Cv):List Int:=jf<|iq<|fi l
theorem SU(l:List Cv):(kP l).length≤l.length:=Nat.le_trans (II _) (by rw[xp];exact IN l)
theorem QQ(al:bn)(l:List Cv)(cl:Nat)(hl:l.length≤1000)(w:World)(r0:dR w al (V.aQ cZ l))(hs:HI w []):
  CV 177 #[vS al l cl] w [] (fun((al',cl'):(bn)×Nat)=>(vS al' (kP l) cl')) (fun _=>True) fun(al',cl')=>[sU al' (kP l) cl']:=by
 refine aU Tryz.func177 rfl hs (aD []<|aD [(3,e_)]<|aE<|aD [(7,vS al l cl),(8,c_ l.length),(9,i_ 0)]<|aO<|gC 40 1 [sU none ([]:bT) 0] rfl (bj 0 (sU none (fi<|l.take 0) 0) rfl (cw (by rfl:([]:bT)=(fi<|l.take 0))) (aW 3 (vS none (fi<|l.take 0) 0) (congrArg (fun z_:bT=>some<|Value.slice none z_.length 0) (by rfl:([]:bT)=(fi<|l.take 0)))<|eA (σ:=Nat×(bn)×Nat) [] (fun(k,ao,co)=>[(9,c_ k),(3,vS ao (fi<|l.take k) co)]) [0] (fun(k,ao,co)=>[sU ao (fi<|l.take k) co]) (fun(k,ao,co)=>(k≤l.length)) (fun(k,ao,co)=>l.length-k) (0,none,0) (by omega) ?_ ?_)))
 ·exact bB [0]
 rintro⟨k,ao,co⟩ hk
 have hk:k≤l.length:=hk
 have hkl:(fi<|l.take k).length≤k:=Nat.le_trans (IN _) (by simp;omega)
 refine aD [(10,b_<|decide ((k:Int)<(l.length:Int)))]<|aE<|aI rfl (fun e1=>?_) (fun e1=>?_)
 ·have p1:=dZ e1
  refine au<|aO<|aC<|ic [.ix] [(11,.pointer<|some<|(aZ al).add (k*3))] (o1<|io (k:Int)<|dh kG (by decide) (bg r0<|by simp[aL])<|by omega) ?_
  obtain⟨x2,hx2⟩: ∃x,(l)[k]? =some x:=⟨_,dA<|by omega⟩
  refine iE [.rd<|cZ x2,.al,.st 1] [] (fun b3=>[(5,p_ b3)]) (fun b3=>[]) (fun b3=>aA b3 (cZ x2) 60) (fun b3=>o1<|ro ((aZ al).add (k*3))<|dY (vs:=(cZ x2)) kG (bg r0<|by simp[aL]) hx2 (Nat.le_of_ble_eq_true rfl) rfl) ?_
  intro b3
  refine bW [.ld 1,.cq<|i_<|aV x2.ka x2.kb x2.kc] [(6,i_<|aV x2.ka x2.kb x2.kc)] (o1<|qw<|qV x2.ka x2.kb x2.kc)<|aC<|bF [.o,.cl] [(20,b_<|((aV x2.ka x2.kb x2.kc)==3)||((aV x2.ka x2.kb x2.kc)==4))]<|aI rfl (fun e2=>?_) (fun e2=>?_)
  ·refine aM<|bA 3 [.ld 1] [(21,vS ao (fi<|l.take k) co),(23,u_ x2.kb)]<|aG<|eB 24 (e:=40) [u_ x2.kb] (by kernel_rfl) rfl (fun _=>by kernel_rfl) _ (fun _=>rfl) ?_
   intro b4
   refine aG<|gn fP (fi<|l.take k) ([x2.kb]) 0 25 (u_ 0) 8 aR vd (eV (i:=2) rfl) (by simp;omega) ?_
   intro A5 c5
   refine ak [(3,vS A5 ((fi<|l.take k)++([x2.kb])) c5)]<|aM<|az [.w<|(k:Int)+1] [(9,i_<|(k:Int)+1)] (o1<|wj ((k:Int)+1)<|by omega)<|bj 0 (sU A5 (fi<|l.take<|k+1) c5) rfl (cw (by(rw[jC ‹_›,xq];simp_all;done):(fi<|l.take k)++([x2.kb])=(fi<|l.take<|k+1))) (aW 3 (vS A5 (fi<|l.take<|k+1) c5) (eW<|by(rw[jC ‹_›,xq];simp_all;done))<|bC (k+1,A5,c5) (by omega) (by(simp;omega)) ?_)
   exact bB [0]
  have p2:=e2
  refine aP<|aM<|az [.w<|(k:Int)+1] [(9,i_<|(k:Int)+1)] (o1<|wj ((k:Int)+1)<|by omega)<|bj 0 (sU ao (fi<|l.take<|k+1) co) rfl (cw (by(rw[jC ‹_›,xq];simp_all;done):(fi<|l.take k)=(fi<|l.take<|k+1))) (aW 3 (vS ao (fi<|l.take<|k+1) co) (eW<|by(rw[jC ‹_›,xq];simp_all;done))<|bC (k+1,ao,co) (by omega) (by(simp;omega)) ?_)
  exact bB [0]
 have p1:=ga e1
 refine bR<|aC<|cP [.p] [(27,vS ao (fi<|l.take k) co)]<|aG<|bM (some 28) [0] (Nw ao (fi<|l.take k) co<|by omega) ?_
 rintro⟨⟩-
 refine aW 3 (vS ao (iq<|fi<|l.take k) co) (cE<|by simp[xp])<|aW 27 (vS ao (iq<|fi<|l.take k) co) (cE<|by simp[xp])<|dP<|aC<|cP [.p] [(29,vS ao (iq<|fi<|l.take k) co)]<|aG<|bM (some 30) [0] (N2 ao (iq<|fi<|l.take k) co<|by(rw[xp];omega)) ?_
 rintro⟨⟩-
 refine ak [(2,vS ao (jf<|iq<|fi<|l.take k) co)]<|aF<|bj 0 (sU ao (kP l) co) rfl (cw (by(rw[show k=l.length by omega,List.take_length];rfl):(jf<|iq<|fi<|l.take k)=(kP l))) (bJ [0] [vS ao (jf<|iq<|fi<|l.take k) co] (ao,co) ?_ ?_)
 ·rw[show k=l.length by omega,List.take_length];rfl
 trivial
def wZ(v:Cv):Bool:=aV v.ka v.kb v.kc==0
def kX(t:Int)(l:List Cv):Int:=if t<1∨t>65536 then 1 else if l.any wZ=true then 21 else 0
def MC(l:List Cv)(t k:Int):Bool:=decide (dc l k*t>65536*k)
def jF(t:Int)(l:List Cv):Int×Bool:=if kX t l≠0 then(0,false) else match(kP l).find? (MC l t) with
 |some k=>(k,true)
 |none=>(0,decide (dI false l*t>65536*1))
def lS(t:Int)(l:List Cv):Int:=if kX t l≠0 then kX t l else if(jF t l).2=true then 22 else 0
variable{t:Int}
theorem AD{x X:Int}(hx:0≤x∧x≤X)(ht:1≤t∧t≤65536):0≤x*t∧x*t≤X*65536:=EZ hx<|by omega
variable{l:List Cv}{f:Cv→Bool}{k:Nat}
theorem S5{i:Cv}(h:l[k]? =some i)(hf:f i=true):l.any f=true:=List.any_eq_true.2 ⟨i,cT h,hf⟩
theorem J8(hn: ∀x∈l.take k,f x=false)(hk:l.length≤k):l.any f=false:=by
 rw[List.take_of_length_le hk] at hn;rw[List.any_eq_false];intro x hx;simp[hn x hx]
theorem S7{i:Cv}(hn: ∀x∈l.take k,f x=false)(h:l[k]? =some i)(hf:f i=false): ∀x∈l.take (k+1),f x=false:=by
 rw[jC h];intro x hx;rcases List.mem_append.1 hx with hx|hx
 ·exact hn x hx
 ·simp at hx;rw[hx];exact hf
variable{l:bT}{f:Int→Bool}
theorem S8{i:Int}(hn: ∀x∈l.take k,f x=false)(h:l[k]? =some i)(hf:f i=false): ∀x∈l.take (k+1),f x=false:=by
 rw[jC h];intro x hx;rcases List.mem_append.1 hx with hx|hx
 ·exact hn x hx
 ·simp at hx;rw[hx];exact hf
theorem QZ{x:Int}(hn: ∀x∈l.take k,f x=false)(h:l[k]? =some x)(hf:f x=true):l.find? f=some x:=by
 have hlt:=(dT.1 h).1
 have e:l=l.take k++x::l.drop (k+1):=by
  have:=dT.1 h
  rw[←this.2,List.getElem_cons_drop,List.take_append_drop]
 rw[List.find?_eq_some_iff_append]
 exact⟨hf,_,_,e,fun y hy=>by simp[hn y hy]⟩
theorem IU(hn: ∀x∈l.take k,f x=false)(hk:l.length≤k):l.find? f=none:=by
 rw[List.take_of_length_le hk] at hn;rw[List.find?_eq_none];intro x hx;simp[hn x hx]
variable{l:List Cv}
theorem Vn(h:kX t l=0):(1≤t∧t≤65536)∧ ∀v∈l,aV v.ka v.kb v.kc≠0:=by
 unfold kX at h;split at h
 ·omega
 ·split at h
  ·omega
  ·rename_i h1 h2
   refine⟨by omega,fun v hv e=>h2<|List.any_eq_true.2 ⟨v,hv,by unfold wZ;rw[e];rfl⟩⟩
theorem Q0(hR: ∀v∈l,lX v): ∀y∈kP l,0≤y∧y<18446744073709551616:=fun y hy=>by
 have h:=((IM<|fi l).2 y).1 hy
 unfold fi at h
 obtain⟨v,hv,rfl⟩:=List.mem_map.1 h
 exact(lR<|hR v (List.mem_filter.1 hv).1).2.1
theorem HF(t:Int)(al:bn)(l:List Cv)(cl:Nat)(hl:l.length≤1000)(w:World)(r0:dR w al (V.aQ cZ l)):
  CW 136 #[i_ t,vS al l cl] w (i_<|kX t l):=by
 refine aU Tryz.func136 rfl (HS.nil w) (aD []<|aE<|aO<|aC<|bF [.o,.cl] [(5,b_<|(decide (t<1))||(decide (t>65536)))]<|aI rfl (fun e1=>?_) (fun e1=>?_))
 ·have p1:=e1;try simp only[bQ] at p1
  refine aD [(4,i_ 1)]<|aF<|bK [i_ 1] ?_
  refine congrArg (Value.int .i64) ?_;unfold kX;(rw[if_pos<|by omega];done)
 have p1:=e1;try simp only[bQ] at p1
 refine aC<|cP [.p] [(13,vS al l cl)]<|aG<|dx (some 14) [vS al l cl,.func (.func 175) #[] #[]] Tryz.func174 rfl (aD []<|aC<|bA 2 [] [(5,vS al l cl),(6,.func (.func 175) #[] #[])]<|aG<|dx (some 7) [vS al l cl,.func (.func 175) #[] #[]] Tryz.func226 rfl (aD []<|aE<|aD [(7,c_ l.length),(8,i_ 0)]<|aO<|eA (σ:=Nat) [] (fun k=>[(8,c_ k)]) [] (fun k=>[]) (fun k=>(k≤l.length)∧(∀x∈l.take k,wZ x=false)) (fun k=>l.length-k) (0:Nat) ⟨(by omega),(by simp)⟩ ?_ ?_))
 ·exact bB []
 rintro k ⟨hk,hn⟩
 refine aD [(9,b_<|decide ((k:Int)<(l.length:Int)))]<|aE<|aI rfl (fun e2=>?_) (fun e2=>?_)
 ·have p2:=dZ e2
  refine au<|aO<|aD [(5,c_ k)]<|aC<|dm 4 [.ix] [(11,.func (.func 175) #[] #[]),(14,.pointer<|some<|(aZ al).add (k*3))] (o1<|io (k:Int)<|dh kG (by decide) (bg r0<|by simp[aL])<|by omega) ?_
  obtain⟨x1,hx1⟩: ∃x,(l)[k]? =some x:=⟨_,dA<|by omega⟩
  refine ic [.rd<|cZ x1] [(15,.agg (cZ x1).toArray)] (o1<|ro ((aZ al).add (k*3))<|dY (vs:=(cZ x1)) kG (bg r0<|by simp[aL]) hx1 (Nat.le_of_ble_eq_true rfl) rfl)<|aG<|dx (some 16) [.agg (cZ x1).toArray] Tryz.func175 rfl (aC<|dD [.al] [] (fun b2=>[(1,p_ b2)]) (fun b2=>aA b2 (cZ x1) 60) ?_)
  intro b2
  refine bW [.ld 0,.cq<|b_<|aV x1.ka x1.kb x1.kc !=0] [(2,b_ (!(aV x1.ka x1.kb x1.kc !=0)))] (o1<|qw<|rY x1.ka x1.kb x1.kc)<|aF<|dO [b_ (!(aV x1.ka x1.kb x1.kc !=0))]<|jB [] (sd [0])<|dP<|fx (!(aV x1.ka x1.kb x1.kc !=0)) (fun e3=>?_)<|fun e3=>?_
  ·have p3:=e3;try simp only[bQ] at p3
   refine aD [(4,c_ k)]<|aF<|dO [c_ k]<|ak [(4,b_<|decide ((k:Int)≥0))]<|aF<|dO [b_<|decide ((k:Int)≥0)]<|ak [(12,b_<|decide ((k:Int)≥0))]<|aI rfl (fun e4=>?_) (fun e4=>?_)
   ·have p4:=dZ e4
    refine aD [(4,i_ 21)]<|aF<|bK [i_ 21] ?_
    refine congrArg (Value.int .i64) ?_;unfold kX;(rw[if_neg<|by omega,if_pos<|S5 ‹_› (by unfold wZ;simp_all)];done)
   have p4:=ga e4
   refine aP<|aD [(4,i_ 0)]<|aF<|bK [i_ 0] ?_
   refine congrArg (Value.int .i64) ?_;unfold kX;(rw[if_neg<|by omega,if_neg (by rw[J8 hn<|by omega];decide)];done)
  have p3:=e3;try simp only[bQ] at p3
  refine aP<|aM<|az [.w<|(k:Int)+1] [(0,vS al l cl),(1,.func (.func 175) #[] #[]),(8,i_<|(k:Int)+1)] (o1<|wj ((k:Int)+1)<|by omega)<|bC (k+1) ⟨(by omega),(by exact S7 hn ‹_› (by unfold wZ;simp_all))⟩ (by omega) ?_
  exact bB []
 have p2:=ga e2
 refine bR<|aD [(4,i_ (-1))]<|aF<|dO [i_ (-1)]<|ak [(4,b_ false)]<|aF<|dO [b_ false] ?_
 refine ak [(12,b_ false)]<|bY<|aP<|aD [(4,i_ 0)]<|aF<|bK [i_ 0] ?_
 refine congrArg (Value.int .i64) ?_;unfold kX;(rw[if_neg<|by omega,if_neg (by rw[J8 hn<|by omega];decide)];done)
theorem N7(v t:Int)(hv:0≤v∧v<iS)(ht:1≤t∧t≤65536)(hp:v*t<iS)(w:World):
  CW 230 #[.agg #[u_<|nH v,u_<|nL v],i_ t] w (.agg #[u_<|nH<|v*t,u_<|nL<|v*t]):=by
 have h1_:=ER hv;have h2_:=ES v;have p0:0≤v*t:=Int.mul_nonneg hv.1 (by omega);have p1:=AD (x:=nL v) (t:=t) (X:=18446744073709551615) (by omega) ht;have p2:=AD (x:=nH v) (t:=t) (X:=18446744073709551615) (by omega) ht
 have e0:v*t=nH v*t*18446744073709551616+nL v*t:=(by have e_:v=nH v*18446744073709551616+nL v:=(by unfold nH nL;omega);conv=>lhs;rw[e_,Int.add_mul,Int.mul_right_comm])
 refine aU Tryz.func230 rfl (HS.nil w) (aC<|fz [.al,.al] [] (fun b1 b2=>[(2,p_ b1),(4,p_ b2)]) (fun b1 b2=>[aA b1 [u_<|nH v,u_<|nL v] 213,aA b2 [u_ 0,u_ 0] 213]) ?_)
 intro b1 b2
 refine aC<|iE [.ld 0,.w t,.cq<|.agg #[u_<|nH<|(nL v)*t,u_<|nL<|(nL v)*t],.al,.st 2] [] (fun b3=>[(5,p_ b3)]) (fun b3=>[]) (fun b3=>aA b3 [u_<|nH<|(nL v)*t,u_<|nL<|(nL v)*t] 213) (fun b3=>oc (wv t<|by omega)<|o1<|qo<|fun w s=>xr (nL v) t ‹_› (by omega) w) ?_
 intro b3
 refine aC<|gA [.ld 2,.ld 0,.w t,.w<|(nH v)*t,.w<|(nH<|(nL v)*t)+((nH v)*t),.st 2] [] [] [(2,aA b3 [u_<|(nH<|(nL v)*t)+((nH v)*t),u_<|nL<|(nL v)*t] 213)] (oc (wv t<|by omega)<|oc (wo<|wrap_u64 (e:=(nH v)*t) (by unfold iS at hp;constructor<;>omega))<|o1<|wo<|wrap_u64 (e:=(nH<|(nL v)*t)+((nH v)*t)) (by(have q_:nH (nL v*t)=nL v*t/18446744073709551616:=rfl);unfold iS at hp;constructor<;>omega))<|aC<|bU [.ld 2,.st 1] [] [(1,aA b2 [u_<|(nH<|(nL v)*t)+((nH v)*t),u_<|nL<|(nL v)*t] 213)]<|aF<|eY 1 [u_<|(nH<|(nL v)*t)+((nH v)*t),u_<|nL<|(nL v)*t] ?_
 show((.agg #[u_<|(nH<|(nL v)*t)+((nH v)*t),u_<|nL<|(nL v)*t]):Value)=(.agg #[u_<|nH<|v*t,u_<|nL<|v*t])
 have q1_:nL (nL v*t)=nL (v*t):=(by unfold nL at*;omega);have q2_:nH (nL v*t)+nH v*t=nH (v*t):=(by unfold nH at*;omega);rw[q1_,q2_]
theorem Az(v t k:Int)(hv:0≤v∧v<iS)(ht:1≤t∧t≤65536)(hp:v*t<iS)(hk:0≤k∧k<18446744073709551616)(w:World):
  CW 180 #[.agg #[u_<|nH v,u_<|nL v],i_ t,u_ k] w (b_<|decide (v*t>65536*k)):=by
 have p0:0≤v*t:=Int.mul_nonneg hv.1<|by omega
 refine aU Tryz.func180 rfl (HS.nil w) (aC<|dD [.al] [] (fun b1=>[(3,p_ b1)]) (fun b1=>aA b1 [u_<|nH v,u_<|nL v] 213) ?_)
 intro b1
 refine bW [.ld 0,.cq<|.agg #[u_<|nH<|v*t,u_<|nL<|v*t],.cq<|.agg #[u_<|nH<|65536*k,u_<|nL<|65536*k],.cq<|i_<|tC (v*t)<|65536*k] [(6,b_<|decide ((tC (v*t)<|65536*k)>0))] (oc (qo<|fun ww ss=>N7 v t ‹_› ‹_› ‹_› ww)<|oc (qo<|fun ww ss=>xr 65536 k (by omega) ‹_› ww)<|o1<|qw<|Oj (v*t) (65536*k) (by omega)<|by(unfold iS;omega))<|aF<|bK [b_<|decide ((tC (v*t)<|65536*k)>0)] ?_
 refine congrArg Value.bool ?_;rw[Bool.eq_iff_iff];simp only[decide_eq_true_eq];unfold tC;split<;>(try split)<;>omega
abbrev B7(p0)(p1)(p2):=(b_ (decide ((dc p0 p1)*p2>65536*p1)):Value)
theorem N8(k:Int)(bl bt:Nat)(al:bn)(l:List Cv)(cl:Nat)(t:Int)(hl:l.length≤1000)(hR: ∀v∈l,lX v)(ht:1≤t∧t≤65536)(hk:0≤k∧k<18446744073709551616)(w:World)(r0:(aA bl [vS al l cl] 125).holds w)(r1:(aA bt [i_ t] 3).holds w)(r2:dR w al (V.aQ cZ l)):
  CW 179 #[u_ k,p_ bl,p_ bt] w (b_<|decide (dc l k*t>65536*k)):=by
 refine aU Tryz.func179 rfl (HS.nil w) (aD []<|aE<|fS [.rd [vS al l cl],.cq<|.agg #[u_<|nH<|dc l k,u_<|nL<|dc l k],.rd [i_ t],.cq<|B7 l k t] (rg 0 7) [] [(4,B7 l k t)] (oc (ro ⟨bl,0,none⟩ (vs:=[vS al l cl])<|cB r0 rfl)<|oc (qo<|fun w s=>QN al l cl k ‹_› ‹_› ‹_› w ((bg r2<|by simp[aL]) w s))<|oc (ro ⟨bt,0,none⟩ (vs:=[i_ t])<|cB r1 rfl)<|o1<|qo<|fun w s=>Az (dc l k) t k (by(have h_:=uA hR hk hl;unfold iS;omega)) ‹_› (by(have h_:=AD (uA hR hk hl) ht;unfold iS;omega)) ‹_› w)<|aF<|bK [B7 l k t] ?_)
 rfl
theorem OB(t:Int)(al:bn)(l:List Cv)(cl:Nat)(hl:l.length≤1000)(hR: ∀v∈l,lX v)(w:World)(r0:dR w al (V.aQ cZ l)):
  CW 137 #[i_ t,vS al l cl] w (.tuple #[u_<|(jF t l).1,b_<|(jF t l).2]):=by
 refine aU Tryz.func137 rfl (HS.nil w) (aC<|fz [.al,.al] [] (fun b1 b2=>[(2,p_ b1),(3,p_ b2)]) (fun b1 b2=>[aA b1 [i_ t] 3,aA b2 [vS al l cl] 125]) ?_)
 intro b1 b2
 refine aE<|bW [.ld 0,.ld 1,.cq<|i_<|kX t l] [(11,b_<|(kX t l)!=0)] (o1<|qo<|fun w s=>HF t al l cl ‹_› w ((bg r0<|by simp[aL]) w s))<|aI rfl (fun e1=>?_) (fun e1=>?_)
 ·have p1:=e1;try simp only[bQ] at p1
  refine aD [(4,u_ 0),(5,b_ false)]<|aF<|?_
  have hF_:jF t l=(0,false):=(by unfold jF;(rw[if_pos ‹_›];done))
  refine bK [u_ 0,b_ false] ?_
  show((.tuple #[u_ 0,b_ false]):Value)=(.tuple #[u_<|(jF t l).1,b_<|(jF t l).2])
  rw[hF_]
 have p1:=e1;try simp only[bQ] at p1
 refine au ?_
 obtain⟨ht,hok⟩:=Vn ‹_›
 refine aM<|cP [.ld 1] [(12,vS al l cl)]<|aG<|dG (some 13) [] (fun w s h=>QQ al l cl ‹_› w ((bg r0<|by simp[aL]) w s) h) ?_
 rintro⟨al'3,cl'4⟩-
 refine ak [(6,vS al'3 (kP l) cl'4)]<|aC<|bA 2 [] [(14,vS al'3 (kP l) cl'4),(15,.func (.func 179) #[] #[p_ b2,p_ b1])]<|aG<|dx (some 16) [vS al'3 (kP l) cl'4,.func (.func 179) #[] #[p_ b2,p_ b1]] Tryz.func178 rfl (aD []<|aE<|aD [(7,i_ ((kP l).length:Int)),(8,i_ 0)]<|aO<|eA (σ:=Nat) [] (fun k=>[(8,c_ k)]) [] (fun k=>[]) (fun k=>(k≤(kP l).length)∧(∀x∈(kP l).take k,MC l t x=false)) (fun k=>(kP l).length-k) (0:Nat) ⟨(by omega),(by simp)⟩ ?_ ?_)
 ·exact bB [0,0,0]
 rintro k ⟨hk,hn⟩
 have hkn:=SU l
 refine aD [(9,b_<|decide ((k:Int)<((kP l).length:Int)))]<|aE<|aI rfl (fun e3=>?_) (fun e3=>?_)
 ·have p3:=dZ e3
  refine au<|aO<|aD [(5,c_ k)]<|aC<|dm 4 [.ix] [(11,.func (.func 179) #[] #[p_ b2,p_ b1]),(14,.pointer<|some<|(aZ al'3).add (k*1))] (o1<|bH 0 k aR rfl (by omega)) ?_
  obtain⟨x6,hx6⟩: ∃x,((kP l))[k]? =some x:=⟨_,dA<|by omega⟩
  refine az [.rd [u_ x6],.cq<|b_<|decide (dc l x6*t>65536*x6)] [(16,b_<|decide (dc l x6*t>65536*x6))] (oc (ro ((aZ al'3).add (k*1))<|dY (vs:=[u_ x6]) aR (cV (i:=0) rfl) hx6 (Nat.le_of_ble_eq_true rfl) rfl)<|o1<|qo<|fun w s=>N8 x6 b2 b1 al l cl t ‹_› ‹_› ‹_› (Q0 hR _<|cT ‹_›) w (s.mem (i:=2) rfl) (s.mem (i:=1) rfl) ((bg r0<|by simp[aL]) w s))<|aI rfl (fun e4=>?_) (fun e4=>?_)
  ·have p4:=dZ e4
   refine aD [(4,c_ k)]<|aF<|dO [c_ k]<|ak [(2,p_ b1),(3,p_ b2),(6,vS al'3 (kP l) cl'4),(7,c_ k)]<|aE<|aD [(18,b_<|decide ((k:Int)≥0))]<|aI rfl (fun e5=>?_) (fun e5=>?_)
   ·have p5:=dZ e5
    refine bW [.ix,.rd [u_ x6]] [(4,u_ x6),(5,b_ true)] (oc (bH 0 k aR rfl (by omega))<|o1<|ro ((aZ al'3).add (k*1))<|dY (vs:=[u_ x6]) aR (cV (i:=0) rfl) hx6 (Nat.le_of_ble_eq_true rfl) rfl)<|aF<|?_
    have hF_:jF t l=(x6,true):=(by unfold jF;(rw[if_neg<|by omega,QZ hn ‹_› ‹_›];done))
    refine bK [u_ x6,b_ true] ?_
    show((.tuple #[u_ x6,b_ true]):Value)=(.tuple #[u_<|(jF t l).1,b_<|(jF t l).2])
    rw[hF_]
   have p5:=ga e5
   refine au<|fS [.ld 2,.cq<|.agg #[u_<|nH<|dI false l,u_<|nL<|dI false l],.ld 1,.cq<|b_<|decide ((dI false l)*t>65536*1)] (rg 0 6) [] [(4,u_ 0),(5,b_<|decide ((dI false l)*t>65536*1))] (oc (qo<|fun w s=>IL al l cl ‹_› ‹_› w ((bg r0<|by simp[aL]) w s))<|o1<|qo<|fun w s=>Az (dI false l) t 1 (by omega) ‹_› (by omega) (by omega) w)<|aF ?_
   have hF_:jF t l=(0,decide ((dI false l)*t>65536*1)):=(by unfold jF;(rw[if_neg<|by omega,IU hn<|by omega];done))
   refine bK [u_ 0,b_<|decide ((dI false l)*t>65536*1)] ?_
   show((.tuple #[u_ 0,b_<|decide ((dI false l)*t>65536*1)]):Value)=(.tuple #[u_<|(jF t l).1,b_<|(jF t l).2])
   rw[hF_]
  have p4:=ga e4
  refine aP<|aM<|az [.w<|(k:Int)+1] [(8,i_<|(k:Int)+1)] (o1<|wj ((k:Int)+1)<|by omega)<|bC (k+1) ⟨(by omega),(S8 hn ‹_› ‹_›)⟩ (by omega) ?_
  exact bB [0,0,0]
 have p3:=ga e3
 refine bR<|aD [(4,i_ (-1))]<|aF<|dO [i_ (-1)]<|ak [(2,p_ b1),(3,p_ b2),(6,vS al'3 (kP l) cl'4),(7,i_ (-1))]<|aE<|aD [(18,b_ false)]<|bY<|au<|fS [.ld 2,.cq<|.agg #[u_<|nH<|dI false l,u_<|nL<|dI false l],.ld 1,.cq<|b_<|decide ((dI false l)*t>65536*1)] (rg 0 6) [] [(4,u_ 0),(5,b_<|decide ((dI false l)*t>65536*1))] (oc (qo<|fun w s=>IL al l cl ‹_› ‹_› w ((bg r0<|by simp[aL]) w s))<|o1<|qo<|fun w s=>Az (dI false l) t 1 (by(have h_:=tZ (st:=false) hR hl;unfold iS;omega)) ‹_› (by(have h_:=AD (tZ (st:=false) hR hl) ht;unfold iS;omega)) (by omega) w)<|aF ?_
 have hF_:jF t l=(0,decide ((dI false l)*t>65536*1)):=(by unfold jF;(rw[if_neg<|by omega,IU hn<|by omega];done))
 refine bK [u_ 0,b_<|decide ((dI false l)*t>65536*1)] ?_
 show((.tuple #[u_ 0,b_<|decide ((dI false l)*t>65536*1)]):Value)=(.tuple #[u_<|(jF t l).1,b_<|(jF t l).2])
 rw[hF_]
theorem GW(t:Int)(al:bn)(l:List Cv)(cl:Nat)(hl:l.length≤1000)(hR: ∀v∈l,lX v)(w:World)(r0:dR w al (V.aQ cZ l)):
  CW 93 #[i_ t,vS al l cl] w (i_<|lS t l):=by
 refine aU Tryz.func93 rfl (HS.nil w) (aD []<|aE<|bW [.cq<|i_<|kX t l] [(5,i_<|kX t l)] (o1<|qo<|fun w s=>HF t al l cl ‹_› w ((bg r0<|by simp[aL]) w s))<|aD [(12,b_<|(kX t l)!=0)]<|aI rfl (fun e1=>?_) (fun e1=>?_))
 ·have p1:=e1;try simp only[bQ] at p1
  refine aD [(4,i_<|kX t l)]<|aF<|bK [i_<|kX t l] ?_
  refine congrArg (Value.int .i64) ?_;unfold lS;(rw[if_pos ‹_›];done)
 have p1:=e1;try simp only[bQ] at p1
 refine au<|bW [.cq<|.tuple #[u_<|(jF t l).1,b_<|(jF t l).2]] [(7,b_<|(jF t l).2)] (o1<|qo<|fun w s=>OB t al l cl ‹_› ‹_› w ((bg r0<|by simp[aL]) w s))<|aD [(20,b_<|(jF t l).2)]<|aI rfl (fun e2=>?_) (fun e2=>?_)
 ·have p2:=e2
  refine aD [(4,i_ 22)]<|aF<|bK [i_ 22] ?_
  refine congrArg (Value.int .i64) ?_;unfold lS;(rw[if_neg<|by omega,if_pos ‹_›];done)
 refine aP<|aD [(4,i_ 0)]<|aF<|bK [i_ 0] ?_
 refine congrArg (Value.int .i64) ?_;unfold lS;(rw[if_neg<|by omega,if_neg<|by simp_all];done)
structure Zc where
 zk:Int
 zi:Int
 zp:Int
 zl:Bool
 ya:Int
 yb:Int
 yc:Int
 va:Int
 vb:Int
 vc:Int
 wa:Int
 wb:Int
 wc:Int
 zn:Int
 zq:Int
 deriving Inhabited,DecidableEq
def gi(x:Zc):List Value:=[(i_ x.zk),(i_ x.zi),(i_ x.zp),(b_ x.zl),(u_ x.ya),(u_ x.yb),(u_ x.yc),(u_ x.va),(u_ x.vb),(u_ x.vc),(u_ x.wa),(u_ x.wb),(u_ x.wc),(i_ x.zn),(i_ x.zq)]
theorem ri(x:Zc):(gi x).length=15:=rfl
def iy(x:Zc):Prop:=((-9223372036854775808)≤x.zk∧x.zk≤9223372036854775807)∧((-9223372036854775808)≤x.zi∧x.zi≤9223372036854775807)∧((-9223372036854775808)≤x.zp∧x.zp≤9223372036854775807)∧True∧(0≤x.ya∧x.ya≤18446744073709551615)∧(0≤x.yb∧x.yb≤18446744073709551615)∧(0≤x.yc∧x.yc≤18446744073709551615)∧(0≤x.va∧x.va≤18446744073709551615)∧(0≤x.vb∧x.vb≤18446744073709551615)∧(0≤x.vc∧x.vc≤18446744073709551615)∧(0≤x.wa∧x.wa≤18446744073709551615)∧(0≤x.wb∧x.wb≤18446744073709551615)∧(0≤x.wc∧x.wc≤18446744073709551615)∧((-9223372036854775808)≤x.zn∧x.zn≤9223372036854775807)∧((-9223372036854775808)≤x.zq∧x.zq≤9223372036854775807)
def Ly:List FK:=[.int .i64,.int .i64,.int .i64,.bool,.int .u64,.int .u64,.int .u64,.int .u64,.int .u64,.int .u64,.int .u64,.int .u64,.int .u64,.int .i64,.int .i64]
theorem Vb(cs:cn)(h:nT Ly cs): ∃x,cs=gi x∧iy x:=by
 unfold Ly at h
 obtain⟨v0,cs0,rfl,h0,g0⟩:=fp h
 obtain⟨a0,rfl,r0⟩:=oW h0
 obtain⟨v1,cs1,rfl,h1,g1⟩:=fp g0
 obtain⟨a1,rfl,r1⟩:=oW h1
 obtain⟨v2,cs2,rfl,h2,g2⟩:=fp g1
 obtain⟨a2,rfl,r2⟩:=oW h2
 obtain⟨v3,cs3,rfl,h3,g3⟩:=fp g2
 obtain⟨a3,rfl⟩:=P5 h3
 obtain⟨v4,cs4,rfl,h4,g4⟩:=fp g3
 obtain⟨a4,rfl,r4⟩:=np h4
 obtain⟨v5,cs5,rfl,h5,g5⟩:=fp g4
 obtain⟨a5,rfl,r5⟩:=np h5
 obtain⟨v6,cs6,rfl,h6,g6⟩:=fp g5
 obtain⟨a6,rfl,r6⟩:=np h6
 obtain⟨v7,cs7,rfl,h7,g7⟩:=fp g6
 obtain⟨a7,rfl,r7⟩:=np h7
 obtain⟨v8,cs8,rfl,h8,g8⟩:=fp g7
 obtain⟨a8,rfl,r8⟩:=np h8
 obtain⟨v9,cs9,rfl,h9,g9⟩:=fp g8
 obtain⟨a9,rfl,r9⟩:=np h9
 obtain⟨v10,cs10,rfl,h10,g10⟩:=fp g9
 obtain⟨a10,rfl,r10⟩:=np h10
 obtain⟨v11,cs11,rfl,h11,g11⟩:=fp g10
 obtain⟨a11,rfl,r11⟩:=np h11
 obtain⟨v12,cs12,rfl,h12,g12⟩:=fp g11
 obtain⟨a12,rfl,r12⟩:=np h12
 obtain⟨v13,cs13,rfl,h13,g13⟩:=fp g12
 obtain⟨a13,rfl,r13⟩:=oW h13
 obtain⟨v14,cs14,rfl,h14,g14⟩:=fp g13
 obtain⟨a14,rfl,r14⟩:=oW h14
 obtain rfl:=tP g14
 exact⟨⟨a0,a1,a2,a3,a4,a5,a6,a7,a8,a9,a10,a11,a12,a13,a14⟩,rfl,r0,r1,r2,trivial,r4,r5,r6,r7,r8,r9,r10,r11,r12,r13,r14⟩
def pD(z:Zc):Cl:=⟨z.zi,z.zp,z.zl,z.ya,z.yb,z.yc,z.va,z.vb,z.vc,z.wa,z.wb,z.wc,z.zn,z.zq⟩
def fw(kv:List (Int×Cl))(z:Zc):Int:=if z.zk=1 then i4 kv (pD z) else if z.zk=3 then i5 kv (pD z) else if z.zk=2 then jx kv z.zi else 1
def iL(kv:List (Int×Cl))(z:Zc):List (Int×Cl):=if z.zk=1 then mI kv (pD z) else if z.zk=3 then lU kv (pD z) else if z.zk=2 then om kv z.zi else kv
def jZ(kv:List (Int×Cl)):List Zc→Int
 |[]=>0
 |z::l=>if fw kv z≠0 then fw kv z else jZ (iL kv z) l
def uz(kv:List (Int×Cl)):List Zc→Nat
 |[]=>0
 |z::l=>if fw kv z≠0 then 0 else uz (iL kv z) l+1
def cF(kv:List (Int×Cl)):List Zc→List (Int×Cl)
 |[]=>kv
 |z::l=>cF (iL kv z) l
theorem CG(z:Zc): ∀(l:List Zc)(kv:bm Cl),cF kv (l++[z])=iL (cF kv l) z
 |[],kv=>rfl
 |y::l,kv=>CG z l<|iL kv y
theorem CH(z:Zc): ∀(l:List Zc)(kv:bm Cl),jZ kv l=0→jZ kv (l++[z])=fw (cF kv l) z
 |[],kv,_=>by show(if fw kv z≠0 then fw kv z else 0)=fw kv z;split<;>simp_all
 |y::l,kv,h=>by
  unfold jZ at h;split at h
  ·exact absurd h ‹_›
  ·rename_i h1;show(if fw kv y≠0 then fw kv y else jZ (iL kv y)<|l++[z])=_;rw[if_neg h1];exact CH z l (iL kv y) h
theorem AP: ∀{l:List Zc}{kv:bm Cl}{k:Nat}{z:Zc},l[k]? =some z→jZ kv (l.take k)=0→fw (cF kv<|l.take k) z≠0→jZ kv l=fw (cF kv<|l.take k) z∧uz kv l=k
 |[],kv,k,z,h,_,_=>by simp at h
 |y::l,kv,0,z,h,h0,h1=>by
  simp at h;subst h;simp only[List.take_zero,cF] at h1⊢;unfold jZ uz;rw[if_pos h1,if_pos h1];exact⟨rfl,rfl⟩
 |y::l,kv,k+1,z,h,h0,h1=>by
  simp only[List.take_succ_cons,cF,jZ] at h0 h1⊢
  have h2: ¬fw kv y≠0:=fun h2=>by rw[if_pos h2] at h0;exact h2 h0
  rw[if_neg h2] at h0
  have:=AP (l:=l) (kv:=iL kv y) (by simpa using h) h0 h1
  unfold uz;rw[if_neg h2,if_neg h2,this.1,this.2];exact⟨rfl,rfl⟩
variable{l:List Zc}{kv:bm Cl}{z:Zc}
theorem yr(h:l[k]? =some z)(h0:jZ kv (l.take k)=0)(h1:fw (cF kv<|l.take k) z=0):jZ kv (l.take<|k+1)=0∧cF kv (l.take<|k+1)=iL (cF kv<|l.take k) z:=by
 have e:l.take (k+1)=l.take k++[z]:=by rw[List.take_add_one,h];rfl
 rw[e,CH _ _ _ h0,CG];exact⟨h1,rfl⟩
def gw(kv:List (Int×Cl))(t:Int)(l:List Zc):Int:=if t<1∨t>65536 then 1 else if 32<l.length then 2 else if jZ kv l≠0 then jZ kv l else lS t<|im<|cF kv l
def ji(kv:List (Int×Cl))(t:Int)(l:List Zc):Int:=if t<1∨t>65536 then 0 else if 32<l.length then 0 else if jZ kv l≠0 then(uz kv l:Int) else 0
def mq(kv:List (Int×Cl)):Prop:= ∃R,KR kv R
theorem vu(h:cK kv)(z:Zc):cK (iL kv z):=by
 unfold iL;split
 ·exact OO h _
 ·split
  ·exact OP h _
  ·split
   ·exact OQ h _
   ·exact h
theorem Kz(h:iy z):lV (pD z):=h.2
theorem EM(h:mq kv)(hL:cK kv)(hz:iy z):mq (iL kv z):=by
 obtain⟨R,hR⟩:=h
 unfold iL;split
 ·exact⟨_,RH hR hL<|Kz hz⟩
 ·split
  ·exact⟨_,RI hR hL<|Kz hz⟩
  ·split
   ·exact⟨_,RJ hR _⟩
   ·exact⟨R,hR⟩
theorem DR: ∀{l:List Zc}{kv:bm Cl},cK kv→cK (cF kv l)
 |[],kv,h=>h
 |z::l,kv,h=>DR (l:=l)<|vu h z
theorem LA: ∀{l:List Zc}{kv:bm Cl},mq kv→cK kv→(∀z∈l,iy z)→mq (cF kv l)
 |[],kv,h,_,_=>h
 |z::l,kv,h,hL,hz=>LA (l:=l) (EM h hL<|hz z<|by simp) (vu hL z)<|fun y hy=>hz y<|by simp[hy]
theorem HD(h:mq kv): ∀v∈im kv,lX v:=by
 obtain⟨R,hR⟩:=h
 intro v hv
 unfold im at hv
 obtain⟨i,_,rfl⟩:=List.mem_map.1 hv
 have:=KI hR i
 unfold aN at this
 unfold lV at this;unfold lX AQ;dsimp only;omega
theorem GU(kv:bm Cl):(im kv).length≤kv.length:=by unfold im;rw[List.length_map];exact pH _ _
theorem Ez(h:t<1∨t>65536):gw kv t l=1∧ji kv t l=0:=by unfold gw ji;rw[if_pos h,if_pos h];exact⟨rfl,rfl⟩
theorem FA(h: ¬(t<1∨t>65536))(h2:32<l.length):gw kv t l=2∧ji kv t l=0:=by unfold gw ji;rw[if_neg h,if_neg h,if_pos h2,if_pos h2];exact⟨rfl,rfl⟩
theorem MA(h: ¬(t<1∨t>65536))(h2: ¬32<l.length){e:Int}(h3:jZ kv l=e∧uz kv l=k)(he:e≠0):gw kv t l=e∧ji kv t l=k:=by
 unfold gw ji;rw[if_neg h,if_neg h,if_neg h2,if_neg h2,h3.1,h3.2,if_pos he,if_pos he];exact⟨rfl,rfl⟩
theorem FB(h: ¬(t<1∨t>65536))(h2: ¬32<l.length)(h3:jZ kv l=0):gw kv t l=lS t (im<|cF kv l)∧ji kv t l=0:=by
 unfold gw ji;rw[if_neg h,if_neg h,if_neg h2,if_neg h2,h3];simp
abbrev uV(p0)(p1):=(aA p0 [.map<|some p1] 185:V.aH)
abbrev EN(p0)(p1:Zc):=(i_ (i5 p0 (⟨p1.zi,p1.zp,p1.zl,p1.ya,p1.yb,p1.yc,p1.va,p1.vb,p1.vc,p1.wa,p1.wb,p1.wc,p1.zn,p1.zq⟩:Cl)):Value)
abbrev EO(p0)(p1:Zc):=(i_ (i4 p0 (⟨p1.zi,p1.zp,p1.zl,p1.ya,p1.yb,p1.yc,p1.va,p1.vb,p1.vc,p1.wa,p1.wb,p1.wc,p1.zn,p1.zq⟩:Cl)):Value)
abbrev AA(p0:Zc):=(.agg #[i_ p0.zi,i_ p0.zp,b_ p0.zl,u_ p0.ya,u_ p0.yb,u_ p0.yc,u_ p0.va,u_ p0.vb,u_ p0.vc,u_ p0.wa,u_ p0.wb,u_ p0.wc,i_ p0.zn,i_ p0.zq]:Value)
theorem IQ(bt mb:Nat)(kv:bm Cl)(z:Zc)(hL:cK kv):
  CS 92 #[p_ bt,.agg (gi z).toArray] [uV bt mb,cU mb kv] (fun(kv':(bm Cl))=>(i_<|fw kv z)) (fun kv'=>kv'=iL kv z) fun kv'=>[uV bt mb,cU mb kv']:=by
 intro w hs
 refine aU Tryz.func92 rfl hs (aC<|fz [.al,.al] [] (fun b1 b2=>[(2,p_ b1),(3,p_ b2)]) (fun b1 b2=>[aA b1 [p_ bt] 131,aA b2 (gi z) 84]) ?_)
 intro b1 b2
 refine aD []<|cS<|bF [.ld 3] [(7,i_ z.zk)]<|aO<|aD [(8,b_<|z.zk==1)]<|aI rfl (fun e1=>?_) (fun e1=>?_)
 ·have p1:=e1;try simp only[bQ] at p1
  refine aM<|bF [.ld 2] [(5,.func (.func 132) #[p_ bt] #[])]<|aC<|bA 3 [.ld 3] [(19,.func (.func 132) #[p_ bt] #[]),(21,AA z)]<|aG<|bM (some 22) [0,0] (UJ bt mb kv (⟨z.zi,z.zp,z.zl,z.ya,z.yb,z.yc,z.va,z.vb,z.vc,z.wa,z.wb,z.wc,z.zn,z.zq⟩:Cl) hL.dep hL.len) ?_
  rintro kv'3 hz2
  refine ak [(4,EO kv z)]<|aF<|bJ [0,0] [EO kv z] (kv'3) ?_ ?_
  ·show((EO kv z):Value)=(i_<|fw kv z)
   refine congrArg (Value.int .i64) ?_;unfold fw;(simp[*];rfl)
  show kv'3=iL kv z
  unfold iL;(simp[*];rfl)
 have p1:=e1;try simp only[bQ] at p1
 refine aD [(12,b_<|z.zk==3)]<|aI rfl (fun e3=>?_) (fun e3=>?_)
 ·have p3:=e3;try simp only[bQ] at p3
  refine aM<|bF [.ld 2] [(5,.func (.func 133) #[p_ bt] #[])]<|aC<|bA 3 [.ld 3] [(19,.func (.func 133) #[p_ bt] #[]),(21,AA z)]<|aG<|bM (some 22) [0,0] (UM bt mb kv (⟨z.zi,z.zp,z.zl,z.ya,z.yb,z.yc,z.va,z.vb,z.vc,z.wa,z.wb,z.wc,z.zn,z.zq⟩:Cl)<|by(have h_:=hL.len;omega)) ?_
  rintro kv'4 hz4
  refine ak [(4,EN kv z)]<|aF<|bJ [0,0] [EN kv z] (kv'4) ?_ ?_
  ·show((EN kv z):Value)=(i_<|fw kv z)
   refine congrArg (Value.int .i64) ?_;unfold fw;(simp[*];rfl)
  show kv'4=iL kv z
  unfold iL;(simp[*];rfl)
 have p3:=e3;try simp only[bQ] at p3
 refine aD [(16,b_<|z.zk==2)]<|aI rfl (fun e5=>?_) (fun e5=>?_)
 ·have p5:=e5;try simp only[bQ] at p5
  refine bX [(5,.func (.func 134) #[] #[p_ b1])]<|aC<|bA 3 [.ld 3] [(19,.func (.func 134) #[] #[p_ b1]),(21,AA z)]<|aG<|dx (some 22) [AA z,p_ b1] Tryz.func134 rfl (aC<|dD [.al] [] (fun b5=>[(2,p_ b5)]) (fun b5=>aA b5 [i_ z.zi,i_ z.zp,b_ z.zl,u_ z.ya,u_ z.yb,u_ z.yc,u_ z.va,u_ z.vb,u_ z.vc,u_ z.wa,u_ z.wb,u_ z.wc,i_ z.zn,i_ z.zq] 62) ?_)
  intro b5
  refine aC<|bA 3 [.ld 2,.ld 4] [(4,p_ bt),(6,i_ z.zi)]<|aG<|bM (some 7) [0,0] (UK bt mb kv z.zi<|by(have h_:=hL.len;omega)) ?_
  rintro kv'6 hz6
  refine ak [(3,i_<|jx kv z.zi)]<|aF<|dO [i_<|jx kv z.zi]<|jB [uV bt mb,cU mb kv'6,aA b1 [p_ bt] 131] (sd [4,3])<|ak [(4,i_<|jx kv z.zi)]<|aF<|bJ [0,0] [i_<|jx kv z.zi] (kv'6) ?_ ?_
  ·show((i_<|jx kv z.zi):Value)=(i_<|fw kv z)
   refine congrArg (Value.int .i64) ?_;unfold fw;(simp[*];done)
  show kv'6=iL kv z
  unfold iL;(simp[*];done)
 have p5:=e5;try simp only[bQ] at p5
 refine aD [(4,i_ 1)]<|aF<|bJ [0,0] [i_ 1] (kv) ?_ ?_
 ·show((i_ 1):Value)=(i_<|fw kv z)
  refine congrArg (Value.int .i64) ?_;unfold fw;(simp[*];done)
 show kv=iL kv z
 unfold iL;(simp[*];done)
theorem SY(bt mb:Nat)(kv:bm Cl)(t:Int)(al:bn)(l:List Zc)(cl:Nat)(hL:cK kv)(hK:mq kv)(hz: ∀z∈l,iy z)(hok:gw kv t l≠0)(w:World)(r0:(aA bt [.map<|some mb] 185).holds w)(r1:(cU mb kv).holds w)(r2:dR w al (V.aQ gi l)):
  CW 66 #[p_ bt,i_ t,vS al l cl] w (.tuple #[n_,i_<|ji kv t l,i_<|gw kv t l]):=by
 refine aU Tryz.func66 rfl (HS.nil w) (aD []<|aE<|aO<|aD [(14,b_ false)]<|bY<|aC<|bF [.o,.cl] [(17,b_<|(decide (t<1))||(decide (t>65536)))]<|aI rfl (fun e1=>?_) (fun e1=>?_))
 ·have p1:=e1;try simp only[bQ] at p1
  refine aD [(6,n_),(7,i_ 0),(8,i_ 1)]<|aF<|bK [n_,i_ 0,i_ 1] ?_
  show((.tuple #[n_,i_ 0,i_ 1]):Value)=(.tuple #[n_,i_<|ji kv t l,i_<|gw kv t l])
  rw[(Ez (kv:=kv) (l:=l)<|by omega).1,(Ez (kv:=kv) (l:=l)<|by omega).2]
 have p1:=e1;try simp only[bQ] at p1
 refine aD [(24,b_<|decide ((l.length:Int)>32))]<|aI rfl (fun e2=>?_) (fun e2=>?_)
 ·have p2:=dZ e2
  refine aD [(6,n_),(7,i_ 0),(8,i_ 2)]<|aF<|bK [n_,i_ 0,i_ 2] ?_
  show((.tuple #[n_,i_ 0,i_ 2]):Value)=(.tuple #[n_,i_<|ji kv t l,i_<|gw kv t l])
  rw[(FA (kv:=kv) (by omega)<|by omega).1,(FA (kv:=kv) (by omega)<|by omega).2]
 have p2:=ga e2
 refine aP<|aC<|cP [.p] [(28,p_ bt)]<|aG<|dG (some 29) [] (fun w s h=>Ix bt mb kv w (bV s r0) (bV s r1) h) ?_
 rintro⟨bc1,mc2⟩-
 refine ak [(9,p_ bc1)]<|aE<|aD [(30,vS al l cl),(31,c_ l.length),(32,i_ 0)]<|aO<|eA (σ:=Nat×(bm Cl)) [] (fun(k,kw)=>[(32,c_ k)]) [0,0] (fun(k,kw)=>[aA bc1 [.map<|some mc2] 185,cU mc2 kw]) (fun(k,kw)=>(k≤l.length)∧(kw=cF kv (l.take k))∧(jZ kv (l.take k)=0)∧(cK kw)∧(mq kw)) (fun(k,kw)=>l.length-k) (0,kv) ⟨(by omega),(by rfl),(by rfl),‹_›,‹_›⟩ ?_ ?_
 ·exact bB [0,0]
 rintro⟨k,kw⟩ ⟨hk,hw,h0,hLw,hKw⟩
 refine aD [(33,b_<|decide ((k:Int)<(l.length:Int)))]<|aE<|aI rfl (fun e4=>?_) (fun e4=>?_)
 ·have p4:=dZ e4
  refine au<|aO<|aC<|dm 2 [.ix] [(34,c_ k),(35,.pointer<|some<|(aZ al).add (k*15))] (o1<|io (k:Int)<|dh ri (by decide) (bg r2<|by simp[aL])<|by omega) ?_
  obtain⟨x3,hx3⟩: ∃x,(l)[k]? =some x:=⟨_,dA<|by omega⟩
  refine iE [.rd<|gi x3,.al,.st 2] [] (fun b4=>[(11,p_ b4),(10,c_ k)]) (fun b4=>[]) (fun b4=>aA b4 (gi x3) 84) (fun b4=>o1<|ro ((aZ al).add (k*15))<|dY (vs:=(gi x3)) ri (bg r2<|by simp[aL]) hx3 (Nat.le_of_ble_eq_true rfl) rfl) ?_
  intro b4
  refine aC<|bA 2 [.ld 2] [(37,p_ bc1),(38,.agg (gi x3).toArray)]<|aG<|bM (some 39) [0,0] (IQ bc1 mc2 kw x3 ‹_›) ?_
  rintro kv'5 hz5
  refine ak [(12,i_<|fw kw x3)]<|aD [(41,b_<|(fw kw x3)!=0)]<|aI rfl (fun e6=>?_) (fun e6=>?_)
  ·have p6:=e6;try simp only[bQ] at p6
   refine aD [(6,n_),(7,c_ k),(8,i_<|fw kw x3)]<|aF<|bK [n_,c_ k,i_<|fw kw x3] ?_
   show((.tuple #[n_,c_ k,i_<|fw kw x3]):Value)=(.tuple #[n_,i_<|ji kv t l,i_<|gw kv t l])
   (subst hw;obtain⟨g1_,g2_⟩:=MA (t:=t) (by omega) (by omega) (AP ‹_› h0 ‹_›) ‹_›;rw[g1_,g2_])
  have p6:=e6;try simp only[bQ] at p6
  refine aP<|aM<|az [.w<|(k:Int)+1] [(9,p_ bc1),(30,vS al l cl),(31,c_ l.length),(32,i_<|(k:Int)+1)] (o1<|wj ((k:Int)+1)<|by omega)<|bC (k+1,kv'5) ⟨(by omega),(by(subst_vars;exact(yr ‹_› h0 ‹_›).2.symm)),(by(subst hw;exact(yr ‹_› h0 ‹_›).1)),(by(subst_vars;exact vu hLw _)),(by(subst_vars;exact EM hKw hLw<|hz _<|cT ‹_›))⟩ (by(show l.length-(k+1)<l.length-k;omega)) ?_
  exact bB [0,0]
 have p4:=ga e4
 refine bR<|cS<|bA 2 [] [(45,i_ t),(46,p_ bc1)]<|aG<|dG (some 47) [] (fun w s h=>He bc1 mc2 kw (by(have h_:=hLw.len;omega)) w (s.mem (i:=0) rfl) (s.mem (i:=1) rfl) h) ?_
 rintro⟨al'6,cl'7⟩-
 refine az [.cq<|i_<|lS t<|im kw] [(13,i_<|lS t<|im kw)] (o1<|qo<|fun w s=>GW t al'6 (im kw) cl'7 (by(exact Nat.le_trans (GU _) (by have h_:=hLw.len;omega))) (HD hKw) w<|(cV (i:=0) rfl) w s)<|aD [(50,b_<|(lS t<|im kw)!=0)]<|aI rfl (fun e8=>?_) (fun e8=>?_)
 ·have p8:=e8;try simp only[bQ] at p8
  refine aD [(6,n_),(7,i_ 0),(8,i_<|lS t<|im kw)]<|aF<|bK [n_,i_ 0,i_<|lS t<|im kw] ?_
  show((.tuple #[n_,i_ 0,i_<|lS t<|im kw]):Value)=(.tuple #[n_,i_<|ji kv t l,i_<|gw kv t l])
  have hk2_:l.take k=l:=List.take_of_length_le<|by omega
  rw[hk2_] at hw h0
  obtain⟨g1_,g2_⟩:=FB (t:=t) (by omega) (by omega) h0
  (subst hw;rw[g1_,g2_])
 have p8:=e8;try simp only[bQ] at p8
 refine aP<|aD [(6,p_ bc1),(7,i_ 0),(8,i_ 0)]<|aF<|bK [p_ bc1,i_ 0,i_ 0] ?_
 show((.tuple #[p_ bc1,i_ 0,i_ 0]):Value)=(.tuple #[n_,i_<|ji kv t l,i_<|gw kv t l])
 have hk2_:l.take k=l:=List.take_of_length_le<|by omega
 rw[hk2_] at hw h0
 obtain⟨g1_,g2_⟩:=FB (t:=t) (by omega) (by omega) h0
 (subst hw;exact absurd (g1_.trans ‹_›) hok)
theorem Vd(bt mb:Nat)(kv:bm Cl)(t:Int)(al:bn)(l:List Zc)(cl:Nat)(hL:cK kv)(hK:mq kv)(hz: ∀z∈l,iy z)(hok:gw kv t l=0)(w:World)(r0:(uV bt mb).holds w)(r1:(cU mb kv).holds w)(r2:dR w al (V.aQ gi l))(hs:HI w []):
  CV 66 #[p_ bt,i_ t,vS al l cl] w [] (fun((bc,mc):Nat×Nat)=>(.tuple #[p_ bc,i_ 0,i_ 0])) (fun _=>True) fun(bc,mc)=>[uV bc mc,cU mc<|cF kv l]:=by
 refine aU Tryz.func66 rfl hs (aD []<|aE<|aO<|aD [(14,b_ false)]<|bY<|aC<|bF [.o,.cl] [(17,b_<|(decide (t<1))||(decide (t>65536)))]<|aI rfl (fun e1=>?_) (fun e1=>?_))
 ·exact absurd e1<|by(intro h_;exact absurd ((Ez (kv:=kv) (l:=l) (by simp at h_;omega)).1.symm.trans hok)<|by decide)
 have p1:=e1;try simp only[bQ] at p1
 refine aD [(24,b_<|decide ((l.length:Int)>32))]<|aI rfl (fun e2=>?_) (fun e2=>?_)
 ·exact absurd e2<|by(intro h_;exact absurd ((FA (kv:=kv) (t:=t) (l:=l) (by omega) (by simp at h_;omega)).1.symm.trans hok)<|by decide)
 have p2:=ga e2
 refine aP<|aC<|cP [.p] [(28,p_ bt)]<|aG<|dG (some 29) [] (fun w s h=>Ix bt mb kv w (bV s r0) (bV s r1) h) ?_
 rintro⟨bc1,mc2⟩-
 refine ak [(9,p_ bc1)]<|aE<|aD [(30,vS al l cl),(31,c_ l.length),(32,i_ 0)]<|aO<|eA (σ:=Nat×(bm Cl)) [] (fun(k,kw)=>[(32,c_ k)]) [0,0] (fun(k,kw)=>[uV bc1 mc2,cU mc2 kw]) (fun(k,kw)=>(k≤l.length)∧(kw=cF kv (l.take k))∧(jZ kv (l.take k)=0)∧(cK kw)∧(mq kw)) (fun(k,kw)=>l.length-k) (0,kv) ⟨(by omega),(by rfl),(by rfl),‹_›,‹_›⟩ ?_ ?_
 ·exact bB [0,0]
 rintro⟨k,kw⟩ ⟨hk,hw,h0,hLw,hKw⟩
 refine aD [(33,b_<|decide ((k:Int)<(l.length:Int)))]<|aE<|aI rfl (fun e4=>?_) (fun e4=>?_)
 ·have p4:=dZ e4
  refine au<|aO<|aC<|dm 2 [.ix] [(34,c_ k),(35,.pointer<|some<|(aZ al).add (k*15))] (o1<|io (k:Int)<|dh ri (by decide) (bg r2<|by simp[aL])<|by omega) ?_
  obtain⟨x3,hx3⟩: ∃x,(l)[k]? =some x:=⟨_,dA<|by omega⟩
  refine iE [.rd<|gi x3,.al,.st 2] [] (fun b4=>[(11,p_ b4),(10,c_ k)]) (fun b4=>[]) (fun b4=>aA b4 (gi x3) 84) (fun b4=>o1<|ro ((aZ al).add (k*15))<|dY (vs:=(gi x3)) ri (bg r2<|by simp[aL]) hx3 (Nat.le_of_ble_eq_true rfl) rfl) ?_
  intro b4
  refine aC<|bA 2 [.ld 2] [(37,p_ bc1),(38,.agg (gi x3).toArray)]<|aG<|bM (some 39) [0,0] (IQ bc1 mc2 kw x3 ‹_›) ?_
  rintro kv'5 hz5
  refine ak [(12,i_<|fw kw x3)]<|aD [(41,b_<|(fw kw x3)!=0)]<|aI rfl (fun e6=>?_) (fun e6=>?_)
  ·exact absurd e6<|by(intro h_;have h2_: ¬fw kw x3=0:=(by simpa using h_);rw[hw] at h2_;exact absurd ((MA (by omega) (by omega) (AP ‹_› h0 h2_) h2_).1.symm.trans hok) h2_)
  have p6:=e6;try simp only[bQ] at p6
  refine aP<|aM<|az [.w<|(k:Int)+1] [(9,p_ bc1),(30,vS al l cl),(31,c_ l.length),(32,i_<|(k:Int)+1)] (o1<|wj ((k:Int)+1)<|by omega)<|bC (k+1,kv'5) ⟨(by omega),(by(subst_vars;exact(yr ‹_› h0 ‹_›).2.symm)),(by(subst hw;exact(yr ‹_› h0 ‹_›).1)),(by(subst_vars;exact vu hLw _)),(by(subst_vars;exact EM hKw hLw<|hz _<|cT ‹_›))⟩ (by(show l.length-(k+1)<l.length-k;omega)) ?_
  exact bB [0,0]
 have p4:=ga e4
 refine bR<|cS<|bA 2 [] [(45,i_ t),(46,p_ bc1)]<|aG<|dG (some 47) [] (fun w s h=>He bc1 mc2 kw (by(have h_:=hLw.len;omega)) w (s.mem (i:=0) rfl) (s.mem (i:=1) rfl) h) ?_
 rintro⟨al'6,cl'7⟩-
 refine az [.cq<|i_<|lS t<|im kw] [(13,i_<|lS t<|im kw)] (o1<|qo<|fun w s=>GW t al'6 (im kw) cl'7 (by(exact Nat.le_trans (GU _) (by have h_:=hLw.len;omega))) (HD hKw) w<|(cV (i:=0) rfl) w s)<|aD [(50,b_<|(lS t<|im kw)!=0)]<|aI rfl (fun e8=>?_) (fun e8=>?_)
 ·exact absurd e8<|by(intro h_;have hk2_:l.take k=l:=List.take_of_length_le (by omega);rw[hk2_] at hw h0;rw[hw] at h_;simp at h_;exact absurd ((FB (by omega) (by omega) h0).1.symm.trans hok) h_)
 refine aP<|aD [(6,p_ bc1),(7,i_ 0),(8,i_ 0)]<|aF ?_
 rw[show kw=(cF kv l) from by grind]
 refine bJ [1,1] [p_ bc1,i_ 0,i_ 0] (bc1,mc2) ?_ ?_
 ·rfl
 trivial
variable{P:Program}{t ti e:TypeId}{k:IntKind}
theorem Mc{ty:TypeId}{i:TypeInfo}{z:Value}{n:Nat}(w:World)(ht:P.underlying t=some (.slice e))(hti:P.underlying ti=some (.int k))(hi:P.info? e=some i)(hz:i.zero=some z)(hzs:z.cells.size=i.size)(hsz:0<i.size)
  (hn:0<n)(h63:n≤maxLen)(hbytes:n*i.bytes≤140737488355328):
  ∃b c' w',(Builtin.append_ #[t,ti] ty #[.slice none 0 0,.int .i64 n]).run P w= .ok (.slice (some ⟨b,0,none⟩) n c') w'∧(sl (some ⟨b,0,none⟩) 0 c' e i.size []).holds w'∧Fr [] w w'∧w.heap.size≤b:=by
 have hge:=grownCap_ge w n 0 e
 have hcm':grownCap w n 0 e≤maxLen:=grownCap_le_maxLen w n 0 e h63
 obtain⟨w',hw'⟩: ∃w',w'=(World.drew w).alloc (.cells (Builtin.zeroCells z.cells n++Builtin.zeroCells z.cells (grownCap w n 0 e-n)) e):=⟨_,rfl⟩
 refine⟨w.heap.size,grownCap w n 0 e,w',?_,⟨by simp,Nat.zero_le _,hcm',.inr ⟨w.heap.size,0,_,rfl,by rw[hw'];exact heap_alloc_new w.drew _,?_,by simp⟩⟩,?_,Nat.le_refl _⟩
 ·subst hw'
  have h48: ¬(Builtin.nextslicecap n 0*i.bytes>2^48):=by
   have h2:=growslice_fits (need:=n) (old:=0) (by omega) hbytes
   omega
  have hmax:IntKind.i64.max=9223372036854775807:=by decide
  have hm63:n≤9223372036854775807:=by simp only[maxLen] at h63;omega
  have hwr:IntKind.i64.wrap (n:Int)=n:=j8 (e:=(n:Int)) (by constructor<;>omega)
  have hb48: ¬((n:Int)*(i.bytes:Int)>2^48):=by
   have:n*i.bytes≤2^48:=by omega
   have h2:((n*i.bytes:Nat):Int)≤2^48:=by exact_mod_cast this
   rw[Int.natCast_mul] at h2;omega
  have hn0: ¬((n:Int)<0):=by omega
  have hn1:n≠0:=by omega
  simp only[Builtin.append_]
  simp[run_underlying ht,run_underlying hti,sizeOf,typeInfo,zeroValue,hi,hz,Builtin.lenOf,h48,Question.forced,newRow,grownCap,asInt,asIntOf,hwr,hb48,hn0,hn1,Builtin.firstCells]
  have q1: ¬(281474976710656<(n:Int)*(i.bytes:Int)):=by omega
  have q2: ¬(9223372036854775807<(n:Int)):=by omega
  have q3: ¬(n*i.size=0):=Nat.ne_of_gt<|Nat.mul_pos hn hsz
  rw[if_neg q1,if_neg q2,if_neg q3]
 ·simp only[Array.size_append,size_zeroCells,hzs]
  rw[←Nat.add_mul,Nat.zero_add]
  apply Nat.le_of_eq;congr 1;omega
 ·subst hw'
  exact⟨rfl,rfl,rfl,by simp,fun k hk _=>heap_alloc_old w.drew _ hk⟩
theorem Xl{n:Nat}{env:aT}{w0:World}{S:bO}{H:List V.aH}{ops:cI}{o:Oper}{K:cf}(d:Nat){x y:Operand}{z:Value}{sz by_ m:Nat}
  (hok:f9 ops n env o (some d)=true)(ho:o.op= .call {callee:= .builtin .append,args:=#[x,y],argTypes:=#[t,ti]})(hx:ev env x=some (.slice none 0 0))(hy:ev env y=some (.int .i64 m))
  (ht:P.underlying t=some (.slice e))(hti:P.underlying ti=some (.int k))(hinf:(P.info? e).map (fun i=>(i.zero,i.size,i.bytes))=some (some z,sz,by_))(hzs:z.cells.size=sz)(hsz:0<sz)(hm:0<m)(h63:m≤maxLen)(hbytes:m*by_≤140737488355328)
  (H':Nat→Nat→List V.aH)(hH: ∀b c,H++[sl (some ⟨b,0,none⟩) 0 c e sz []]=H' b c)
  (h: ∀b c,V.A n ((d,.slice (some ⟨b,0,none⟩) m c)::env) w0 S (H' b c) K):V.A n env w0 S H (dB P ops o K):=by
 intro a w r s
 obtain⟨h1',h2,h3,h4⟩:=j7 hok
 unfold dB
 rw[if_pos<|iV r h1']
 simp only[Option.map_eq_some_iff,Prod.mk.injEq] at hinf
 obtain⟨inf,hinf,hz,hs1,hs2⟩:=hinf
 subst hs1;subst hs2
 obtain⟨b,c,w',hrun,hsl,hfr,hb⟩:=Mc (P:=P) (ty:=o.type) w ht hti hinf hz hzs hsz hm h63 hbytes
 unfold Oper.wp execOp
 simp only[ho,resolve,invoke,builtin,Sem.run_bind,Sem.run_pure,Result.andThen_ok,List.map_toArray,List.map_cons,List.map_nil,r.ev hx,r.ev hy,hrun,Oper.upon,h2]
 refine h b c _ _ (r.put<|h3 d rfl) ?_
 rw[←hH]
 exact s.add hfr hsl (show(fU<|some ⟨b,0,none⟩).Nodup from Ao _)<|by simpa[sl,fU] using hb
set_option maxHeartbeats 1000000 in
set_option maxRecDepth 100000 in
theorem Og(n:Nat)(hn:n≤1000)(w:World)(hs:HS w (aL []) [] w):
  Calls Tryz.prog 138 #[.slice none 0 0,c_ n] w fun e w'=> ∃zz:bn×Nat,e= .returned ((fun zz=>match zz with|(al',cl')=>vS al' ([]:bT) cl') zz)∧(fun zz=>match zz with|(al',cl')=>True) zz∧Turn [] ((fun zz=>match zz with|(al',cl')=>[sI al' ([]:bT) cl']) zz) w w':=by
 refine aU Tryz.func138 rfl hs (eo [(0,.slice none 0 0),(1,c_ n)] [] ⟨rfl,rfl,trivial⟩ rfl (aD [(0,.slice none 0 0),(1,c_ n),(4,.slice none 0 0)]<|aE<|aD [(6,b_<|decide ((n:Int)<0))]<|aI (E:=decide ((n:Int)<0)) rfl (fun e1=>?_) (fun e1=>?_)))
 ·exact absurd e1<|by simp
 refine au<|bW [.p,.p,.p,.p,.p,.p,.w<|(n:Int)-0] [(1,i_<|(n:Int)-0)] (o1<|wj ((n:Int)-0)<|by omega)<|aE<|fE [(0,.slice none 0 0),(1,c_ n)] ⟨rfl,congrArg (fun z_=>some<|i_ z_)<|Int.sub_zero _,trivial⟩<|bX [(1,c_ n),(16,b_<|decide ((n:Int)>0))]<|aI (E:=decide ((n:Int)>0)) rfl (fun e2=>?_) (fun e2=>?_)
 ·have hn0:0<n:=by have:=dZ e2;omega
  refine aM<|bA 5 [] [(20,.slice none 0 0),(21,c_ n)]<|aG<|Xl 22 (t:=65) (ti:=3) (e:=3) (k:= .i64) (z:=i_ 0) (sz:=1) (by_:=8) (m:=n) (by kernel_rfl) rfl rfl rfl (by kernel_rfl) (by kernel_rfl) (by kernel_rfl) (by rfl) (by decide) hn0 (by unfold maxLen;omega) (by omega) (fun b c=>[sI (some ⟨b,0,none⟩) ([]:bT) c]) (fun _ _=>rfl) ?_
  intro b c
  refine j0 [.p,.p] [(22,.slice (some ⟨b,0,none⟩) n c),(24,i_ 0)] (aG (cC (some 25) (.slice (if c=0 then some ⟨b,0,none⟩ else(some ⟨b,0,none⟩:bn).map (·.add 0)) 0 c) (RR (k:=0) (el:=3) (sz:=1) rfl rfl rfl (by kernel_rfl) (by kernel_rfl) (Nat.zero_le _)) (ak [(0,.slice (if c=0 then some ⟨b,0,none⟩ else(some ⟨b,0,none⟩:bn).map (·.add 0)) 0 c)]<|fE [(0,vS (some ⟨b,0,none⟩) ([]:bT) c)] (by exact⟨congrArg (fun z_=>some<|Value.slice z_ 0 c) (by split<;>rfl),trivial⟩) ?_)))
  refine aD [(4,vS (some ⟨b,0,none⟩) ([]:bT) c)]<|aF<|cN [0] [vS (some ⟨b,0,none⟩) ([]:bT) c] (fun _ w r s=>⟨dM r rfl,trivial⟩) (some ⟨b,0,none⟩,c) rfl trivial (by kernel_rfl)
 ·refine aP<|aC<|dQ [] [(4,.slice none 0 0)]<|gC 3 1 [sI none ([]:bT) 0] rfl (aF<|cN [0] [.slice none 0 0] (fun _ w r s=>⟨dM r rfl,trivial⟩) (none,0) rfl trivial (by kernel_rfl))
theorem N6(bs:Nat)(ax:bn)(xs:bT)(cx:Nat)(ay:bn)(ys:bT)(cy:Nat)(hx:xs.length≤200)(hy:ys.length≤200)(w:World)(r0:(aA bs [vS ax xs cx,vS ay ys cy] 65).holds w)(r1:dR w ax (V.aQ i6 xs))(r2:dR w ay (V.aQ i6 ys))(hs:HI w []):
  CV 95 #[.slice (some ⟨bs,0,none⟩) 2 2] w [] (fun((al',cl'):(bn)×Nat)=>(vS al' (xs++ys) cl')) (fun _=>True) fun(al',cl')=>[sI al' (xs++ys) cl']:=by
 refine aU Tryz.func95 rfl hs (aD []<|aD [(3,i_ 0)]<|aE<|aD [(9,.slice (some ⟨bs,0,none⟩) 2 2),(10,i_ 2),(11,i_ 0)]<|aO<|jm 400<|dK (m:=399)<|aD [(12,b_ true)]<|aE<|dX<|au<|aO<|aC<|aG<|cC (some 13) (p_ bs) (ku (off:=0) (sz:=1) (el:=65) (e:=0) (len:=2) rfl rfl rfl (by kernel_rfl) (by kernel_rfl) (by omega))<|az [.rd [vS ax xs cx]] [(5,vS ax xs cx)] (o1<|ro ⟨bs,0,none⟩ (vs:=[vS ax xs cx])<|cB r0 rfl)<|bW [.w<|0+(xs.length:Int)] [(3,i_<|0+(xs.length:Int))] (o1<|wj (0+(xs.length:Int))<|by omega)<|aD [(20,b_<|decide ((0+(xs.length:Int))<0))]<|aI rfl (fun e1=>?_) (fun e1=>?_))
 ·exact absurd e1<|by(intro h_;have h2_:=dZ h_;omega)
 have p1:=ga e1
 refine aP<|bX [(11,i_ 1)]<|dK (m:=398)<|aD [(12,b_ true)]<|aE<|dX<|au<|aO<|aC<|aG<|cC (some 13) (q_ bs 1) (ku (off:=0) (sz:=1) (el:=65) (e:=1) (len:=2) rfl rfl rfl (by kernel_rfl) (by kernel_rfl) (by omega))<|az [.rd [vS ay ys cy]] [(5,vS ay ys cy)] (o1<|ro ⟨bs,1,none⟩ (vs:=[vS ay ys cy])<|cB r0 rfl)<|bW [.w<|(0+(xs.length:Int))+(ys.length:Int)] [(3,i_<|(0+(xs.length:Int))+(ys.length:Int))] (o1<|wj ((0+(xs.length:Int))+(ys.length:Int))<|by omega)<|aD [(20,b_<|decide (((0+(xs.length:Int))+(ys.length:Int))<0))]<|aI rfl (fun e2=>?_) (fun e2=>?_)
 ·exact absurd e2<|by(intro h_;have h2_:=dZ h_;omega)
 have p2:=ga e2
 refine aP<|bX [(11,i_ 2)]<|dK (m:=397)<|aD [(12,b_ false)]<|aE<|bY<|bR<|aE<|aW 3 (c_ (xs.length+ys.length:Nat)) (ko<|by(show(0+(xs.length:Int))+(ys.length:Int)=((xs.length+ys.length:Nat):Int);omega))<|aM<|cP [.p] [(23,c_ (xs.length+ys.length:Nat))]<|aG<|bM (some 24) [] (Og (xs.length+ys.length:Nat)<|by omega) ?_
 rintro⟨al'1,cl'2⟩-
 refine ak [(6,vS al'1 ([]:bT) cl'2)]<|aE<|aD [(25,.slice (some ⟨bs,0,none⟩) 2 2),(26,i_ 2),(27,i_ 0)]<|aO<|jm 400<|dK (m:=399)<|aD [(28,b_ true)]<|aE<|dX<|au<|aO<|aC<|aG<|cC (some 29) (p_ bs) (ku (off:=0) (sz:=1) (el:=65) (e:=0) (len:=2) rfl rfl rfl (by kernel_rfl) (by kernel_rfl) (by omega))<|az [.rd [vS ax xs cx]] [(8,vS ax xs cx)] (o1<|ro ⟨bs,0,none⟩ (vs:=[vS ax xs cx])<|cB r0 rfl)<|aM<|bA 2 [] [(31,vS al'1 ([]:bT) cl'2),(32,vS ax xs cx)]<|aG<|gn i6 ([]:bT) xs 0 33 (i_ 0) 8 dL jo (bg r1<|by simp[aL]) (by((simp;omega))) ?_
 intro A4 c4
 refine ak [(6,vS A4 xs c4)]<|bX [(27,i_ 1)]<|dK (m:=398)<|aD [(28,b_ true)]<|aE<|dX<|au<|aO<|aC<|aG<|cC (some 29) (q_ bs 1) (ku (off:=0) (sz:=1) (el:=65) (e:=1) (len:=2) rfl rfl rfl (by kernel_rfl) (by kernel_rfl) (by omega))<|az [.rd [vS ay ys cy]] [(8,vS ay ys cy)] (o1<|ro ⟨bs,1,none⟩ (vs:=[vS ay ys cy])<|cB r0 rfl)<|aM<|bA 2 [] [(31,vS A4 xs c4),(32,vS ay ys cy)]<|aG<|gn i6 xs ys 0 33 (i_ 0) 8 dL jo (bg r2<|by simp[aL]) (by((simp;omega))) ?_
 intro A5 c5
 refine ak [(6,vS A5 (xs++ys) c5)]<|bX [(27,i_ 2)]<|dK (m:=397)<|aD [(28,b_ false)]<|aE<|bY<|bR<|aD [(2,vS A5 (xs++ys) c5)]<|aF<|bJ [0] [vS A5 (xs++ys) c5] (A5,c5) ?_ ?_
 ·rfl
 trivial
end Go.Proofs.YtobgjpigngoggaaGreat
namespace Go.Proofs.YtobgjpigngoggaaGreat
open Go V
def kh(kv kw:List (Int×Cl))(i:Int):Bool:=decide (aB kv i≠aB kw i)
abbrev jg(kv:bm Cl):bT:=aX kv<|fun v_=>true
def fW(kv kw:List (Int×Cl))(k:Nat):List Int:=((jg kv++jg kw).take k).filter (kh kv kw)
def dC(kv kw:List (Int×Cl)):List Int:=Go.Lib.compact<|gJ<|(jg kv++jg kw).filter (kh kv kw)
variable{kv kw:bm Cl}{k:Nat}
theorem LC{i:Int}(h:(jg kv++jg kw)[k]? =some i)(hd:kh kv kw i=true):fW kv kw k++[i]=fW kv kw (k+1):=by
 unfold fW;rw[List.take_add_one,h,List.filter_append];simp[hd]
theorem LD{i:Int}(h:(jg kv++jg kw)[k]? =some i)(hd:kh kv kw i=false):fW kv kw k=fW kv kw (k+1):=by
 unfold fW;rw[List.take_add_one,h,List.filter_append];simp[hd]
theorem QT(kv kw:bm Cl)(k:Nat):(fW kv kw k).length≤k:=Nat.le_trans (List.length_filter_le _ _) (by simp;omega)
theorem IS(h:(jg kv++jg kw).length≤k):fW kv kw k=(jg kv++jg kw).filter (kh kv kw):=by unfold fW;rw[List.take_of_length_le h]
theorem yQ(kv:bm Cl):(jg kv).length≤kv.length:=pH _ _
theorem Fj(l:bT):(Go.Lib.compact l).length≤l.length:=by
 unfold Go.Lib.compact Go.Lib.compactUpTo;rw[List.length_map];exact Nat.le_trans (List.length_filter_le _ _)<|by simp
open Go.RowKit Go.Sort Go.Shelf Go.Proofs
def Tryz.laysNm220_ren:Go.Shelf.Ren:=⟨fun|20=>97|n=>n,fun|22=>65|3=>3|4=>4|0=>0|n=>n,fun|n=>n⟩
theorem Tryz.laysNm220:Go.Proofs.Lays2.n20 Tryz.prog Tryz.laysNm220_ren:={
 mixed:=by kernel_rfl
 f20:=Tryz.func97.trans<|congrArg some<|by kernel_rfl
 t0:=Tryz.underlying0
 a0:=Tryz.isAgg0
 z0:=Tryz.sizeOf0
 v0:=Tryz.zeroValue0
 t3:=Tryz.underlying3
 a3:=Tryz.isAgg3
 z3:=Tryz.sizeOf3
 v3:=Tryz.zeroValue3
 t4:=Tryz.underlying4
 a4:=Tryz.isAgg4
 z4:=Tryz.sizeOf4
 v4:=Tryz.zeroValue4
 t22:=Tryz.underlying65
 a22:=Tryz.isAgg65
 z22:=Tryz.sizeOf65
 v22:=Tryz.zeroValue65
 i3:=by kernel_rfl}
theorem Nz(A:bn)(l:bT)(c:Nat)(hl:l.length≤100000):
  CS 97 #[vS A l c] [sI A l c] (fun(zz:Unit)=>(vS A (Go.Lib.compact l) c)) (fun _=>True) fun _=>[sI A (Go.Lib.compact l) c]:=by
 intro w hs
 have h0:(sI A l c).holds w:=hs.all _<|by simp
 cases A with
 |none=>
  have hl0:l=[]:=by
   obtain⟨_,h2,_,⟨_,h4⟩|⟨_,_,_,h4,_⟩⟩:=h0
   ·exact List.eq_nil_of_length_eq_zero<|by omega
   ·cases h4
  subst hl0
  refine(Any.slices_Compact_int_empty Tryz.laysNm220 none c w).mono ?_
  rintro e w' ⟨rfl,rfl⟩
  exact⟨(),rfl,trivial,Turn.of hs<|.refl _⟩
 |some a=>
  obtain⟨g,off,rfl⟩: ∃g off,a=⟨g,off,none⟩:=by
   obtain⟨_,_,_,⟨h4,_⟩|⟨g,off,_,h4,_⟩⟩:=id h0
   ·cases h4
   ·cases h4;exact⟨g,off,rfl⟩
  obtain⟨hH,hlt⟩:=Gm (fun _=>rfl) h0
  refine(Any.slices_Compact_int Tryz.laysNm220 g off c l w hH (by omega) h0.2.1).mono ?_
  rintro e w' ⟨rfl,q,rfl⟩
  exact⟨(),rfl,trivial,KN (fun _=>rfl) (by have:=Fj l;simp;omega) h0⟩
abbrev LF(p0)(p1):=((.tuple #[.agg (ag<|aN p0 p1).toArray,i_<|fA p0 p1]):Value)
theorem LG(bt mb:Nat)(kv:bm Cl)(bu mc:Nat)(kw:bm Cl)(hl:kv.length≤64)(hm:kw.length≤64)(w:World)(r0:(aA bt [.map<|some mb] 185).holds w)(r1:(cU mb kv).holds w)(r2:(aA bu [.map<|some mc] 185).holds w)(r3:(cU mc kw).holds w)(hs:HI w []):
  CV 67 #[p_ bt,p_ bu] w [] (fun((al',cl'):(bn)×Nat)=>(vS al' (dC kv kw) cl')) (fun _=>True) fun(al',cl')=>[sI al' (dC kv kw) cl']:=by
 have hk1:=yQ kv;have hk2:=yQ kw;unfold jg at hk1 hk2;have hk3:((aX kv<|fun v_=>true)++(aX kw<|fun v_=>true)).length≤128:=by rw[List.length_append];omega
 refine aU Tryz.func67 rfl hs (aD []<|aD [(5,e_)]<|cS<|cP [.p] [(12,p_ bt)]<|aG<|dG (some 13) [] (fun w s h=>D9 bt mb kv (by omega) w (bV s r0) (bV s r1) h) ?_)
 rintro⟨al'1,cl'2⟩-
 refine cP [.p] [(13,vS al'1 (aX kv<|fun v_=>true) cl'2),(14,p_ bu)]<|aG<|dG (some 15) [] (fun w s h=>D9 bu mc kw (by omega) w (bV s r2) (bV s r3) h) ?_
 rintro⟨al'4,cl'5⟩-
 refine aG<|eB 16 (e:=65) [vS al'1 (aX kv<|fun v_=>true) cl'2,vS al'4 (aX kw<|fun v_=>true) cl'5] (by kernel_rfl) rfl (fun _=>by kernel_rfl) _ (fun _=>rfl) ?_
 intro b7
 refine aG<|dG (some 17) [] (fun w s h=>N6 b7 al'1 (aX kv<|fun v_=>true) cl'2 al'4 (aX kw<|fun v_=>true) cl'5 (by omega) (by omega) w (s.mem (i:=2) rfl) ((cV (i:=1) rfl) w s) ((cV (i:=0) rfl) w s) h) ?_
 rintro⟨al'8,cl'9⟩-
 refine ak [(17,vS al'8 ((aX kv<|fun v_=>true)++(aX kw<|fun v_=>true)) cl'9),(18,i_ (((aX kv<|fun v_=>true)++(aX kw<|fun v_=>true)).length:Int)),(19,i_ 0)]<|aO<|gC 3 1 [sI al'8 ((aX kv<|fun v_=>true)++(aX kw<|fun v_=>true)) cl'9,sI al'4 (aX kw<|fun v_=>true) cl'5,sI al'1 (aX kv<|fun v_=>true) cl'2,aA b7 [vS al'1 (aX kv<|fun v_=>true) cl'2,vS al'4 (aX kw<|fun v_=>true) cl'5] 65,sI none ([]:bT) 0] rfl (bj 4 (sI none (fW kv kw 0) 0) rfl (cw (by rfl:([]:bT)=(fW kv kw 0))) (aW 5 (vS none (fW kv kw 0) 0) (congrArg (fun z_:bT=>some<|Value.slice none z_.length 0) (by rfl:([]:bT)=(fW kv kw 0)))<|eA (σ:=Nat×(bn)×Nat) [] (fun(k,ao,co)=>[(19,c_ k),(5,vS ao (fW kv kw k) co)]) [4] (fun(k,ao,co)=>[sI ao (fW kv kw k) co]) (fun(k,ao,co)=>(k≤((aX kv<|fun v_=>true)++(aX kw<|fun v_=>true)).length)) (fun(k,ao,co)=>((aX kv<|fun v_=>true)++(aX kw<|fun v_=>true)).length-k) (0,none,0) (by omega) ?_ ?_))
 ·exact bB [4,0,0,0,0]
 rintro⟨k,ao,co⟩ hk
 have hk:k≤((aX kv<|fun v_=>true)++(aX kw<|fun v_=>true)).length:=hk
 have htl:=QT kv kw k
 refine aD [(20,b_<|decide ((k:Int)<(((aX kv<|fun v_=>true)++(aX kw<|fun v_=>true)).length:Int)))]<|aE<|aI rfl (fun e4=>?_) (fun e4=>?_)
 ·have p4:=dZ e4
  refine au<|aO<|aC<|ic [.ix] [(21,.pointer<|some<|(aZ al'8).add (k*1))] (o1<|bH 1 k dL rfl (by omega)) ?_
  obtain⟨x12,hx12⟩: ∃x,(((aX kv<|fun v_=>true)++(aX kw<|fun v_=>true)))[k]? =some x:=⟨_,dA<|by omega⟩
  refine az [.rd [i_ x12]] [(7,i_ x12)] (o1<|ro ((aZ al'8).add (k*1))<|dY (vs:=[i_ x12]) dL (cV (i:=1) rfl) hx12 (Nat.le_of_ble_eq_true rfl) rfl)<|aC<|iE [.cq<|LF kv x12,.al,.st 5] [] (fun b13=>[(8,p_ b13),(9,i_<|fA kv x12)]) (fun b13=>[]) (fun b13=>aA b13 (ag<|aN kv x12) 62) (fun b13=>o1<|qo<|fun w s=>sQ bt mb kv x12 w (bV s r0)<|bV s r1) ?_
  intro b13
  refine aC<|iE [.cq<|LF kw x12,.al,.st 6] [] (fun b14=>[(10,p_ b14),(11,i_<|fA kw x12)]) (fun b14=>[]) (fun b14=>aA b14 (ag<|aN kw x12) 62) (fun b14=>o1<|qo<|fun w s=>sQ bu mc kw x12 w (bV s r2)<|bV s r3) ?_
  intro b14
  refine aC<|bF [.p,.p,.p,.p,.eq,.p,.o,.ld 5,.ld 6,.eq,.cl] [(44,b_<|(!(((fA kv x12)==0)==((fA kw x12)==0)))||(!((((aN kv x12).hi)==((aN kw x12).hi))&&((((aN kv x12).hp)==((aN kw x12).hp))&&((((aN kv x12).hl)==((aN kw x12).hl))&&(((((aN kv x12).ra)==((aN kw x12).ra))&&((((aN kv x12).rb)==((aN kw x12).rb))&&(((aN kv x12).rc)==((aN kw x12).rc))))&&(((((aN kv x12).la)==((aN kw x12).la))&&((((aN kv x12).lb)==((aN kw x12).lb))&&(((aN kv x12).lc)==((aN kw x12).lc))))&&(((((aN kv x12).ua)==((aN kw x12).ua))&&((((aN kv x12).ub)==((aN kw x12).ub))&&(((aN kv x12).uc)==((aN kw x12).uc))))&&((((aN kv x12).hk)==((aN kw x12).hk))&&(((aN kv x12).hq)==((aN kw x12).hq)))))))))))]<|aI rfl (fun e5=>?_) (fun e5=>?_)
  ·have hdf:kh kv kw x12=true:=by
    revert e5;unfold kh;cases h1_:aB kv x12 with
    |none=>cases h2_:aB kw x12 with
     |none=>simp[fA,aN,h1_,h2_,cG]
     |some v_=>simp[fA,aN,h1_,h2_,cG]
    |some u_=>cases h2_:aB kw x12 with
     |none=>simp[fA,aN,h1_,h2_,cG]
     |some v_=>obtain⟨_,_,_,_,_,_,_,_,_,_,_,_,_,_⟩:=u_;obtain⟨_,_,_,_,_,_,_,_,_,_,_,_,_,_⟩:=v_;simp[fA,aN,h1_,h2_];try(grind)
   refine aM<|bA 2 [] [(45,vS ao (fW kv kw k) co),(46,i_ x12)]<|aG<|eB 47 (e:=3) [i_ x12] (by kernel_rfl) rfl (fun _=>by kernel_rfl) _ (fun _=>rfl) ?_
   intro b15
   refine aG<|gn i6 (fW kv kw k) ([x12]) 0 48 (i_ 0) 8 dL jo (eV (i:=7) rfl) (by((simp;omega))) ?_
   intro A16 c16
   refine ak [(5,vS A16 ((fW kv kw k)++([x12])) c16)]<|aM<|az [.w<|(k:Int)+1] [(18,i_ (((aX kv<|fun v_=>true)++(aX kw<|fun v_=>true)).length:Int)),(19,i_<|(k:Int)+1),(5,vS A16 ((fW kv kw k)++([x12])) c16)] (o1<|wj ((k:Int)+1)<|by omega)<|bj 0 (sI A16 (fW kv kw<|k+1) c16) rfl (cw (LC ‹_› hdf:(fW kv kw k)++([x12])=(fW kv kw<|k+1))) (aW 5 (vS A16 (fW kv kw<|k+1) c16) (eW<|LC ‹_› hdf)<|bC (k+1,A16,c16) (by omega) (by(have h_:=(dT.1 (by assumption:((aX kv<|fun v_=>true)++(aX kw<|fun v_=>true))[k]? =some _)).1;show((aX kv<|fun v_=>true)++(aX kw<|fun v_=>true)).length-(k+1)<((aX kv<|fun v_=>true)++(aX kw<|fun v_=>true)).length-k;omega)) ?_)
   exact bB [0,0,0,0,0]
  have hdf:kh kv kw x12=false:=by
   revert e5;unfold kh;cases h1_:aB kv x12 with
   |none=>cases h2_:aB kw x12 with
    |none=>simp[fA,aN,h1_,h2_,cG]
    |some v_=>simp[fA,aN,h1_,h2_,cG]
   |some u_=>cases h2_:aB kw x12 with
    |none=>simp[fA,aN,h1_,h2_,cG]
    |some v_=>obtain⟨_,_,_,_,_,_,_,_,_,_,_,_,_,_⟩:=u_;obtain⟨_,_,_,_,_,_,_,_,_,_,_,_,_,_⟩:=v_;simp[fA,aN,h1_,h2_];try(grind)
  refine aP<|aM<|az [.w<|(k:Int)+1] [(19,i_<|(k:Int)+1)] (o1<|wj ((k:Int)+1)<|by omega)<|bj 0 (sI ao (fW kv kw<|k+1) co) rfl (cw (LD ‹_› hdf:(fW kv kw k)=(fW kv kw<|k+1))) (aW 5 (vS ao (fW kv kw<|k+1) co) (eW<|LD ‹_› hdf)<|bC (k+1,ao,co) (by omega) (by(have h_:=(dT.1 (by assumption:((aX kv<|fun v_=>true)++(aX kw<|fun v_=>true))[k]? =some _)).1;show((aX kv<|fun v_=>true)++(aX kw<|fun v_=>true)).length-(k+1)<((aX kv<|fun v_=>true)++(aX kw<|fun v_=>true)).length-k;omega)) ?_)
  exact bB [0,0,0,0,0]
 have p4:=ga e4
 refine bR<|aC<|cP [.p] [(50,vS ao (fW kv kw k) co)]<|aG<|bM (some 51) [0] (vK ao (fW kv kw k) co<|by omega) ?_
 rintro⟨⟩-
 refine dP<|aE<|aW 5 (vS ao (gJ<|fW kv kw k) co) (cE<|by rw[oP])<|aW 50 (vS ao (gJ<|fW kv kw k) co) (cE<|by rw[oP])<|aM<|cP [.p] [(52,vS ao (gJ<|fW kv kw k) co)]<|aG<|bM (some 53) [0] (Nz ao (gJ<|fW kv kw k) co<|by(rw[oP];omega)) ?_
 rintro⟨⟩-
 refine ak [(4,vS ao (Go.Lib.compact<|gJ<|fW kv kw k) co)]<|aF<|bj 0 (sI ao (dC kv kw) co) rfl (cw (by(unfold dC;rw[IS (show((aX kv<|fun v_=>true)++(aX kw<|fun v_=>true)).length≤k from by omega)];done):(Go.Lib.compact<|gJ<|fW kv kw k)=(dC kv kw))) (bJ [0] [vS ao (Go.Lib.compact<|gJ<|fW kv kw k) co] (ao,co) ?_ ?_)
 ·show((vS ao (Go.Lib.compact<|gJ<|fW kv kw k) co):Value)=(vS ao (dC kv kw) co)
  unfold dC;rw[IS (show((aX kv<|fun v_=>true)++(aX kw<|fun v_=>true)).length≤k from by omega)]
 trivial
end Go.Proofs.YtobgjpigngoggaaGreat
namespace Go.Proofs.YtobgjpigngoggaaGreat
open Go V
def na(kv kw:List (Int×Cl))(i:Int):Bool:=decide ((aV (aN kv i).ra (aN kv i).rb (aN kv i).rc)>1)||decide ((aV (aN kw i).ra (aN kw i).rb (aN kw i).rc)>1)
variable{l:bT}{f:Int→Bool}{k:Nat}
theorem Ve{i:Int}(h:l[k]? =some i)(hf:f i=true):l.any f=true:=List.any_eq_true.2 ⟨i,cT h,hf⟩
theorem Vf(hn: ∀x∈l.take k,f x=false)(hk:l.length≤k):l.any f=false:=by
 rw[List.take_of_length_le hk] at hn;rw[List.any_eq_false];intro x hx;simp[hn x hx]
theorem Vg{i:Int}(hn: ∀x∈l.take k,f x=false)(h:l[k]? =some i)(hf:f i=false): ∀x∈l.take (k+1),f x=false:=by
 rw[List.take_add_one,h];intro x hx
 rcases List.mem_append.1 hx with hx|hx
 ·exact hn x hx
 ·simp at hx;subst hx;exact hf
theorem DT(kv kw:bm Cl):(dC kv kw).length≤kv.length+kw.length:=by
 unfold dC
 refine Nat.le_trans (Fj _) ?_
 rw[oP]
 refine Nat.le_trans (List.length_filter_le _ _) ?_
 rw[List.length_append];have h1:=yQ kv;have h2:=yQ kw;omega
abbrev LH(p0)(p1):=((.tuple #[.agg (ag<|aN p0 p1).toArray,i_<|fA p0 p1]):Value)
abbrev EP(p0)(p1)(p2):=(b_ ((decide ((aV (aN p0 p1).ra (aN p0 p1).rb (aN p0 p1).rc)>1))||(decide ((aV (aN p2 p1).ra (aN p2 p1).rb (aN p2 p1).rc)>1))):Value)
theorem Of(ci:Int)(ba bb:Nat)(bt mb:Nat)(kv:bm Cl)(bu mc:Nat)(kw:bm Cl)(w:World)(r0:(aA ba [p_ bt] 131).holds w)(r1:(aA bb [p_ bu] 131).holds w)(r2:(aA bt [.map<|some mb] 185).holds w)(r3:(cU mb kv).holds w)(r4:(aA bu [.map<|some mc] 185).holds w)(r5:(cU mc kw).holds w):
  CW 102 #[i_ ci,p_ ba,p_ bb] w (b_<|na kv kw ci):=by
 refine aU Tryz.func102 rfl (HS.nil w) (aD []<|aC<|iE [.rd [p_ bt],.cq<|LH kv ci,.al,.st 0] [] (fun b1=>[(5,p_ b1)]) (fun b1=>[]) (fun b1=>aA b1 (ag<|aN kv ci) 62) (fun b1=>oc (ro ⟨ba,0,none⟩ (vs:=[p_ bt])<|cB r0 rfl)<|o1<|qo<|fun w s=>sQ bt mb kv ci w (bV s r2)<|bV s r3) ?_)
 intro b1
 refine aC<|iE [.rd [p_ bu],.cq<|LH kw ci,.al,.st 1] [] (fun b2=>[(7,p_ b2)]) (fun b2=>[]) (fun b2=>aA b2 (ag<|aN kw ci) 62) (fun b2=>oc (ro ⟨bb,0,none⟩ (vs:=[p_ bu])<|cB r1 rfl)<|o1<|qo<|fun w s=>sQ bu mc kw ci w (bV s r4)<|bV s r5) ?_
 intro b2
 refine bW [.ld 0,.cq<|b_<|decide ((aV (aN kv ci).ra (aN kv ci).rb (aN kv ci).rc)>1),.o,.ld 1,.cq<|b_<|decide ((aV (aN kw ci).ra (aN kw ci).rb (aN kw ci).rc)>1),.cl] [(4,EP kv ci kw)] (oc (qw<|re<|aN kv ci)<|o1<|go (true&&((decide ((aV (aN kv ci).ra (aN kv ci).rb (aN kv ci).rc)>1))==false)) fun h_=>(qw<|re<|aN kw ci))<|aF<|bK [EP kv ci kw] ?_
 show((EP kv ci kw):Value)=(b_<|na kv kw ci)
 rfl
abbrev wR(p0):=(b_ (decide ((p0:Int)≥0)):Value)
theorem Vh(bt mb:Nat)(kv:bm Cl)(bu mc:Nat)(kw:bm Cl)(hl:kv.length≤64)(hm:kw.length≤64)(w:World)(r0:(aA bt [.map<|some mb] 185).holds w)(r1:(cU mb kv).holds w)(r2:(aA bu [.map<|some mc] 185).holds w)(r3:(cU mc kw).holds w):
  CW 70 #[p_ bt,p_ bu] w (b_<|(dC kv kw).any (na kv kw)):=by
 have htl0:=DT kv kw
 refine aU Tryz.func70 rfl (HS.nil w) (aC<|fz [.al,.al] [] (fun b1 b2=>[(2,p_ b1),(3,p_ b2)]) (fun b1 b2=>[aA b1 [p_ bt] 131,aA b2 [p_ bu] 131]) ?_)
 intro b1 b2
 refine aC<|cP [.ld 0,.ld 1] [(5,p_ bt),(6,p_ bu)]<|aG<|dG (some 7) [] (fun w s h=>LG bt mb kv bu mc kw ‹_› ‹_› w (bV s r0) (bV s r1) (bV s r2) (bV s r3) h) ?_
 rintro⟨al'3,cl'4⟩-
 refine cP [.p] [(7,vS al'3 (dC kv kw) cl'4),(8,.func (.func 102) #[] #[p_ b1,p_ b2])]<|aG<|dx (some 9) [vS al'3 (dC kv kw) cl'4,.func (.func 102) #[] #[p_ b1,p_ b2]] Tryz.func68 rfl (aD []<|aC<|bA 2 [] [(5,vS al'3 (dC kv kw) cl'4),(6,.func (.func 102) #[] #[p_ b1,p_ b2])]<|aG<|dx (some 7) [vS al'3 (dC kv kw) cl'4,.func (.func 102) #[] #[p_ b1,p_ b2]] Tryz.func98 rfl (aD []<|aE<|aD [(7,i_ ((dC kv kw).length:Int)),(8,i_ 0)]<|aO<|eA (σ:=Nat) [] (fun k=>[(8,c_ k)]) [] (fun k=>[]) (fun k=>(k≤(dC kv kw).length)∧(∀x∈(dC kv kw).take k,na kv kw x=false)) (fun k=>(dC kv kw).length-k) (0:Nat) ⟨(by omega),(by simp)⟩ ?_ ?_))
 ·exact bB [0,0,0]
 rintro k ⟨hk,hn⟩
 have htl:=DT kv kw
 refine aD [(9,b_<|decide ((k:Int)<((dC kv kw).length:Int)))]<|aE<|aI rfl (fun e2=>?_) (fun e2=>?_)
 ·have p2:=dZ e2
  refine au<|aO<|aD [(5,c_ k)]<|aC<|dm 4 [.ix] [(11,.func (.func 102) #[] #[p_ b1,p_ b2]),(14,.pointer<|some<|(aZ al'3).add (k*1))] (o1<|bH 0 k dL rfl (by omega)) ?_
  obtain⟨x6,hx6⟩: ∃x,((dC kv kw))[k]? =some x:=⟨_,dA<|by omega⟩
  refine az [.rd [i_ x6],.cq<|b_<|na kv kw x6] [(16,b_<|na kv kw x6)] (oc (ro ((aZ al'3).add (k*1))<|dY (vs:=[i_ x6]) dL (cV (i:=0) rfl) hx6 (Nat.le_of_ble_eq_true rfl) rfl)<|o1<|qo<|fun w s=>Of x6 b1 b2 bt mb kv bu mc kw w (s.mem (i:=1) rfl) (s.mem (i:=2) rfl) (bV s r0) (bV s r1) (bV s r2)<|bV s r3)<|aI rfl (fun e3=>?_) (fun e3=>?_)
  ·refine aD [(4,c_ k)]<|aF<|dO [c_ k]<|dQ [] [(4,wR k)]<|aF<|dO [wR k]<|dQ [] [(4,wR k)]<|aF<|bK [wR k] ?_
   show((wR k):Value)=(b_<|(dC kv kw).any (na kv kw))
   refine congrArg Value.bool ?_;(rw[Ve ‹_› ‹_›];rfl)
  have p3:=e3
  refine aP<|aM<|az [.w<|(k:Int)+1] [(8,i_<|(k:Int)+1)] (o1<|wj ((k:Int)+1)<|by omega)<|bC (k+1) ⟨(by omega),(Vg hn ‹_› ‹_›)⟩ (by(show(dC kv kw).length-(k+1)<(dC kv kw).length-k;omega)) ?_
  exact bB [0,0,0]
 have p2:=ga e2
 refine bR<|aD [(4,i_ (-1))]<|aF<|dO [i_ (-1)]<|dQ [] [(4,b_ false)]<|aF<|dO [b_ false]<|dQ [] [(4,b_ false)]<|aF<|bK [b_ false] ?_
 show((b_ false):Value)=(b_<|(dC kv kw).any (na kv kw))
 refine congrArg Value.bool ?_;(rw[Vf hn<|by omega];done)
theorem vv(kv kw:bm Cl):uy (dC kv kw)∧ ∀z,z∈dC kv kw↔(z∈jg kv∨z∈jg kw)∧kh kv kw z=true:=by
 have h:=IM<|(jg kv++jg kw).filter (kh kv kw)
 have e:dC kv kw=jf (iq<|(jg kv++jg kw).filter (kh kv kw)):=by unfold dC jf Go.Lib.compact;rfl
 rw[e];refine⟨h.1,fun z=>?_⟩
 rw[h.2,List.mem_filter,List.mem_append]
end Go.Proofs.YtobgjpigngoggaaGreat
namespace Go.Proofs.YtobgjpigngoggaaGreat.V
open Go
def co(l:List aH):aH where
 foot:=aL l
 holds w:= ∀it∈l,it.holds w
 loc w w' h hw it hi:=it.loc w w' (fun c hc=>h c<|Gn hi hc)<|hw it hi
 here w hw c hc:=by
  obtain⟨it,hi,hc⟩:=List.mem_flatMap.1 hc
  exact it.here w (hw it hi) c hc
theorem nJ(l R:List aH):aL (co l::R)=aL (l++R):=by simp[aL,co]
variable{w:World}{l R:List aH}
theorem HS.coO{w0:World}{S:bO}(h:HS w0 S (co l::R) w):HS w0 S (l++R) w:=
 ⟨h.fr,fun it hi=>(List.mem_append.1 hi).elim (fun hi=>h.all _ (List.mem_cons_self ..) it hi) fun hi=>h.all _<|List.mem_cons_of_mem _ hi,by have:=h.nodup;rwa[nJ] at this,by have:=h.own;rwa[nJ] at this⟩
variable{Is Os X Y:List aH}{w':World}
theorem Turn.coI(h:Turn (Is++X) (Os++Y) w w'):Turn (co Is::X) (co Os::Y) w w':=
 ⟨by rw[nJ];exact h.fr,fun it hi=>(List.mem_cons.1 hi).elim (fun e=>e▸fun it hi=>h.all it<|List.mem_append.2<|.inl hi) fun hi=>h.all it<|List.mem_append.2<|.inr hi,by rw[nJ];exact h.nodup,by rw[nJ,nJ];exact h.own⟩
theorem Turn.coR(h:Turn X (Os++Y) w w'):Turn X (co Os::Y) w w':=
 ⟨h.fr,fun it hi=>(List.mem_cons.1 hi).elim (fun e=>e▸fun it hi=>h.all it<|List.mem_append.2<|.inl hi) fun hi=>h.all it<|List.mem_append.2<|.inr hi,by rw[nJ];exact h.nodup,by rw[nJ];exact h.own⟩
section
variable{β σ:Type}{f:β→List aH}{kv:List (Int×β)}{k:Int}{m:β}
theorem Turn.bag{ek:Int→Value}{ev:β→Value}{b:Nat}{m':β}(hs:HS w (aL [co [bP ek ev b kv,db f kv]]) [co [bP ek ev b kv,db f kv]] w)(hm:aB kv k=some m)(hf:f m=Is++R)(hf':f m'=Os++R)(he:ev m'=ev m)
  (h:HS w (aL Is) Is w→Turn Is Os w w'):Turn [co [bP ek ev b kv,db f kv]] [co [bP ek ev b<|aK kv k m',db f<|aK kv k m']] w w':=by
 have h0:=hs.coO
 have hmp:(bP ek ev b kv).holds w:=h0.all _<|by simp
 have hb:(db f kv).holds w:=h0.all _<|by simp
 have hp1:(aL<|Is++(R++[bP ek ev b kv,db f<|aY kv k])).Perm (aL<|[bP ek ev b kv,db f kv]++[]):=by
  have:=(rF hm).flatMap_right (fun p:Int×β=>aL<|f p.2)
  simp only[List.flatMap_cons,hf,lI] at this
  refine List.perm_iff_count.2 fun a=>?_
  have:=List.perm_iff_count.1 this a
  simp only[aL,db,lW,bP,List.flatMap_cons,List.flatMap_nil,List.append_nil,List.flatMap_append,List.count_append] at this⊢
  omega
 have h1:HS w (aL [co [bP ek ev b kv,db f kv]]) (Is++(R++[bP ek ev b kv,db f<|aY kv k])) w:=by
  refine⟨Fr.refl _ _,fun it hi=>?_,hp1.nodup_iff.2 h0.nodup,fun c hc=> .inl ?_⟩
  ·rcases List.mem_append.1 hi with hi|hi
   ·exact hb (k,m) (nn hm) it (by rw[hf];exact List.mem_append.2<|.inl hi)
   rcases List.mem_append.1 hi with hi|hi
   ·exact hb (k,m) (nn hm) it (by rw[hf];exact List.mem_append.2<|.inr hi)
   ·simp only[List.mem_cons,List.not_mem_nil,or_false] at hi
    rcases hi with rfl|rfl
    ·exact hmp
    ·exact fun p hq=>hb p<|(rF hm).mem_iff.2 (by simp[hq])
  ·have:=hp1.mem_iff.1 hc;rw[nJ];exact this
 have h2:=h1.turned (List.Perm.refl _)<|h<|h1.focus<|List.Perm.refl _
 have hq:(aL<|[bP ek ev b<|aK kv k m',db f<|aK kv k m']++[]).Perm (aL<|Os++(R++[bP ek ev b kv,db f<|aY kv k])):=by
  have:=(pg k m' kv).flatMap_right (fun p:Int×β=>aL<|f p.2)
  simp only[List.flatMap_cons,hf',lI] at this
  refine List.perm_iff_count.2 fun a=>?_
  have:=List.perm_iff_count.1 this a
  simp only[aL,db,lW,bP,List.flatMap_cons,List.flatMap_nil,List.append_nil,List.flatMap_append,List.count_append] at this⊢
  omega
 refine Turn.coR ⟨h2.fr,fun it hi=>?_,hq.nodup_iff.2 h2.nodup,fun c hc=>h2.own c<|hq.mem_iff.1 hc⟩
 simp only[List.append_nil,List.mem_cons,List.not_mem_nil,or_false] at hi
 rcases hi with rfl|rfl
 ·exact Gp (h2.all (bP ek ev b kv)<|by simp)<|Bw he hm
 ·intro p hq it hi
  rcases List.mem_cons.1 ((pg k _ kv).mem_iff.1 hq) with rfl|hq
  ·rw[hf'] at hi
   rcases List.mem_append.1 hi with hi|hi
   ·exact h2.all it<|List.mem_append.2<|.inl hi
   ·exact h2.all it<|List.mem_append.2<|.inr<|List.mem_append.2<|.inl hi
  ·exact(show(db f<|aY kv k).holds w' from h2.all _<|by simp) p hq it hi
end
section
variable{P:Program}{n:Nat}{env:aT}{w0:World}{S:bO}{H R H':List aH}{o:Oper}{G:cf}{β:Type}
variable{encv:β→Value}{x y:Operand}{t kt et:TypeId}
theorem kF{κ:Type}[DecidableEq κ]{enck:κ→Value}{b:Nat}{kv:List (κ×β)}{k:κ}{m:β}{ok:Bool}{v:Value}(hit: ∀w,HS w0 S H w→(bP enck encv b kv).holds w)(hm:aB kv k=some m)(ho:o.op= .lookup t x y ok)(hx:ev env x=some (.map<|some b))(hy:ev env y=some (enck k))
  (ht:P.underlying t=some (.map kt et))(hk:jd P kt enck)(hv:(bif ok then .tuple #[encv m,.bool true] else encv m)=v):Qt P n env w0 S H o v:=
 gg fun a w r s=>by
  subst hv
  obtain⟨⟨es,clock,hb,hE,_⟩,hn⟩:=hit w s
  rcases tX hk hE hn k w with⟨i,v,_,_,hg,hf⟩|⟨hg,_,hf⟩
  ·rw[hm] at hg;cases hg
   cases ok<;>simp[execOp,ho,r.ev hx,r.ev hy,Instr.lookup,run_underlying ht,Go.MapKept.run_getObj_map hb,hk.check,hf]
  ·rw[hm] at hg;cases hg
theorem OA{κ:Type}[DecidableEq κ]{enck:κ→Value}{b:Nat}{kv:List (κ×β)}{k:κ}{ok:Bool}{z v:Value}(hit: ∀w,HS w0 S H w→(bP enck encv b kv).holds w)(hm:aB kv k=none)(ho:o.op= .lookup t x y ok)(hx:ev env x=some (.map<|some b))(hy:ev env y=some (enck k))
  (ht:P.underlying t=some (.map kt et))(hk:jd P kt enck)(hz:(P.info? et).bind (·.zero)=some z)(hv:(bif ok then .tuple #[z,.bool false] else z)=v):Qt P n env w0 S H o v:=
 gg fun a w r s=>by
  subst hv
  obtain⟨⟨es,clock,hb,hE,_⟩,hn⟩:=hit w s
  simp only[Option.bind_eq_some_iff] at hz
  obtain⟨inf,hinf,hz⟩:=hz
  rcases tX hk hE hn k w with⟨i,v,_,_,hg,hf⟩|⟨hg,_,hf⟩
  ·rw[hm] at hg;cases hg
  ·cases ok<;>simp[execOp,ho,r.ev hx,r.ev hy,Instr.lookup,run_underlying ht,Go.MapKept.run_getObj_map hb,hk.check,hf,zeroValue,typeInfo,hinf,hz]
theorem M8(i:Nat)(hp:fa [i] H=some ([co l],R))(hH:l++R=H')(h:V.A n env w0 S H' G):V.A n env w0 S H G:=
 xN [i] (Os:=l) hp (fun w hw it hi=>hw _ (List.mem_singleton.2 rfl) it hi) (by rw[show[co l]=co l::[] from rfl,nJ];simp) hH h
end
end Go.Proofs.YtobgjpigngoggaaGreat.V
namespace Go.Proofs.YtobgjpigngoggaaGreat
open Go V
structure Qu where
 br:Nat
 ar:Option Addr
 sx:List Pk
 cp:Nat
 f:Nat
 n:Nat
 rm:Int
 bs:Int
 k1:Int
 k2:Int
 k3:Int
 k4:Int
 k5:Int
 k6:Int
instance:Inhabited Qu:=⟨⟨0,none,[],0,0,0,0,0,0,0,0,0,0,0⟩⟩
def qF(b:Nat)(q:Qu):List V.aH:=[aA b [p_ q.br,i_ q.rm,i_ q.bs,u_ q.k1,u_ q.k2,u_ q.k3,u_ q.k4,u_ q.k5,u_ q.k6] 269,aA q.br [.slice q.ar q.sx.length q.cp,i_ (q.f:Int),i_ (q.n:Int)] 315,sl q.ar q.sx.length q.cp 45 6<|V.aQ gZ q.sx]
def ib(b:Option Nat)(q:Qu):V.aH:=match b with|none=>co []|some b=>co<|qF b q
def qp(b:Option Nat):Value:=match b with|none=>n_|some b=>p_ b
def l0(q:Qu):Prop:=q.f<q.sx.length∧q.n≤q.sx.length∧q.sx.length≤64
def qC(q:Qu):List Pk:=(List.range q.n).map fun j=>q.sx.getD ((q.f+j)%q.sx.length) default
theorem nN(q:Qu):(qC q).length=q.n:=by simp[qC]
variable{q:Qu}
theorem Qi{p:Pk}(h:l0 q)(hn:q.n<q.sx.length)(r:Qu)(e1:r.sx=q.sx.set ((q.f+q.n)%q.sx.length) p)(e2:r.f=q.f)(e3:r.n=q.n+1):qC r=qC q++[p]:=by
 have h0:0<q.sx.length:=by omega
 unfold qC;rw[e1,e2,e3,List.range_succ,List.map_append,List.length_set]
 congr 1
 ·refine List.map_congr_left fun j hj=>?_
  have hj:=List.mem_range.1 hj
  have:(q.f+q.n)%q.sx.length≠(q.f+j)%q.sx.length:=fun e=>by
   have h1:=h.1
   rcases Nat.lt_or_ge (q.f+q.n) q.sx.length with h2|h2
   ·rw[Nat.mod_eq_of_lt h2,Nat.mod_eq_of_lt<|by omega] at e;omega
   ·rw[Nat.mod_eq_sub_mod h2,Nat.mod_eq_of_lt<|by omega] at e
    rcases Nat.lt_or_ge (q.f+j) q.sx.length with h3|h3
    ·rw[Nat.mod_eq_of_lt h3] at e;omega
    ·rw[Nat.mod_eq_sub_mod h3,Nat.mod_eq_of_lt<|by omega] at e;omega
  simp[List.getD,List.getElem?_set_ne this]
 ·have:=Nat.mod_lt (q.f+q.n) h0
  simp[List.getD,List.getElem?_set_self this]
theorem TZ{x:Pk}(h:l0 q)(h0:0<q.n)(hx:q.sx[q.f]? =some x)(r:Qu)(e1:r.sx=q.sx.set q.f default)(e2:r.f=(q.f+1)%q.sx.length)(e3:r.n=q.n-1):qC q=x::qC r:=by
 have hf:=h.1
 unfold qC;rw[e1,e2,e3,List.length_set]
 obtain⟨m,hm⟩: ∃m,q.n=m+1:=⟨q.n-1,by omega⟩
 rw[hm,List.range_succ_eq_map,List.map_cons,List.map_map,Nat.add_sub_cancel]
 congr 1
 ·simp[Nat.mod_eq_of_lt hf,List.getD,hx]
 ·refine List.map_congr_left fun j hj=>?_
  have hj:=List.mem_range.1 hj
  have hn:=h.2.1
  have e:((q.f+1)%q.sx.length+j)%q.sx.length=(q.f+(j+1))%q.sx.length:=by rw[Nat.mod_add_mod];congr 1;omega
  have hne:q.f≠(q.f+(j+1))%q.sx.length:=fun e=>by
   rcases Nat.lt_or_ge (q.f+(j+1)) q.sx.length with h2|h2
   ·rw[Nat.mod_eq_of_lt h2] at e;omega
   ·rw[Nat.mod_eq_sub_mod h2,Nat.mod_eq_of_lt<|by omega] at e;omega
  show(q.sx.getD ((q.f+(j+1))%q.sx.length) default)=(q.sx.set q.f default).getD (((q.f+1)%q.sx.length+j)%q.sx.length) default
  rw[e];simp[List.getD,List.getElem?_set_ne hne]
theorem Vz(b:Option Nat)(q:Qu)(h0:b=none→q.n=0)(w:World)(r:(ib b q).holds w):Calls Tryz.prog 107 #[qp b] w fun e w'=>e= .returned (i_ ((qC q).length:Int))∧Fr [] w w':=by
 rw[nN]
 cases b with
 |none=>rw[h0 rfl];exact GR w
 |some b=>exact EJ b q.br q.ar q.sx q.cp q.f q.n q.rm q.bs q.k1 q.k2 q.k3 q.k4 q.k5 q.k6 w (r _<|by simp[qF])<|r _<|by simp[qF]
variable{l:List V.aH}{w:World}
theorem HS.coS(h:HS w (aL [co l]) [co l] w):HS w (aL l) l w:=by
 have:=h.coO;rw[List.append_nil,nJ,List.append_nil] at this;exact this
variable{w':World}
theorem Turn.coS{k:List V.aH}(h:Turn l k w w'):Turn [co l] [co k] w w':=Turn.coI<|by simpa using h
def AH(q:Qu)(p:Pk):Prop:=p.qn≤IntKind.i64.wrap (q.rm-q.bs)∧q.n<q.sx.length
def mX(q:Qu)(p:Pk)(r:Qu)(e:Int):Prop:=l0 r∧r.rm=q.rm∧r.sx.length=q.sx.length∧((AH q p∧e=0∧qC r=qC q++[p]∧r.bs=IntKind.i64.wrap (q.bs+p.qn))∨(¬AH q p∧e=30∧qC r=qC q∧r.bs=q.bs))
def w8(q:Qu)(x:Pk)(r:Qu):Prop:=l0 r∧qC q=x::qC r∧r.rm=q.rm∧r.sx.length=q.sx.length∧r.bs=IntKind.i64.wrap (q.bs-x.qn)
theorem T8(b:Nat)(q:Qu)(hk:l0 q)(p:Pk)(hp:1≤p.qn∧p.qn≤16384)(w:World)(hs:HS w (aL [ib (some b) q]) [ib (some b) q] w):Calls Tryz.prog 112 #[p_ b,.agg #[u_ p.qi,i_ p.qn,w_ p.qa,w_ p.qb,w_ p.qc,w_ p.qd]] w fun e w'=> ∃zz:Qu×Int,e= .returned (i_ zz.2)∧mX q p zz.1 zz.2∧Turn [ib (some b) q] [ib (some b) zz.1] w w':=by
 have hs':=HS.coS hs
 by_cases hd:p.qn≤IntKind.i64.wrap (q.rm-q.bs)
 ·by_cases hn:q.n<q.sx.length
  ·refine(SC b q.br q.ar q.sx q.cp q.f q.n q.rm q.bs q.k1 q.k2 q.k3 q.k4 q.k5 q.k6 p hp hd hk.1 hn hk.2.2 w hs').mono ?_
   rintro e w' ⟨⟨z1,z4⟩,rfl,-,ht⟩
   exact⟨({q with sx:=q.sx.set ((q.f+q.n)%q.sx.length) p,n:=q.n+1,bs:=_,k1:=z1,k4:=z4},0),rfl,⟨⟨by simpa using hk.1,by simp;omega,by simpa using hk.2.2⟩,rfl,by simp,.inl ⟨⟨hd,hn⟩,rfl,Qi hk hn _ rfl rfl rfl,rfl⟩⟩,Turn.coS ht⟩
  ·refine(NR b q.br q.ar q.sx q.cp q.f q.n q.rm q.bs q.k1 q.k2 q.k3 q.k4 q.k5 q.k6 p hp hd (by have:=hk.2.1;omega) w hs').mono ?_
   rintro e w' ⟨⟨z3,z6⟩,rfl,-,ht⟩
   exact⟨({q with k3:=z3,k6:=z6},_),rfl,⟨hk,rfl,rfl,.inr ⟨fun h=>hn h.2,rfl,rfl,rfl⟩⟩,Turn.coS ht⟩
 ·refine(NQ b q.br q.ar q.sx q.cp q.f q.n q.rm q.bs q.k1 q.k2 q.k3 q.k4 q.k5 q.k6 p hp (by omega) w hs').mono ?_
  rintro e w' ⟨⟨z3,z6⟩,rfl,-,ht⟩
  exact⟨({q with k3:=z3,k6:=z6},_),rfl,⟨hk,rfl,rfl,.inr ⟨fun h=>hd h.1,rfl,rfl,rfl⟩⟩,Turn.coS ht⟩
theorem WA(b:Nat)(q:Qu)(hk:l0 q)(h0:qC q≠[])(w:World)(hs:HS w (aL [ib (some b) q]) [ib (some b) q] w):Calls Tryz.prog 153 #[p_ b] w fun e w'=> ∃zz:Qu×Pk,e= .returned (.tuple #[.agg #[u_ zz.2.qi,i_ zz.2.qn,w_ zz.2.qa,w_ zz.2.qb,w_ zz.2.qc,w_ zz.2.qd],i_ 0])∧w8 q zz.2 zz.1∧Turn [ib (some b) q] [ib (some b) zz.1] w w':=by
 have h0:0<q.n:=by rw[←nN];exact List.length_pos_iff.2 h0
 refine(VT b q.br q.ar q.sx q.cp q.f q.n q.rm q.bs q.k1 q.k2 q.k3 q.k4 q.k5 q.k6 hk.1 hk.2.1 hk.2.2 h0 w<|HS.coS hs).mono ?_
 rintro e w' ⟨⟨x,z2,z5⟩,rfl,hx,ht⟩
 exact⟨({q with sx:=q.sx.set q.f default,f:=(q.f+1)%q.sx.length,n:=q.n-1,bs:=_,k2:=z2,k5:=z5},x),rfl,⟨⟨by simpa using Nat.mod_lt _ (by have:=hk.1;omega),by simp;have:=hk.2.1;omega,by simpa using hk.2.2⟩,TZ hk h0 hx _ rfl rfl rfl,rfl,by simp,rfl⟩,Turn.coS ht⟩
def dp(b:Option Nat)(q:Qu):Int:=if b=none∨q.n=0 then 0 else(q.sx.getD q.f default).qn
theorem T9(b:Option Nat)(q:Qu)(hk:b.isSome=true→l0 q)(w:World)(r:(ib b q).holds w):Calls Tryz.prog 214 #[qp b] w fun e w'=>e= .returned (i_<|dp b q)∧Fr [] w w':=by
 cases b with
 |none=>exact N1 w
 |some b=>
  have hk:=hk rfl
  by_cases hn:q.n=0
  ·rw[show dp (some b) q=0 from if_pos<|.inr hn]
   exact NP b q.br q.ar q.sx q.cp q.f q.n q.rm q.bs q.k1 q.k2 q.k3 q.k4 q.k5 q.k6 hn w (r _<|by simp[qF]) (r _<|by simp[qF])<|r _<|by simp[qF]
  ·rw[show dp (some b) q=(q.sx.getD q.f default).qn from if_neg<|by simp[hn]]
   exact SB b q.br q.ar q.sx q.cp q.f q.n q.rm q.bs q.k1 q.k2 q.k3 q.k4 q.k5 q.k6 hk.1 hk.2.1 hk.2.2 (by omega) w (r _<|by simp[qF]) (r _<|by simp[qF])<|sR<|r (sl q.ar q.sx.length q.cp 45 6<|V.aQ gZ q.sx)<|by simp[qF]
theorem WB(m:Nat)(rm:Int)(h1:1≤m)(h2:m≤64)(h3:1≤rm∧rm≤1048576)(w:World)(hs:HS w (aL []) [] w):Calls Tryz.prog 108 #[i_ (m:Int),i_ rm] w fun e w'=> ∃zz:Nat×Qu,e= .returned (.tuple #[p_ zz.1,i_ 0])∧(l0 zz.2∧qC zz.2=[]∧zz.2.rm=rm∧zz.2.bs=0∧zz.2.sx.length=m)∧Turn [] [ib (some zz.1) zz.2] w w':=by
 refine(VP m rm h1 h2 h3 w hs).mono ?_
 rintro e w' ⟨⟨bq,br,al⟩,rfl,-,ht⟩
 exact⟨(bq,⟨br,al,List.replicate m default,m,0,0,rm,0,0,0,0,0,0,0⟩),rfl,⟨⟨by simp;omega,by simp,by simpa using h2⟩,rfl,rfl,rfl,by simp⟩,Turn.coR (Y:=[]) (by rw[List.append_nil];exact ht)⟩
structure En where
 eb:Nat
 qb:Option Nat
 q:Qu
 ec:Cl
 tot:Int
 du:Du
 sh:Sh
 li:Li
 deriving Inhabited
def nr(m:En):List Value:=qp m.qb::(ag m.ec++u_ m.tot::(fG m.du++gu m.sh++gh m.li))
def fc(m:En):List V.aH:=[ib m.qb m.q,aA m.eb (nr m) 225]
abbrev tD(b:Nat)(kb:bm En):V.aH:=bP (fun k:Int=>i_ k) (fun m:En=>p_ m.eb) b kb
def df(b:Nat)(kb:List (Int×En)):V.aH:=co [tD b kb,db fc kb]
variable{b:Nat}{kb:bm En}
theorem nO(h:(df b kb).holds w):(tD b kb).holds w:=h _<|by simp
variable{i:Int}{m:En}
theorem fZ(h:(df b kb).holds w)(hm:aB kb i=some m):(aA m.eb (nr m) 225).holds w:=wK (h (db fc kb)<|by simp) hm _<|by simp[fc]
theorem Xt{w0:World}{S:bO}{H:List V.aH}{off:Nat}{k:Int}{vs:cn}(i:Nat)(hi:H[i]? =some (df b kb))(hm:aB kb k=some m)(hv:((nr m).drop off).take vs.length=vs:=by rfl):mD w0 S H ⟨m.eb,off,none⟩ vs:=fJ (fun ww ss=>fZ (ss.mem hi) hm) hv
theorem LR(h:(df b kb).holds w)(hm:aB kb i=some m):(ib m.qb m.q).holds w:=wK (h (db fc kb)<|by simp) hm _<|by simp[fc]
structure kj(m:En):Prop where
 lf:m.ec.hl=true↔m.qb.isSome=true
 no:m.qb=none→m.q.n=0
 qu:m.qb.isSome=true→l0 m.q
theorem wT(b:Nat)(kb:bm En)(i:Int)(m:En)(qx:Value)(hm:aB kb i=some m)(hq:qp m.qb=qx)(ho:kj m)(w:World)(r:(df b kb).holds w):Calls Tryz.prog 107 #[qx] w fun e w'=>e= .returned (i_ ((qC m.q).length:Int))∧Fr [] w w':=
 hq▸Vz m.qb m.q ho.no w (LR r hm)
theorem I2(hm:aB kb i=some m)(hs:HS w (aL [df b kb]) [df b kb] w)(h:HS w (aL [ib m.qb m.q]) [ib m.qb m.q] w→Turn [ib m.qb m.q] [ib m.qb q] w w'):Turn [df b kb] [df b<|aK kb i {m with q:=q}] w w':=
 Turn.bag (f:=fc) (m':={m with q:=q}) (R:=[aA m.eb (nr m) 225]) hs hm rfl rfl rfl h
theorem H4(hm:aB kb i=some m)(hs:HS w (aL [df b kb]) [df b kb] w):HS w (aL [ib m.qb m.q]) [ib m.qb m.q] w:=by
 have h:=(HS.coS hs).all (db fc kb) (by simp)
 refine HS.start w _ (fun it hi=>by rw[List.mem_singleton] at hi;subst hi;exact wK h hm _<|by simp[fc]) ?_
 have hn:=(HS.coS hs).nodup
 rw[show[tD b kb,db fc kb]=[tD b kb]++[db fc kb] from rfl,lI] at hn
 have hn:=(List.nodup_append.1 hn).2.1
 rw[show aL [db fc kb]=lW fc kb by simp[aL,db]] at hn
 have:=((rF hm).flatMap_right (fun p:Int×En=>aL<|fc p.2)).nodup_iff.1 hn
 simp only[List.flatMap_cons] at this
 have:=(List.nodup_append.1 this).1
 rw[show fc m=[ib m.qb m.q]++[aA m.eb (nr m) 225] from rfl,lI] at this
 exact(List.nodup_append.1 this).1
theorem Ta(b:Nat)(kb:bm En)(i:Int)(m:En)(qx:Value)(c:Nat)(p:Pk)(hm:aB kb i=some m)(hc:m.qb=some c)(hq:qp m.qb=qx)(ho:kj m)(hp:1≤p.qn∧p.qn≤16384)(w:World)(hs:HS w (aL [df b kb]) [df b kb] w):Calls Tryz.prog 112 #[qx,.agg #[u_ p.qi,i_ p.qn,w_ p.qa,w_ p.qb,w_ p.qc,w_ p.qd]] w fun e w'=> ∃zz:Qu×Int,e= .returned (i_ zz.2)∧mX m.q p zz.1 zz.2∧Turn [df b kb] [df b<|aK kb i {m with q:=zz.1}] w w':=by
 subst hq
 have hf:=H4 hm hs
 rw[hc] at hf
 rw[show qp m.qb=p_ c by rw[hc];rfl]
 refine(T8 c m.q (ho.qu (by rw[hc];rfl)) p hp w hf).mono ?_
 rintro e w' ⟨zz,h1,h2,h3⟩
 exact⟨zz,h1,h2,I2 hm hs fun _=>by rw[hc];exact h3⟩
theorem WC(b:Nat)(kb:bm En)(i:Int)(m:En)(qx:Value)(hm:aB kb i=some m)(hq:qp m.qb=qx)(ho:kj m)(h0:qC m.q≠[])(w:World)(hs:HS w (aL [df b kb]) [df b kb] w):Calls Tryz.prog 153 #[qx] w fun e w'=> ∃zz:Qu×Pk,e= .returned (.tuple #[.agg #[u_ zz.2.qi,i_ zz.2.qn,w_ zz.2.qa,w_ zz.2.qb,w_ zz.2.qc,w_ zz.2.qd],i_ 0])∧w8 m.q zz.2 zz.1∧Turn [df b kb] [df b<|aK kb i {m with q:=zz.1}] w w':=by
 subst hq
 have hf:=H4 hm hs
 rcases hc:m.qb with _|c
 ·exact absurd (List.eq_nil_of_length_eq_zero (by rw[nN];exact ho.no hc)) h0
 ·rw[hc] at hf
  rw[←hc,show qp m.qb=p_ c by rw[hc];rfl]
  refine(WA c m.q (ho.qu (by rw[hc];rfl)) h0 w hf).mono ?_
  rintro e w' ⟨zz,h1,h2,h3⟩
  exact⟨zz,h1,h2,I2 hm hs fun _=>by rw[hc];exact h3⟩
theorem I3(b:Nat)(kb:bm En)(i:Int)(m:En)(qx:Value)(hq:qp m.qb=qx)(ho:kj m)(w:World)(r:(co [bP (fun k:Int=>i_ k) (fun m:En=>p_ m.eb) b kb,db fc<|aY kb i,ib m.qb m.q]).holds w):Calls Tryz.prog 214 #[qx] w fun e w'=>e= .returned (i_<|dp m.qb m.q)∧Fr [] w w':=
 hq▸T9 m.qb m.q ho.qu w (r _<|by simp)
section
variable{P:Program}{n:Nat}{env:aT}{w0:World}{S:bO}{H R H':List V.aH}{G:cf}
def qG(b:Nat)(kb:List (Int×En))(i:Int)(m:En):V.aH:=co [tD b kb,db fc<|aY kb i,ib m.qb m.q]
theorem tL(j:Nat)(hp:fa [j] H=some ([df b kb],R))(hm:aB kb i=some m)(hH:qG b kb i m::aA m.eb (nr m) 225::R=H')(h:V.A n env w0 S H' G):V.A n env w0 S H G:=by
 refine xN [j] (Os:=[qG b kb i m,aA m.eb (nr m) 225]) hp ?_ ?_ hH h
 ·intro w hw it hi
  have hb:(df b kb).holds w:=hw _<|List.mem_singleton.2 rfl
  have hg:(db fc kb).holds w:=hb _<|by simp
  simp only[List.mem_cons,List.not_mem_nil,or_false] at hi
  rcases hi with rfl|rfl
  ·intro it hi
   simp only[List.mem_cons,List.not_mem_nil,or_false] at hi
   rcases hi with rfl|rfl|rfl
   ·exact nO hb
   ·exact fun p hq=>hg p<|(rF hm).mem_iff.2 (by simp[hq])
   ·exact LR hb hm
  ·exact fZ hb hm
 ·have:=(rF hm).flatMap_right (fun p:Int×En=>aL<|fc p.2)
  simp only[List.flatMap_cons] at this
  simp only[qG,df,aL,co,db,lW,bP,fc,aA,List.flatMap_cons,List.flatMap_nil,List.append_nil] at this⊢
  refine List.Perm.trans ?_<|(List.Perm.refl [b]).append this.symm
  rw[List.append_assoc]
  refine(List.Perm.refl [b]).append ?_
  rw[List.append_assoc]
  exact List.perm_append_comm
theorem tM{m':En}{t:cn}(is:bO)(hp:fa is H=some ([qG b kb i m,aA m.eb t 225],R))(hm:aB kb i=some m)(he:m'.eb=m.eb∧m'.qb=m.qb∧m'.q=m.q)(ht:nr m'=t)(hH:df b (aK kb i m')::R=H')(h:V.A n env w0 S H' G):V.A n env w0 S H G:=by
 obtain⟨h1,h2,h3⟩:=he
 refine xN is (Os:=[df b<|aK kb i m']) hp ?_ ?_ hH h
 ·intro w hw it hi
  have hr:(qG b kb i m).holds w:=hw _<|by simp
  have hk:(aA m.eb t 225).holds w:=hw _<|by simp
  rw[List.mem_singleton] at hi;subst hi
  intro it hi
  simp only[List.mem_cons,List.not_mem_nil,or_false] at hi
  rcases hi with rfl|rfl
  ·exact Gp (hr (tD b kb)<|by simp)<|Bw (ev:=fun m:En=>p_ m.eb) (show p_ m'.eb=p_ m.eb by rw[h1]) hm
  ·intro p hq it hi
   rcases List.mem_cons.1 ((pg i _ kb).mem_iff.1 hq) with rfl|hq
   ·simp only[fc,List.mem_cons,List.not_mem_nil,or_false] at hi
    rcases hi with rfl|rfl
    ·show(ib m'.qb m'.q).holds w
     rw[h2,h3];exact hr _<|by simp
    ·show(aA m'.eb (nr m') 225).holds w
     rw[h1,ht];exact hk
   ·exact(show(db fc<|aY kb i).holds w from hr _<|by simp) p hq it hi
 ·have:=(pg i m' kb).flatMap_right (fun p:Int×En=>aL<|fc p.2)
  simp only[List.flatMap_cons] at this
  simp only[qG,df,aL,co,db,lW,bP,fc,aA,List.flatMap_cons,List.flatMap_nil,List.append_nil,h1,h2,h3] at this⊢
  refine List.perm_iff_count.2 fun a=>?_
  have:=List.perm_iff_count.1 this a
  simp only[List.count_append] at this⊢
  omega
end
theorem Qj(h:(qG b kb i m).holds w):(tD b kb).holds w:=h _<|by simp
variable{β:Type}
theorem jS(kv:List (Int×β))(k:Int)(v:β):aB (aK kv k v) k=some v:=by rw[fN,if_pos rfl]
theorem QW(bs mb mo mk:Nat)(ym:bm Pl)(on:bm Int)(kv:bm MB)(ci:Int)(hno:jI ym ci=false)(w:World)(r0:(aA bs [.map<|some mb,.map<|some mo,.map<|some mk] 197).holds w)(r1:(iK mb ym).holds w)(r2:(fj mo on).holds w)(r3:(gl mk kv).holds w)(r4:(eR kv).holds w):
  CW 74 #[p_ bs,i_ ci] w (.tuple #[e_,i_ 6]):=by
 refine aU Tryz.func74 rfl (HS.nil w) (aD []<|aE<|aO<|aD [(10,b_ false)]<|bY<|aC<|dm 5 [.rd [.map<|some mb]] [(17,.map<|some mb),(18,i_ ci)] (o1<|ro ⟨bs,0,none⟩ (vs:=[.map<|some mb])<|cB r0 rfl)<|aG<|cC (some 19) _ (qL 3 200 ci aw (fun w s=>bV s r1) eE)<|ak [(13,b_<|(((aB ym ci).getD aw).pf)==0)]<|aI rfl (fun e1=>?_) (fun e1=>?_))
 ·refine aD [(4,e_),(5,i_ 6)]<|aF<|bK [e_,i_ 6] ?_
  rfl
 exact absurd e1<|by(intro h_;unfold jI at hno;simp at h_ hno;exact h_ hno)
theorem QX(bs mb mo mk:Nat)(ym:bm Pl)(on:bm Int)(kv:bm MB)(ci:Int)(hlf:jI ym ci=true)(his:ez on kv ci=true)(w:World)(r0:(aA bs [.map<|some mb,.map<|some mo,.map<|some mk] 197).holds w)(r1:(iK mb ym).holds w)(r2:(fj mo on).holds w)(r3:(gl mk kv).holds w)(r4:(eR kv).holds w):
  CW 74 #[p_ bs,i_ ci] w (.tuple #[e_,i_ 8]):=by
 refine aU Tryz.func74 rfl (HS.nil w) (aD []<|aE<|aO<|aD [(10,b_ false)]<|bY<|aC<|dm 5 [.rd [.map<|some mb]] [(17,.map<|some mb),(18,i_ ci)] (o1<|ro ⟨bs,0,none⟩ (vs:=[.map<|some mb])<|cB r0 rfl)<|aG<|cC (some 19) _ (qL 3 200 ci aw (fun w s=>bV s r1) eE)<|ak [(13,b_<|(((aB ym ci).getD aw).pf)==0)]<|aI rfl (fun e1=>?_) (fun e1=>?_))
 ·exact absurd e1<|by(intro h_;unfold jI at hlf;simp at h_ hlf;exact hlf h_)
 refine bW [.cq<|b_<|ez on kv ci] [(22,b_<|ez on kv ci)] (o1<|qo<|fun w s=>wS bs mb mo mk ym on kv ci w (bV s r0) (bV s r1) (bV s r2) (bV s r3)<|bV s r4)<|aI rfl (fun e2=>?_) (fun e2=>?_)
 ·refine aD [(4,e_),(5,i_ 8)]<|aF<|bK [e_,i_ 8] ?_
  rfl
 exact absurd e2<|by(rw[his];simp)
theorem Vm(bs mb mo mk:Nat)(ym:bm Pl)(on:bm Int)(kv:bm MB)(ci:Int)(hlf:jI ym ci=true)(his:ez on kv ci=false)(hd0:jG ym 40 ci):
  CS 74 #[p_ bs,i_ ci] [aA bs [.map<|some mb,.map<|some mo,.map<|some mk] 197,iK mb ym,fj mo on,gl mk kv,eR kv] (fun((kv',al',cl'):(bm MB)×(bn)×Nat)=>(.tuple #[vS al' ((ej ym (kx kv) 40 ci).1) cl',i_ 0])) (fun(kv',al',cl')=>kx kv'=(ej ym (kx kv) 40 ci).2) fun(kv',al',cl')=>[aA bs [.map<|some mb,.map<|some mo,.map<|some mk] 197,iK mb ym,fj mo<|aK on ci<|b0 ym ci,gl mk kv',eR kv',sI al' ((ej ym (kx kv) 40 ci).1) cl']:=by
 intro w hs
 refine aU Tryz.func74 rfl hs (aD []<|aE<|aO<|aD [(10,b_ false)]<|bY<|aC<|bA 5 [.ld 0] [(17,.map<|some mb),(18,i_ ci)]<|aG<|cC (some 19) _ (kS (kt:=3) (et:=200) (enck:=(fun k:Int=>i_ k)) (encv:=(fun v_:Pl=>(.agg (rE v_).toArray))) (b:=mb) (kv:=ym) (k:=ci) (d0:=aw) (fun w s=>s.mem (i:=1) rfl) rfl rfl rfl (by kernel_rfl) eE (by kernel_rfl) rfl)<|ak [(13,b_<|(((aB ym ci).getD aw).pf)==0)]<|aI rfl (fun e1=>?_) (fun e1=>?_))
 ·exact absurd e1<|by(intro h_;unfold jI at hlf;simp at h_ hlf;exact hlf h_)
 refine bW [.cq<|b_<|ez on kv ci] [(22,b_<|ez on kv ci)] (o1<|qo<|fun w s=>wS bs mb mo mk ym on kv ci w (s.mem (i:=0) rfl) (s.mem (i:=1) rfl) (s.mem (i:=2) rfl) (s.mem (i:=3) rfl)<|s.mem (i:=4) rfl)<|aI rfl (fun e2=>?_) (fun e2=>?_)
 ·exact absurd e2<|by(rw[his];simp)
 refine aP<|aE<|bL [12] 13<|cL 3 [.ld 0,.ld 0] (rg 0 10) [(29,.map<|some mo),(30,i_ ci),(34,.map<|some mb),(35,i_ ci)]<|kQ 10 (some 36) (.agg (rE<|(aB ym ci).getD aw).toArray) rfl (by kernel_rfl) (by kernel_rfl) (kS (kt:=3) (et:=200) (enck:=(fun k:Int=>i_ k)) (encv:=(fun v_:Pl=>(.agg (rE v_).toArray))) (b:=mb) (kv:=ym) (k:=ci) (d0:=aw) (fun w s=>s.mem (i:=1) rfl) rfl rfl rfl (by kernel_rfl) eE (by kernel_rfl) rfl) (vA 1 [] [11] [(0,p_ bs),(1,i_ ci),(29,.map<|some mo),(30,i_ ci),(37,i_<|((aB ym ci).getD aw).pp)]<|an 12 rfl (gB 3 3 2 ci (((aB ym ci).getD aw).pp) rfl eE (cD<|dj<|aC<|cP [.p] [(38,i_ ci)]<|aG<|eB 39 (e:=3) [i_ ci] (by kernel_rfl) rfl (fun _=>by kernel_rfl) _ (fun _=>rfl) ?_)))
 intro b1
 refine ak [(6,.slice (some ⟨b1,0,none⟩) 1 1)]<|aE<|xO 5 (b:=b1) 1 1 [aA bs [.map<|some mb,.map<|some mo,.map<|some mk] 197,iK mb ym,fj mo<|aK on ci<|((aB ym ci).getD aw).pp,gl mk kv,eR kv,sI (some ⟨b1,0,none⟩) ([ci]) 1] rfl rfl (by decide) rfl (bX [(6,vS (some ⟨b1,0,none⟩) ([ci]) 1),(7,i_ ci)]<|aO<|bj 5 (sI (some ⟨b1,0,none⟩) (([]:bT)++[ci]) 1) rfl (cw (by rfl:[ci]=(([]:bT)++[ci]))) (aW 6 (vS (some ⟨b1,0,none⟩) (([]:bT)++[ci]) 1) (eW<|by rfl)<|eA (σ:=Int×Nat×(bT)×(bm MB)×(bn)×Nat) [] (fun(i,n,pre,kvk,ao,co)=>[(7,i_ i),(6,vS ao (pre++[i]) co)]) [0,0,0,0,0,0] (fun(i,n,pre,kvk,ao,co)=>[aA bs [.map<|some mb,.map<|some mo,.map<|some mk] 197,iK mb ym,fj mo<|aK on ci<|((aB ym ci).getD aw).pp,gl mk kvk,eR kvk,sI ao (pre++[i]) co]) (fun(i,n,pre,kvk,ao,co)=>((pre++(ej ym (kx kvk) n i).1,(ej ym (kx kvk) n i).2)=ej ym (kx kv) 40 ci)∧(jG ym n i)∧(pre.length+n≤40)) (fun(i,n,pre,kvk,ao,co)=>n) (ci,40,([]:bT),kv,some ⟨b1,0,none⟩,1) ⟨(by rfl),‹_›,(by simp)⟩ ?_ ?_))
 ·exact bB [0,0,0,0,0,0]
 rintro⟨i,n,pre,kvk,ao,co⟩ ⟨hp,hd,hl⟩
 obtain⟨n,rfl⟩: ∃m,n=m+1:=by cases n with|zero=>exact hd.elim|succ m=>exact⟨m,rfl⟩
 refine aO<|aC<|bA 5 [.ld 0] [(44,.map<|some mb),(45,i_ i)]<|aG<|cC (some 46) _ (kS (kt:=3) (et:=200) (enck:=(fun k:Int=>i_ k)) (encv:=(fun v_:Pl=>(.agg (rE v_).toArray))) (b:=mb) (kv:=ym) (k:=i) (d0:=aw) (fun w s=>s.mem (i:=1) rfl) rfl rfl rfl (by kernel_rfl) eE (by kernel_rfl) rfl)<|ak [(8,i_<|((aB ym i).getD aw).pp)]<|aC<|bA 5 [.ld 0] [(51,.map<|some mk),(52,i_<|((aB ym i).getD aw).pp)] ?_
 rcases hk2:aB kvk (((aB ym i).getD aw).pp) with _|m2
 ·have hx2:=C3 hk2
  refine aG<|cC (some 53) (.map none) (ip (y9 hk2)<|qL 3 194 (((aB ym i).getD aw).pp) m0 (qM 3 rfl) eE)<|aG<|cC (some 54) (i_ 0) (Bv (kt:=3) (et:=3) rfl rfl (by kernel_rfl))<|ak [(9,i_ 0)]<|aE<|aD [(56,b_ true)]<|dX<|aM<|bA 5 [.ld 0] [(60,.map<|some mk),(61,i_<|((aB ym i).getD aw).pp)]<|aG<|mw (fun k:Int=>i_ k) (fun x:Int=>i_ x) 62 (by kernel_rfl) rfl (fun m3=>[aA bs [.map<|some mb,.map<|some mo,.map<|some mk] 197,iK mb ym,fj mo<|aK on ci<|((aB ym ci).getD aw).pp,gl mk kvk,eR kvk,sI ao (pre++[i]) co,fj m3 ([]:bm Int)]) (fun _=>rfl) ?_
  intro m3
  refine aG<|FU (kt:=3) (et:=194) (enck:=(fun k:Int=>i_ k)) (encv:=og) (kv:=kvk) (k:=((aB ym i).getD aw).pp) 3 (⟨some m3,([]:bm Int)⟩:MB) [aA bs [.map<|some mb,.map<|some mo,.map<|some mk] 197,iK mb ym,fj mo<|aK on ci<|((aB ym ci).getD aw).pp,gl mk<|aK kvk (((aB ym i).getD aw).pp) (⟨some m3,([]:bm Int)⟩:MB),eR kvk,sI ao (pre++[i]) co,fj m3 ([]:bm Int)] (by kernel_rfl) rfl rfl rfl rfl (by kernel_rfl) eE rfl rfl (FV [aA bs [.map<|some mb,.map<|some mo,.map<|some mk] 197,iK mb ym,fj mo<|aK on ci<|((aB ym ci).getD aw).pp,gl mk<|aK kvk (((aB ym i).getD aw).pp) (⟨some m3,([]:bm Int)⟩:MB),eR<|aY kvk<|((aB ym i).getD aw).pp,sI ao (pre++[i]) co,fj m3 ([]:bm Int)] (by rw[u4 hk2]) ?_)
  have hk4:aB (aK kvk (((aB ym i).getD aw).pp) (⟨some m3,([]:bm Int)⟩:MB)) (((aB ym i).getD aw).pp)=some (⟨some m3,([]:bm Int)⟩:MB):=by rw[iW,if_pos rfl]
  refine dP<|aC<|bA 5 [.ld 0] [(7,i_ i),(6,vS ao (pre++[i]) co),(8,i_<|((aB ym i).getD aw).pp),(9,i_ 0),(66,.map<|some mk),(67,i_<|((aB ym i).getD aw).pp)]<|aG<|cC (some 68) (.map<|some m3) (ip (sJ hk4 rfl)<|qL 3 194 (((aB ym i).getD aw).pp) m0 (qM 3 rfl) eE)<|cP [.p] [(69,i_ i)]<|aG<|gB 3 3 6 i 1 rfl eE (dP<|aE<|aE<|eH [3,3,4] [gl mk<|aK kvk (((aB ym i).getD aw).pp) (⟨some m3,aK ([]:bm Int) i 1⟩:MB),eR<|aK kvk (((aB ym i).getD aw).pp) (⟨some m3,aK ([]:bm Int) i 1⟩:MB)] rfl (fun w hs=>vX mk (aK kvk (((aB ym i).getD aw).pp) (⟨some m3,([]:bm Int)⟩:MB)) kvk (((aB ym i).getD aw).pp) m3 (aK ([]:bm Int) i 1) _ (by rw[Bq]) (hk4) hs) ?_)
  have hq:kx (aK kvk (((aB ym i).getD aw).pp) (⟨some m3,aK ([]:bm Int) i 1⟩:MB))=mG (kx kvk) (b0 ym i) i:=by funext q;rw[wJ];unfold mG;simp only[];split<;>simp_all[b0]
  refine bX [(73,i_<|((aB ym i).getD aw).pp),(74,b_<|(((aB ym i).getD aw).pp)==0),(75,b_<|(((aB ym i).getD aw).pp)==0)]<|aI rfl (fun e3=>?_) (fun e3=>?_)
  ·have p3:=e3;try simp only[bQ] at p3
   refine aE ?_
   have hs_:kx kvk (b0 ym i)≠[]∨b0 ym i=0:=by unfold b0;(right;assumption)
   refine bX [(4,vS ao (pre++[i]) co),(5,i_ 0)]<|aF<|?_
   rw[show aK on ci (((aB ym ci).getD aw).pp)=(aK on ci<|b0 ym ci) from by rfl]
   refine bj 5 (sI ao ((ej ym (kx kv) 40 ci).1) co) rfl (cw (by(rw[←hp,oU hs_]):(pre++[i])=((ej ym (kx kv) 40 ci).1))) (bJ [2,2,2,0,0,0] [vS ao (pre++[i]) co,i_ 0] ((aK kvk (((aB ym i).getD aw).pp) (⟨some m3,aK ([]:bm Int) i 1⟩:MB)),ao,co) ?_ ?_)
   ·show((.tuple #[vS ao (pre++[i]) co,i_ 0]):Value)=(.tuple #[vS ao ((ej ym (kx kv) 40 ci).1) co,i_ 0])
    (rw[←hp,oU hs_])
   show kx (aK kvk (((aB ym i).getD aw).pp) (⟨some m3,aK ([]:bm Int) i 1⟩:MB))=(ej ym (kx kv) 40 ci).2
   (rw[hq,←hp,oU hs_])
  refine au ?_
  have hg_: ¬(kx kvk (b0 ym i)≠[]∨b0 ym i=0):=by unfold b0;rw[hx2];(simp_all;done)
  refine aM<|bA 2 [] [(77,vS ao (pre++[i]) co),(78,i_<|((aB ym i).getD aw).pp)]<|aG<|eB 79 (e:=3) [i_<|((aB ym i).getD aw).pp] (by kernel_rfl) rfl (fun _=>by kernel_rfl) _ (fun _=>rfl) ?_
  intro b5
  refine aG<|gn i6 (pre++[i]) ([((aB ym i).getD aw).pp]) 5 80 (i_ 0) 8 dL jo (eV (i:=6) rfl) (by(simp;omega)) ?_
  intro A6 c6
  refine ak [(6,vS A6 ((pre++[i])++([((aB ym i).getD aw).pp])) c6)]<|bX [(7,i_<|((aB ym i).getD aw).pp)] ?_
  have hnx:((pre++[i])++(ej ym (kx<|aK kvk (((aB ym i).getD aw).pp) (⟨some m3,aK ([]:bm Int) i 1⟩:MB)) n<|b0 ym i).1,(ej ym (kx<|aK kvk (((aB ym i).getD aw).pp) (⟨some m3,aK ([]:bm Int) i 1⟩:MB)) n<|b0 ym i).2)=ej ym (kx kv) 40 ci∧jG ym n (b0 ym i):=by rw[hq,←hp,AB hg_];exact⟨by simp,hd.resolve_left fun h_=>hg_<|.inr h_⟩
  refine bj 5 (sI A6 ((pre++[i])++[((aB ym i).getD aw).pp]) c6) rfl (cw (by rfl:(pre++[i])++([((aB ym i).getD aw).pp])=((pre++[i])++[((aB ym i).getD aw).pp]))) (aW 6 (vS A6 ((pre++[i])++[((aB ym i).getD aw).pp]) c6) (eW<|by rfl)<|bC (((aB ym i).getD aw).pp,n,pre++[i],aK kvk (((aB ym i).getD aw).pp) (⟨some m3,aK ([]:bm Int) i 1⟩:MB),A6,c6) ⟨hnx.1,hnx.2,(by(simp;omega))⟩ (by(simp;done)) ?_)
  exact bB [2,2,2,0,0,0]
 have hx2:=C4 hk2
 refine M1 [4] (fun b2:Nat=>m2.mb=some b2) (fun b2=>[eR<|aY kvk<|((aB ym i).getD aw).pp,fj b2 m2.mx]) (fun w hs=>Hw kvk (((aB ym i).getD aw).pp) hk2 hs) rfl (fun b2 hm2=>?_)
 refine aG<|cC (some 53) (.map<|some b2) (ip (sJ hk2 hm2)<|qL 3 194 (((aB ym i).getD aw).pp) m0 (qM 5 rfl) eE)<|aG<|cC (some 54) (c_ m2.mx.length) (tR (kt:=3) (et:=3) (enck:=(fun k:Int=>i_ k)) (encv:=(fun x:Int=>i_ x)) (b:=b2) (kv:=m2.mx) (qM 1 rfl) rfl rfl (by kernel_rfl))<|ak [(7,i_ i),(6,vS ao (pre++[i]) co),(8,i_<|((aB ym i).getD aw).pp),(9,c_ m2.mx.length)]<|aE<|aD [(56,b_<|(m2.mx.length:Int)==0)]<|aI rfl (fun e4=>?_) (fun e4=>?_)
 ·refine aM<|bA 5 [.ld 2] [(60,.map<|some mk),(61,i_<|((aB ym i).getD aw).pp)]<|aG<|mw (fun k:Int=>i_ k) (fun x:Int=>i_ x) 62 (by kernel_rfl) rfl (fun m7=>[eR<|aY kvk<|((aB ym i).getD aw).pp,fj b2 m2.mx,aA bs [.map<|some mb,.map<|some mo,.map<|some mk] 197,iK mb ym,fj mo<|aK on ci<|((aB ym ci).getD aw).pp,gl mk kvk,sI ao (pre++[i]) co,fj m7 ([]:bm Int)]) (fun _=>rfl) ?_
  intro m7
  refine aG<|gB 3 194 5 (((aB ym i).getD aw).pp) (⟨some m7,([]:bm Int)⟩:MB) rfl eE ?_
  have hk8:aB (aK kvk (((aB ym i).getD aw).pp) (⟨some m7,([]:bm Int)⟩:MB)) (((aB ym i).getD aw).pp)=some (⟨some m7,([]:bm Int)⟩:MB):=by rw[iW,if_pos rfl]
  refine dP<|aC<|bA 5 [.ld 2] [(66,.map<|some mk),(67,i_<|((aB ym i).getD aw).pp)]<|aG<|cC (some 68) (.map<|some m7) (ip (sJ hk8 rfl)<|qL 3 194 (((aB ym i).getD aw).pp) m0 (qM 5 rfl) eE)<|cP [.p] [(69,i_ i)]<|aG<|gB 3 3 7 i 1 rfl eE (dP<|aE<|aE<|eH [5,0,5] [gl mk<|aK kvk (((aB ym i).getD aw).pp) (⟨some m7,aK ([]:bm Int) i 1⟩:MB),eR<|aK kvk (((aB ym i).getD aw).pp) (⟨some m7,aK ([]:bm Int) i 1⟩:MB)] rfl (fun w hs=>vX mk (aK kvk (((aB ym i).getD aw).pp) (⟨some m7,([]:bm Int)⟩:MB)) kvk (((aB ym i).getD aw).pp) m7 (aK ([]:bm Int) i 1) _ (by rw[Bq]) (hk8) hs) ?_)
  have hq:kx (aK kvk (((aB ym i).getD aw).pp) (⟨some m7,aK ([]:bm Int) i 1⟩:MB))=mG (kx kvk) (b0 ym i) i:=by funext q;rw[wJ];unfold mG;simp only[];split<;>simp_all[b0]
  refine aM<|bF [.o,.cl] [(75,b_<|(decide ((m2.mx.length:Int)>0))||((((aB ym i).getD aw).pp)==0))]<|aI rfl (fun e5=>?_) (fun e5=>?_)
  ·refine aE ?_
   have hs_:kx kvk (b0 ym i)≠[]∨b0 ym i=0:=by unfold b0;(simp_all;done)
   refine bX [(4,vS ao (pre++[i]) co),(5,i_ 0)]<|aF<|?_
   rw[show aK on ci (((aB ym ci).getD aw).pp)=(aK on ci<|b0 ym ci) from by rfl]
   refine bj 6 (sI ao ((ej ym (kx kv) 40 ci).1) co) rfl (cw (by(rw[←hp,oU hs_]):(pre++[i])=((ej ym (kx kv) 40 ci).1))) (bJ [3,3,3,0,0,1] [vS ao (pre++[i]) co,i_ 0] ((aK kvk (((aB ym i).getD aw).pp) (⟨some m7,aK ([]:bm Int) i 1⟩:MB)),ao,co) ?_ ?_)
   ·show((.tuple #[vS ao (pre++[i]) co,i_ 0]):Value)=(.tuple #[vS ao ((ej ym (kx kv) 40 ci).1) co,i_ 0])
    (rw[←hp,oU hs_])
   show kx (aK kvk (((aB ym i).getD aw).pp) (⟨some m7,aK ([]:bm Int) i 1⟩:MB))=(ej ym (kx kv) 40 ci).2
   (rw[hq,←hp,oU hs_])
  refine au ?_
  have hg_: ¬(kx kvk (b0 ym i)≠[]∨b0 ym i=0):=by unfold b0;rw[hx2];(simp_all;done)
  refine aM<|bA 2 [] [(77,vS ao (pre++[i]) co),(78,i_<|((aB ym i).getD aw).pp)]<|aG<|eB 79 (e:=3) [i_<|((aB ym i).getD aw).pp] (by kernel_rfl) rfl (fun _=>by kernel_rfl) _ (fun _=>rfl) ?_
  intro b9
  refine aG<|gn i6 (pre++[i]) ([((aB ym i).getD aw).pp]) 6 80 (i_ 0) 8 dL jo (eV (i:=7) rfl) (by(simp;omega)) ?_
  intro A10 c10
  refine ak [(6,vS A10 ((pre++[i])++([((aB ym i).getD aw).pp])) c10)]<|bX [(7,i_<|((aB ym i).getD aw).pp)] ?_
  have hnx:((pre++[i])++(ej ym (kx<|aK kvk (((aB ym i).getD aw).pp) (⟨some m7,aK ([]:bm Int) i 1⟩:MB)) n<|b0 ym i).1,(ej ym (kx<|aK kvk (((aB ym i).getD aw).pp) (⟨some m7,aK ([]:bm Int) i 1⟩:MB)) n<|b0 ym i).2)=ej ym (kx kv) 40 ci∧jG ym n (b0 ym i):=by rw[hq,←hp,AB hg_];exact⟨by simp,hd.resolve_left fun h_=>hg_<|.inr h_⟩
  refine bj 6 (sI A10 ((pre++[i])++[((aB ym i).getD aw).pp]) c10) rfl (cw (by rfl:(pre++[i])++([((aB ym i).getD aw).pp])=((pre++[i])++[((aB ym i).getD aw).pp]))) (aW 6 (vS A10 ((pre++[i])++[((aB ym i).getD aw).pp]) c10) (eW<|by rfl)<|bC (((aB ym i).getD aw).pp,n,pre++[i],aK kvk (((aB ym i).getD aw).pp) (⟨some m7,aK ([]:bm Int) i 1⟩:MB),A10,c10) ⟨hnx.1,hnx.2,(by(simp;omega))⟩ (by(simp;done)) ?_)
  exact bB [3,3,3,0,0,1]
 refine aP<|aC<|bA 5 [.ld 2] [(66,.map<|some mk),(67,i_<|((aB ym i).getD aw).pp)]<|aG<|cC (some 68) (.map<|some b2) (ip (sJ hk2 hm2)<|qL 3 194 (((aB ym i).getD aw).pp) m0 (qM 5 rfl) eE)<|cP [.p] [(69,i_ i)]<|aG<|gB 3 3 1 i 1 rfl eE (dP<|aE<|aE<|eH [5,0,0] [gl mk<|aK kvk (((aB ym i).getD aw).pp) (⟨some b2,aK m2.mx i 1⟩:MB),eR<|aK kvk (((aB ym i).getD aw).pp) (⟨some b2,aK m2.mx i 1⟩:MB)] rfl (fun w hs=>vX mk kvk kvk (((aB ym i).getD aw).pp) b2 (aK m2.mx i 1) _ (by rfl) (hk2.trans<|congrArg some<|Dh hm2) hs) ?_)
 have hq:kx (aK kvk (((aB ym i).getD aw).pp) (⟨some b2,aK m2.mx i 1⟩:MB))=mG (kx kvk) (b0 ym i) i:=by funext q;rw[wJ];unfold mG;simp only[];split<;>simp_all[b0]
 refine aM<|bF [.o,.cl] [(75,b_<|(decide ((m2.mx.length:Int)>0))||((((aB ym i).getD aw).pp)==0))]<|aI rfl (fun e6=>?_) (fun e6=>?_)
 ·refine aE ?_
  have hs_:kx kvk (b0 ym i)≠[]∨b0 ym i=0:=by unfold b0;(left;rw[hx2];intro h_;simp[h_] at*;done)
  refine bX [(4,vS ao (pre++[i]) co),(5,i_ 0)]<|aF<|?_
  rw[show aK on ci (((aB ym ci).getD aw).pp)=(aK on ci<|b0 ym ci) from by rfl]
  refine bj 5 (sI ao ((ej ym (kx kv) 40 ci).1) co) rfl (cw (by(rw[←hp,oU hs_]):(pre++[i])=((ej ym (kx kv) 40 ci).1))) (bJ [2,2,2,0,0,0] [vS ao (pre++[i]) co,i_ 0] ((aK kvk (((aB ym i).getD aw).pp) (⟨some b2,aK m2.mx i 1⟩:MB)),ao,co) ?_ ?_)
  ·show((.tuple #[vS ao (pre++[i]) co,i_ 0]):Value)=(.tuple #[vS ao ((ej ym (kx kv) 40 ci).1) co,i_ 0])
   (rw[←hp,oU hs_])
  show kx (aK kvk (((aB ym i).getD aw).pp) (⟨some b2,aK m2.mx i 1⟩:MB))=(ej ym (kx kv) 40 ci).2
  (rw[hq,←hp,oU hs_])
 refine au ?_
 have hg_: ¬(kx kvk (b0 ym i)≠[]∨b0 ym i=0):=by unfold b0;rw[hx2];(simp_all;done)
 refine aM<|bA 2 [] [(77,vS ao (pre++[i]) co),(78,i_<|((aB ym i).getD aw).pp)]<|aG<|eB 79 (e:=3) [i_<|((aB ym i).getD aw).pp] (by kernel_rfl) rfl (fun _=>by kernel_rfl) _ (fun _=>rfl) ?_
 intro b11
 refine aG<|gn i6 (pre++[i]) ([((aB ym i).getD aw).pp]) 5 80 (i_ 0) 8 dL jo (eV (i:=6) rfl) (by(simp;omega)) ?_
 intro A12 c12
 refine ak [(6,vS A12 ((pre++[i])++([((aB ym i).getD aw).pp])) c12)]<|bX [(7,i_<|((aB ym i).getD aw).pp)] ?_
 have hnx:((pre++[i])++(ej ym (kx<|aK kvk (((aB ym i).getD aw).pp) (⟨some b2,aK m2.mx i 1⟩:MB)) n<|b0 ym i).1,(ej ym (kx<|aK kvk (((aB ym i).getD aw).pp) (⟨some b2,aK m2.mx i 1⟩:MB)) n<|b0 ym i).2)=ej ym (kx kv) 40 ci∧jG ym n (b0 ym i):=by rw[hq,←hp,AB hg_];exact⟨by simp,hd.resolve_left fun h_=>hg_<|.inr h_⟩
 refine bj 5 (sI A12 ((pre++[i])++[((aB ym i).getD aw).pp]) c12) rfl (cw (by rfl:(pre++[i])++([((aB ym i).getD aw).pp])=((pre++[i])++[((aB ym i).getD aw).pp]))) (aW 6 (vS A12 ((pre++[i])++[((aB ym i).getD aw).pp]) c12) (eW<|by rfl)<|bC (((aB ym i).getD aw).pp,n,pre++[i],aK kvk (((aB ym i).getD aw).pp) (⟨some b2,aK m2.mx i 1⟩:MB),A12,c12) ⟨hnx.1,hnx.2,(by(simp;omega))⟩ (by(simp;done)) ?_)
 exact bB [2,2,2,0,0,0]
def eL(kv:List (Int×Cl))(i:Int):Bool:=decide ((aV (aN kv i).la (aN kv i).lb (aN kv i).lc)>1)
def oh(kv:List (Int×Cl))(ym:List (Int×Pl))(i:Int):List (Int×Pl):=if eL kv i=true then aK ym i ⟨(aN kv i).hp,if(aN kv i).hl=true then 1 else 0⟩ else ym
def u5(kv:List (Int×Cl))(k:Nat):List (Int×Pl):=((aX kv<|fun v_=>true).take k).foldl (oh kv) []
def eZ(kv:List (Int×Cl)):List (Int×Pl):=(aX kv<|fun v_=>true).foldl (oh kv) []
variable{kv:bm Cl}{k:Nat}
theorem BJ(h:(aX kv<|fun v_=>true)[k]? =some i):u5 kv (k+1)=oh kv (u5 kv k) i:=by
 unfold u5;rw[List.take_add_one,h];simp
theorem Om(h:(aX kv<|fun v_=>true).length≤k):u5 kv k=eZ kv:=by unfold u5 eZ;rw[List.take_of_length_le h]
set_option maxHeartbeats 4000000 in
set_option maxRecDepth 100000 in
theorem QY(bt mc:Nat)(kc:bm Cl)(hl:kc.length≤1000)(w:World)(r0:(aA bt [.map<|some mc] 185).holds w)(r1:(cU mc kc).holds w)(hs:HI w []):
  CV 62 #[p_ bt] w [] (fun((bs,mb,mo,mk):Nat×Nat×Nat×Nat)=>(p_ bs)) (fun _=>True) fun(bs,mb,mo,mk)=>[aA bs [.map<|some mb,.map<|some mo,.map<|some mk] 197,iK mb<|eZ kc,fj mo ([]:bm Int),gl mk ([]:bm MB),eR ([]:bm MB)]:=by
 have hkl:=pH kc<|fun v_=>true
 refine aU Tryz.func62 rfl hs (eo [(0,p_ bt)] [] ⟨rfl,trivial⟩ rfl (aD []<|aC<|aG<|mw (fun k:Int=>i_ k) (fun v_:Pl=>(.agg (rE v_).toArray)) 9 (by kernel_rfl) rfl (fun m1=>[iK m1 ([]:bm Pl)]) (fun _=>rfl) ?_))
 intro m1
 refine aG<|mw (fun k:Int=>i_ k) (fun x:Int=>i_ x) 10 (by kernel_rfl) rfl (fun m2=>[iK m1 ([]:bm Pl),fj m2 ([]:bm Int)]) (fun _=>rfl) ?_
 intro m2
 refine aG<|mw (fun k:Int=>i_ k) og 11 (by kernel_rfl) rfl (fun m3=>[iK m1 ([]:bm Pl),fj m2 ([]:bm Int),gl m3 ([]:bm MB)]) (fun _=>rfl) ?_
 intro m3
 refine dS [.al] [] (fun b4=>[(3,p_ b4)]) (fun _=>[]) (fun b4=>aA b4 [.map<|some m1,.map<|some m2,.map<|some m3] 197) ?_
 intro b4
 refine cS<|cP [.p] [(14,p_ bt)]<|aG<|dG (some 15) [] (fun w s h=>D9 bt mc kc (by first|assumption|omega) w (bV s r0) (bV s r1) h) ?_
 rintro⟨al'5,cl'6⟩-
 refine ak [(16,i_ ((aX kc<|fun v_=>true).length:Int)),(17,i_ 0)]<|aO<|fm (fun(zz:Nat×(bm Pl))=>match zz with|(k,ymk)=>[(0,p_ bt),(3,p_ b4),(15,vS al'5 (aX kc<|fun v_=>true) cl'6),(16,i_ ((aX kc<|fun v_=>true).length:Int)),(17,c_ k)]) (fun(zz:Nat×(bm Pl))=>match zz with|(k,ymk)=>[aA b4 [.map<|some m1,.map<|some m2,.map<|some m3] 197,iK m1 ymk,fj m2 ([]:bm Int),gl m3 ([]:bm MB),sI al'5 (aX kc<|fun v_=>true) cl'6]) (fun(zz:Nat×(bm Pl))=>match zz with|(k,ymk)=>(k≤(aX kc<|fun v_=>true).length)∧(ymk=u5 kc k)) (fun(zz:Nat×(bm Pl))=>match zz with|(k,ymk)=>(aX kc<|fun v_=>true).length-k) (0,([]:bm Pl)) ⟨(by omega),(by rfl)⟩ ?_ ?_
 ·exact cQ [4,1,1,1,0] ⟨rfl,rfl,rfl,rfl,rfl,trivial⟩<|by kernel_rfl
 ·rintro⟨k,ymk⟩ ⟨hk,hy⟩
  refine eo [(0,p_ bt),(3,p_ b4),(15,vS al'5 (aX kc<|fun v_=>true) cl'6),(16,i_ ((aX kc<|fun v_=>true).length:Int)),(17,c_ k)] [aA b4 [.map<|some m1,.map<|some m2,.map<|some m3] 197,iK m1 ymk,fj m2 ([]:bm Int),gl m3 ([]:bm MB),sI al'5 (aX kc<|fun v_=>true) cl'6] ⟨rfl,rfl,rfl,rfl,rfl,trivial⟩ rfl (aD [(17,c_ k),(18,b_<|decide ((k:Int)<((aX kc<|fun v_=>true).length:Int)))]<|aE<|aI (E:=decide ((k:Int)<((aX kc<|fun v_=>true).length:Int))) rfl (fun e2=>?_) (fun e2=>?_))
  ·skip
   have p2:=dZ e2
   refine au<|aO<|aC<|tJ [.ix] [(0,p_ bt),(3,p_ b4),(15,vS al'5 (aX kc<|fun v_=>true) cl'6),(16,i_ ((aX kc<|fun v_=>true).length:Int)),(17,c_ k),(19,.pointer<|some<|(aZ al'5).add (k*1))] (o1<|bH 4 k dL rfl (by first|omega|(simp;omega)|(simp;done))) ?_
   obtain⟨x8,hx8⟩: ∃x,((aX kc<|fun v_=>true))[k]? =some x:=⟨_,dA<|by omega⟩
   refine az [.rd [i_ x8]] [(5,i_ x8)] (o1<|ro ((aZ al'5).add (k*1))<|dY (vs:=[i_ x8]) dL (cV (i:=4) rfl) hx8 (Nat.le_of_ble_eq_true rfl) rfl)<|aC<|jN [.p,.p,.cq<|.tuple #[.agg (ag<|aN kc x8).toArray,i_<|fA kc x8],.p,.p,.p,.al,.st 5,.p] [0,3,15,16,17,5,6] (fun b9=>[(0,p_ bt),(3,p_ b4),(15,vS al'5 (aX kc<|fun v_=>true) cl'6),(16,i_ ((aX kc<|fun v_=>true).length:Int)),(17,c_ k),(5,i_ x8),(6,p_ b9)]) (fun b9=>[aA b4 [.map<|some m1,.map<|some m2,.map<|some m3] 197,iK m1 ymk,fj m2 ([]:bm Int),gl m3 ([]:bm MB),sI al'5 (aX kc<|fun v_=>true) cl'6,aA b9 (ag<|aN kc x8) 62]) (fun b9=>[b9]) (fun _=>(fun κ=>κ.call 72 [p_ bt,i_ x8] (.tuple #[.agg (ag<|aN kc x8).toArray,i_<|fA kc x8])∧True)) (fun _=>by kernel_rfl) (fun b9=>⟨(fun w s=>sQ bt mc kc x8 w (bV s r0)<|bV s r1),trivial⟩) ?_
   intro b9
   refine aE<|bW [.ld 5,.cq<|b_<|decide ((aV (aN kc x8).la (aN kc x8).lb (aN kc x8).lc)>1)] [(6,p_ b9),(29,b_ (!(decide ((aV (aN kc x8).la (aN kc x8).lb (aN kc x8).lc)>1))))] (o1<|qw<|oL<|aN kc x8)<|aI (E:= !(decide ((aV (aN kc x8).la (aN kc x8).lb (aN kc x8).lc)>1))) rfl (fun e3=>?_) (fun e3=>?_)
   ·skip
    refine bR<|aM<|az [.w<|(k:Int)+1] [(17,i_<|(k:Int)+1)] (o1<|wj ((k:Int)+1)<|by omega)<|bC (k+1,ymk) ⟨(by omega),(by(rw[BJ ‹_›];unfold oh eL;subst hy;first|(simp_all;done)|(simp[*];done)|grind))⟩ (by(show(aX kc<|fun v_=>true).length-(k+1)<(aX kc<|fun v_=>true).length-k;omega)) ?_
    exact cQ [0,0,0,0,0] ⟨rfl,rfl,rfl,rfl,rfl,trivial⟩<|by kernel_rfl
   ·skip
    refine aP<|aC<|dS [.ld 5,.al,.st 6] [] (fun b10=>[(8,p_ b10)]) (fun _=>[]) (fun b10=>aA b10 [i_<|(aN kc x8).hp,i_ 0] 200) ?_
    intro b10
    refine cS<|bF [.ld 5] [(34,b_<|(aN kc x8).hl)]<|aI (E:=(aN kc x8).hl) rfl (fun e4=>?_) (fun e4=>?_)
    ·skip
     refine aM<|bU [.st 6] [] [(6,aA b10 [i_<|(aN kc x8).hp,i_ 1] 200)]<|bL [6] 7<|vA 1 [.ld 0,.ld 6] (rg 0 6) [(0,p_ bt),(3,p_ b4),(15,vS al'5 (aX kc<|fun v_=>true) cl'6),(16,i_ ((aX kc<|fun v_=>true).length:Int)),(17,c_ k),(39,.map<|some m1),(40,i_ x8),(41,.agg #[i_<|(aN kc x8).hp,i_ 1])]<|an 6 rfl (gB 3 200 1 x8 (⟨(aN kc x8).hp,1⟩:Pl) rfl eE (cb<|(aM<|az [.w<|(k:Int)+1] [(17,i_<|(k:Int)+1)] (o1<|wj ((k:Int)+1)<|by omega)<|bC (k+1,aK ymk x8 (⟨(aN kc x8).hp,1⟩:Pl)) ⟨(by omega),(by(rw[BJ ‹_›];unfold oh eL;subst hy;first|(simp_all;done)|(simp[*];done)|grind))⟩ (by(show(aX kc<|fun v_=>true).length-(k+1)<(aX kc<|fun v_=>true).length-k;omega)) ?_)))
     exact cQ [0,0,0,0,0] ⟨rfl,rfl,rfl,rfl,rfl,trivial⟩<|by kernel_rfl
    ·skip
     refine aP<|bL [6] 7<|cL 1 [.ld 0,.ld 6] (rg 0 6) [(39,.map<|some m1),(40,i_ x8),(41,.agg #[i_<|(aN kc x8).hp,i_ 0])]<|an 6 rfl (gB 3 200 1 x8 (⟨(aN kc x8).hp,0⟩:Pl) rfl eE (cb<|(aM<|fy [.w<|(k:Int)+1] [(0,p_ bt),(3,p_ b4),(15,vS al'5 (aX kc<|fun v_=>true) cl'6),(16,i_ ((aX kc<|fun v_=>true).length:Int)),(17,i_<|(k:Int)+1)] (o1<|wj ((k:Int)+1)<|by omega)<|bC (k+1,aK ymk x8 (⟨(aN kc x8).hp,0⟩:Pl)) ⟨(by omega),(by(rw[BJ ‹_›];unfold oh eL;subst hy;first|(simp_all;done)|(simp[*];done)|grind))⟩ (by(show(aX kc<|fun v_=>true).length-(k+1)<(aX kc<|fun v_=>true).length-k;omega)) ?_)))
     exact cQ [0,0,0,0,0] ⟨rfl,rfl,rfl,rfl,rfl,trivial⟩<|by kernel_rfl
  ·skip
   have p2:=ga e2
   refine bR<|aE<|Xf [aA b4 [.map<|some m1,.map<|some m2,.map<|some m3] 197,iK m1 ymk,fj m2 ([]:bm Int),gl m3 ([]:bm MB),sI al'5 (aX kc<|fun v_=>true) cl'6,eR ([]:bm MB)] rfl (aM<|dQ [] [(2,p_ b4)]<|aF ?_)
   rw[show ymk=(eZ kc) from by first|rfl|(rw[hy,Om<|by omega])]
   refine cN [0,0,0,0,1] [p_ b4] (fun _ w r s=>⟨dM r rfl,trivial⟩) (b4,m1,m2,m3) ?_ ?_<|by kernel_rfl
   ·rfl
   ·trivial
structure Vt where
 be:Nat
 bt:Nat
 mb:Nat
 t:T
 kv:List (Int×It)
def eF(ty:TypeId)(v:Vt):List V.aH:=[aA v.be [p_ v.bt,.map<|some v.mb] ty,aA v.bt [.pointer<|T.ptr v.t] 251,bG 361 v.t,bP (fun k:Int=>i_ k) (fun y:It=>(.agg #[u_ y.ka,i_ y.ki,u_ y.va,i_ y.vi])) v.mb v.kv]
abbrev MG(b:Nat)(kk:bm Vt):V.aH:=bP (fun k:Int=>i_ k) (fun v:Vt=>p_ v.be) b kk
def eD(b:Nat)(kk:List (Int×Vt)):V.aH:=co [MG b kk,db (eF 192) kk]
def eu(v:Vt)(t:T)(kv:List (Int×It)):V.aH:=co<|eF 190 {v with t:=t,kv:=kv}
variable{kk:bm Vt}
theorem pV(h:(eD b kk).holds w):(MG b kk).holds w:=h _<|by simp
variable{v:Vt}
theorem AI(h:(eD b kk).holds w)(hm:aB kk i=some v): ∀it∈eF 192 v,it.holds w:=wK (h (db (eF 192) kk)<|by simp) hm
theorem LS(b:Nat)(kk:bm Vt)(i:Int)(v:Vt)(hm:aB kk i=some v)(ho:d6 v.t v.kv)(w:World)(r:(eD b kk).holds w):Calls Tryz.prog 164 #[p_ v.be] w fun e w'=>e= .returned (u_<|iZ v.t.toL)∧Fr [] w w':=
 have h:=AI r hm
 UH v.be v.bt v.mb v.t v.kv ho w (h _<|by simp[eF]) (h _<|by simp[eF]) (h _<|by simp[eF]) (h _<|by simp[eF])
theorem LU(b:Nat)(kk:bm Vt)(i:Int)(v:Vt)(hm:aB kk i=some v)(ho:d6 v.t v.kv)(w:World)(r:(eD b kk).holds w):Calls Tryz.prog 148 #[p_ v.be] w fun e w'=>e= .returned (.tuple #[u_<|(v.t.toL.head?.getD default).ka,b_<|v.t.toL.head?.isSome])∧Fr [] w w':=
 have h:=AI r hm
 UI v.be v.bt v.mb v.t v.kv ho w (h _<|by simp[eF]) (h _<|by simp[eF]) (h _<|by simp[eF]) (h _<|by simp[eF])
theorem WE(b:Nat)(kk:bm Vt)(i:Int)(v:Vt)(hm:aB kk i=some v)(w:World)(r:(eD b kk).holds w):Calls Tryz.prog 218 #[p_ v.be] w fun e w'=>e= .returned (i_ (v.kv.length:Int))∧Fr [] w w':=
 have h:=AI r hm
 KF v.be v.bt v.mb v.t v.kv w (h _<|by simp[eF]) (h _<|by simp[eF]) (h _<|by simp[eF]) (h _<|by simp[eF])
theorem Tc(b:Nat)(kk:bm Vt)(i:Int)(v:Vt)(n:Int)(hm:aB kk i=some v)(ho:d6 v.t v.kv)(w:World)(r:(eD b kk).holds w):Calls Tryz.prog 210 #[p_ v.be,u_ n] w fun e w'=>e= .returned (.tuple #[i_<|((de (bD n 9223372036854775807) v.t.toL).getD default).ki,b_<|(de (bD n 9223372036854775807) v.t.toL).isSome])∧Fr [] w w':=
 have h:=AI r hm
 Qz v.be v.bt v.mb v.t v.kv n ho w (h _<|by simp[eF]) (h _<|by simp[eF]) (h _<|by simp[eF]) (h _<|by simp[eF])
theorem G5{f:β→List V.aH}{ek:Int→Value}{ev:β→Value}{kv:List (Int×β)}{m:β}(hm:aB kv i=some m)(hs:HS w (aL [co [bP ek ev b kv,db f kv]]) [co [bP ek ev b kv,db f kv]] w):HS w (aL<|f m) (f m) w:=by
 have h:=(HS.coS hs).all (db f kv) (by simp)
 refine HS.start w _ (wK h hm) ?_
 have hn:=(HS.coS hs).nodup
 rw[show[bP ek ev b kv,db f kv]=[bP ek ev b kv]++[db f kv] from rfl,lI] at hn
 have hn:=(List.nodup_append.1 hn).2.1
 rw[show aL [db f kv]=lW f kv by simp[aL,db]] at hn
 have:=((rF hm).flatMap_right (fun p:Int×β=>aL<|f p.2)).nodup_iff.1 hn
 simp only[List.flatMap_cons] at this
 exact(List.nodup_append.1 this).1
theorem CL{v':Vt}(hm:aB kk i=some v)(hb:v'.be=v.be)(hs:HS w (aL [eD b kk]) [eD b kk] w)(h:Turn (eF 192 v) (eF 192 v') w w'):Turn [eD b kk] [eD b<|aK kk i v'] w w':=
 Turn.bag (f:=eF 192) (R:=[]) hs hm (by simp) (by simp) (by rw[hb]) fun _=>h
theorem WG(b:Nat)(kk:bm Vt)(i:Int)(v:Vt)(c x y:Int)(hm:aB kk i=some v)(ho:d6 v.t v.kv)(hl:v.kv.length≤700)(w:World)(hs:HS w (aL [eD b kk]) [eD b kk] w):Calls Tryz.prog 207 #[p_ v.be,i_ c,u_ x,u_ y] w fun e w'=> ∃zz:T,e= .returned (i_ 0)∧d6 zz (aK v.kv c ⟨x,c,y,c⟩)∧Turn [eD b kk] [eD b<|aK kk i {v with t:=zz,kv:=aK v.kv c ⟨x,c,y,c⟩}] w w':=by
 refine(UG v.be v.bt v.mb v.t v.kv c x y ho hl w<|G5 (f:=eF 192) (m:=v) hm hs).mono ?_
 rintro e w' ⟨zt,h1,h2,h3⟩
 exact⟨zt,h1,h2,CL hm rfl hs h3⟩
theorem Td(b:Nat)(kk:bm Vt)(i:Int)(v:Vt)(c:Int)(hm:aB kk i=some v)(ho:d6 v.t v.kv)(hl:v.kv.length≤700)(w:World)(hs:HS w (aL [eD b kk]) [eD b kk] w):Calls Tryz.prog 217 #[p_ v.be,i_ c] w fun e w'=> ∃zz:Int×T,e= .returned (i_ zz.1)∧d6 zz.2 (aY v.kv c)∧Turn [eD b kk] [eD b<|aK kk i {v with t:=zz.2,kv:=aY v.kv c}] w w':=by
 have hf:=G5 (f:=eF 192) (m:=v) hm hs
 by_cases hd:aB v.kv c=none
 ·refine(NJ v.be v.bt v.mb v.t v.kv c hd w (hf.all _<|by simp[eF]) (hf.all _<|by simp[eF]) (hf.all _<|by simp[eF])<|hf.all _<|by simp[eF]).mono ?_
  rintro e w' ⟨rfl,h2⟩
  refine⟨(6,v.t),rfl,by rw[u4 hd];exact ho,CL (v':={v with t:=v.t,kv:=aY v.kv c}) hm rfl hs ?_⟩
  have:({v with t:=v.t,kv:=aY v.kv c}:Vt)=v:=by rw[u4 hd]
  rw[this];exact Turn.of (hf.kept h2)<|.refl _
 ·refine(Nc v.be v.bt v.mb v.t v.kv c ho hd hl w hf).mono ?_
  rintro e w' ⟨zt,h1,h2,h3⟩
  exact⟨(0,zt),h1,h2,CL hm rfl hs h3⟩
def qH(v:Vt):V.aH:=co<|eF 192 v
theorem wV(w:World)(hs:HS w (aL []) [] w):Calls Tryz.prog 61 #[] w fun e w'=> ∃zz:Vt,e= .returned (p_ zz.be)∧(zz.kv=[]∧zz.t=T.nil)∧Turn [] [qH zz] w w':=by
 refine(UD w hs).mono ?_
 rintro e w' ⟨⟨be,bt,mb⟩,h1,-,h3⟩
 exact⟨⟨be,bt,mb,T.nil,[]⟩,h1,⟨rfl,rfl⟩,Turn.coR (Y:=[]) (by rw[List.append_nil];exact h3)⟩
theorem AK(w:World)(hs:HS w (aL []) [] w):Calls Tryz.prog 60 #[] w fun e w'=> ∃zz:Vt,e= .returned (p_ zz.be)∧True∧Turn [] [eu zz T.nil []] w w':=by
 refine(UC w hs).mono ?_
 rintro e w' ⟨⟨be,bt,mb⟩,h1,-,h3⟩
 exact⟨⟨be,bt,mb,T.nil,[]⟩,h1,trivial,Turn.coR (Y:=[]) (by rw[List.append_nil];exact h3)⟩
theorem EU(v:Vt)(t:T)(kv:bm It)(c x y:Int)(ho:d6 t kv)(hl:kv.length≤700)(w:World)(hs:HS w (aL [eu v t kv]) [eu v t kv] w):Calls Tryz.prog 147 #[p_ v.be,i_ c,u_ x,u_ y] w fun e w'=> ∃zz:T,e= .returned (i_ 0)∧d6 zz (aK (aY kv c) c ⟨x,c,y,c⟩)∧Turn [eu v t kv] [eu v zz<|aK (aY kv c) c ⟨x,c,y,c⟩] w w':=by
 refine(UF v.be v.bt v.mb t kv c x y ho hl w<|HS.coS hs).mono ?_
 rintro e w' ⟨zt,h1,h2,h3⟩
 exact⟨zt,h1,h2,Turn.coS h3⟩
theorem Jp(v:Vt)(t:T)(kv:bm It)(c:Int)(ho:d6 t kv)(hl:kv.length≤700)(w:World)(hs:HS w (aL [eu v t kv]) [eu v t kv] w):Calls Tryz.prog 202 #[p_ v.be,i_ c] w fun e w'=> ∃zz:Int×T,e= .returned (i_ zz.1)∧d6 zz.2 (aY kv c)∧Turn [eu v t kv] [eu v zz.2<|aY kv c] w w':=by
 have hf:=HS.coS hs
 by_cases hd:aB kv c=none
 ·refine(F3 v.be v.bt v.mb t kv c hd w (hf.all _<|by simp[eF]) (hf.all _<|by simp[eF]) (hf.all _<|by simp[eF])<|hf.all _<|by simp[eF]).mono ?_
  rintro e w' ⟨rfl,h2⟩
  refine⟨(6,t),rfl,by rw[u4 hd];exact ho,?_⟩
  rw[u4 hd];exact Turn.of (hs.kept h2)<|.refl _
 ·refine(GA v.be v.bt v.mb t kv c ho hd hl w hf).mono ?_
  rintro e w' ⟨zt,h1,h2,h3⟩
  exact⟨(0,zt),h1,h2,Turn.coS h3⟩
theorem Tf(v:Vt)(t:T)(kv:bm It)(n:Int)(ho:d6 t kv)(w:World)(r:(eu v t kv).holds w):Calls Tryz.prog 209 #[p_ v.be,u_ n] w fun e w'=>e= .returned (.tuple #[i_<|((eC (bD n 9223372036854775807) t.toL).getD default).ki,b_<|(eC (bD n 9223372036854775807) t.toL).isSome])∧Fr [] w w':=
 Qy v.be v.bt v.mb t kv n ho w (r _<|by simp[eF]) (r _<|by simp[eF]) (r _<|by simp[eF]) (r _<|by simp[eF])
theorem Ti(v:Vt)(t:T)(kv:bm It)(ho:d6 t kv)(w:World)(r:(eu v t kv).holds w):Calls Tryz.prog 163 #[p_ v.be] w fun e w'=>e= .returned (u_<|ns t.toL)∧Fr [] w w':=
 RA v.be v.bt v.mb t kv ho w (r _<|by simp[eF]) (r _<|by simp[eF]) (r _<|by simp[eF]) (r _<|by simp[eF])
structure Ac where
 bs:Nat
 mb:Nat
 mo:Nat
 ml:Nat
 ym:List (Int×Pl)
 deriving Inhabited
def iz(a:Ac)(on:List (Int×Int))(kv:List (Int×MB)):List V.aH:=[aA a.bs [.map<|some a.mb,.map<|some a.mo,.map<|some a.ml] 197,iK a.mb a.ym,fj a.mo on,gl a.ml kv,eR kv]
def eM(a:Ac)(on:List (Int×Int))(kv:List (Int×MB)):V.aH:=co<|iz a on kv
theorem Lo(a:Ac)(on:bm Int)(kv:bm MB)(c:Int)(w:World)(r:(eM a on kv).holds w):Calls Tryz.prog 109 #[p_ a.bs,i_ c] w fun e w'=>e= .returned (b_<|ez on kv c)∧Fr [] w w':=
 wS a.bs a.mb a.mo a.ml a.ym on kv c w (r _<|by simp[iz]) (r _<|by simp[iz]) (r _<|by simp[iz]) (r _<|by simp[iz]) (r _<|by simp[iz])
def rO(ym:List (Int×Pl))(on:List (Int×Int))(kv:List (Int×MB))(c:Int)(on':List (Int×Int))(kv':List (Int×MB))(l:List Int)(e:Int):Prop:=
 (jI ym c=true∧ez on kv c=false∧e=0∧l=(ej ym (kx kv) 40 c).1∧on'=aK on c (b0 ym c)∧kx kv'=(ej ym (kx kv) 40 c).2)∨((jI ym c=false∨ez on kv c=true)∧e≠0∧l=[]∧on'=on∧kv'=kv)
def u6(ym:List (Int×Pl))(on:List (Int×Int))(kv:List (Int×MB))(c:Int)(on':List (Int×Int))(kv':List (Int×MB))(l:List Int)(e:Int):Prop:=
 (jI ym c=true∧ez on kv c=true∧e=0∧l=(fO ym (kx kv) 40 c).1∧on'=aY on c∧kx kv'=(fO ym (kx kv) 40 c).2)∨((jI ym c=false∨ez on kv c=false)∧e≠0∧l=[]∧on'=on∧kv'=kv)
variable{on:bm Int}
theorem BP{a:Ac}{kv:bm MB}(hs:HS w (aL [eM a on kv]) [eM a on kv] w)(h:Fr [] w w'):Turn [eM a on kv] [eM a on kv,sI none [] 0] w w':=
 Turn.of ((hs.kept h).add (Fr.refl _ _) (it:=sI none [] 0) (zQ 3 1 w') List.nodup_nil (by intro b hb;cases hb)) (.refl _)
theorem Em(a:Ac)(on:bm Int)(kv:bm MB)(c:Int)(hd:jG a.ym 40 c)(w:World)(hs:HS w (aL [eM a on kv]) [eM a on kv] w):Calls Tryz.prog 74 #[p_ a.bs,i_ c] w fun e w'=> ∃zz:bm Int×bm MB×bn×bT×Nat×Int,e= .returned (.tuple #[vS zz.2.2.1 zz.2.2.2.1 zz.2.2.2.2.1,i_ zz.2.2.2.2.2])∧rO a.ym on kv c zz.1 zz.2.1 zz.2.2.2.1 zz.2.2.2.2.2∧Turn [eM a on kv] [eM a zz.1 zz.2.1,sI zz.2.2.1 zz.2.2.2.1 zz.2.2.2.2.1] w w':=by
 have hf:=HS.coS hs
 have r: ∀it∈iz a on kv,it.holds w:=hf.all
 by_cases hl:jI a.ym c=true
 ·by_cases hi:ez on kv c=true
  ·refine(QX a.bs a.mb a.mo a.ml a.ym on kv c hl hi w (r _<|by simp[iz]) (r _<|by simp[iz]) (r _<|by simp[iz]) (r _<|by simp[iz])<|r _<|by simp[iz]).mono ?_
   rintro e w' ⟨rfl,h2⟩
   exact⟨(on,kv,none,[],0,8),rfl,.inr ⟨.inr hi,by simp,rfl,rfl,rfl⟩,BP hs h2⟩
  ·have hi:ez on kv c=false:=by simpa using hi
   refine(Vm a.bs a.mb a.mo a.ml a.ym on kv c hl hi hd w hf).mono ?_
   rintro e w' ⟨⟨kv',al,cl⟩,h1,h2,h3⟩
   exact⟨(_,kv',al,_,cl,0),h1,.inl ⟨hl,hi,rfl,rfl,rfl,h2⟩,Turn.coI (X:=[]) (by rw[List.append_nil];exact h3)⟩
 ·have hl:jI a.ym c=false:=by simpa using hl
  refine(QW a.bs a.mb a.mo a.ml a.ym on kv c hl w (r _<|by simp[iz]) (r _<|by simp[iz]) (r _<|by simp[iz]) (r _<|by simp[iz])<|r _<|by simp[iz]).mono ?_
  rintro e w' ⟨rfl,h2⟩
  exact⟨(on,kv,none,[],0,6),rfl,.inr ⟨.inl hl,by simp,rfl,rfl,rfl⟩,BP hs h2⟩
theorem WH(a:Ac)(on:bm Int)(kv:bm MB)(c:Int)(hd:jG a.ym 40 c)(w:World)(hs:HS w (aL [eM a on kv]) [eM a on kv] w):Calls Tryz.prog 216 #[p_ a.bs,i_ c] w fun e w'=> ∃zz:bm Int×bm MB×bn×bT×Nat×Int,e= .returned (.tuple #[vS zz.2.2.1 zz.2.2.2.1 zz.2.2.2.2.1,i_ zz.2.2.2.2.2])∧u6 a.ym on kv c zz.1 zz.2.1 zz.2.2.2.1 zz.2.2.2.2.2∧Turn [eM a on kv] [eM a zz.1 zz.2.1,sI zz.2.2.1 zz.2.2.2.1 zz.2.2.2.2.1] w w':=by
 have hf:=HS.coS hs
 have r: ∀it∈iz a on kv,it.holds w:=hf.all
 by_cases hl:jI a.ym c=false∨ez on kv c=false
 ·refine(Ol a.bs a.mb a.mo a.ml a.ym on kv c hl w (r _<|by simp[iz]) (r _<|by simp[iz]) (r _<|by simp[iz]) (r _<|by simp[iz])<|r _<|by simp[iz]).mono ?_
  rintro e w' ⟨rfl,h2⟩
  exact⟨(on,kv,none,[],0,6),rfl,.inr ⟨hl,by simp,rfl,rfl,rfl⟩,BP hs h2⟩
 ·have h1:jI a.ym c=true:=by cases h:jI a.ym c<;>simp_all
  have h2:ez on kv c=true:=by cases h:ez on kv c<;>simp_all
  refine(S4 a.bs a.mb a.mo a.ml a.ym on kv c h1 h2 hd w hf).mono ?_
  rintro e w' ⟨⟨kv',al,cl⟩,e1,e2,h3⟩
  exact⟨(_,kv',al,_,cl,0),e1,.inl ⟨h1,h2,rfl,rfl,rfl,e2⟩,Turn.coI (X:=[]) (by rw[List.append_nil];exact h3)⟩
theorem LV(bt mc:Nat)(kc:bm Cl)(hl:kc.length≤1000)(w:World)(r0:(aA bt [.map<|some mc] 185).holds w)(r1:(cU mc kc).holds w)(hs:HS w (aL []) [] w):Calls Tryz.prog 62 #[p_ bt] w fun e w'=> ∃zz:Ac,e= .returned (p_ zz.bs)∧zz.ym=eZ kc∧Turn [] [eM zz [] []] w w':=by
 refine(QY bt mc kc hl w r0 r1 hs).mono ?_
 rintro e w' ⟨⟨bs,mb,mo,mk⟩,h1,-,h3⟩
 exact⟨⟨bs,mb,mo,mk,eZ kc⟩,h1,rfl,Turn.coR (Y:=[]) (by rw[List.append_nil];exact h3)⟩
theorem kV(h:eL kv i=true): ∃c,aB kv i=some c∧aN kv i=c:=by
 cases e:aB kv i with
 |some c=>exact⟨c,rfl,iP e⟩
 |none=>exfalso;unfold eL at h;rw[Db e] at h;revert h;decide
theorem Ig(kv:bm Cl): ∀(l:bT)(m:bm Pl)(i:Int),aB (l.foldl (oh kv) m) i=if i∈l∧eL kv i=true then some ⟨(aN kv i).hp,if(aN kv i).hl=true then 1 else 0⟩ else aB m i
 |[],m,i=>by simp
 |x::l,m,i=>by
  rw[List.foldl_cons,Ig kv l]
  by_cases hs:eL kv i=true
  ·by_cases hl:i∈l
   ·simp[hl,hs]
   ·rw[if_neg<|fun h=>hl h.1]
    by_cases e:i=x
    ·subst e;rw[if_pos (c:=i∈i::l∧eL kv i=true) ⟨by simp,hs⟩];unfold oh;rw[if_pos hs,fN,if_pos rfl]
    ·rw[if_neg (fun h=>by rcases List.mem_cons.1 h.1 with h|h;exact e h;exact hl h)]
     unfold oh;split
     ·rw[fN,if_neg<|fun h=>e h.symm]
     ·rfl
  ·rw[if_neg<|fun h=>hs h.2,if_neg<|fun h=>hs h.2]
   unfold oh;split
   ·rename_i hx;rw[fN,if_neg<|fun h=>hs (by rw[←h];exact hx)]
   ·rfl
theorem H6(i:Int):aB (eZ kv) i=if eL kv i=true then some ⟨(aN kv i).hp,if(aN kv i).hl=true then 1 else 0⟩ else none:=by
 unfold eZ;rw[Ig]
 by_cases hs:eL kv i=true
 ·obtain⟨c,h1,_⟩:=kV hs
  rw[if_pos hs,if_pos ⟨tO h1 rfl,hs⟩]
 ·rw[if_neg hs,if_neg<|fun h=>hs h.2];rfl
theorem vU(i:Int):b0 (eZ kv) i=if eL kv i=true then(aN kv i).hp else 0:=by
 unfold b0;rw[H6];split<;>rfl
theorem vg(i:Int):jI (eZ kv) i=(eL kv i&&(aN kv i).hl):=by
 unfold jI;rw[H6];by_cases h:eL kv i=true
 ·rw[if_pos h,h];cases hh:(aN kv i).hl<;>simp
 ·rw[if_neg h];simp[aw,h]
theorem Ih: ∀(n:Nat)(i:Int),ei kv n i<n→jG (eZ kv) n i
 |0,_,h=>by omega
 |n+1,i,h=>by
  unfold jG;rw[vU]
  by_cases hs:eL kv i=true
  ·obtain⟨c,h1,h2⟩:=kV hs
   rw[if_pos hs];right
   unfold ei at h;rw[h1] at h;simp at h
   exact Ih n _ h
  ·rw[if_neg hs];exact .inl rfl
variable{ym:bm Pl}
theorem Ii: ∀(n:Nat)(i:Int),jG ym n i→jG ym (n+1) i
 |0,_,h=>h.elim
 |n+1,i,h=>by
  rcases h with h|h
  ·exact .inl h
  ·exact .inr<|Ii n _ h
theorem H7: ∀(m n:Nat),jG ym n i→jG ym (n+m) i
 |0,_,h=>h
 |m+1,n,h=>Ii _ _<|H7 m n h
theorem vI(hL:cK kv)(i:Int):jG (eZ kv) 40 i:=
 H7 23 17 (Ih 17 i (by have:=hL.dep i;unfold dep at this;omega))
def bf(kv:List (Int×Cl))(i:Int):List Int:=fX kv i<|dep kv i
variable{c:Cl}
theorem jD(hL:cK kv)(h:aB kv i=some c):dep kv i=dep kv c.hp+1:=by
 have h1:dep kv i=ei kv 16 c.hp+1:=by unfold dep;rw[ei,h,iP h];rfl
 have h2:=hL.dep i
 rw[h1];congr 1;unfold dep
 exact(BQ kv 1 16 c.hp<|by omega).symm
theorem xz(h:aB kv i=none):dep kv i=0:=by unfold dep;rw[ei,h];rfl
theorem jT(hL:cK kv)(h:aB kv i=some c):bf kv i=i::bf kv c.hp:=by
 unfold bf;rw[jD hL h];unfold fX
 rw[List.range_succ_eq_map,List.map_cons,List.map_map]
 congr 1
 refine List.map_congr_left fun j _=>?_
 show fL kv i (j+1)=_
 rw[tV,iP h]
theorem nm(h:aB kv i=none):bf kv i=[]:=by unfold bf;rw[xz h];rfl
theorem sP(hL:cK kv)(hs:eL kv i=true):(aN kv i).hp=0∨(eL kv (aN kv i).hp=true∧(aN kv (aN kv i).hp).hl=false):=by
 obtain⟨c,h1,h2⟩:=kV hs
 rcases hL.par i c h1 with h|⟨p,h3,h4⟩
 ·left;rw[h2];exact h
 ·by_cases h0:c.hp=0
  ·left;rw[h2];exact h0
  ·right;rw[h2]
   have h5:=hL.shr i c h1 (by unfold eL at hs;rw[h2] at hs;simpa using hs)
   refine⟨?_,by rw[iP h3];exact h4⟩
   unfold iN at h5;unfold eL
   have:(c.hp==0)=false:=by simpa using h0
   rw[this] at h5;simpa using h5
structure pt(kv:List (Int×Cl))(ol:List Int)(A:Int→Prop):Prop where
 sh: ∀i,A i→eL kv i=true
 up: ∀i,A i→(aN kv i).hp=0∨A (aN kv i).hp
 sup: ∀i,A i→i∈ol∨ ∃r,A r∧(aN kv r).hp=i
 ons: ∀i∈ol,A i
 lf: ∀i∈ol,(aN kv i).hl=true
def qK(kv:List (Int×Cl))(A:Int→Prop)(F:Int→List (Int×Int)):Prop:= ∀p,((F p).map (·.1)).Nodup∧ ∀i,(aB (F p) i≠none↔A i∧(aN kv i).hp=p)
variable{ol:bT}{A:Int→Prop}
theorem vV(hL:cK kv)(h:pt kv ol A): ∀(n:Nat)(i:Int),dep kv i≤n→A i→ ∀q∈bf kv i,A q
 |0,i,hn,hi,q,hq=>by
  unfold bf at hq;rw[show dep kv i=0 by omega] at hq;simp[fX] at hq
 |n+1,i,hn,hi,q,hq=>by
  obtain⟨c,h1,h2⟩:=kV<|h.sh i hi
  rw[jT hL h1] at hq
  rcases List.mem_cons.1 hq with rfl|hq
  ·exact hi
  ·rcases h.up i hi with h0|h0
   ·rw[h2] at h0;rw[h0,nm<|nP hL] at hq;cases hq
   ·rw[h2] at h0;exact vV hL h n _ (by rw[jD hL h1] at hn;omega) h0 q hq
theorem H8(hL:cK kv)(h:pt kv ol A): ∀(n:Nat)(i:Int),17≤dep kv i+n→A i→ ∃m∈ol,i∈bf kv m
 |0,i,hn,hi=>by have:=hL.dep i;omega
 |n+1,i,hn,hi=>by
  obtain⟨c,h1,h2⟩:=kV<|h.sh i hi
  rcases h.sup i hi with h0|⟨r,h3,h4⟩
  ·exact⟨i,h0,by rw[jT hL h1];simp⟩
  ·obtain⟨d,h5,h6⟩:=kV<|h.sh r h3
   rw[h6] at h4
   obtain⟨m,hm,hr⟩:=H8 hL h n r (by rw[jD hL h5,h4];omega) h3
   refine⟨m,hm,?_⟩
   exact upc_trans hL (by rw[jT hL h5];exact List.mem_cons_of_mem _ (by rw[h4,jT hL h1];simp)) hr
where
 upc_trans {kv:List (Int×Cl)} (hL:cK kv) {i r m:Int} (h1:i∈bf kv r) (h2:r∈bf kv m):i∈bf kv m:=by
  have key: ∀(n:Nat)(m:Int),dep kv m≤n→r∈bf kv m→i∈bf kv m:=by
   intro n
   induction n with
   |zero=>intro m hm hr;unfold bf at hr;rw[show dep kv m=0 by omega] at hr;simp[fX] at hr
   |succ n ih=>
    intro m hm hr
    cases e:aB kv m with
    |none=>rw[nm e] at hr;cases hr
    |some c=>
     rw[jT hL e] at hr⊢
     rcases List.mem_cons.1 hr with rfl|hr
     ·rw[jT hL e] at h1;exact h1
     ·exact List.mem_cons_of_mem _<|ih _ (by rw[jD hL e] at hm;omega) hr
  exact key _ m (Nat.le_refl _) h2
theorem rp(hL:cK kv)(h:pt kv ol A)(i:Int):A i↔ ∃m∈ol,i∈bf kv m:=
 ⟨fun hi=>H8 hL h 17 i (by omega) hi,fun⟨m,hm,hi⟩=>vV hL h _ m (Nat.le_refl _) (h.ons m hm) i hi⟩
theorem yV(hL:cK kv): ∀(n:Nat)(p q:Int),dep kv p≤n→q∈bf kv p→dep kv q≤dep kv p
 |0,p,q,hn,hq=>by unfold bf at hq;rw[show dep kv p=0 by omega] at hq;simp[fX] at hq
 |n+1,p,q,hn,hq=>by
  cases e:aB kv p with
  |none=>rw[nm e] at hq;cases hq
  |some c=>
   rw[jT hL e] at hq
   rcases List.mem_cons.1 hq with rfl|hq
   ·omega
   ·have h2:=jD hL e;have:=yV hL n c.hp q (by omega) hq;omega
theorem xX{l:bm Int}:l≠[]↔ ∃i,aB l i≠none:=by
 constructor
 ·intro h
  cases l with
  |nil=>exact absurd rfl h
  |cons p l=>exact⟨p.1,by simp[aB]⟩
 ·rintro⟨i,h⟩ rfl;exact h rfl
variable{F:Int→bm Int}
theorem Qw(h:qK kv A F)(i:Int):qK kv (fun q=>A q∨q=i) (mG F (aN kv i).hp i):=by
 intro p;unfold mG
 by_cases e:(aN kv i).hp=p
 ·simp only[if_pos e];subst e
  refine⟨mN (h _).1 _ _,fun q=>?_⟩
  rw[fN];by_cases eq:i=q
  ·subst eq;simp
  ·rw[if_neg eq,(h _).2];constructor
   ·rintro⟨h1,h2⟩;exact⟨.inl h1,h2⟩
   ·rintro⟨h1|h1,h2⟩
    ·exact⟨h1,h2⟩
    ·exact absurd h1.symm eq
 ·simp only[if_neg e]
  refine⟨(h p).1,fun q=>?_⟩
  rw[(h p).2];constructor
  ·rintro⟨h1,h2⟩;exact⟨.inl h1,h2⟩
  ·rintro⟨h1|h1,h2⟩
   ·exact⟨h1,h2⟩
   ·subst h1;exact absurd h2 e
theorem Qx(h:qK kv A F)(i:Int):qK kv (fun q=>A q∧q≠i) (iC F (aN kv i).hp i):=by
 intro p;unfold iC
 by_cases e:(aN kv i).hp=p
 ·simp only[if_pos e];subst e
  refine⟨lJ (h _).1 _,fun q=>?_⟩
  rw[gx (h _).1];by_cases eq:i=q
  ·subst eq;simp
  ·rw[if_neg eq,(h _).2];constructor
   ·rintro⟨h1,h2⟩;exact⟨⟨h1,fun h=>eq h.symm⟩,h2⟩
   ·rintro⟨⟨h1,_⟩,h2⟩;exact⟨h1,h2⟩
 ·simp only[if_neg e]
  refine⟨(h p).1,fun q=>?_⟩
  rw[(h p).2];constructor
  ·rintro⟨h1,h2⟩;exact⟨⟨h1,fun h=>e<|h▸h2⟩,h2⟩
  ·rintro⟨⟨h1,_⟩,h2⟩;exact⟨h1,h2⟩
structure EY(kv:List (Int×Cl))(ol:List Int)(A:Int→Prop)(i:Int):Prop where
 sh: ∀q,A q→eL kv q=true
 up: ∀q,A q→(aN kv q).hp=0∨A (aN kv q).hp∨(aN kv q).hp=i
 sup: ∀q,A q→q∈ol∨ ∃r,A r∧(aN kv r).hp=q
 me:i∈ol∨ ∃r,A r∧(aN kv r).hp=i
 mysh:eL kv i=true
 no: ¬A i
 ons: ∀q∈ol,A q∨q=i
 lf: ∀q∈ol,(aN kv q).hl=true
theorem H9(hL:cK kv)(hs:eL kv i=true):(aN kv i).hp≠i:=by
 obtain⟨c,h1,h2⟩:=kV hs
 obtain⟨h3,h4⟩:=hL.key i c h1
 have:=(rq h4).2.2
 rw[h2,←h3];exact fun e=>this e.symm
open Classical in
theorem KE(hL:cK kv): ∀(n:Nat)(i:Int)(A:Int→Prop)(F:Int→bm Int),EY kv ol A i→qK kv A F→jG (eZ kv) n i→
  ∃A':Int→Prop,pt kv ol A'∧qK kv A' (ej (eZ kv) F n i).2∧(∀q,A q→A' q)∧(ej (eZ kv) F n i).1=(bf kv i).filter (fun q=>decide (¬A q))∧A' i
 |0,i,A,F,hW,hF,hd=>hd.elim
 |n+1,i,A,F,hW,hF,hd=>by
  have hp:b0 (eZ kv) i=(aN kv i).hp:=by rw[vU,if_pos hW.mysh]
  have hfa:=Qw hF i
  obtain⟨c,h1,h2⟩:=kV hW.mysh
  have hne:=H9 hL hW.mysh
  have hiff: ∀p,p=(aN kv i).hp→p≠0→(F p≠[]↔A p):=by
   intro p hpe hp0
   rw[xX];constructor
   ·rintro⟨q,hq⟩
    obtain⟨h3,h4⟩:=((hF p).2 q).1 hq
    rcases hW.up q h3 with h|h|h
    ·exact absurd (h4.symm.trans h) hp0
    ·rw[h4] at h;exact h
    ·exact absurd ((hpe.symm.trans h4.symm).trans h) hne
   ·intro ha
    rcases hW.sup p ha with h|⟨r,h3,h4⟩
    ·have h5:=hW.lf p h
     rcases sP hL hW.mysh with h6|⟨_,h6⟩
     ·exact absurd (hpe.trans h6) hp0
     ·rw[←hpe,h5] at h6;cases h6
    ·exact⟨r,((hF p).2 r).2 ⟨h3,h4⟩⟩
  by_cases hst:F (b0 (eZ kv) i)≠[]∨b0 (eZ kv) i=0
  ·rw[oU hst]
   rw[hp] at hst⊢
   have hcl:(aN kv i).hp=0∨A (aN kv i).hp:=by
    by_cases h0:(aN kv i).hp=0
    ·exact .inl h0
    ·rcases hst with h|h
     ·exact .inr<|(hiff _ rfl h0).1 h
     ·exact absurd h h0
   have hA':pt kv ol (fun q=>A q∨q=i):=by
    refine⟨?_,?_,?_,fun q hq=>hW.ons q hq,hW.lf⟩
    ·rintro q (h|rfl)
     ·exact hW.sh q h
     ·exact hW.mysh
    ·rintro q (h|rfl)
     ·rcases hW.up q h with h|h|h
      ·exact .inl h
      ·exact .inr<|.inl h
      ·exact .inr<|.inr h
     ·rcases hcl with h|h
      ·exact .inl h
      ·exact .inr<|.inl h
    ·rintro q (h|rfl)
     ·rcases hW.sup q h with h|⟨r,h3,h4⟩
      ·exact .inl h
      ·exact .inr ⟨r,.inl h3,h4⟩
     ·rcases hW.me with h|⟨r,h3,h4⟩
      ·exact .inl h
      ·exact .inr ⟨r,.inl h3,h4⟩
   refine⟨_,hA',hfa,fun q h=> .inl h,?_,.inr rfl⟩
   rw[jT hL h1,List.filter_cons,if_pos<|by simpa using hW.no]
   have:(bf kv c.hp).filter (fun q=>decide (¬A q))=[]:=by
    rw[List.filter_eq_nil_iff];intro q hq
    rw[h2] at hcl
    rcases hcl with h|h
    ·rw[h,nm<|nP hL] at hq;cases hq
    ·have hqA:=vV hL hA' _ c.hp (Nat.le_refl _) (.inl h) q hq
     rcases hqA with h3|h3
     ·simpa using h3
     ·exfalso
      have:=yV hL _ c.hp q (Nat.le_refl _) hq
      rw[h3,jD hL h1] at this;omega
   rw[this]
  ·rw[AB hst]
   rw[hp] at hst⊢
   have h0:(aN kv i).hp≠0:=fun h=>hst<|.inr h
   have hnp: ¬A (aN kv i).hp:=fun h=>hst<|.inl<|(hiff _ rfl h0).2 h
   have hsp:eL kv (aN kv i).hp=true:=by
    rcases sP hL hW.mysh with h|h
    ·exact absurd h h0
    ·exact h.1
   have hW':EY kv ol (fun q=>A q∨q=i) (aN kv i).hp:=by
    refine⟨?_,?_,?_,.inr ⟨i,.inr rfl,rfl⟩,hsp,?_,fun q hq=> .inl (hW.ons q hq),hW.lf⟩
    ·rintro q (h|rfl)
     ·exact hW.sh q h
     ·exact hW.mysh
    ·rintro q (h|rfl)
     ·rcases hW.up q h with h|h|h
      ·exact .inl h
      ·exact .inr<|.inl<|.inl h
      ·exact .inr<|.inl<|.inr h
     ·exact .inr<|.inr rfl
    ·rintro q (h|rfl)
     ·rcases hW.sup q h with h|⟨r,h3,h4⟩
      ·exact .inl h
      ·exact .inr ⟨r,.inl h3,h4⟩
     ·rcases hW.me with h|⟨r,h3,h4⟩
      ·exact .inl h
      ·exact .inr ⟨r,.inl h3,h4⟩
    ·rintro(h|h)
     ·exact hnp h
     ·exact hne h
   have hd':jG (eZ kv) n (aN kv i).hp:=by
    rcases hd with h|h
    ·rw[hp] at h;exact absurd h h0
    ·rw[hp] at h;exact h
   obtain⟨A',a1,a2,a3,a4,a5⟩:=KE hL n _ _ _ hW' hfa hd'
   refine⟨A',a1,a2,fun q h=>a3 q<|.inl h,?_,a3 i<|.inr rfl⟩
   rw[a4,jT hL h1,List.filter_cons,if_pos<|by simpa using hW.no,h2]
   refine congrArg (i:: ·)<|List.filter_congr fun q hq=>?_
   have hqi: ¬q=i:=by
    intro e
    have:=yV hL _ c.hp q (Nat.le_refl _) hq
    rw[e,jD hL h1] at this;omega
   simp[hqi]
structure D8(kv:List (Int×Cl))(ol:List Int)(A:Int→Prop)(i:Int):Prop where
 sh: ∀q,A q→eL kv q=true
 up: ∀q,A q→(aN kv q).hp=0∨A (aN kv q).hp
 sup: ∀q,A q→q≠i→q∈ol∨ ∃r,A r∧(aN kv r).hp=q
 me:A i
 lone: ∀r,A r→(aN kv r).hp≠i
 no:i∉ol
 ons: ∀q∈ol,A q
 lf: ∀q∈ol,(aN kv q).hl=true
open Classical in
theorem Ij(hL:cK kv): ∀(n:Nat)(i:Int)(A:Int→Prop)(F:Int→bm Int),D8 kv ol A i→qK kv A F→jG (eZ kv) n i→
  ∃A':Int→Prop,pt kv ol A'∧qK kv A' (fO (eZ kv) F n i).2∧(∀q,A' q→A q∧q≠i)∧(fO (eZ kv) F n i).1=(bf kv i).filter (fun q=>decide (¬A' q))
 |0,i,A,F,hW,hF,hd=>hd.elim
 |n+1,i,A,F,hW,hF,hd=>by
  have mysh:=hW.sh i hW.me
  have hp:b0 (eZ kv) i=(aN kv i).hp:=by rw[vU,if_pos mysh]
  have hfa:=Qx hF i
  obtain⟨c,h1,h2⟩:=kV mysh
  have hne:=H9 hL mysh
  have hcl:=hW.up i hW.me
  by_cases hst:iC F (b0 (eZ kv) i) i (b0 (eZ kv) i)≠[]∨b0 (eZ kv) i=0
  ·rw[rj hst]
   rw[hp] at hst⊢
   have hA':pt kv ol (fun q=>A q∧q≠i):=by
    refine⟨fun q h=>hW.sh q h.1,?_,?_,fun q hq=>⟨hW.ons q hq,fun e=>hW.no<|e▸hq⟩,hW.lf⟩
    ·rintro q ⟨h,hqi⟩
     rcases hW.up q h with h3|h3
     ·exact .inl h3
     ·exact .inr ⟨h3,fun e=>hW.lone q h e⟩
    ·rintro q ⟨h,hqi⟩
     rcases hW.sup q h hqi with h3|⟨r,h3,h4⟩
     ·exact .inl h3
     ·by_cases hri:r=i
      ·subst hri
       rcases hst with h5|h5
       ·obtain⟨s,hs⟩:=xX.1 h5
        obtain⟨h6,h7⟩:=((hfa _).2 s).1 hs
        exact .inr ⟨s,h6,h7.trans h4⟩
       ·exfalso
        have hq0:q=0:=h4.symm.trans h5
        have:=hW.sh q h
        obtain⟨d,h6,_⟩:=kV this
        rw[hq0,nP hL] at h6;cases h6
      ·exact .inr ⟨r,⟨h3,hri⟩,h4⟩
   refine⟨_,hA',hfa,fun q h=>h,?_⟩
   rw[jT hL h1,List.filter_cons,if_pos<|by simp]
   refine congrArg (i:: ·)<|Eq.symm<|List.filter_eq_nil_iff.2 fun q hq=>?_
   rw[h2] at hcl
   rcases hcl with h|h
   ·rw[h,nm<|nP hL] at hq;cases hq
   ·have hci:c.hp≠i:=by rw[←h2];exact hne
    have hqA:=vV hL hA' _ c.hp (Nat.le_refl _) ⟨h,hci⟩ q hq
    simpa using hqA
  ·rw[DU hst]
   rw[hp] at hst⊢
   have h0:(aN kv i).hp≠0:=fun h=>hst<|.inr h
   have hE: ∀r,(A r∧r≠i)→(aN kv r).hp≠(aN kv i).hp:=fun r hr e=>hst<|.inl<|xX.2 ⟨r,((hfa _).2 r).2 ⟨hr,e⟩⟩
   have hpA:A (aN kv i).hp:=hcl.resolve_left h0
   have hW':D8 kv ol (fun q=>A q∧q≠i) (aN kv i).hp:=by
    refine⟨fun q h=>hW.sh q h.1,?_,?_,⟨hpA,hne⟩,fun r hr=>hE r hr,?_,fun q hq=>⟨hW.ons q hq,fun e=>hW.no<|e▸hq⟩,hW.lf⟩
    ·rintro q ⟨h,hqi⟩
     rcases hW.up q h with h3|h3
     ·exact .inl h3
     ·exact .inr ⟨h3,fun e=>hW.lone q h e⟩
    ·rintro q ⟨h,hqi⟩ hqp
     rcases hW.sup q h hqi with h3|⟨r,h3,h4⟩
     ·exact .inl h3
     ·by_cases hri:r=i
      ·subst hri;exact absurd h4.symm hqp
      ·exact .inr ⟨r,⟨h3,hri⟩,h4⟩
    ·intro h
     have h5:=hW.lf _ h
     rcases sP hL mysh with h6|⟨_,h6⟩
     ·exact h0 h6
     ·rw[h5] at h6;cases h6
   have hd':jG (eZ kv) n (aN kv i).hp:=by
    rcases hd with h|h
    ·rw[hp] at h;exact absurd h h0
    ·rw[hp] at h;exact h
   obtain⟨A',a1,a2,a3,a4⟩:=Ij hL n _ _ _ hW' hfa hd'
   refine⟨A',a1,a2,fun q h=>(a3 q h).1,?_⟩
   rw[a4,jT hL h1,List.filter_cons,if_pos (by simp;exact fun h=>(a3 i h).1.2 rfl),h2]
def gm(c:Cl):Cv:=⟨c.ra,c.rb,c.rc⟩
def lg(c:Cl):Cv:=⟨c.la,c.lb,c.lc⟩
def oG(c:Cl):Cv:=⟨c.ua,c.ub,c.uc⟩
theorem Jq(hL:cK kv): ∀(n:Nat)(i:Int),dep kv i≤n→ ∀j,j<dep kv i→aB kv (fL kv i j)≠none
 |0,i,hn,j,hj=>by omega
 |n+1,i,hn,j,hj=>by
  cases e:aB kv i with
  |none=>rw[xz e] at hj;omega
  |some c=>
   cases j with
   |zero=>show aB kv i≠none;rw[e];simp
   |succ j=>
    rw[tV,iP e]
    rw[jD hL e] at hj hn
    exact Jq hL n _ (by omega) j<|by omega
theorem I4(hL:cK kv): ∀(n:Nat)(i:Int),dep kv i≤n→aB kv (fL kv i<|dep kv i)=none
 |0,i,hn=>by
  cases e:aB kv i with
  |none=>rw[xz e];exact e
  |some c=>have:=jD hL e;omega
 |n+1,i,hn=>by
  cases e:aB kv i with
  |none=>rw[xz e];exact e
  |some c=>
   rw[jD hL e,tV,iP e]
   rw[jD hL e] at hn
   exact I4 hL n _<|by omega
theorem Eo(bt mc:Nat)(kc:bm Cl)(ci:Int)(hL:cK kc)(w:World)(r0:(aA bt [.map<|some mc] 185).holds w)(r1:(cU mc kc).holds w)(hs:HS w (aL []) [] w):Calls Tryz.prog 101 #[p_ bt,i_ ci] w fun e w'=> ∃zz:bn×Nat,e= .returned (vS zz.1 (bf kc ci) zz.2)∧True∧Turn [] [sI zz.1 (bf kc ci) zz.2] w w':=by
 refine(L2 bt mc kc ci (dep kc ci) (fun j hj=>Jq hL _ ci (Nat.le_refl _) j hj) (I4 hL _ ci<|Nat.le_refl _) (by have:=hL.dep ci;omega) w r0 r1 hs).mono ?_
 rintro e w' ⟨⟨al,cl⟩,h1,-,h3⟩
 exact⟨(al,cl),h1,trivial,h3⟩
variable{kc:bm Cl}
theorem CM(hL:cK kc)(i:Int):(bf kc i).length≤17:=by unfold bf;rw[CZ];have:=hL.dep i;omega
def mH(on:List (Int×Int))(ka:List (Int×MB))(kk:List (Int×Vt))(m:En):Int:=if m.ec.hl=true∨ez on ka m.ec.hi=false then m.li.uq11 else cX m.li.uq11<|iZ<|((aB kk m.ec.hi).map fun v:Vt=>v.t.toL).getD []
def jw(kc:List (Int×Cl))(n:Nat)(kk:List (Int×Vt)):Prop:= ∀p,(p=0∨ ∃c,aB kc p=some c∧c.hl=false)→ ∃v,aB kk p=some v∧d6 v.t v.kv∧v.kv.length≤n
def eQ(kc:List (Int×Cl))(kb:List (Int×En)):Prop:= ∀i,(aB kb i).map (·.ec)=aB kc i∧ ∀m,aB kb i=some m→kj m
theorem uY(h:eQ kc kb)(hc:aB kc i=some c): ∃m,aB kb i=some m∧m.ec=c∧kj m:=by
 have h1:=(h i).1
 cases e:aB kb i with
 |none=>rw[e,hc] at h1;cases h1
 |some m=>rw[e,hc] at h1;exact⟨m,rfl,by simpa using h1,(h i).2 m e⟩
theorem lO(h:eQ kc kb)(hm:aB kb i=some m):aB kc i=some m.ec:=by have h1:=(h i).1;rw[hm] at h1;exact h1.symm
theorem EV(hL:cK kc)(h:eQ kc kb)(hm:aB kb i=some m):m.ec.hi=i:=(hL.key i _<|lO h hm).1
variable{n:Nat}
theorem zC(hL:cK kc)(h:eQ kc kb)(hk:jw kc n kk)(hm:aB kb i=some m): ∃v,aB kk m.ec.hp=some v∧d6 v.t v.kv∧v.kv.length≤n:=by
 refine hk _ ?_
 rcases hL.par i _ (lO h hm) with h1|⟨p,h1,h2⟩
 ·exact .inl h1
 ·exact .inr ⟨p,h1,h2⟩
def u7(on:List (Int×Int))(ka:List (Int×MB))(kk:List (Int×Vt))(m:En)(i:Int)(v:Vt)(t:T):Vt:={v with t:=t,kv:=aK v.kv i ⟨m.sh.sq11,i,mH on ka kk m,i⟩}
def lT(on:List (Int×Int))(ka:List (Int×MB))(kb:List (Int×En)):List Int→List (Int×Vt)→List (Int×Vt)→Prop
 |[],kk,kk'=>kk'=kk
 |i::l,kk,kk'=>(ez on ka i=false∧lT on ka kb l kk kk')∨(ez on ka i=true∧ ∃m v t,aB kb i=some m∧aB kk m.ec.hp=some v∧d6 t (u7 on ka kk m i v t).kv∧lT on ka kb l (aK kk m.ec.hp<|u7 on ka kk m i v t) kk')
theorem Tj(h:jw kc n kk){p:Int}(he:d6 v.t v.kv)(hl:v.kv.length≤n+1):jw kc (n+1) (aK kk p v):=fun q hq=>by
 rw[fN];by_cases e:p=q
 ·rw[if_pos e];exact⟨v,rfl,he,hl⟩
 ·rw[if_neg e];obtain⟨v,h1,h2,h3⟩:=h q hq;exact⟨v,h1,h2,by omega⟩
theorem Bc(k:Int)(v:β): ∀kv:List (Int×β),(aK kv k v).length≤kv.length+1
 |[]=>by simp[aK]
 |p::kv=>by unfold aK;split<;>simp;exact Bc k v kv
theorem WI(sb:Nat)(lt lm:Int)(bt mc:Nat)(kc:bm Cl)(my:Nat)(kb:bm En)(a:Ac)(on:bm Int)(ka:bm MB)(eb:Nat)(mk:Nat)(kk:bm Vt)(ck ac:Int)(i:Int)(m:En)(hm:aB kb i=some m)(hL:cK kc)(hB:eQ kc kb)(hK:jw kc n kk)(w:World)(r0:(aA sb [i_ lt,i_ lm,p_ bt,.map<|some my,p_ a.bs,p_ eb,.map<|some mk,u_ ck,u_ ac] 141).holds w)(r1:(aA bt [.map<|some mc] 185).holds w)(r2:(cU mc kc).holds w)(r3:(df my kb).holds w)(r4:(eM a on ka).holds w)(r5:(eD mk kk).holds w):
  CW 208 #[p_ sb,p_ m.eb] w (u_<|mH on ka kk m):=by
 refine aU Tryz.func208 rfl (HS.nil w) (aD []<|aE<|aE<|fS [.rd [b_ m.ec.hl],.o,.rd [p_ a.bs],.rd [i_ m.ec.hi],.cq<|b_<|ez on ka m.ec.hi,.cl] (rg 0 18) [] [(22,b_<|m.ec.hl||(!(ez on ka m.ec.hi)))] (oc (ro ⟨m.eb,3,none⟩ (vs:=[b_ m.ec.hl])<|fJ (fun w s=>(fZ (bV s r3) hm:)) rfl)<|oc (go (true&&(m.ec.hl==false)) fun h_=>(ro ⟨sb,4,none⟩ (vs:=[p_ a.bs])<|cB r0 rfl))<|oc (go (true&&(m.ec.hl==false)) fun h_=>(ro ⟨m.eb,1,none⟩ (vs:=[i_ m.ec.hi])<|fJ (fun w s=>(fZ (bV s r3) hm:)) rfl))<|o1<|go (true&&(m.ec.hl==false)) fun h_=>(qo<|fun w s=>Lo a on ka m.ec.hi w<|bV s r4))<|aI rfl (fun e1=>?_) (fun e1=>?_))
 ·have p1:=e1
  refine bW [.rd [u_ m.li.uq11]] [(4,u_ m.li.uq11)] (o1<|ro ⟨m.eb,59,none⟩ (vs:=[u_ m.li.uq11])<|fJ (fun w s=>(fZ (bV s r3) hm:)) rfl)<|aF<|bK [u_ m.li.uq11] ?_
  show((u_ m.li.uq11):Value)=(u_<|mH on ka kk m)
  unfold mH;simp_all
 refine au ?_
 obtain⟨m1,hk1,hE1,hl1⟩:=hK _<|.inr ⟨_,(EV hL hB hm).symm▸lO hB hm,by simp_all⟩
 refine bL [16] 18<|cO 4 [.rd [u_ m.li.uq11],.rd [.map<|some mk],.rd [i_ m.ec.hi]] (rg 0 14) [(32,u_ m.li.uq11),(36,.map<|some mk),(41,i_ m.ec.hi)] (oc (ro ⟨m.eb,59,none⟩ (vs:=[u_ m.li.uq11])<|fJ (fun w s=>(fZ (bV s r3) hm:)) rfl)<|oc (ro ⟨sb,6,none⟩ (vs:=[.map<|some mk])<|cB r0 rfl)<|o1<|ro ⟨m.eb,1,none⟩ (vs:=[i_ m.ec.hi])<|fJ (fun w s=>(fZ (bV s r3) hm:)) rfl)<|kQ 14 (some 42) (p_ m1.be) rfl (by kernel_rfl) (by kernel_rfl) (kF (kt:=3) (et:=136) (k:=m.ec.hi) (fun w s=>pV<|bV s r5) hk1 rfl rfl rfl (by kernel_rfl) eE rfl) (cO 2 [.cq<|u_<|iZ m1.t.toL] [15] [(32,u_ m.li.uq11),(43,u_<|iZ m1.t.toL)] (o1<|qo<|fun w s=>LS mk kk m.ec.hi m1 hk1 ‹_› w (bV s r5))<|an 16 rfl (dx (some 44) [u_ m.li.uq11,u_<|iZ m1.t.toL] Tryz.func251 rfl (aD []<|aD [(4,u_<|cX m.li.uq11<|iZ m1.t.toL)]<|aF<|dO [u_<|cX m.li.uq11<|iZ m1.t.toL]<|cD<|cL 0 [] [17] [(4,u_<|cX m.li.uq11<|iZ m1.t.toL)]<|dj<|aF<|bK [u_<|cX m.li.uq11<|iZ m1.t.toL] ?_)))
 show((u_<|cX m.li.uq11<|iZ m1.t.toL):Value)=(u_<|mH on ka kk m)
 unfold mH;simp_all
variable{ka:bm MB}{L:bT}{kk':bm Vt}
theorem WJ(hk:L[k]? =some i)(hA:ez on ka i=false)(h:lT on ka kb (L.drop<|k+1) kk kk'):lT on ka kb (L.drop k) kk kk':=by
 obtain⟨h1,h2⟩:=dT.1 hk
 rw[List.drop_eq_getElem_cons h1,h2];exact .inl ⟨hA,h⟩
variable{t:T}
theorem WL(hk:L[k]? =some i)(hA:ez on ka i=true)(hm:aB kb i=some m)(hv:aB kk m.ec.hp=some v)(he:d6 t (u7 on ka kk m i v t).kv)
  (h:lT on ka kb (L.drop<|k+1) (aK kk m.ec.hp<|u7 on ka kk m i v t) kk'):lT on ka kb (L.drop k) kk kk':=by
 obtain⟨h1,h2⟩:=dT.1 hk
 rw[List.drop_eq_getElem_cons h1,h2];exact .inr ⟨hA,m,v,t,hm,hv,he,h⟩
theorem I5(hL:cK kc): ∀(n:Nat)(i z:Int),dep kc i≤n→z∈bf kc i→ ∃c,aB kc z=some c
 |0,i,z,hn,hz=>by unfold bf at hz;rw[show dep kc i=0 by omega] at hz;simp[fX] at hz
 |n+1,i,z,hn,hz=>by
  cases e:aB kc i with
  |none=>rw[nm e] at hz;cases hz
  |some c=>
   rw[jT hL e] at hz
   rcases List.mem_cons.1 hz with rfl|hz
   ·exact⟨c,e⟩
   ·exact I5 hL n _ z (by rw[jD hL e] at hn;omega) hz
variable{z:Int}
theorem Jr(hL:cK kc)(hB:eQ kc kb)(hk:(bf kc i)[k]? =some z): ∃m,aB kb z=some m∧kj m:=by
 obtain⟨c,hc⟩:=I5 hL _ i z (Nat.le_refl _)<|cT hk
 obtain⟨m,h1,-,h2⟩:=uY hB hc
 exact⟨m,h1,h2⟩
abbrev DX(p0)(p1)(p2)(p3)(p4)(p5:Ac)(p6)(p7)(p8)(p9)(p10)(p11)(p12)(p13)(p14)(p15):=([aA p0 [i_ p1,i_ p2,p_ p3,.map<|some p4,p_ p5.bs,p_ p6,.map<|some p7,u_ p8,u_ p9] 141,aA p3 [.map<|some p10] 185,cU p10 p11,df p4 p12,eM p5 p13 p14,eD p7 p15]:List V.aH)
theorem xx(sb:Nat)(lt lm:Int)(bt mc:Nat)(kc:bm Cl)(my:Nat)(kb:bm En)(a:Ac)(on:bm Int)(ka:bm MB)(eb:Nat)(mk:Nat)(kk:bm Vt)(ck ac:Int)(ci:Int)(hL:cK kc)(hB:eQ kc kb)(hK:jw kc 600 kk)(w:World)(hs:HI w (DX sb lt lm bt my a eb mk ck ac mc kc kb on ka kk)):
  CV 151 #[p_ sb,i_ ci] w (DX sb lt lm bt my a eb mk ck ac mc kc kb on ka kk) (fun(kk':(bm Vt))=>(.tuple #[])) (fun kk'=>lT on ka kb (bf kc ci) kk kk') fun kk'=>(DX sb lt lm bt my a eb mk ck ac mc kc kb on ka kk'):=by
 have hul:=CM hL ci
 refine aU Tryz.func151 rfl hs (aC<|bA 5 [.ld 0] [(10,p_ bt),(11,i_ ci)]<|aG<|dG (some 12) [] (fun w s h=>Eo bt mc kc ci ‹_› w (s.mem (i:=1) rfl) (s.mem (i:=2) rfl) h) ?_)
 rintro⟨al'1,cl'2⟩-
 refine ak [(12,vS al'1 (bf kc ci) cl'2),(13,i_ ((bf kc ci).length:Int)),(14,i_ 0)]<|aO<|eA (σ:=Nat×(bm Vt)) [] (fun(k,kkk)=>[(14,c_ k)]) [6] (fun(k,kkk)=>[eD mk kkk]) (fun(k,kkk)=>(k≤(bf kc ci).length)∧(∀kk',lT on ka kb ((bf kc ci).drop k) kkk kk'→lT on ka kb (bf kc ci) kk kk')∧(jw kc (600+k) kkk)) (fun(k,kkk)=>(bf kc ci).length-k) (0,kk) ⟨(by omega),(fun _ h=>h),hK⟩ ?_ ?_
 ·exact bB [6,0,0,0,0,0,0]
 rintro⟨k,kkk⟩ ⟨hk,hS,hKk⟩
 refine aD [(15,b_<|decide ((k:Int)<((bf kc ci).length:Int)))]<|aE<|aI rfl (fun e2=>?_) (fun e2=>?_)
 ·have p2:=dZ e2
  refine au<|aO<|aC<|ic [.ix] [(16,.pointer<|some<|(aZ al'1).add (k*1))] (o1<|bH 1 k dL rfl (by omega)) ?_
  obtain⟨x4,hx4⟩: ∃x,((bf kc ci))[k]? =some x:=⟨_,dA<|by omega⟩
  refine az [.rd [i_ x4]] [(5,i_ x4)] (o1<|ro ((aZ al'1).add (k*1))<|dY (vs:=[i_ x4]) dL (cV (i:=1) rfl) hx4 (Nat.le_of_ble_eq_true rfl) rfl)<|aC<|bA 5 [.ld 2] [(21,.map<|some my),(22,i_ x4)] ?_
  obtain⟨m5,hk5,hEO5⟩:=Jr hL hB ‹_›
  refine aG<|cC (some 23) _ (kF (kt:=3) (et:=167) (k:=x4) (fun w s=>nO<|s.mem (i:=5) rfl) hk5 rfl rfl rfl (by kernel_rfl) eE rfl)<|ak [(6,p_ m5.eb)]<|bW [.ld 2,.cq<|b_<|ez on ka x4] [(29,b_<|ez on ka x4)] (o1<|qo<|fun w s=>Lo a on ka x4 w<|s.mem (i:=6) rfl)<|aI rfl (fun e3=>?_) (fun e3=>?_)
  ·obtain⟨m6,hk6,hE6,hl6⟩:=zC hL hB hKk hk5
   refine bL [19] 20<|cO 2 [.ld 2,.rd [i_ m5.ec.hp],.rd [u_ m5.sh.sq11],.cq<|u_<|mH on ka kkk m5] [0,1,2,3,4,5,6,7,8,10,11,12,13,14,15,16,17,18] [(33,.map<|some mk),(38,i_ m5.ec.hp),(40,i_ x4),(45,u_ m5.sh.sq11),(48,u_<|mH on ka kkk m5)] (oc (ro ⟨m5.eb,2,none⟩ (vs:=[i_ m5.ec.hp])<|fJ (fun w s=>(fZ (s.mem (i:=5) rfl) hk5:)) rfl)<|oc (ro ⟨m5.eb,48,none⟩ (vs:=[u_ m5.sh.sq11])<|fJ (fun w s=>(fZ (s.mem (i:=5) rfl) hk5:)) rfl)<|o1<|qo<|fun w s=>WI sb lt lm bt mc kc my kb a on ka eb mk kkk ck ac x4 m5 hk5 ‹_› ‹_› ‹_› w (s.mem (i:=2) rfl) (s.mem (i:=3) rfl) (s.mem (i:=4) rfl) (s.mem (i:=5) rfl) (s.mem (i:=6) rfl) (s.mem (i:=0) rfl))<|kQ 9 (some 39) (p_ m6.be) rfl (by kernel_rfl) (by kernel_rfl) (kF (kt:=3) (et:=136) (k:=m5.ec.hp) (fun w s=>pV<|s.mem (i:=0) rfl) hk6 rfl rfl rfl (by kernel_rfl) eE rfl) (an 19 rfl (bM (some 49) [0] (WG mk kkk m5.ec.hp m6 x4 m5.sh.sq11 (mH on ka kkk m5) hk6 ‹_› (by omega)) ?_))
   rintro zt7 hz4
   refine cb<|aM<|az [.w<|(k:Int)+1] [(13,i_ ((bf kc ci).length:Int)),(14,i_<|(k:Int)+1)] (o1<|wj ((k:Int)+1)<|by omega)<|bC (k+1,aK kkk m5.ec.hp {m6 with t:=zt7,kv:=aK m6.kv x4 ⟨m5.sh.sq11,x4,mH on ka kkk m5,x4⟩}) ⟨(by omega),(fun _ h=>hS _<|WL ‹_› ‹_› ‹_› ‹_› ‹_› h),(Tj hKk ‹_› (Nat.le_trans (Bc _ _ _)<|Nat.succ_le_succ ‹_›))⟩ (by(show(bf kc ci).length-(k+1)<(bf kc ci).length-k;omega)) ?_
   exact bB [0,0,0,0,0,0,0]
  have p3:=e3
  refine aP<|aM<|az [.w<|(k:Int)+1] [(14,i_<|(k:Int)+1)] (o1<|wj ((k:Int)+1)<|by omega)<|bC (k+1,kkk) ⟨(by omega),(fun _ h=>hS _<|WJ ‹_› ‹_› h),(fun p hp=>(hKk p hp).imp fun v h=>⟨h.1,h.2.1,by omega⟩)⟩ (by(show(bf kc ci).length-(k+1)<(bf kc ci).length-k;omega)) ?_
  exact bB [0,0,0,0,0,0,0]
 have p2:=ga e2
 refine bR<|jk [2,2,2,2,2,0] [] (fun _ w r s=>trivial) (kkk) ?_ ?_<|by kernel_rfl
 ·rfl
 exact hS _ (by rw[List.drop_eq_nil_of_le<|by omega];rfl)
theorem Js(hL:cK kc): ∀(n:Nat)(i:Int)(F:Int→bm Int),eL kc i=true→ ∀z∈(ej (eZ kc) F n i).1,eL kc z=true
 |0,i,F,hs,z,hz=>by simp[ej] at hz;rw[hz];exact hs
 |n+1,i,F,hs,z,hz=>by
  unfold ej at hz
  split at hz
  ·simp at hz;rw[hz];exact hs
  ·rename_i hp
   rcases List.mem_cons.1 hz with rfl|hz
   ·exact hs
   ·refine Js hL n _ _ ?_ z hz
    rw[vU,if_pos hs] at hp⊢
    rcases sP hL hs with h0|h0
    ·exact absurd (.inr h0) hp
    ·exact h0.1
variable{on':bm Int}{ka':bm MB}{c er:Int}{l:bT}
theorem I6(hL:cK kc)(hy:ym=eZ kc)(h:rO ym on ka c on' ka' l er): ∀z∈l,eL kc z=true:=by
 intro z hz
 rcases h with⟨h1,-,-,h2,-⟩|⟨-,-,h2,-⟩
 ·rw[hy] at h1 h2
  rw[h2] at hz
  refine Js hL 40 c _ ?_ z hz
  rw[vg] at h1;simp at h1;exact h1.1
 ·rw[h2] at hz;cases hz
theorem I7(h:rO ym on ka c on' ka' l er):l.length≤41:=by
 have: ∀(n:Nat)(i:Int)(F:Int→bm Int),(ej ym F n i).1.length≤n+1:=fun n=>by
  induction n with
  |zero=>intro i F;simp[ej]
  |succ n ih=>intro i F;unfold ej;split<;>simp;exact ih _ _
 rcases h with⟨-,-,-,h2,-⟩|⟨-,-,h2,-⟩
 ·rw[h2];exact this 40 _ _
 ·rw[h2];simp
theorem EW(hB:eQ kc kb)(h:eL kc z=true): ∃m,aB kb z=some m∧kj m:=by
 obtain⟨c,h1,-⟩:=kV h
 obtain⟨m,h2,-,h3⟩:=uY hB h1
 exact⟨m,h2,h3⟩
def u9(kk:List (Int×Vt))(p:Int):Int:=((((aB kk p).map fun v:Vt=>v.t.toL).getD []).head?.getD default).ka
def rP(kk:List (Int×Vt))(now:Int)(m:En):En:={m with sh:=ju m.sh (lg m.ec) (u9 kk m.ec.hp) m.tot,li:=lQ m.li (oG m.ec) now m.tot}
def lH(kk:List (Int×Vt))(now:Int):List Int→List (Int×En)→List (Int×En)
 |[],kb=>kb
 |i::l,kb=>lH kk now l (match aB kb i with|some m=>aK kb i (rP kk now m)|none=>kb)
variable{now:Int}{m':En}
theorem H5(hk:L[k]? =some i)(hm:aB kb i=some m)(e:rP kk now m=m'):lH kk now (L.drop<|k+1) (aK kb i m')=lH kk now (L.drop k) kb:=by
 obtain⟨h1,h2⟩:=dT.1 hk
 rw[List.drop_eq_getElem_cons h1,h2,lH,hm];subst e;rfl
theorem zD(h:eQ kc kb)(hm:aB kb i=some m)(he:m'.ec=m.ec)(ho:kj m'):eQ kc (aK kb i m'):=fun j=>by
 rw[fN];by_cases e:i=j
 ·rw[if_pos e];subst e
  refine⟨?_,fun m2 h2=>by cases h2;exact ho⟩
  have:=lO h hm;rw[this];simp[he]
 ·rw[if_neg e];exact h j
theorem Jt(h:kj m)(h1:m'.ec=m.ec)(h2:m'.qb=m.qb)(h3:m'.q=m.q):kj m':=⟨by rw[h1,h2];exact h.lf,by rw[h2,h3];exact h.no,by rw[h2,h3];exact h.qu⟩
theorem t7(h:eQ kc kb)(hm:aB kb i=some m)(h1:m'.ec=m.ec)(h2:m'.qb=m.qb)(h3:m'.q=m.q):eQ kc (aK kb i m'):=zD h hm h1<|Jt ((h i).2 m hm) h1 h2 h3
def jM(c:Cl):Bool:=decide (aV c.ra c.rb c.rc>1)
def qI(c:Cl):Bool:=decide (aV c.la c.lb c.lc>1)
def LW(kc:List (Int×Cl))(now h i:Int)(m:En)(kb:List (Int×En))(ym:List (Int×Pl))(on:List (Int×Int))(ka:List (Int×MB))(et:T)(ek:List (Int×It))(kk:List (Int×Vt))(kb':List (Int×En))(on':List (Int×Int))(ka':List (Int×MB))(et':T)(ek':List (Int×It))(kk':List (Int×Vt)):Prop:=
 ∃kb1,((jM m.ec=true∧kb1=aK kb i {m with du:=iJ m.du (gm m.ec) now h}∧ek'=aK (aY ek m.ec.hi) m.ec.hi ⟨(iJ m.du (gm m.ec) now h).dq21,m.ec.hi,(iJ m.du (gm m.ec) now h).dq22,m.ec.hi⟩∧d6 et' ek')∨(jM m.ec=false∧kb1=kb∧ek'=ek∧et'=et))∧
  ((qI m.ec=true∧ ∃l er,rO ym on ka m.ec.hi on' ka' l er∧kb'=lH kk now l kb1∧lT on' ka' kb' (bf kc m.ec.hi) kk kk')∨(qI m.ec=false∧kb'=kb1∧on'=on∧ka'=ka∧kk'=kk))
abbrev DY(p0:En)(p1)(p2):=(u_ ((iJ p0.du (gm p0.ec) p1 p2).dq22):Value)
abbrev DZ(p0:En)(p1)(p2):=(u_ ((iJ p0.du (gm p0.ec) p1 p2).dq21):Value)
abbrev Ju(p0:En):=((b_<|decide (aV p0.ec.la p0.ec.lb p0.ec.lc>1)):Value)
abbrev uH(p0:En)(p1):=(gh<|lQ p0.li (oG p0.ec) p1 p0.tot)
abbrev ql(p0)(p1):=(aA p0 [.map<|some p1] 185:V.aH)
abbrev qm(p0)(p1)(p2)(p3)(p4)(p5:Ac)(p6:Vt)(p7)(p8)(p9):=(aA p0 [i_ p1,i_ p2,p_ p3,.map<|some p4,p_ p5.bs,p_ p6.be,.map<|some p7,u_ p8,u_ p9] 141:V.aH)
theorem Qk(sb:Nat)(lt lm:Int)(bt mc:Nat)(kc:bm Cl)(my:Nat)(kb:bm En)(a:Ac)(on:bm Int)(ka:bm MB)(tl:Vt)(et:T)(ek:bm It)(mk:Nat)(kk:bm Vt)(ck ac:Int)(now i:Int)(m:En)(h:Int)(hm:aB kb i=some m)(hL:cK kc)(hB:eQ kc kb)(hK:jw kc 600 kk)(hy:a.ym=eZ kc)(hE:d6 et ek)(hl:ek.length≤600):
  CS 113 #[p_ sb,u_ now,p_ m.eb,i_ h] [qm sb lt lm bt my a tl mk ck ac,ql bt mc,cU mc kc,df my kb,eM a on ka,eu tl et ek,eD mk kk] (fun((kb',on',ka',et',ek',kk'):(bm En)×(bm Int)×(bm MB)×T×(bm It)×(bm Vt))=>(.tuple #[])) (fun(kb',on',ka',et',ek',kk')=>LW kc now h i m kb a.ym on ka et ek kk kb' on' ka' et' ek' kk') fun(kb',on',ka',et',ek',kk')=>[qm sb lt lm bt my a tl mk ck ac,ql bt mc,cU mc kc,df my kb',eM a on' ka',eu tl et' ek',eD mk kk']:=by
 intro w hs
 have hdp:=fun i=>hy▸vI hL i
 refine aU Tryz.func113 rfl hs (aE<|aM<|az [.rd [i_ m.ec.hi]] [(8,i_ m.ec.hi)] (o1<|ro ⟨m.eb,1,none⟩ (vs:=[i_ m.ec.hi])<|fJ (fun w s=>(fZ (s.mem (i:=3) rfl) hm:)) rfl)<|aE<|aE<|aM<|az [.rd<|ag m.ec,.cq<|b_<|decide (aV m.ec.ra m.ec.rb m.ec.rc>1)] [(25,b_<|decide (aV m.ec.ra m.ec.rb m.ec.rc>1))] (oc (ro ⟨m.eb,1,none⟩ (vs:=(ag m.ec))<|fJ (fun w s=>(fZ (s.mem (i:=3) rfl) hm:)) rfl)<|o1<|qw<|re m.ec)<|aI (E:=decide (aV m.ec.ra m.ec.rb m.ec.rc>1)) rfl (fun e1=>?_) (fun e1=>?_))
 ·have p1:=dZ e1
  refine aE<|tL 3 rfl hm rfl (bL [15] 16<|cO 1 [.ld 1,.ld 1,.cq<|.agg (fG<|iJ m.du (gm m.ec) now h).toArray] (rg 0 15) [(38,.agg (fG<|iJ m.du (gm m.ec) now h).toArray),(40,q_ m.eb 16)] (o1<|qw<|VB m.du (gm m.ec) now h)<|an 15 rfl (dN 1 (fG<|iJ m.du (gm m.ec) now h) rfl (cb<|tM (m':=({m with du:=(iJ m.du (gm m.ec) now h)}:En)) [0,0] rfl hm ⟨rfl,rfl,rfl⟩ rfl rfl ?_)))
  have hk1:=jS kb i ({m with du:=(iJ m.du (gm m.ec) now h)}:En)
  refine bL [15] 16<|cO 1 [.ld 1,.rd [DZ m now h],.rd [DY m now h]] (rg 0 15) [(44,p_ tl.be),(45,i_ m.ec.hi),(50,DZ m now h),(55,DY m now h)] (oc (ro ⟨m.eb,36,none⟩ (vs:=[DZ m now h])<|fJ (fun w s=>(fZ (s.mem (i:=0) rfl) hk1:)) rfl)<|o1<|ro ⟨m.eb,37,none⟩ (vs:=[DY m now h])<|fJ (fun w s=>(fZ (s.mem (i:=0) rfl) hk1:)) rfl)<|an 15 rfl (bM (some 56) [5] (EU tl et ek m.ec.hi ((iJ m.du (gm m.ec) now h).dq21) ((iJ m.du (gm m.ec) now h).dq22) (by assumption)<|by omega) ?_)
  rintro zt2 hz2
  refine cD<|dj<|aE<|aE<|aM<|az [.rd<|ag m.ec,.cq<|Ju m] [(62,b_ (!(decide (aV m.ec.la m.ec.lb m.ec.lc>1))))] (oc (ro ⟨m.eb,1,none⟩ (vs:=(ag m.ec))<|fJ (fun w s=>(fZ (s.mem (i:=1) rfl) hk1:)) rfl)<|o1<|qw<|oL m.ec)<|aI (E:= !(decide (aV m.ec.la m.ec.lb m.ec.lc>1))) rfl (fun e3=>?_) (fun e3=>?_)
  ·refine aF<|cN [2,2,2,1,1,0,0] [] (fun _ w r s=>trivial) ((aK kb i ({m with du:=(iJ m.du (gm m.ec) now h)}:En)),on,ka,zt2,aK (aY ek m.ec.hi) m.ec.hi ⟨((iJ m.du (gm m.ec) now h).dq21),m.ec.hi,(iJ m.du (gm m.ec) now h).dq22,m.ec.hi⟩,kk) ?_ ?_<|by kernel_rfl
   ·rfl
   exact⟨_,.inl ⟨(by unfold jM;(simp_all;done)),rfl,rfl,by assumption⟩,.inr ⟨(by unfold qI;(simp_all;done)),rfl,rfl,rfl,rfl⟩⟩
  refine aP<|aC<|j0 [.p,.p,.p,.ld 2,.p] [(0,p_ sb),(1,u_ now),(8,i_ m.ec.hi),(67,p_ a.bs),(68,i_ m.ec.hi)]<|aG<|bM (some 69) [5] (Em a on ka m.ec.hi<|hdp _) ?_
  rintro⟨on'3,ka'4,al'5,l'6,cl'7,er8⟩ hz4
  dsimp only at hz4
  refine ak [(9,vS al'5 l'6 cl'7)]<|aE<|aE ?_
  have hmem:=I6 hL hy ‹_›
  have hlen:=I7 ‹_›
  refine bX [(72,vS al'5 l'6 cl'7),(73,c_ l'6.length),(74,i_ 0)]<|aO<|fm (fun((k,kbk):Nat×(bm En))=>[(0,p_ sb),(1,u_ now),(8,i_ m.ec.hi),(72,vS al'5 l'6 cl'7),(73,c_ l'6.length),(74,c_ k)]) (fun((k,kbk):Nat×(bm En))=>[df my kbk,eM a on'3 ka'4,sI al'5 l'6 cl'7,eu tl zt2<|aK (aY ek m.ec.hi) m.ec.hi ⟨((iJ m.du (gm m.ec) now h).dq21),m.ec.hi,(iJ m.du (gm m.ec) now h).dq22,m.ec.hi⟩,qm sb lt lm bt my a tl mk ck ac,ql bt mc,cU mc kc,eD mk kk]) (fun((k,kbk):Nat×(bm En))=>(k≤l'6.length)∧(lH kk now (l'6.drop k) kbk=lH kk now l'6 (aK kb i ({m with du:=(iJ m.du (gm m.ec) now h)}:En)))∧(eQ kc kbk)) (fun((k,kbk):Nat×(bm En))=>l'6.length-k) (0,aK kb i ({m with du:=(iJ m.du (gm m.ec) now h)}:En)) ⟨(by omega),(by rfl),(t7 hB hm rfl rfl rfl)⟩ ?_ ?_
  ·exact cQ [3,0,0,0,0,0,0,0] ⟨rfl,rfl,rfl,rfl,rfl,rfl,trivial⟩<|by kernel_rfl
  rintro⟨k,kbk⟩ ⟨hk,hU,hBk⟩
  refine eo [(0,p_ sb),(1,u_ now),(8,i_ m.ec.hi),(72,vS al'5 l'6 cl'7),(73,c_ l'6.length),(74,c_ k)] [df my kbk,eM a on'3 ka'4,sI al'5 l'6 cl'7,eu tl zt2<|aK (aY ek m.ec.hi) m.ec.hi ⟨((iJ m.du (gm m.ec) now h).dq21),m.ec.hi,(iJ m.du (gm m.ec) now h).dq22,m.ec.hi⟩,qm sb lt lm bt my a tl mk ck ac,ql bt mc,cU mc kc,eD mk kk] ⟨rfl,rfl,rfl,rfl,rfl,rfl,trivial⟩ rfl (aD [(74,c_ k),(75,b_<|decide ((k:Int)<(l'6.length:Int)))]<|aE<|aI (E:=decide ((k:Int)<(l'6.length:Int))) rfl (fun e5=>?_) (fun e5=>?_))
  ·have p5:=dZ e5
   refine au<|aO<|aC<|ic [.ix] [(76,.pointer<|some<|(aZ al'5).add (k*1))] (o1<|bH 2 k dL rfl (by omega)) ?_
   obtain⟨x10,hx10⟩: ∃x,(l'6)[k]? =some x:=⟨_,dA<|by omega⟩
   refine az [.rd [i_ x10]] [(12,i_ x10)] (o1<|ro ((aZ al'5).add (k*1))<|dY (vs:=[i_ x10]) dL (cV (i:=2) rfl) hx10 (Nat.le_of_ble_eq_true rfl) rfl)<|aC<|j0 [.p,.p,.p,.ld 4,.p] [(0,p_ sb),(1,u_ now),(8,i_ m.ec.hi),(72,vS al'5 l'6 cl'7),(73,c_ l'6.length),(74,c_ k),(81,.map<|some my),(82,i_ x10)] ?_
   obtain⟨m11,hk11,hec11,hEO11⟩:=EW hBk<|hmem _<|cT hx10
   refine aG<|cC (some 83) _ (kF (kt:=3) (et:=167) (k:=x10) (fun w s=>nO<|s.mem (i:=0) rfl) hk11 rfl rfl rfl (by kernel_rfl) eE rfl)<|ak [(13,p_ m11.eb)]<|aE ?_
   obtain⟨m12,hk12,hE12,hl12⟩:=zC hL hBk hK hk11
   refine bL [] 16<|cO 7 [.ld 4,.rd [i_ m11.ec.hp]] (rg 0 9) [(88,.map<|some mk),(93,i_ m11.ec.hp)] (o1<|ro ⟨m11.eb,2,none⟩ (vs:=[i_ m11.ec.hp])<|fJ (fun ww ss=>(fZ (ss.mem (i:=0) rfl) hk11:)) rfl)<|kQ 9 (some 94) (p_ m12.be) rfl (by kernel_rfl) (by kernel_rfl) (kF (kt:=3) (et:=136) (k:=m11.ec.hp) (fun ww ss=>pV<|ss.mem (i:=7) rfl) hk12 rfl rfl rfl (by kernel_rfl) eE rfl) (cO 0 [.cq<|.tuple #[u_<|(m12.t.toL.head?.getD default).ka,b_<|m12.t.toL.head?.isSome]] (rg 10 6) [(14,u_<|(m12.t.toL.head?.getD default).ka)] (o1<|qo<|fun ww ss=>LU mk kk m11.ec.hp m12 hk12 (by assumption) ww<|ss.mem (i:=7) rfl)<|dj<|aE<|tL 0 rfl hk11 rfl ?_)
   refine FV [qG my kbk x10 m11,aA m11.eb (nr m11) 225,eM a on'3 ka'4,sI al'5 l'6 cl'7,eu tl zt2<|aK (aY ek m.ec.hi) m.ec.hi ⟨((iJ m.du (gm m.ec) now h).dq21),m.ec.hi,(iJ m.du (gm m.ec) now h).dq22,m.ec.hi⟩,qm sb lt lm bt my a tl mk ck ac,ql bt mc,cU mc kc,eD mk kk] rfl (bL [18] 19<|cO 1 [.ld 1,.ld 1,.ld 1,.cq<|.agg (gu<|ju m11.sh (lg m11.ec) ((m12.t.toL.head?.getD default).ka) m11.tot).toArray] (rg 0 18) [(113,.agg (gu<|ju m11.sh (lg m11.ec) ((m12.t.toL.head?.getD default).ka) m11.tot).toArray),(115,q_ m11.eb 38)] (o1<|qw<|K8 m11.sh (lg m11.ec) ((m12.t.toL.head?.getD default).ka) m11.tot) ?_)
   refine an 18 rfl (dN 1 (gu<|ju m11.sh (lg m11.ec) ((m12.t.toL.head?.getD default).ka) m11.tot) rfl ?_)
   refine cb<|bL [18] 19<|cO 1 [.ld 1,.ld 1,.ld 1,.cq<|.agg (uH m11 now).toArray] (rg 0 18) [(131,.agg (uH m11 now).toArray),(133,q_ m11.eb 49)] (o1<|qw<|Ko m11.li (oG m11.ec) now m11.tot) ?_
   refine an 18 rfl (dN 1 (uH m11 now) rfl ?_)
   refine cb<|tM (m':=({m11 with sh:=(ju m11.sh (lg m11.ec) ((m12.t.toL.head?.getD default).ka) m11.tot),li:=(lQ m11.li (oG m11.ec) now m11.tot)}:En)) [0,0] rfl hk11 ⟨rfl,rfl,rfl⟩ rfl rfl ?_
   have hk13:=jS kbk x10 ({m11 with sh:=(ju m11.sh (lg m11.ec) ((m12.t.toL.head?.getD default).ka) m11.tot),li:=(lQ m11.li (oG m11.ec) now m11.tot)}:En)
   refine(aM<|fy [.w<|(k:Int)+1] [(0,p_ sb),(1,u_ now),(8,i_ m.ec.hi),(72,vS al'5 l'6 cl'7),(73,c_ l'6.length),(74,i_<|(k:Int)+1)] (o1<|wj ((k:Int)+1)<|by omega)<|bC (k+1,aK kbk x10 ({m11 with sh:=(ju m11.sh (lg m11.ec) ((m12.t.toL.head?.getD default).ka) m11.tot),li:=(lQ m11.li (oG m11.ec) now m11.tot)}:En)) ⟨(by omega),(by exact(H5 ‹_› ‹_› (by unfold rP u9;simp_all)).trans hU),(by apply t7 hBk<;>first|assumption|rfl)⟩ (by(show l'6.length-(k+1)<l'6.length-k;omega)) ?_)
   exact cQ [0,0,0,0,0,0,0,0] ⟨rfl,rfl,rfl,rfl,rfl,rfl,trivial⟩<|by kernel_rfl
  have p5:=ga e5
  refine bR<|aM<|bA 2 [] [(135,p_ sb),(136,i_ m.ec.hi)]<|aG<|bM (some 137) [4,4,4,0,0,2] (xx sb lt lm bt mc kc my kbk a on'3 ka'4 tl.be mk kk ck ac m.ec.hi ‹_› ‹_› ‹_›) ?_
  rintro kk'14 hz6
  refine dP<|jk [0,0,0,0,0,2,0] [] (fun _ w r s=>trivial) (kbk,on'3,ka'4,zt2,aK (aY ek m.ec.hi) m.ec.hi ⟨((iJ m.du (gm m.ec) now h).dq21),m.ec.hi,(iJ m.du (gm m.ec) now h).dq22,m.ec.hi⟩,kk'14) ?_ ?_<|by kernel_rfl
  ·rfl
  exact⟨_,.inl ⟨(by unfold jM;(simp_all;done)),rfl,rfl,by assumption⟩,.inl ⟨(by unfold qI;(simp_all;done)),_,_,by assumption,(by rw[←hU,List.drop_eq_nil_of_le<|by omega];rfl),by assumption⟩⟩
 have p1:=ga e1
 refine au<|aE<|aM<|az [.rd<|ag m.ec,.cq<|Ju m] [(62,b_ (!(decide (aV m.ec.la m.ec.lb m.ec.lc>1))))] (oc (ro ⟨m.eb,1,none⟩ (vs:=(ag m.ec))<|fJ (fun w s=>(fZ (s.mem (i:=3) rfl) hm:)) rfl)<|o1<|qw<|oL m.ec)<|aI (E:= !(decide (aV m.ec.la m.ec.lb m.ec.lc>1))) rfl (fun e7=>?_) (fun e7=>?_)
 ·refine aF<|cN [0,0,0,0,0,0,0] [] (fun _ w r s=>trivial) (kb,on,ka,et,ek,kk) ?_ ?_<|by kernel_rfl
  ·rfl
  exact⟨_,.inr ⟨(by unfold jM;(simp_all;done)),rfl,rfl,rfl⟩,.inr ⟨(by unfold qI;(simp_all;done)),rfl,rfl,rfl,rfl⟩⟩
 refine aP<|aC<|bA 5 [.ld 0] [(67,p_ a.bs),(68,i_ m.ec.hi)]<|aG<|bM (some 69) [4] (Em a on ka m.ec.hi<|hdp _) ?_
 rintro⟨on'15,ka'16,al'17,l'18,cl'19,er20⟩ hz8
 dsimp only at hz8
 refine ak [(9,vS al'17 l'18 cl'19)]<|aE<|aE ?_
 have hmem:=I6 hL hy ‹_›
 have hlen:=I7 ‹_›
 refine aM<|dQ [] [(0,p_ sb),(1,u_ now),(8,i_ m.ec.hi),(72,vS al'17 l'18 cl'19),(73,c_ l'18.length),(74,i_ 0)]<|aO<|fm (fun((k,kbk):Nat×(bm En))=>[(0,p_ sb),(1,u_ now),(8,i_ m.ec.hi),(72,vS al'17 l'18 cl'19),(73,c_ l'18.length),(74,c_ k)]) (fun((k,kbk):Nat×(bm En))=>[df my kbk,eM a on'15 ka'16,sI al'17 l'18 cl'19,qm sb lt lm bt my a tl mk ck ac,ql bt mc,cU mc kc,eu tl et ek,eD mk kk]) (fun((k,kbk):Nat×(bm En))=>(k≤l'18.length)∧(lH kk now (l'18.drop k) kbk=lH kk now l'18 kb)∧(eQ kc kbk)) (fun((k,kbk):Nat×(bm En))=>l'18.length-k) (0,kb) ⟨(by omega),(by rfl),hB⟩ ?_ ?_
 ·exact cQ [5,0,0,0,0,0,0,0] ⟨rfl,rfl,rfl,rfl,rfl,rfl,trivial⟩<|by kernel_rfl
 rintro⟨k,kbk⟩ ⟨hk,hU,hBk⟩
 refine eo [(0,p_ sb),(1,u_ now),(8,i_ m.ec.hi),(72,vS al'17 l'18 cl'19),(73,c_ l'18.length),(74,c_ k)] [df my kbk,eM a on'15 ka'16,sI al'17 l'18 cl'19,qm sb lt lm bt my a tl mk ck ac,ql bt mc,cU mc kc,eu tl et ek,eD mk kk] ⟨rfl,rfl,rfl,rfl,rfl,rfl,trivial⟩ rfl (aD [(74,c_ k),(75,b_<|decide ((k:Int)<(l'18.length:Int)))]<|aE<|aI (E:=decide ((k:Int)<(l'18.length:Int))) rfl (fun e9=>?_) (fun e9=>?_))
 ·have p9:=dZ e9
  refine au<|aO<|aC<|ic [.ix] [(76,.pointer<|some<|(aZ al'17).add (k*1))] (o1<|bH 2 k dL rfl (by omega)) ?_
  obtain⟨x22,hx22⟩: ∃x,(l'18)[k]? =some x:=⟨_,dA<|by omega⟩
  refine az [.rd [i_ x22]] [(12,i_ x22)] (o1<|ro ((aZ al'17).add (k*1))<|dY (vs:=[i_ x22]) dL (cV (i:=2) rfl) hx22 (Nat.le_of_ble_eq_true rfl) rfl)<|aC<|bA 5 [.ld 3] [(81,.map<|some my),(82,i_ x22)] ?_
  obtain⟨m23,hk23,hec23,hEO23⟩:=EW hBk<|hmem _<|cT hx22
  refine aG<|cC (some 83) _ (kF (kt:=3) (et:=167) (k:=x22) (fun w s=>nO<|s.mem (i:=0) rfl) hk23 rfl rfl rfl (by kernel_rfl) eE rfl)<|ak [(13,p_ m23.eb)]<|aE ?_
  obtain⟨m24,hk24,hE24,hl24⟩:=zC hL hBk hK hk23
  refine bL [] 16<|FX 7 [.ld 3,.rd [i_ m23.ec.hp]] (rg 0 9) [(0,p_ sb),(1,u_ now),(8,i_ m.ec.hi),(72,vS al'17 l'18 cl'19),(73,c_ l'18.length),(74,c_ k),(13,p_ m23.eb),(88,.map<|some mk),(93,i_ m23.ec.hp)] (o1<|ro ⟨m23.eb,2,none⟩ (vs:=[i_ m23.ec.hp])<|fJ (fun ww ss=>(fZ (ss.mem (i:=0) rfl) hk23:)) rfl)<|kQ 9 (some 94) (p_ m24.be) rfl (by kernel_rfl) (by kernel_rfl) (kF (kt:=3) (et:=136) (k:=m23.ec.hp) (fun ww ss=>pV<|ss.mem (i:=7) rfl) hk24 rfl rfl rfl (by kernel_rfl) eE rfl) (cO 0 [.cq<|.tuple #[u_<|(m24.t.toL.head?.getD default).ka,b_<|m24.t.toL.head?.isSome]] (rg 10 6) [(14,u_<|(m24.t.toL.head?.getD default).ka)] (o1<|qo<|fun ww ss=>LU mk kk m23.ec.hp m24 hk24 (by assumption) ww<|ss.mem (i:=7) rfl)<|dj<|aE<|tL 0 rfl hk23 rfl ?_)
  refine FV [qG my kbk x22 m23,aA m23.eb (nr m23) 225,eM a on'15 ka'16,sI al'17 l'18 cl'19,qm sb lt lm bt my a tl mk ck ac,ql bt mc,cU mc kc,eu tl et ek,eD mk kk] rfl (bL [18] 19<|cO 1 [.ld 1,.ld 1,.ld 1,.cq<|.agg (gu<|ju m23.sh (lg m23.ec) ((m24.t.toL.head?.getD default).ka) m23.tot).toArray] (rg 0 18) [(113,.agg (gu<|ju m23.sh (lg m23.ec) ((m24.t.toL.head?.getD default).ka) m23.tot).toArray),(115,q_ m23.eb 38)] (o1<|qw<|K8 m23.sh (lg m23.ec) ((m24.t.toL.head?.getD default).ka) m23.tot) ?_)
  refine an 18 rfl (dN 1 (gu<|ju m23.sh (lg m23.ec) ((m24.t.toL.head?.getD default).ka) m23.tot) rfl ?_)
  refine cb<|bL [18] 19<|cO 1 [.ld 1,.ld 1,.ld 1,.cq<|.agg (uH m23 now).toArray] (rg 0 18) [(131,.agg (uH m23 now).toArray),(133,q_ m23.eb 49)] (o1<|qw<|Ko m23.li (oG m23.ec) now m23.tot) ?_
  refine an 18 rfl (dN 1 (uH m23 now) rfl ?_)
  refine cb<|tM (m':=({m23 with sh:=(ju m23.sh (lg m23.ec) ((m24.t.toL.head?.getD default).ka) m23.tot),li:=(lQ m23.li (oG m23.ec) now m23.tot)}:En)) [0,0] rfl hk23 ⟨rfl,rfl,rfl⟩ rfl rfl ?_
  have hk25:=jS kbk x22 ({m23 with sh:=(ju m23.sh (lg m23.ec) ((m24.t.toL.head?.getD default).ka) m23.tot),li:=(lQ m23.li (oG m23.ec) now m23.tot)}:En)
  refine(aM<|az [.w<|(k:Int)+1] [(74,i_<|(k:Int)+1)] (o1<|wj ((k:Int)+1)<|by omega)<|bC (k+1,aK kbk x22 ({m23 with sh:=(ju m23.sh (lg m23.ec) ((m24.t.toL.head?.getD default).ka) m23.tot),li:=(lQ m23.li (oG m23.ec) now m23.tot)}:En)) ⟨(by omega),(by exact(H5 ‹_› ‹_› (by unfold rP u9;simp_all)).trans hU),(by apply t7 hBk<;>first|assumption|rfl)⟩ (by(show l'18.length-(k+1)<l'18.length-k;omega)) ?_)
  exact cQ [0,0,0,0,0,0,0,0] ⟨rfl,rfl,rfl,rfl,rfl,rfl,trivial⟩<|by kernel_rfl
 have p9:=ga e9
 refine bR<|aM<|bA 2 [] [(135,p_ sb),(136,i_ m.ec.hi)]<|aG<|bM (some 137) [3,3,3,0,0,2] (xx sb lt lm bt mc kc my kbk a on'15 ka'16 tl.be mk kk ck ac m.ec.hi ‹_› ‹_› ‹_›) ?_
 rintro kk'26 hz10
 refine dP<|jk [0,0,0,0,0,2,0] [] (fun _ w r s=>trivial) (kbk,on'15,ka'16,et,ek,kk'26) ?_ ?_<|by kernel_rfl
 ·rfl
 exact⟨_,.inr ⟨(by unfold jM;(simp_all;done)),rfl,rfl,rfl⟩,.inl ⟨(by unfold qI;(simp_all;done)),_,_,by assumption,(by rw[←hU,List.drop_eq_nil_of_le<|by omega];rfl),by assumption⟩⟩
def nR(kk:List (Int×Vt))(now:Int)(i:Int):Option It:=de (bD now 9223372036854775807)<|((aB kk i).map fun v:Vt=>v.t.toL).getD []
theorem xy(h:aB kk i=some v):de (bD now 9223372036854775807) v.t.toL=nR kk now i:=by unfold nR;rw[h];rfl
def sY(kb:List (Int×En))(i:Int):Bool:=((aB kb i).map fun m:En=>m.ec.hl).getD false
def pW(kb:List (Int×En))(kk:List (Int×Vt))(now:Int):Nat→Int→Prop
 |0,_=>False
 |f+1,i=>(∃v,aB kk i=some v∧d6 v.t v.kv)∧ ∀y,nR kk now i=some y→ ∃m,aB kb y.ki=some m∧(m.ec.hl=true∨pW kb kk now f y.ki)
def kK(kb:List (Int×En))(kk:List (Int×Vt))(now:Int):Nat→Int→Option Int
 |0,_=>none
 |f+1,i=>match nR kk now i with
  |none=>none
  |some y=>if sY kb y.ki then some y.ki else kK kb kk now f y.ki
variable{f:Nat}
theorem OG(hk:aB kk i=some v)(h:(de (bD now 9223372036854775807) v.t.toL).isSome=false):kK kb kk now (f+1) i=none:=by
 rw[xy hk] at h
 unfold kK;cases e:nR kk now i with
 |none=>rfl
 |some y=>rw[e] at h;cases h
theorem OH(hk:aB kk i=some v)(h:(de (bD now 9223372036854775807) v.t.toL).isSome=true)(hm:aB kb ((de (bD now 9223372036854775807) v.t.toL).getD default).ki=some m)(hl:m.ec.hl=true):kK kb kk now (f+1) i=some ((de (bD now 9223372036854775807) v.t.toL).getD default).ki:=by
 rw[xy hk] at h hm⊢
 unfold kK;cases e:nR kk now i with
 |none=>rw[e] at h;cases h
 |some y=>rw[e] at hm;simp only[Option.getD_some] at hm⊢;unfold sY;rw[hm];simp[hl]
theorem I8(hk:aB kk i=some v)(h:(de (bD now 9223372036854775807) v.t.toL).isSome=true)(hm:aB kb ((de (bD now 9223372036854775807) v.t.toL).getD default).ki=some m)(hl:m.ec.hl=false)(hd:pW kb kk now (f+1) i):kK kb kk now (f+1) i=kK kb kk now f ((de (bD now 9223372036854775807) v.t.toL).getD default).ki∧pW kb kk now f ((de (bD now 9223372036854775807) v.t.toL).getD default).ki:=by
 rw[xy hk] at h hm⊢
 cases e:nR kk now i with
 |none=>rw[e] at h;cases h
 |some y=>
  rw[e] at hm;simp only[Option.getD_some] at hm⊢
  obtain⟨m2,h1,h2⟩:=hd.2 y e
  rw[hm] at h1;cases h1
  rw[hl] at h2
  refine⟨?_,h2.resolve_left<|by simp⟩
  conv=>lhs;unfold kK
  rw[e];unfold sY;simp[hm,hl]
theorem Ql(hk:aB kk i=some v)(h:(de (bD now 9223372036854775807) v.t.toL).isSome=true)(hd:pW kb kk now (f+1) i): ∃m,aB kb ((de (bD now 9223372036854775807) v.t.toL).getD default).ki=some m:=by
 rw[xy hk] at h⊢
 cases e:nR kk now i with
 |none=>rw[e] at h;cases h
 |some y=>obtain⟨m,h1,-⟩:=hd.2 y e;exact⟨m,h1⟩
def MH(o:Option Int):Int×Bool×Bool:=match o with|some i=>(i,false,true)|none=>(0,false,false)
def dq(et:T)(kb:List (Int×En))(kk:List (Int×Vt))(now:Int):Int×Bool×Bool:=
 match eC (bD now 9223372036854775807) et.toL with
 |some y=>(y.ki,true,true)
 |none=>MH<|kK kb kk now 17 0
variable{et:T}
theorem Qm(h:(eC (bD now 9223372036854775807) et.toL).isSome=true):dq et kb kk now=(((eC (bD now 9223372036854775807) et.toL).getD default).ki,true,true):=by
 unfold dq;cases e:eC (bD now 9223372036854775807) et.toL with
 |none=>rw[e] at h;cases h
 |some y=>rfl
theorem I9{o:Option Int}(h:(eC (bD now 9223372036854775807) et.toL).isSome=false)(hd:kK kb kk now 17 0=o):dq et kb kk now=MH o:=by
 subst hd;unfold dq;cases e:eC (bD now 9223372036854775807) et.toL with
 |none=>rfl
 |some y=>rw[e] at h;cases h
theorem PE(sb:Nat)(lt lm:Int)(bt mc:Nat)(kc:bm Cl)(my:Nat)(kb:bm En)(a:Ac)(on:bm Int)(ka:bm MB)(tl:Vt)(et:T)(ek:bm It)(mk:Nat)(kk:bm Vt)(ck ac:Int)(now:Int)(hE:d6 et ek)(hD:pW kb kk now 17 0)(w:World)(r0:(aA sb [i_ lt,i_ lm,p_ bt,.map<|some my,p_ a.bs,p_ tl.be,.map<|some mk,u_ ck,u_ ac] 141).holds w)(r1:(aA bt [.map<|some mc] 185).holds w)(r2:(cU mc kc).holds w)(r3:(df my kb).holds w)(r4:(eM a on ka).holds w)(r5:(eu tl et ek).holds w)(r6:(eD mk kk).holds w):
  CW 152 #[p_ sb,u_ now] w (.tuple #[i_<|(dq et kb kk now).1,b_<|(dq et kb kk now).2.1,b_<|(dq et kb kk now).2.2]):=by
 refine aU Tryz.func152 rfl (HS.nil w) (aD []<|aE<|bW [.rd [p_ tl.be],.cq<|.tuple #[i_<|((eC (bD now 9223372036854775807) et.toL).getD default).ki,b_<|(eC (bD now 9223372036854775807) et.toL).isSome]] [(7,i_<|((eC (bD now 9223372036854775807) et.toL).getD default).ki),(8,b_<|(eC (bD now 9223372036854775807) et.toL).isSome)] (oc (ro ⟨sb,5,none⟩ (vs:=[p_ tl.be])<|cB r0 rfl)<|o1<|qo<|fun w s=>Tf tl et ek now ‹_› w (bV s r5))<|aD [(21,b_<|(eC (bD now 9223372036854775807) et.toL).isSome)]<|aI rfl (fun e1=>?_) (fun e1=>?_))
 ·refine aD [(4,i_<|((eC (bD now 9223372036854775807) et.toL).getD default).ki),(5,b_ true),(6,b_ true)]<|aF<|bK [i_<|((eC (bD now 9223372036854775807) et.toL).getD default).ki,b_ true,b_ true] ?_
  show((.tuple #[i_<|((eC (bD now 9223372036854775807) et.toL).getD default).ki,b_ true,b_ true]):Value)=(.tuple #[i_<|(dq et kb kk now).1,b_<|(dq et kb kk now).2.1,b_<|(dq et kb kk now).2.2])
  (rw[Qm<|by(simp_all;done)];done)
 refine aP<|aD [(9,i_ 0)]<|aO<|eA (σ:=Nat×Int) [] (fun(n,i)=>[(9,i_ i)]) [] (fun(n,i)=>[]) (fun(n,i)=>(pW kb kk now n i)∧(kK kb kk now n i=kK kb kk now 17 0)) (fun(n,i)=>n) (17,0) ⟨hD,(by rfl)⟩ ?_ ?_
 ·exact bB []
 rintro⟨n,i⟩ ⟨hd,hv⟩
 obtain⟨n,rfl⟩: ∃m,n=m+1:=by cases n with|zero=>exact hd.elim|succ m=>exact⟨m,rfl⟩
 refine aO<|aC<|dm 5 [.rd [.map<|some mk]] [(27,.map<|some mk),(28,i_ i)] (o1<|ro ⟨sb,6,none⟩ (vs:=[.map<|some mk])<|cB r0 rfl) ?_
 obtain⟨m1,hk1,hER1⟩:=hd.1
 refine aG<|cC (some 29) _ (kF (kt:=3) (et:=136) (k:=i) (fun w s=>pV<|bV s r6) hk1 rfl rfl rfl (by kernel_rfl) eE rfl)<|az [.cq<|.tuple #[i_<|((de (bD now 9223372036854775807) m1.t.toL).getD default).ki,b_<|(de (bD now 9223372036854775807) m1.t.toL).isSome]] [(10,i_<|((de (bD now 9223372036854775807) m1.t.toL).getD default).ki),(11,b_<|(de (bD now 9223372036854775807) m1.t.toL).isSome)] (o1<|qo<|fun w s=>Tc mk kk i m1 now hk1 ‹_› w (bV s r6))<|aE<|aD [(35,b_ (!((de (bD now 9223372036854775807) m1.t.toL).isSome)))]<|aI rfl (fun e2=>?_) (fun e2=>?_)
 ·refine aD [(4,i_ 0),(5,b_ false),(6,b_ false)] (aF<|bK [i_ 0,b_ false,b_ false] ?_)
  (rw[I9 (by(simp_all;done))<|hv.symm.trans<|OG ‹_› (by(simp_all;done))];rfl)
 refine aP<|aD [(9,i_<|((de (bD now 9223372036854775807) m1.t.toL).getD default).ki)]<|aC<|dm 5 [.rd [.map<|some my]] [(40,.map<|some my),(41,i_<|((de (bD now 9223372036854775807) m1.t.toL).getD default).ki)] (o1<|ro ⟨sb,3,none⟩ (vs:=[.map<|some my])<|cB r0 rfl) ?_
 obtain⟨m2,hk2⟩:=Ql ‹_› (by simp_all) hd
 refine aG<|cC (some 42) _ (kF (kt:=3) (et:=167) (k:=((de (bD now 9223372036854775807) m1.t.toL).getD default).ki) (fun w s=>nO<|bV s r3) hk2 rfl rfl rfl (by kernel_rfl) eE rfl)<|az [.rd [b_ m2.ec.hl]] [(46,b_ m2.ec.hl)] (o1<|ro ⟨m2.eb,3,none⟩ (vs:=[b_ m2.ec.hl])<|fJ (fun w s=>(fZ (bV s r3) hk2:)) rfl)<|aI rfl (fun e3=>?_) (fun e3=>?_)
 ·refine aD [(4,i_<|((de (bD now 9223372036854775807) m1.t.toL).getD default).ki),(5,b_ false),(6,b_ true)] (aF<|bK [i_<|((de (bD now 9223372036854775807) m1.t.toL).getD default).ki,b_ false,b_ true] ?_)
  (rw[I9 (by(simp_all;done))<|hv.symm.trans<|OH ‹_› (by(simp_all;done)) ‹_› ‹_›];rfl)
 refine aP<|bC (n,((de (bD now 9223372036854775807) m1.t.toL).getD default).ki) ⟨((I8 ‹_› (by simp_all) ‹_› (by simp_all) hd).2),((I8 ‹_› (by simp_all) ‹_› (by simp_all) hd).1.symm.trans hv)⟩ (by(show n<n+1;omega)) ?_
 exact bB []
def xB(ek:List (Int×It))(i:Int)(d:Du):List (Int×It):=aK (aY ek i) i ⟨d.dq21,i,d.dq22,i⟩
def XH(m:En)(sn:Int)(br:Bool):Du:=if br=true then gy m.du sn (dp m.qb m.q) else headD m.du<|dp m.qb m.q
def se(i:Int)(m:En)(sn:Int)(br:Bool)(kb:List (Int×En))(et:T)(ek:List (Int×It))(kb':List (Int×En))(et':T)(ek':List (Int×It)):Prop:=
 (jM m.ec=true∧ ∃d,kb'=aK kb i {m with du:=d}∧d6 et' ek'∧((qC m.q≠[]∧ek'=xB ek m.ec.hi d)∨(qC m.q=[]∧ek'=aY (xB ek m.ec.hi d) m.ec.hi))∧d=XH m sn br)∨(jM m.ec=false∧kb'=kb∧et'=et∧ek'=ek)
theorem vH(k:Int): ∀kv:List (Int×β),(aY kv k).length≤kv.length
 |[]=>by simp[aY]
 |p::kv=>by unfold aY;split<;>simp;exact vH k kv
theorem CN(ek:bm It)(i:Int)(d:It):(aK (aY ek i) i d).length≤ek.length+1:=Nat.le_trans (Bc _ _ _) (by have:=vH i ek;omega)
theorem uZ:((qC q).length:Int)=0↔qC q=[]:=by simp
abbrev Jv(p0)(p1):=(aA p0 [.map<|some p1] 185:V.aH)
abbrev Jw(p0)(p1)(p2)(p3)(p4)(p5:Ac)(p6:Vt)(p7)(p8)(p9):=(aA p0 [i_ p1,i_ p2,p_ p3,.map<|some p4,p_ p5.bs,p_ p6.be,.map<|some p7,u_ p8,u_ p9] 141:V.aH)
theorem WM(sb:Nat)(lt lm:Int)(bt mc:Nat)(kc:bm Cl)(my:Nat)(kb:bm En)(a:Ac)(on:bm Int)(ka:bm MB)(tl:Vt)(et:T)(ek:bm It)(mk:Nat)(kk:bm Vt)(ck ac:Int)(i:Int)(m:En)(sn:Int)(br:Bool)(hm:aB kb i=some m)(ho:kj m)(hE:d6 et ek)(hl:ek.length≤600):
  CS 156 #[p_ sb,p_ m.eb,i_ sn,b_ br] [Jw sb lt lm bt my a tl mk ck ac,Jv bt mc,cU mc kc,df my kb,eM a on ka,eu tl et ek,eD mk kk] (fun((kb',et',ek'):(bm En)×T×(bm It))=>(.tuple #[])) (fun(kb',et',ek')=>se i m sn br kb et ek kb' et' ek') fun(kb',et',ek')=>[Jw sb lt lm bt my a tl mk ck ac,Jv bt mc,cU mc kc,df my kb',eM a on ka,eu tl et' ek',eD mk kk]:=by
 intro w hs
 have hlk:=fun i d=>CN ek i d
 refine aU Tryz.func156 rfl hs (aE<|bW [.rd<|ag m.ec,.cq<|b_<|decide (aV m.ec.ra m.ec.rb m.ec.rc>1)] [(13,b_ (!(decide (aV m.ec.ra m.ec.rb m.ec.rc>1))))] (oc (ro ⟨m.eb,1,none⟩ (vs:=(ag m.ec))<|fJ (fun w s=>(fZ (s.mem (i:=3) rfl) hm:)) rfl)<|o1<|qw<|re m.ec)<|aI rfl (fun e1=>?_) (fun e1=>?_))
 ·refine aF<|cN [0,0,0,0,0,0,0] [] (fun _ w r s=>trivial) (kb,et,ek) ?_ ?_<|by kernel_rfl
  ·rfl
  exact .inr ⟨(by unfold jM;(simp_all;done)),rfl,rfl,rfl⟩
 refine au<|aD [(14,b_ br)]<|fx br (fun e2=>?_)<|fun e2=>?_
 ·refine tL 3 rfl hm rfl (bL [14] 15<|cO 1 [.ld 1,.ld 1,.cq<|i_<|dp m.qb m.q,.cq<|.agg (fG<|gy m.du sn<|dp m.qb m.q).toArray] (rg 0 14) [(26,.agg (fG<|gy m.du sn<|dp m.qb m.q).toArray),(28,q_ m.eb 16)] (oc (qo<|fun w s=>I3 my kb i m (qp m.qb) (by rfl) ‹_› w (s.mem (i:=0) rfl))<|o1<|qw<|VC m.du sn<|dp m.qb m.q)<|an 14 rfl (dN 1 (fG<|gy m.du sn<|dp m.qb m.q) rfl (cb<|tM (m':=({m with du:=(gy m.du sn<|dp m.qb m.q)}:En)) [0,0] rfl hm ⟨rfl,rfl,rfl⟩ rfl rfl ?_)))
  have hk1:=jS kb i ({m with du:=(gy m.du sn<|dp m.qb m.q)}:En)
  refine aE<|bL [19] 20<|cO 1 [.ld 1,.rd [i_ m.ec.hi],.rd [u_<|(gy m.du sn<|dp m.qb m.q).dq21],.rd [u_<|(gy m.du sn<|dp m.qb m.q).dq22]] (rg 0 19) [(45,p_ tl.be),(50,i_ m.ec.hi),(55,u_<|(gy m.du sn<|dp m.qb m.q).dq21),(60,u_<|(gy m.du sn<|dp m.qb m.q).dq22)] (oc (ro ⟨m.eb,1,none⟩ (vs:=[i_ m.ec.hi])<|fJ (fun w s=>(fZ (s.mem (i:=0) rfl) hk1:)) rfl)<|oc (ro ⟨m.eb,36,none⟩ (vs:=[u_<|(gy m.du sn<|dp m.qb m.q).dq21])<|fJ (fun w s=>(fZ (s.mem (i:=0) rfl) hk1:)) rfl)<|o1<|ro ⟨m.eb,37,none⟩ (vs:=[u_<|(gy m.du sn<|dp m.qb m.q).dq22])<|fJ (fun w s=>(fZ (s.mem (i:=0) rfl) hk1:)) rfl)<|an 19 rfl (bM (some 61) [5] (EU tl et ek m.ec.hi ((gy m.du sn<|dp m.qb m.q).dq21) ((gy m.du sn<|dp m.qb m.q).dq22) (by assumption)<|by omega) ?_)
  rintro zt2 hz3
  refine cD<|dj<|bW [.rd [qp m.qb],.cq<|i_ ((qC ({m with du:=(gy m.du sn<|dp m.qb m.q)}:En).q).length:Int)] [(67,b_<|((qC ({m with du:=(gy m.du sn<|dp m.qb m.q)}:En).q).length:Int)==0)] (oc (ro ⟨m.eb,0,none⟩ (vs:=[qp m.qb])<|fJ (fun w s=>(fZ (s.mem (i:=1) rfl) hk1:)) rfl)<|o1<|qo<|fun w s=>wT my (aK kb i ({m with du:=(gy m.du sn<|dp m.qb m.q)}:En)) i ({m with du:=(gy m.du sn<|dp m.qb m.q)}:En) (qp m.qb) hk1 (by rfl) ⟨ho.lf,ho.no,ho.qu⟩ w<|s.mem (i:=1) rfl)<|aI rfl (fun e4=>?_) (fun e4=>?_)
  ·refine bL [9] 10<|cO 1 [.ld 2,.rd [i_ m.ec.hi]] (rg 0 9) [(71,p_ tl.be),(76,i_ m.ec.hi)] (o1<|ro ⟨m.eb,1,none⟩ (vs:=[i_ m.ec.hi])<|fJ (fun w s=>(fZ (s.mem (i:=1) rfl) hk1:)) rfl)<|an 9 rfl (bM (some 77) [0] (Jp tl zt2 (aK (aY ek m.ec.hi) m.ec.hi ⟨((gy m.du sn<|dp m.qb m.q).dq21),m.ec.hi,(gy m.du sn<|dp m.qb m.q).dq22,m.ec.hi⟩) m.ec.hi ‹_› (Nat.le_trans (CN _ _ _)<|by omega)) ?_)
   rintro⟨zi3,zt4⟩ hz5
   refine cD<|dj<|jk [2,2,2,1,1,0,0] [] (fun _ w r s=>trivial) ((aK kb i ({m with du:=(gy m.du sn<|dp m.qb m.q)}:En)),zt4,aY (aK (aY ek m.ec.hi) m.ec.hi ⟨((gy m.du sn<|dp m.qb m.q).dq21),m.ec.hi,(gy m.du sn<|dp m.qb m.q).dq22,m.ec.hi⟩) m.ec.hi) ?_ ?_<|by kernel_rfl
   ·rfl
   exact .inl ⟨(by unfold jM;(simp_all;done)),_,rfl,by assumption,.inr ⟨(by(simp_all[uZ];done)),rfl⟩,(if_pos e2).symm⟩
  refine aP<|jk [2,2,2,1,1,0,0] [] (fun _ w r s=>trivial) ((aK kb i ({m with du:=(gy m.du sn<|dp m.qb m.q)}:En)),zt2,aK (aY ek m.ec.hi) m.ec.hi ⟨((gy m.du sn<|dp m.qb m.q).dq21),m.ec.hi,(gy m.du sn<|dp m.qb m.q).dq22,m.ec.hi⟩) ?_ ?_<|by kernel_rfl
  ·rfl
  exact .inl ⟨(by unfold jM;(simp_all;done)),_,rfl,by assumption,.inl ⟨(by(simp_all[uZ];done)),rfl⟩,(if_pos e2).symm⟩
 refine tL 3 rfl hm rfl (bL [13] 14<|cO 1 [.ld 1,.ld 1,.cq<|i_<|dp m.qb m.q,.cq<|.agg (fG<|headD m.du<|dp m.qb m.q).toArray] (rg 0 13) [(39,.agg (fG<|headD m.du<|dp m.qb m.q).toArray),(41,q_ m.eb 16)] (oc (qo<|fun w s=>I3 my kb i m (qp m.qb) (by rfl) ‹_› w (s.mem (i:=0) rfl))<|o1<|qw<|VD m.du<|dp m.qb m.q)<|an 13 rfl (dN 1 (fG<|headD m.du<|dp m.qb m.q) rfl (cb<|tM (m':=({m with du:=(headD m.du<|dp m.qb m.q)}:En)) [0,0] rfl hm ⟨rfl,rfl,rfl⟩ rfl rfl ?_)))
 have hk5:=jS kb i ({m with du:=(headD m.du<|dp m.qb m.q)}:En)
 refine aE<|bL [19] 20<|cO 1 [.ld 1,.rd [i_ m.ec.hi],.rd [u_<|(headD m.du<|dp m.qb m.q).dq21],.rd [u_<|(headD m.du<|dp m.qb m.q).dq22]] (rg 0 19) [(45,p_ tl.be),(50,i_ m.ec.hi),(55,u_<|(headD m.du<|dp m.qb m.q).dq21),(60,u_<|(headD m.du<|dp m.qb m.q).dq22)] (oc (ro ⟨m.eb,1,none⟩ (vs:=[i_ m.ec.hi])<|fJ (fun w s=>(fZ (s.mem (i:=0) rfl) hk5:)) rfl)<|oc (ro ⟨m.eb,36,none⟩ (vs:=[u_<|(headD m.du<|dp m.qb m.q).dq21])<|fJ (fun w s=>(fZ (s.mem (i:=0) rfl) hk5:)) rfl)<|o1<|ro ⟨m.eb,37,none⟩ (vs:=[u_<|(headD m.du<|dp m.qb m.q).dq22])<|fJ (fun w s=>(fZ (s.mem (i:=0) rfl) hk5:)) rfl)<|an 19 rfl (bM (some 61) [5] (EU tl et ek m.ec.hi ((headD m.du<|dp m.qb m.q).dq21) ((headD m.du<|dp m.qb m.q).dq22) (by assumption)<|by omega) ?_)
 rintro zt6 hz6
 refine cD<|dj<|bW [.rd [qp m.qb],.cq<|i_ ((qC ({m with du:=(headD m.du<|dp m.qb m.q)}:En).q).length:Int)] [(67,b_<|((qC ({m with du:=(headD m.du<|dp m.qb m.q)}:En).q).length:Int)==0)] (oc (ro ⟨m.eb,0,none⟩ (vs:=[qp m.qb])<|fJ (fun w s=>(fZ (s.mem (i:=1) rfl) hk5:)) rfl)<|o1<|qo<|fun w s=>wT my (aK kb i ({m with du:=(headD m.du<|dp m.qb m.q)}:En)) i ({m with du:=(headD m.du<|dp m.qb m.q)}:En) (qp m.qb) hk5 (by rfl) ⟨ho.lf,ho.no,ho.qu⟩ w<|s.mem (i:=1) rfl)<|aI rfl (fun e7=>?_) (fun e7=>?_)
 ·refine bL [9] 10<|cO 1 [.ld 2,.rd [i_ m.ec.hi]] (rg 0 9) [(71,p_ tl.be),(76,i_ m.ec.hi)] (o1<|ro ⟨m.eb,1,none⟩ (vs:=[i_ m.ec.hi])<|fJ (fun w s=>(fZ (s.mem (i:=1) rfl) hk5:)) rfl)<|an 9 rfl (bM (some 77) [0] (Jp tl zt6 (aK (aY ek m.ec.hi) m.ec.hi ⟨((headD m.du<|dp m.qb m.q).dq21),m.ec.hi,(headD m.du<|dp m.qb m.q).dq22,m.ec.hi⟩) m.ec.hi ‹_› (Nat.le_trans (CN _ _ _)<|by omega)) ?_)
  rintro⟨zi7,zt8⟩ hz8
  refine cD<|dj<|jk [2,2,2,1,1,0,0] [] (fun _ w r s=>trivial) ((aK kb i ({m with du:=(headD m.du<|dp m.qb m.q)}:En)),zt8,aY (aK (aY ek m.ec.hi) m.ec.hi ⟨((headD m.du<|dp m.qb m.q).dq21),m.ec.hi,(headD m.du<|dp m.qb m.q).dq22,m.ec.hi⟩) m.ec.hi) ?_ ?_<|by kernel_rfl
  ·rfl
  exact .inl ⟨(by unfold jM;(simp_all;done)),_,rfl,by assumption,.inr ⟨(by(simp_all[uZ];done)),rfl⟩,(if_neg (by rw[e2];exact Bool.false_ne_true)).symm⟩
 refine aP<|jk [2,2,2,1,1,0,0] [] (fun _ w r s=>trivial) ((aK kb i ({m with du:=(headD m.du<|dp m.qb m.q)}:En)),zt6,aK (aY ek m.ec.hi) m.ec.hi ⟨((headD m.du<|dp m.qb m.q).dq21),m.ec.hi,(headD m.du<|dp m.qb m.q).dq22,m.ec.hi⟩) ?_ ?_<|by kernel_rfl
 ·rfl
 exact .inl ⟨(by unfold jM;(simp_all;done)),_,rfl,by assumption,.inl ⟨(by(simp_all[uZ];done)),rfl⟩,(if_neg (by rw[e2];exact Bool.false_ne_true)).symm⟩
def mj:Sh:=⟨false,0,0,0,0,0,0,0,0,false,0⟩
def rK(kb kb':List (Int×En)):Prop:=(∀j,(aB kb' j).map (fun m:En=>{m with sh:=mj})=(aB kb j).map (fun m:En=>{m with sh:=mj}))∧ ∀j m',aB kb' j=some m'→m'.sh=mj∨ ∃m,aB kb j=some m∧m'.sh=m.sh
variable{kb':bm En}
theorem PG(h:rK kb kb')(hm:aB kb' i=some m)(e:{m' with sh:=mj}={m with sh:=mj})(e2:m'.sh=mj):rK kb (aK kb' i m'):=by
 refine⟨fun j=>?_,fun j x hx=>?_⟩
 ·rw[←h.1 j,fN];by_cases q:i=j
  ·rw[if_pos q];subst q;rw[hm];simp[e]
  ·rw[if_neg q]
 ·rw[fN] at hx;by_cases q:i=j
  ·rw[if_pos q] at hx;cases hx;exact .inl e2
  ·rw[if_neg q] at hx;exact h.2 j x hx
theorem Ia(hL:cK kc): ∀(n:Nat)(i:Int)(F:Int→bm Int),eL kc i=true→ ∀z∈(fO (eZ kc) F n i).1,eL kc z=true
 |0,i,F,hs,z,hz=>by simp[fO] at hz;rw[hz];exact hs
 |n+1,i,F,hs,z,hz=>by
  unfold fO at hz
  split at hz
  ·simp at hz;rw[hz];exact hs
  ·rename_i hp
   rcases List.mem_cons.1 hz with rfl|hz
   ·exact hs
   ·refine Ia hL n _ _ ?_ z hz
    rw[vU,if_pos hs] at hp⊢
    rcases sP hL hs with h0|h0
    ·exact absurd (.inr h0) hp
    ·exact h0.1
theorem PH(hL:cK kc)(hy:ym=eZ kc)(h:u6 ym on ka c on' ka' l er): ∀z∈l,eL kc z=true:=by
 intro z hz
 rcases h with⟨h1,-,-,h2,-⟩|⟨-,-,h2,-⟩
 ·rw[hy] at h1 h2
  rw[h2] at hz
  refine Ia hL 40 c _ ?_ z hz
  rw[vg] at h1;simp at h1;exact h1.1
 ·rw[h2] at hz;cases hz
theorem PI(h:u6 ym on ka c on' ka' l er):l.length≤41:=by
 have: ∀(n:Nat)(i:Int)(F:Int→bm Int),(fO ym F n i).1.length≤n+1:=fun n=>by
  induction n with
  |zero=>intro i F;simp[fO]
  |succ n ih=>intro i F;unfold fO;split<;>simp;exact ih _ _
 rcases h with⟨-,-,-,h2,-⟩|⟨-,-,h2,-⟩
 ·rw[h2];exact this 40 _ _
 ·rw[h2];simp
def od(kc:List (Int×Cl)):List Int→List (Int×Vt)→List (Int×Vt)→Prop
 |[],kk,kk'=>kk'=kk
 |i::l,kk,kk'=> ∃c v t,aB kc i=some c∧aB kk c.hp=some v∧d6 t (aY v.kv i)∧od kc l (aK kk c.hp {v with t:=t,kv:=aY v.kv i}) kk'
theorem G6{c:Cl}(hk:L[k]? =some i)(hc:aB kc i=some c)(hv:aB kk c.hp=some v)(he:d6 t (aY v.kv i))
  (h:od kc (L.drop<|k+1) (aK kk c.hp {v with t:=t,kv:=aY v.kv i}) kk'):od kc (L.drop k) kk kk':=by
 obtain⟨h1,h2⟩:=dT.1 hk
 rw[List.drop_eq_getElem_cons h1,h2];exact⟨c,v,t,hc,hv,he,h⟩
theorem Ib(h:jw kc n kk){p:Int}(he:d6 v.t v.kv)(hl:v.kv.length≤n):jw kc n (aK kk p v):=fun q hq=>by
 rw[fN];by_cases e:p=q
 ·rw[if_pos e];exact⟨v,rfl,he,hl⟩
 ·rw[if_neg e];exact h q hq
theorem LX{f:Cl→Bool}(hB:eQ kc kb)(h:(aX kc f)[k]? =some z): ∃m,aB kb z=some m:=by
 have h:=cT h
 unfold aX gJ at h;rw[(List.mergeSort_perm _ _).mem_iff,List.mem_map] at h
 obtain⟨p,h1,h2⟩:=h
 cases e:aB kb z with
 |some m=>exact⟨m,rfl⟩
 |none=>
  have h3:=(hB z).1;rw[e] at h3
  have h4:aB kc z≠none:=fun h5=>mget_no h5 p (List.mem_filter.1 h1).1 h2
  exact absurd h3.symm h4
where
 mget_no {kc:List (Int×Cl)} {z:Int} (h:aB kc z=none): ∀p∈kc,p.1≠z:=by
  induction kc with
  |nil=>intro p hp;cases hp
  |cons q kc ih=>
   intro p hp
   simp only[aB] at h
   split at h
   ·cases h
   ·rename_i hq
    rcases List.mem_cons.1 hp with rfl|hp
    ·exact hq
    ·exact ih h p hp
def rQ:List Int→List (Int×En)→List (Int×En)
 |[],kb=>kb
 |c::l,kb=>rQ l (match aB kb c with|some m=>aK kb c {m with sh:=mj}|none=>kb)
theorem PK(hk:L[k]? =some i)(hm:aB kb i=some m):rQ (L.drop<|k+1) (aK kb i {m with sh:=mj})=rQ (L.drop k) kb:=by
 obtain⟨h1,h2⟩:=dT.1 hk
 rw[List.drop_eq_getElem_cons h1,h2,rQ,hm]
def sZ(kc:List (Int×Cl)):List Int→List (Int×En)→List (Int×Vt)→List (Int×En)→Prop
 |[],kb,_,kb'=>kb'=kb
 |i::l,kb,kk,kb'=> ∃c v t,aB kc i=some c∧aB kk c.hp=some v∧sZ kc l (if(aY v.kv i).length=0 then rQ (aX kc fun v_=>v_.hp==c.hp) kb else kb) (aK kk c.hp {v with t:=t,kv:=aY v.kv i}) kb'
theorem Fz{c:Cl}{kb1:bm En}(hk:L[k]? =some i)(hc:aB kc i=some c)(hv:aB kk c.hp=some v)(e:(if(aY v.kv i).length=0 then rQ (aX kc fun v_=>v_.hp==c.hp) kb else kb)=kb1)(h:sZ kc (L.drop<|k+1) kb1 (aK kk c.hp {v with t:=t,kv:=aY v.kv i}) kb'):sZ kc (L.drop k) kb kk kb':=by
 obtain⟨h1,h2⟩:=dT.1 hk
 rw[List.drop_eq_getElem_cons h1,h2];exact⟨c,v,t,hc,hv,e▸h⟩
def zE(kc:List (Int×Cl))(i:Int)(kb:List (Int×En))(ym:List (Int×Pl))(on:List (Int×Int))(ka:List (Int×MB))(kk:List (Int×Vt))(kb':List (Int×En))(on':List (Int×Int))(ka':List (Int×MB))(kk':List (Int×Vt)):Prop:=
 ∃l er,u6 ym on ka i on' ka' l er∧rK kb kb'∧eQ kc kb'∧od kc l kk kk'∧sZ kc l kb kk kb'
abbrev uI(p0)(p1):=(aA p0 [.map<|some p1] 185:V.aH)
abbrev uJ(p0)(p1)(p2)(p3)(p4)(p5:Ac)(p6:Vt)(p7)(p8)(p9):=(aA p0 [i_ p1,i_ p2,p_ p3,.map<|some p4,p_ p5.bs,p_ p6.be,.map<|some p7,u_ p8,u_ p9] 141:V.aH)
theorem Qn(sb:Nat)(lt lm:Int)(bt mc:Nat)(kc:bm Cl)(my:Nat)(kb:bm En)(a:Ac)(on:bm Int)(ka:bm MB)(tl:Vt)(et:T)(ek:bm It)(mk:Nat)(kk:bm Vt)(ck ac:Int)(ci:Int)(hL:cK kc)(hB:eQ kc kb)(hK:jw kc 600 kk)(hy:a.ym=eZ kc):
  CS 157 #[p_ sb,i_ ci] [uJ sb lt lm bt my a tl mk ck ac,uI bt mc,cU mc kc,df my kb,eM a on ka,eu tl et ek,eD mk kk] (fun((kb',on',ka',kk'):(bm En)×(bm Int)×(bm MB)×(bm Vt))=>(.tuple #[])) (fun(kb',on',ka',kk')=>zE kc ci kb a.ym on ka kk kb' on' ka' kk') fun(kb',on',ka',kk')=>[uJ sb lt lm bt my a tl mk ck ac,uI bt mc,cU mc kc,df my kb',eM a on' ka',eu tl et ek,eD mk kk']:=by
 intro w hs
 have hdp:=fun i=>hy▸vI hL i
 have hkl:=hL.len
 refine aU Tryz.func157 rfl hs (aC<|bA 5 [.ld 0] [(15,p_ a.bs),(16,i_ ci)]<|aG<|bM (some 17) [4] (WH a on ka ci<|hdp _) ?_)
 rintro⟨on'1,ka'2,al'3,l'4,cl'5,er6⟩ hz1
 dsimp only at hz1
 refine ak [(4,vS al'3 l'4 cl'5),(5,i_ er6)]<|aE<|aD [(21,b_<|er6 !=0)]<|aI (E:=er6 !=0) rfl (fun e2=>?_) (fun e2=>?_)
 ·refine aF<|cN [2,2,2,2,0,1,1] [] (fun _ w r s=>trivial) (kb,on'1,ka'2,kk) ?_ ?_<|by kernel_rfl
  ·rfl
  exact⟨_,_,by assumption,⟨fun _=>rfl,fun _ _ h_=> .inr ⟨_,h_,rfl⟩⟩,hB,(by(rcases(by assumption:u6 _ _ _ _ _ _ _ _) with⟨_,_,h_,_⟩|⟨_,_,h_,_⟩<;>simp_all[od,sZ];done))⟩
 refine au ?_
 have hmem:=PH hL hy ‹_›
 have hlen:=PI ‹_›
 refine bX [(22,vS al'3 l'4 cl'5),(23,c_ l'4.length),(24,i_ 0)]<|aO<|fm (fun((k,kbk,kkk):Nat×(bm En)×(bm Vt))=>[(0,p_ sb),(22,vS al'3 l'4 cl'5),(23,c_ l'4.length),(24,c_ k)]) (fun((k,kbk,kkk):Nat×(bm En)×(bm Vt))=>[df my kbk,eD mk kkk,eM a on'1 ka'2,sI al'3 l'4 cl'5,uJ sb lt lm bt my a tl mk ck ac,uI bt mc,cU mc kc,eu tl et ek]) (fun((k,kbk,kkk):Nat×(bm En)×(bm Vt))=>(k≤l'4.length)∧(rK kb kbk)∧(eQ kc kbk)∧(jw kc 600 kkk)∧(∀kk',od kc (l'4.drop k) kkk kk'→od kc l'4 kk kk')∧(∀kb',sZ kc (l'4.drop k) kbk kkk kb'→sZ kc l'4 kb kk kb')) (fun((k,kbk,kkk):Nat×(bm En)×(bm Vt))=>l'4.length-k) (0,kb,kk) ⟨(by omega),⟨fun _=>rfl,fun _ _ h_=> .inr ⟨_,h_,rfl⟩⟩,hB,hK,(fun _ h=>h),(fun _ h=>h)⟩ ?_ ?_
 ·exact cQ [5,6,0,0,0,0,0,0] ⟨rfl,rfl,rfl,rfl,trivial⟩<|by kernel_rfl
 rintro⟨k,kbk,kkk⟩ ⟨hk,hS,hBk,hKk,hD,hZ⟩
 refine eo [(0,p_ sb),(22,vS al'3 l'4 cl'5),(23,c_ l'4.length),(24,c_ k)] [df my kbk,eD mk kkk,eM a on'1 ka'2,sI al'3 l'4 cl'5,uJ sb lt lm bt my a tl mk ck ac,uI bt mc,cU mc kc,eu tl et ek] ⟨rfl,rfl,rfl,rfl,trivial⟩ rfl (aD [(24,c_ k),(25,b_<|decide ((k:Int)<(l'4.length:Int)))]<|aE<|aI (E:=decide ((k:Int)<(l'4.length:Int))) rfl (fun e3=>?_) (fun e3=>?_))
 ·have p3:=dZ e3
  refine au<|aO<|aC<|tJ [.ix] [(0,p_ sb),(22,vS al'3 l'4 cl'5),(23,c_ l'4.length),(24,c_ k),(26,.pointer<|some<|(aZ al'3).add (k*1))] (o1<|bH 3 k dL rfl (by omega)) ?_
  obtain⟨x8,hx8⟩: ∃x,(l'4)[k]? =some x:=⟨_,dA<|by omega⟩
  refine az [.rd [i_ x8]] [(7,i_ x8)] (o1<|ro ((aZ al'3).add (k*1))<|dY (vs:=[i_ x8]) dL (cV (i:=3) rfl) hx8 (Nat.le_of_ble_eq_true rfl) rfl)<|aC<|bA 5 [.ld 4] [(31,.map<|some my),(32,i_ x8)] ?_
  obtain⟨m9,hk9,hEO9⟩:=EW hBk<|hmem _<|cT hx8
  refine aG<|MO (some 33) _ (by kernel_rfl) (kF (kt:=3) (et:=167) (k:=x8) (fun w s=>nO<|s.mem (i:=0) rfl) hk9 rfl rfl rfl (by kernel_rfl) eE rfl)<|az [.rd [i_ m9.ec.hp]] [(8,i_ m9.ec.hp)] (o1<|ro ⟨m9.eb,2,none⟩ (vs:=[i_ m9.ec.hp])<|fJ (fun w s=>(fZ (s.mem (i:=0) rfl) hk9:)) rfl)<|aE<|aM<|bA 5 [.ld 4] [(41,.map<|some mk),(42,i_ m9.ec.hp)] ?_
  obtain⟨m10,hk10,hE10,hl10⟩:=zC hL hBk hKk ‹_›
  refine aG<|cC (some 43) _ (kF (kt:=3) (et:=136) (k:=m9.ec.hp) (fun w s=>pV<|s.mem (i:=1) rfl) hk10 rfl rfl rfl (by kernel_rfl) eE rfl)<|cP [.p] [(44,i_ x8)]<|aG<|bM (some 45) [1] (Td mk kkk m9.ec.hp m10 x8 hk10 ‹_› (by omega)) ?_
  rintro⟨zi11,zt12⟩ hz4
  dsimp only at hz4
  refine dP<|cS<|j0 [.p,.p,.p,.ld 4,.p] [(0,p_ sb),(22,vS al'3 l'4 cl'5),(23,c_ l'4.length),(24,c_ k),(8,i_ m9.ec.hp),(49,.map<|some mk),(50,i_ m9.ec.hp)] ?_
  obtain⟨m13,hk13⟩:=(⟨_,jS _ _ _⟩: ∃m_:Vt,aB (aK kkk m9.ec.hp {m10 with t:=zt12,kv:=aY m10.kv x8}) m9.ec.hp=some m_)
  have hm13:m13.kv=aY m10.kv x8:=by have h_:=(jS kkk m9.ec.hp {m10 with t:=zt12,kv:=aY m10.kv x8}).symm.trans hk13;cases h_;rfl
  refine aG<|cC (some 51) _ (kF (kt:=3) (et:=136) (k:=m9.ec.hp) (fun w s=>pV<|s.mem (i:=0) rfl) hk13 rfl rfl rfl (by kernel_rfl) eE rfl)<|az [.cq<|c_ m13.kv.length] [(53,b_<|decide ((m13.kv.length:Int)>0))] (o1<|qo<|fun w s=>WE mk (aK kkk m9.ec.hp {m10 with t:=zt12,kv:=aY m10.kv x8}) m9.ec.hp m13 hk13 w<|s.mem (i:=0) rfl)<|aI (E:=decide ((m13.kv.length:Int)>0)) rfl (fun e5=>?_) (fun e5=>?_)
  ·have p5:=dZ e5
   refine bR<|aM<|az [.w<|(k:Int)+1] [(24,i_<|(k:Int)+1)] (o1<|wj ((k:Int)+1)<|by omega)<|bC (k+1,kbk,aK kkk m9.ec.hp {m10 with t:=zt12,kv:=aY m10.kv x8}) ⟨(by omega),hS,hBk,(Ib hKk ‹_› (Nat.le_trans (vH _ _) ‹_›)),(fun _ h=>hD _<|G6 ‹_› (lO hBk ‹_›) ‹_› ‹_› h),(fun _ h=>hZ _<|Fz ‹_› (lO hBk ‹_›) ‹_› (if_neg (by rw[←hm13];omega)) h)⟩ (by(show l'4.length-(k+1)<l'4.length-k;omega)) ?_
   exact cQ [1,0,0,0,0,0,0,0] ⟨rfl,rfl,rfl,rfl,trivial⟩<|by kernel_rfl
  have p5:=ga e5
  refine au ?_
  have hkc:=pH kc (fun v_:Cl=>v_.hp==m9.ec.hp)
  refine aM<|bA 5 [.ld 4] [(57,p_ bt),(58,i_ m9.ec.hp)]<|aG<|dG (some 59) [] (fun w s h=>Av bt mc kc m9.ec.hp (by omega) w (s.mem (i:=5) rfl) (s.mem (i:=6) rfl) h) ?_
  rintro⟨al'14,cl'15⟩-
  refine ak [(60,i_ ((aX kc<|fun v_=>v_.hp==m9.ec.hp).length:Int)),(61,i_ 0)]<|aO<|fm (fun((j,kbj):Nat×(bm En))=>[(0,p_ sb),(22,vS al'3 l'4 cl'5),(23,c_ l'4.length),(24,c_ k),(59,vS al'14 (aX kc<|fun v_=>v_.hp==m9.ec.hp) cl'15),(60,i_ ((aX kc<|fun v_=>v_.hp==m9.ec.hp).length:Int)),(61,c_ j)]) (fun((j,kbj):Nat×(bm En))=>[df my kbj,sI al'14 (aX kc<|fun v_=>v_.hp==m9.ec.hp) cl'15,eD mk<|aK kkk m9.ec.hp {m10 with t:=zt12,kv:=aY m10.kv x8},eM a on'1 ka'2,sI al'3 l'4 cl'5,uJ sb lt lm bt my a tl mk ck ac,uI bt mc,cU mc kc,eu tl et ek]) (fun((j,kbj):Nat×(bm En))=>(j≤(aX kc<|fun v_=>v_.hp==m9.ec.hp).length)∧(rK kb kbj)∧(eQ kc kbj)∧(rQ ((aX kc<|fun v_=>v_.hp==m9.ec.hp).drop j) kbj=rQ (aX kc<|fun v_=>v_.hp==m9.ec.hp) kbk)) (fun((j,kbj):Nat×(bm En))=>(aX kc<|fun v_=>v_.hp==m9.ec.hp).length-j) (0,kbk) ⟨(by omega),hS,hBk,rfl⟩ ?_ ?_
  ·exact cQ [2,0,0,0,0,0,0,0,0] ⟨rfl,rfl,rfl,rfl,rfl,rfl,rfl,trivial⟩<|by kernel_rfl
  rintro⟨j,kbj⟩ ⟨hj,hS2,hBj,hQ⟩
  refine eo [(0,p_ sb),(22,vS al'3 l'4 cl'5),(23,c_ l'4.length),(24,c_ k),(59,vS al'14 (aX kc<|fun v_=>v_.hp==m9.ec.hp) cl'15),(60,i_ ((aX kc<|fun v_=>v_.hp==m9.ec.hp).length:Int)),(61,c_ j)] [df my kbj,sI al'14 (aX kc<|fun v_=>v_.hp==m9.ec.hp) cl'15,eD mk<|aK kkk m9.ec.hp {m10 with t:=zt12,kv:=aY m10.kv x8},eM a on'1 ka'2,sI al'3 l'4 cl'5,uJ sb lt lm bt my a tl mk ck ac,uI bt mc,cU mc kc,eu tl et ek] ⟨rfl,rfl,rfl,rfl,rfl,rfl,rfl,trivial⟩ rfl (aD [(61,c_ j),(62,b_<|decide ((j:Int)<((aX kc<|fun v_=>v_.hp==m9.ec.hp).length:Int)))]<|aE<|aI (E:=decide ((j:Int)<((aX kc<|fun v_=>v_.hp==m9.ec.hp).length:Int))) rfl (fun e7=>?_) (fun e7=>?_))
  ·have p7:=dZ e7
   refine au<|aO<|aC<|ic [.ix] [(63,.pointer<|some<|(aZ al'14).add (j*1))] (o1<|bH 1 j dL rfl (by omega)) ?_
   obtain⟨x17,hx17⟩: ∃x,((aX kc<|fun v_=>v_.hp==m9.ec.hp))[j]? =some x:=⟨_,dA<|by omega⟩
   refine fy [.rd [i_ x17]] [(0,p_ sb),(22,vS al'3 l'4 cl'5),(23,c_ l'4.length),(24,c_ k),(59,vS al'14 (aX kc<|fun v_=>v_.hp==m9.ec.hp) cl'15),(60,i_ ((aX kc<|fun v_=>v_.hp==m9.ec.hp).length:Int)),(61,c_ j),(10,i_ x17)] (o1<|ro ((aZ al'14).add (j*1))<|dY (vs:=[i_ x17]) dL (cV (i:=1) rfl) hx17 (Nat.le_of_ble_eq_true rfl) rfl)<|?_
   obtain⟨m18,hk18⟩:=LX hBj ‹_›
   refine tL 0 rfl hk18 rfl (aM<|bA 5 [.ld 6] [(68,.map<|some my),(69,i_ x17)]<|aG<|cC (some 70) _ (kF (kt:=3) (et:=167) (k:=x17) (fun w s=>Qj<|s.mem (i:=0) rfl) hk18 rfl rfl rfl (by kernel_rfl) eE rfl)<|bU [.st 1] [] [(1,aA m18.eb [qp m18.qb,i_ m18.ec.hi,i_ m18.ec.hp,b_ m18.ec.hl,u_ m18.ec.ra,u_ m18.ec.rb,u_ m18.ec.rc,u_ m18.ec.la,u_ m18.ec.lb,u_ m18.ec.lc,u_ m18.ec.ua,u_ m18.ec.ub,u_ m18.ec.uc,i_ m18.ec.hk,i_ m18.ec.hq,u_ m18.tot,b_ m18.du.dq1,u_ m18.du.dq2,u_ m18.du.dq3,u_ m18.du.dq4,u_ m18.du.dq5,u_ m18.du.dq6,u_ m18.du.dq7,u_ m18.du.dq8,u_ m18.du.dq9,b_ m18.du.dq10,u_ m18.du.dq11,u_ m18.du.dq12,u_ m18.du.dq13,u_ m18.du.dq14,u_ m18.du.dq15,u_ m18.du.dq16,u_ m18.du.dq17,u_ m18.du.dq18,b_ m18.du.dq19,u_ m18.du.dq20,u_ m18.du.dq21,u_ m18.du.dq22,b_ false,u_ 0,u_ 0,u_ 0,u_ 0,u_ 0,u_ 0,u_ 0,u_ 0,b_ false,u_ 0,b_ m18.li.uq1,u_ m18.li.uq2,u_ m18.li.uq3,u_ m18.li.uq4,u_ m18.li.uq5,u_ m18.li.uq6,u_ m18.li.uq7,u_ m18.li.uq8,u_ m18.li.uq9,b_ m18.li.uq10,u_ m18.li.uq11] 225)]<|tM (m':=({m18 with sh:=(⟨false,0,0,0,0,0,0,0,0,false,0⟩:Sh)}:En)) [0,0] rfl hk18 ⟨rfl,rfl,rfl⟩ rfl rfl ?_)
   have hk19:=jS kbj x17 ({m18 with sh:=(⟨false,0,0,0,0,0,0,0,0,false,0⟩:Sh)}:En)
   refine(aM<|az [.w<|(j:Int)+1] [(61,i_<|(j:Int)+1)] (o1<|wj ((j:Int)+1)<|by omega)<|bC (j+1,aK kbj x17 ({m18 with sh:=(⟨false,0,0,0,0,0,0,0,0,false,0⟩:Sh)}:En)) ⟨(by omega),(by apply PG hS2<;>first|assumption|rfl),(by apply t7 hBj<;>first|assumption|rfl),((PK hx17 hk18).trans hQ)⟩ (by(show(aX kc<|fun v_=>v_.hp==m9.ec.hp).length-(j+1)<(aX kc<|fun v_=>v_.hp==m9.ec.hp).length-j;omega)) ?_)
   exact cQ [0,0,0,0,0,0,0,0,0] ⟨rfl,rfl,rfl,rfl,rfl,rfl,rfl,trivial⟩<|by kernel_rfl
  have p7:=ga e7
  refine bR<|aM<|az [.w<|(k:Int)+1] [(24,i_<|(k:Int)+1)] (o1<|wj ((k:Int)+1)<|by omega)<|bC (k+1,kbj,aK kkk m9.ec.hp {m10 with t:=zt12,kv:=aY m10.kv x8}) ⟨(by omega),hS2,hBj,(Ib hKk ‹_› (Nat.le_trans (vH _ _) ‹_›)),(fun _ h=>hD _<|G6 ‹_› (lO hBk ‹_›) ‹_› ‹_› h),(fun _ h=>hZ _<|Fz ‹_› (lO hBk ‹_›) ‹_› ((if_pos (by rw[←hm13];omega)).trans (hQ.symm.trans (by rw[List.drop_eq_nil_of_le<|by omega];rfl))) h)⟩ (by(show l'4.length-(k+1)<l'4.length-k;omega)) ?_
  exact cQ [0,1,1,1,1,1,1,1] ⟨rfl,rfl,rfl,rfl,trivial⟩<|by kernel_rfl
 have p3:=ga e3
 refine bR<|jk [4,4,4,0,1,2,0] [] (fun _ w r s=>trivial) (kbk,on'1,ka'2,kkk) ?_ ?_<|by kernel_rfl
 ·rfl
 exact⟨_,_,by assumption,hS,hBk,hD _ (by rw[List.drop_eq_nil_of_le<|by omega];rfl),hZ _ (by rw[List.drop_eq_nil_of_le<|by omega];rfl)⟩
structure Pd where
 gq1:Int
 gq2:Int
 gq3:Int
 gq4:Int
 gq5:Int
 gq6:Int
 gq7:Int
 gq8:Bool
 deriving Inhabited,DecidableEq
def EX(x:Pd):List Value:=[(i_ x.gq1),(u_ x.gq2),(i_ x.gq3),(w_ x.gq4),(w_ x.gq5),(w_ x.gq6),(w_ x.gq7),(b_ x.gq8)]
def w9(n:Int)(m:En):En:={m with tot:=IntKind.u64.wrap<|m.tot+IntKind.u64.wrap n,sh:=mF m.sh<|IntKind.u64.wrap<|m.tot+IntKind.u64.wrap n,li:=jL m.li<|IntKind.u64.wrap<|m.tot+IntKind.u64.wrap n}
def mf(n:Int):List Int→List (Int×En)→List (Int×En)
 |[],kb=>kb
 |i::l,kb=>mf n l (match aB kb i with|some m=>aK kb i (w9 n m)|none=>kb)
theorem OI{n:Int}(hk:L[k]? =some i)(hm:aB kb i=some m):mf n (L.drop<|k+1) (aK kb i<|w9 n m)=mf n (L.drop k) kb:=by
 obtain⟨h1,h2⟩:=dT.1 hk
 rw[List.drop_eq_getElem_cons h1,h2,mf,hm]
def AW(M:En)(i:Int)(kb:List (Int×En)):Prop:= ∃m,aB kb i=some m∧m.eb=M.eb∧m.qb=M.qb∧m.q=M.q∧m.ec=M.ec
theorem Qo{M:En}{j:Int}{y y':En}(h:AW M i kb)(hy:aB kb j=some y)(h1:y'.eb=y.eb)(h2:y'.qb=y.qb)(h3:y'.q=y.q)(h4:y'.ec=y.ec):AW M i (aK kb j y'):=by
 obtain⟨m,g1,g2⟩:=h
 by_cases e:j=i
 ·subst e;rw[hy] at g1;cases g1
  exact⟨y',jS _ _ _,by rw[h1,h2,h3,h4];exact g2⟩
 ·exact⟨m,by rw[fN,if_neg e];exact g1,g2⟩
variable{ek ek':bm It}
theorem WN{sn:Int}{br:Bool}{et':T}(hm:aB kb i=some m)(h:se i m sn br kb et ek kb' et' ek'):AW m i kb':=by
 rcases h with⟨-,d,rfl,-⟩|⟨-,rfl,-⟩
 ·exact⟨_,jS _ _ _,rfl,rfl,rfl,rfl⟩
 ·exact⟨m,hm,rfl,rfl,rfl,rfl⟩
theorem Tm{sn:Int}{br:Bool}{et':T}(hB:eQ kc kb)(hm:aB kb i=some m)(h:se i m sn br kb et ek kb' et' ek'):eQ kc kb':=by
 rcases h with⟨-,d,rfl,-⟩|⟨-,rfl,-⟩
 ·exact t7 hB hm rfl rfl rfl
 ·exact hB
theorem Ic: ∀{l:bT}{kk kk':bm Vt},jw kc n kk→od kc l kk kk'→(∀i∈l,True)→jw kc n kk'
 |[],kk,kk',h,hd,_=>by cases hd;exact h
 |i::l,kk,kk',h,⟨c,v,t,hc,hv,he,hd⟩,_=>by
  refine Ic (l:=l) (kk:=aK kk c.hp {v with t:=t,kv:=aY v.kv i}) (fun q hq=>?_) hd<|fun _ _=>trivial
  rw[fN];by_cases e:c.hp=q
  ·rw[if_pos e];subst e
   obtain⟨v2,h1,h2,h3⟩:=h _ hq
   rw[hv] at h1;cases h1
   exact⟨_,rfl,he,Nat.le_trans (vH _ _) h3⟩
  ·rw[if_neg e];exact h q hq
theorem Tn(h:zE kc i kb ym on ka kk kb' on' ka' kk'):eQ kc kb':=by obtain⟨_,_,_,_,h,_⟩:=h;exact h
theorem To(hK:jw kc n kk)(h:zE kc i kb ym on ka kk kb' on' ka' kk'):jw kc n kk':=by obtain⟨l,_,_,_,_,h⟩:=h;exact Ic hK h.1 fun _ _=>trivial
def nc(z:Pd):Pk:=⟨z.gq2,z.gq3,z.gq4,z.gq5,z.gq6,z.gq7⟩
def LY(kc:List (Int×Cl))(ch:Int×Bool×Bool)(z:Pd)(ok:Bool)(kb:List (Int×En))(ym:List (Int×Pl))(on:List (Int×Int))(ka:List (Int×MB))(et:T)(ek:List (Int×It))(kk:List (Int×Vt))(kb':List (Int×En))(on':List (Int×Int))(ka':List (Int×MB))(et':T)(ek':List (Int×It))(kk':List (Int×Vt)):Prop:=
 (ch.2.2=false∧ok=false∧kb'=kb∧on'=on∧ka'=ka∧et'=et∧ek'=ek∧kk'=kk)∨
 (ch.2.2=true∧ok=true∧z.gq1=ch.1∧z.gq8=ch.2.1∧ ∃m q,aB kb ch.1=some m∧w8 m.q (nc z) q∧
  ∃m2 kb2 kb3 kk2,kb2=mf z.gq3 (bf kc ch.1) (aK kb ch.1 {m with q:=q})∧aB kb2 ch.1=some m2∧m2.qb=m.qb∧m2.q=q∧m2.ec=m.ec∧se ch.1 m2 z.gq3 ch.2.1 kb2 et ek kb3 et' ek'∧
   ((qC q≠[]∧kb'=kb3∧on'=on∧ka'=ka∧kk2=kk)∨(qC q=[]∧zE kc ch.1 kb3 ym on ka kk kb' on' ka' kk2))∧lT on' ka' kb' (bf kc ch.1) kk2 kk')
set_option maxHeartbeats 4000000 in
set_option maxRecDepth 100000 in
abbrev wG(p0)(p1)(p2)(p3)(p4)(p5)(p6)(p7)(p8)(p9):=([aA p0 [i_ p1,i_ p2,p_ p3,.map<|some p4,p_ p5,p_ p6,.map<|some p7,u_ p8,u_ p9] 141]:List V.aH)
theorem Jx(sb:Nat)(lt lm:Int)(bt my ab eb mk:Nat)(ck ac now:Int)(hk1:ck≤now)(hk2:now≤4611686018427387904)(w:World)(hs:HI w (wG sb lt lm bt my ab eb mk ck ac)):
  CV 111 #[p_ sb,u_ now] w (wG sb lt lm bt my ab eb mk ck ac) (fun(zz:Unit)=>(b_ true)) (fun _=>True) fun _=>(wG sb lt lm bt my ab eb mk now ac):=by
 refine aU Tryz.func111 rfl hs (eo [(0,p_ sb),(1,u_ now)] (wG sb lt lm bt my ab eb mk ck ac) ⟨rfl,rfl,trivial⟩ rfl (aD []<|cS<|bF [.ld 0,.o,.cl] [(14,b_<|(decide (now<ck))||(decide (now>4611686018427387904)))]<|aI (E:=(decide (now<ck))||(decide (now>4611686018427387904))) rfl (fun e1=>?_) (fun e1=>?_)))
 ·exact absurd e1<|by(intro h_;simp at h_;omega)
 ·skip
  refine aP<|aC<|Xj [.st 0] [] (wG sb lt lm bt my ab eb mk now ac)<|aD [(4,b_ true)]<|aF<|cN [0] [b_ true] (fun _ w r s=>⟨dM r rfl,trivial⟩) () ?_ ?_<|by kernel_rfl
  ·rfl
  ·trivial
abbrev Jy(p0)(p1):=(aA p0 [.map<|some p1] 185:V.aH)
abbrev kU(p0)(p1)(p2)(p3):=(i_ ((dq p0 p1 p2 p3).1):Value)
abbrev uK(p0)(p1)(p2)(p3)(p4):=((54,i_ ((bf p0<|(dq p1 p2 p3 p4).1).length:Int)):Nat×Value)
abbrev mT(p0)(p1)(p2)(p3):=(b_ ((dq p0 p1 p2 p3).2.1):Value)
abbrev Jz(p0)(p1)(p2)(p3)(p4)(p5:Ac)(p6:Vt)(p7)(p8)(p9):=(aA p0 [i_ p1,i_ p2,p_ p3,.map<|some p4,p_ p5.bs,p_ p6.be,.map<|some p7,u_ p8,u_ p9] 141:V.aH)
theorem Tq(sb:Nat)(lt lm:Int)(bt mc:Nat)(kc:bm Cl)(my:Nat)(kb:bm En)(a:Ac)(on:bm Int)(ka:bm MB)(tl:Vt)(et:T)(ek:bm It)(mk:Nat)(kk:bm Vt)(ck ac:Int)(now:Int)(hL:cK kc)(hB:eQ kc kb)(hK:jw kc 600 kk)(hy:a.ym=eZ kc)(hE:d6 et ek)(hl:ek.length≤600)(hD:pW kb kk now 17 0)(hCh:(dq et kb kk now).2.2=true→ ∃m,aB kb (dq et kb kk now).1=some m∧qC m.q≠[])(hk1:ck≤now)(hk2:now≤4611686018427387904):
  CS 114 #[p_ sb,u_ now] [Jz sb lt lm bt my a tl mk ck ac,Jy bt mc,cU mc kc,df my kb,eM a on ka,eu tl et ek,eD mk kk] (fun((z,ok,kb',on',ka',et',ek',kk'):Pd×Bool×(bm En)×(bm Int)×(bm MB)×T×(bm It)×(bm Vt))=>(.tuple #[.agg (EX z).toArray,b_ ok])) (fun(z,ok,kb',on',ka',et',ek',kk')=>LY kc (dq et kb kk now) z ok kb a.ym on ka et ek kk kb' on' ka' et' ek' kk') fun(z,ok,kb',on',ka',et',ek',kk')=>[Jz sb lt lm bt my a tl mk now ac,Jy bt mc,cU mc kc,df my kb',eM a on' ka',eu tl et' ek',eD mk kk']:=by
 intro w hs
 have hul:=CM hL (dq et kb kk now).1
 refine aU Tryz.func114 rfl hs (aC<|dD [.al] [] (fun b1=>[(4,p_ b1)]) (fun b1=>aA b1 [i_ 0,u_ 0,i_ 0,w_ 0,w_ 0,w_ 0,w_ 0,b_ false] 235) ?_)
 intro b1
 refine cS<|bA 5 [] [(17,b_ false),(18,p_ sb),(19,u_ now)]<|aG<|bM (some 20) [0] (Jx sb lt lm bt my a.bs tl.be mk ck ac now ‹_› ‹_›) ?_
 rintro⟨⟩-
 refine dV [] [17,18,19,20] [(22,b_ false)]<|bY<|aP<|aC<|kq [.cq<|.tuple #[kU et kb kk now,mT et kb kk now,b_<|(dq et kb kk now).2.2]] [1,22] [(6,kU et kb kk now),(7,mT et kb kk now),(8,b_<|(dq et kb kk now).2.2)] (o1<|qo<|fun w s=>PE sb lt lm bt mc kc my kb a on ka tl et ek mk kk now ac now ‹_› ‹_› w (s.mem (i:=0) rfl) (s.mem (i:=1) rfl) (s.mem (i:=2) rfl) (s.mem (i:=3) rfl) (s.mem (i:=4) rfl) (s.mem (i:=5) rfl) (s.mem (i:=6) rfl))<|cS<|dV [] [8] [(32,b_ (!((dq et kb kk now).2.2)))]<|aI rfl (fun e2=>?_) (fun e2=>?_)
 ·refine aC<|gY [.st 7] [0,6,7,32] [(5,b_ false)] []<|aF<|cN [0,0,0,0,0,0,0] [.agg #[i_ 0,u_ 0,i_ 0,w_ 0,w_ 0,w_ 0,w_ 0,b_ false],b_ false] (fun _ w r s=>⟨dU 7 r s,dM r rfl,trivial⟩) ((⟨0,0,0,0,0,0,0,false⟩:Pd),false,kb,on,ka,et,ek,kk) ?_ ?_<|by kernel_rfl
  ·rfl
  exact .inl ⟨(by(simp_all;done)),rfl,rfl,rfl,rfl,rfl,rfl,rfl⟩
 refine aP<|aC<|fg [.p,.p,.p,.ld 0,.p] [32] [(37,.map<|some my),(38,kU et kb kk now)] ?_
 obtain⟨m2,hk2,h0n2⟩:=hCh<|by(simp_all;done)
 refine aG<|cC (some 39) _ (kF (kt:=3) (et:=167) (k:=(dq et kb kk now).1) (fun w s=>nO<|s.mem (i:=3) rfl) hk2 rfl rfl rfl (by kernel_rfl) eE rfl)<|dV [] [37,38,39] [(9,p_ m2.eb)]<|aC<|dm 4 [.rd [qp m2.qb]] [(44,qp m2.qb)] (o1<|ro ⟨m2.eb,0,none⟩ (vs:=[qp m2.qb])<|fJ (fun w s=>(fZ (s.mem (i:=3) rfl) hk2:)) rfl)<|aG<|bM (some 45) [3] (WC my kb ((dq et kb kk now).1) m2 (qp m2.qb) hk2 (by rfl) ((hB _).2 _ ‹_›) ‹_›) ?_
 rintro⟨q'3,pp4⟩ hz3
 refine dS [.al,.st 8] [44,45] (fun b5=>[(10,p_ b5)]) (fun b5=>[]) (fun b5=>aA b5 (gZ pp4) 45) ?_
 intro b5
 refine aE<|aE ?_
 have hk6:=jS kb (dq et kb kk now).1 ({m2 with q:=q'3}:En)
 have hB1:eQ kc (aK kb ((dq et kb kk now).1) {m2 with q:=q'3}):=zD hB hk2 rfl ⟨((hB _).2 _ hk2).lf,fun e_=>absurd (((hB _).2 _ hk2).no e_)<|fun e2_=>h0n2<|List.eq_nil_of_length_eq_zero (by rw[nN];exact e2_),fun _=>(by assumption:w8 _ _ _).1⟩
 refine aM<|bA 5 [.ld 1] [(51,p_ bt),(52,kU et kb kk now)]<|aG<|dG (some 53) [] (fun w s h=>Eo bt mc kc ((dq et kb kk now).1) ‹_› w (s.mem (i:=2) rfl) (s.mem (i:=3) rfl) h) ?_
 rintro⟨al'7,cl'8⟩-
 refine dV [] [51,52] [(53,vS al'7 (bf kc<|(dq et kb kk now).1) cl'8),(uK kc et kb kk now),(55,i_ 0)]<|aO<|eA (σ:=Nat×(bm En)) [] (fun(k,kbk)=>[(55,c_ k)]) [1] (fun(k,kbk)=>[df my kbk]) (fun(k,kbk)=>(k≤(bf kc (dq et kb kk now).1).length)∧(mf pp4.qn ((bf kc (dq et kb kk now).1).drop k) kbk=mf pp4.qn (bf kc (dq et kb kk now).1) (aK kb ((dq et kb kk now).1) {m2 with q:=q'3}))∧(eQ kc kbk)∧(AW ({m2 with q:=q'3}:En) (dq et kb kk now).1 kbk)) (fun(k,kbk)=>(bf kc (dq et kb kk now).1).length-k) (0,aK kb ((dq et kb kk now).1) {m2 with q:=q'3}) ⟨(by omega),(by rfl),hB1,⟨_,jS _ _ _,rfl,rfl,rfl,rfl⟩⟩ ?_ ?_
 ·exact bB [1,0,0,0,0,0,0,0,0,0]
 rintro⟨k,kbk⟩ ⟨hk,hU,hBk,hX⟩
 refine aD [(56,b_<|decide ((k:Int)<((bf kc<|(dq et kb kk now).1).length:Int)))]<|aE<|aI rfl (fun e5=>?_) (fun e5=>?_)
 ·have p5:=dZ e5
  refine au<|aO<|aC<|ic [.ix] [(57,.pointer<|some<|(aZ al'7).add (k*1))] (o1<|bH 1 k dL rfl (by omega)) ?_
  obtain⟨x10,hx10⟩: ∃x,((bf kc<|(dq et kb kk now).1))[k]? =some x:=⟨_,dA<|by omega⟩
  refine fy [.rd [i_ x10]] [(0,p_ sb),(4,p_ b1),(6,kU et kb kk now),(7,mT et kb kk now),(9,p_ m2.eb),(10,p_ b5),(53,vS al'7 (bf kc<|(dq et kb kk now).1) cl'8),(uK kc et kb kk now),(55,c_ k),(13,i_ x10)] (o1<|ro ((aZ al'7).add (k*1))<|dY (vs:=[i_ x10]) dL (cV (i:=1) rfl) hx10 (Nat.le_of_ble_eq_true rfl) rfl)<|aC<|bA 5 [.ld 2] [(62,.map<|some my),(63,i_ x10)] ?_
  obtain⟨m11,hk11,hEO11⟩:=Jr hL hBk ‹_›
  refine aG<|cC (some 64) _ (kF (kt:=3) (et:=167) (k:=x10) (fun ww ss=>nO<|ss.mem (i:=0) rfl) hk11 rfl rfl rfl (by kernel_rfl) eE rfl)<|ak [(14,p_ m11.eb)]<|aE<|tL 0 rfl hk11 rfl ?_
  refine bL [10] 11 ?_
  refine vA 1 [.ld 1,.ld 10] (rg 0 10) [(0,p_ sb),(4,p_ b1),(6,kU et kb kk now),(7,mT et kb kk now),(9,p_ m2.eb),(10,p_ b5),(53,vS al'7 (bf kc<|(dq et kb kk now).1) cl'8),(uK kc et kb kk now),(55,c_ k),(14,p_ m11.eb),(72,u_<|wU<|m11.tot+(wU<|pp4.qn)),(74,q_ m11.eb 15)] ?_
  refine an 10 rfl (dN 1 [u_<|wU<|m11.tot+(wU<|pp4.qn)] rfl ?_)
  refine cD ?_
  refine dj ?_
  refine aE<|bL [12] 13 ?_
  refine FX 1 [.ld 1,.ld 1,.cq<|.agg (gu<|mF m11.sh<|wU<|m11.tot+(wU<|pp4.qn)).toArray] (rg 0 12) [(0,p_ sb),(4,p_ b1),(6,kU et kb kk now),(7,mT et kb kk now),(9,p_ m2.eb),(10,p_ b5),(53,vS al'7 (bf kc<|(dq et kb kk now).1) cl'8),(uK kc et kb kk now),(55,c_ k),(14,p_ m11.eb),(84,.agg (gu<|mF m11.sh<|wU<|m11.tot+(wU<|pp4.qn)).toArray),(86,q_ m11.eb 38)] (o1<|qw<|VF m11.sh<|wU<|m11.tot+(wU<|pp4.qn)) ?_
  refine an 12 rfl (dN 1 (gu<|mF m11.sh<|wU<|m11.tot+(wU<|pp4.qn)) rfl ?_)
  refine cD ?_
  refine dj ?_
  refine bL [12] 13 ?_
  refine FX 1 [.ld 1,.ld 1,.cq<|.agg (gh<|jL m11.li<|wU<|m11.tot+(wU<|pp4.qn)).toArray] (rg 0 12) [(0,p_ sb),(4,p_ b1),(6,kU et kb kk now),(7,mT et kb kk now),(9,p_ m2.eb),(10,p_ b5),(53,vS al'7 (bf kc<|(dq et kb kk now).1) cl'8),(uK kc et kb kk now),(55,c_ k),(96,.agg (gh<|jL m11.li<|wU<|m11.tot+(wU<|pp4.qn)).toArray),(98,q_ m11.eb 49)] (o1<|qw<|EE m11.li<|wU<|m11.tot+(wU<|pp4.qn)) ?_
  refine an 12 rfl (dN 1 (gh<|jL m11.li<|wU<|m11.tot+(wU<|pp4.qn)) rfl ?_)
  refine cD ?_
  refine dj ?_
  refine tM (m':=({m11 with tot:=wU<|m11.tot+(wU<|pp4.qn),sh:=(mF m11.sh<|wU<|m11.tot+(wU<|pp4.qn)),li:=(jL m11.li<|wU<|m11.tot+(wU<|pp4.qn))}:En)) [0,0] rfl hk11 ⟨rfl,rfl,rfl⟩ rfl rfl ?_
  have hk12:=jS kbk x10 ({m11 with tot:=IntKind.u64.wrap<|m11.tot+(IntKind.u64.wrap<|pp4.qn),sh:=(mF m11.sh<|IntKind.u64.wrap<|m11.tot+(IntKind.u64.wrap<|pp4.qn)),li:=(jL m11.li<|IntKind.u64.wrap<|m11.tot+(IntKind.u64.wrap<|pp4.qn))}:En)
  refine aM<|fy [.w<|(k:Int)+1] [(0,p_ sb),(4,p_ b1),(6,kU et kb kk now),(7,mT et kb kk now),(9,p_ m2.eb),(10,p_ b5),(53,vS al'7 (bf kc<|(dq et kb kk now).1) cl'8),(uK kc et kb kk now),(55,i_<|(k:Int)+1)] (o1<|wj ((k:Int)+1)<|by omega)<|bC (k+1,aK kbk x10 ({m11 with tot:=wU<|m11.tot+(wU<|pp4.qn),sh:=(mF m11.sh<|wU<|m11.tot+(wU<|pp4.qn)),li:=(jL m11.li<|wU<|m11.tot+(wU<|pp4.qn))}:En)) ⟨(by omega),((OI ‹_› ‹_›).trans hU),(by apply t7 hBk<;>first|assumption|rfl),(by apply Qo hX<;>first|assumption|rfl)⟩ (by(show(bf kc (dq et kb kk now).1).length-(k+1)<(bf kc (dq et kb kk now).1).length-k;omega)) ?_
  exact bB [0,0,0,0,0,0,0,0,0,0]
 have p5:=ga e5
 refine bR<|aE ?_
 obtain⟨m13,hk13,he13,hqb13,hqq13,hec13⟩:=hX
 refine aW 9 (p_ m13.eb) (congrArg (fun z_=>some<|p_ z_) he13.symm) ?_
 have hEO13:=(hBk _).2 _ hk13
 refine aM<|bA 5 [.ld 9] [(100,p_ sb),(101,p_ m13.eb),(103,i_ pp4.qn),(104,mT et kb kk now)]<|aG<|bM (some 105) [2,2,2,0,1,1,1] (WM sb lt lm bt mc kc my kbk a on ka tl et ek mk kk now ac ((dq et kb kk now).1) m13 pp4.qn ((dq et kb kk now).2.1) hk13 ‹_› ‹_› ‹_›) ?_
 rintro⟨kb'14,et'15,ek'16⟩ hz6
 refine dP<|aE<|aE ?_
 have hB3:=Tm hBk hk13 ‹_›
 obtain⟨m17,hk17,he17,hqb17,hqq17,hec17⟩:=WN hk13 ‹_›
 refine aW 9 (p_ m17.eb) (congrArg (fun z_=>some<|p_ z_) he17.symm) ?_
 have hEO17:=(hB3 _).2 _ hk17
 refine aM<|az [.rd [qp m17.qb],.cq<|i_ ((qC m17.q).length:Int)] [(4,p_ b1),(6,kU et kb kk now),(7,mT et kb kk now),(10,p_ b5),(111,b_<|((qC m17.q).length:Int)==0)] (oc (ro ⟨m17.eb,0,none⟩ (vs:=[qp m17.qb])<|fJ (fun w s=>(fZ (s.mem (i:=3) rfl) hk17:)) rfl)<|o1<|qo<|fun w s=>wT my kb'14 ((dq et kb kk now).1) m17 (qp m17.qb) hk17 (by rfl) (by assumption) w<|s.mem (i:=3) rfl)<|aI rfl (fun e7=>?_) (fun e7=>?_)
 ·refine aM<|bA 2 [] [(112,p_ sb),(113,kU et kb kk now)]<|aG<|bM (some 114) [0,0,0,0,0,0,0] (Qn sb lt lm bt mc kc my kb'14 a on ka tl et'15 ek'16 mk kk now ac ((dq et kb kk now).1) ‹_› ‹_› ‹_› ‹_›) ?_
  rintro⟨kb'18,on'19,ka'20,kk'21⟩ hz8
  refine dP<|aC<|bA 2 [] [(115,p_ sb),(116,kU et kb kk now)]<|aG<|bM (some 117) [0,0,0,0,0,1] (xx sb lt lm bt mc kc my kb'18 a on'19 ka'20 tl.be mk kk'21 now ac ((dq et kb kk now).1) ‹_› (Tn ‹_›) (To hK ‹_›)) ?_
  rintro kk'22 hz9
  refine dP<|aC<|bU [.ld 9,.st 8] [(5,b_ true)] [(8,aA b1 [kU et kb kk now,u_ pp4.qi,i_ pp4.qn,w_ pp4.qa,w_ pp4.qb,w_ pp4.qc,w_ pp4.qd,mT et kb kk now] 235)]<|aF<|cN [0,0,0,0,0,1,0] [.agg #[kU et kb kk now,u_ pp4.qi,i_ pp4.qn,w_ pp4.qa,w_ pp4.qb,w_ pp4.qc,w_ pp4.qd,mT et kb kk now],b_ true] (fun _ w r s=>⟨dU 8 r s,dM r rfl,trivial⟩) ((⟨(dq et kb kk now).1,pp4.qi,pp4.qn,pp4.qa,pp4.qb,pp4.qc,pp4.qd,(dq et kb kk now).2.1⟩:Pd),true,kb'18,on'19,ka'20,et'15,ek'16,kk'22) ?_ ?_<|by kernel_rfl
  ·rfl
  exact .inr ⟨(by(simp_all;done)),rfl,rfl,rfl,_,_,by assumption,by assumption,_,_,_,_,(by rw[←hU,List.drop_eq_nil_of_le<|by omega]<;>rfl),by assumption,by assumption,by assumption,by assumption,by assumption,(by exact .inr ⟨(by(simp_all[uZ];done)),by assumption⟩),by assumption⟩
 refine aP<|aC<|bA 2 [] [(115,p_ sb),(116,kU et kb kk now)]<|aG<|bM (some 117) [0,0,0,0,0,1] (xx sb lt lm bt mc kc my kb'14 a on ka tl.be mk kk now ac ((dq et kb kk now).1) ‹_› ‹_› ‹_›) ?_
 rintro kk'23 hz10
 refine dP<|aC<|bU [.ld 9,.st 8] [(5,b_ true)] [(8,aA b1 [kU et kb kk now,u_ pp4.qi,i_ pp4.qn,w_ pp4.qa,w_ pp4.qb,w_ pp4.qc,w_ pp4.qd,mT et kb kk now] 235)]<|aF<|cN [0,0,0,0,0,1,0] [.agg #[kU et kb kk now,u_ pp4.qi,i_ pp4.qn,w_ pp4.qa,w_ pp4.qb,w_ pp4.qc,w_ pp4.qd,mT et kb kk now],b_ true] (fun _ w r s=>⟨dU 8 r s,dM r rfl,trivial⟩) ((⟨(dq et kb kk now).1,pp4.qi,pp4.qn,pp4.qa,pp4.qb,pp4.qc,pp4.qd,(dq et kb kk now).2.1⟩:Pd),true,kb'14,on,ka,et'15,ek'16,kk'23) ?_ ?_<|by kernel_rfl
 ·rfl
 exact .inr ⟨(by(simp_all;done)),rfl,rfl,rfl,_,_,by assumption,by assumption,_,_,_,_,(by rw[←hU,List.drop_eq_nil_of_le<|by omega]<;>rfl),by assumption,by assumption,by assumption,by assumption,by assumption,(by exact .inl ⟨(by(simp_all[uZ];done)),rfl,rfl,rfl,rfl⟩),by assumption⟩
def LZ(lm ac:Int)(kb:List (Int×En))(ci:Int)(p:Pk)(m:En):Prop:=aB kb ci=some m∧m.ec.hl=true∧1≤p.qn∧p.qn≤lm∧IntKind.u64.wrap (ac+IntKind.u64.wrap p.qn)≤1099511627776∧AH m.q p
def putE(lm ac:Int)(kb:List (Int×En))(ci:Int)(p:Pk):Int:=
 match aB kb ci with
 |none=>23
 |some m=>if m.ec.hl=false then 29 else if p.qn<1∨lm<p.qn then 26 else if 1099511627776<IntKind.u64.wrap (ac+IntKind.u64.wrap p.qn) then 28 else 30
def Lp(kc:List (Int×Cl))(lm now ci:Int)(p:Pk)(er:Int)(kb:List (Int×En))(ym:List (Int×Pl))(on:List (Int×Int))(ka:List (Int×MB))(et:T)(ek:List (Int×It))(kk:List (Int×Vt))(ac:Int)(kb':List (Int×En))(on':List (Int×Int))(ka':List (Int×MB))(et':T)(ek':List (Int×It))(kk':List (Int×Vt))(ac':Int):Prop:=
 (er≠0∧(∀m,¬LZ lm ac kb ci p m)∧ac'=ac∧(kb'=kb∨ ∃m q e,aB kb ci=some m∧mX m.q p q e∧e≠0∧kb'=aK kb ci {m with q:=q})∧on'=on∧ka'=ka∧et'=et∧ek'=ek∧kk'=kk∧er=putE lm ac kb ci p)∨
 (er=0∧ac'=IntKind.u64.wrap (ac+IntKind.u64.wrap p.qn)∧ ∃m q,LZ lm ac kb ci p m∧mX m.q p q 0∧
  (((qC q).length=1∧LW kc now p.qn ci {m with q:=q} (aK kb ci {m with q:=q}) ym on ka et ek kk kb' on' ka' et' ek' kk')∨((qC q).length≠1∧kb'=aK kb ci {m with q:=q}∧on'=on∧ka'=ka∧et'=et∧ek'=ek∧kk'=kk)))
theorem CO{c:Nat}(h:eQ kc kb)(hm:aB kb i=some m)(hc:m.qb=some c)(hq:l0 q):eQ kc (aK kb i {m with q:=q}):=
 zD h hm rfl ⟨((h i).2 m hm).lf,fun e=>(by rw[show m.qb=none from e] at hc;cases hc),fun _=>hq⟩
theorem Be{r:Qu}{p:Pk}{e:Int}(h:mX q p r e):(AH q p↔e=0):=by
 rcases h with⟨-,-,-,⟨h1,h2,-⟩|⟨h1,h2,-⟩⟩
 ·exact⟨fun _=>h2,fun _=>h1⟩
 ·exact⟨fun h=>absurd h h1,fun h=>by omega⟩
theorem KA{r:Qu}{p:Pk}{e:Int}(h:mX q p r e)(he:e=0):mX q p r 0:=he▸h
abbrev D1(p0)(p1:Pk):=(u_ (IntKind.u64.wrap<|p0+(IntKind.u64.wrap<|p1.qn)):Value)
abbrev D2(p0)(p1)(p2)(p3)(p4)(p5:Ac)(p6:Vt)(p7)(p8)(p9)(p10)(p11)(p12)(p13)(p14)(p15)(p16)(p17):=([aA p0 [i_ p1,i_ p2,p_ p3,.map<|some p4,p_ p5.bs,p_ p6.be,.map<|some p7,u_ p8,u_ p9] 141,aA p3 [.map<|some p10] 185,cU p10 p11,df p4 p12,eM p5 p13 p14,eu p6 p15 p16,eD p7 p17]:List V.aH)
theorem WO(sb:Nat)(lt lm:Int)(bt mc:Nat)(kc:bm Cl)(my:Nat)(kb:bm En)(a:Ac)(on:bm Int)(ka:bm MB)(tl:Vt)(et:T)(ek:bm It)(mk:Nat)(kk:bm Vt)(ck ac:Int)(now ci:Int)(p:Pk)(hL:cK kc)(hB:eQ kc kb)(hK:jw kc 600 kk)(hy:a.ym=eZ kc)(hE:d6 et ek)(hl:ek.length≤600)(hlm:lm≤16384)(hk1:ck≤now)(hk2:now≤4611686018427387904)(w:World)(hs:HI w (D2 sb lt lm bt my a tl mk ck ac mc kc kb on ka et ek kk)):
  CT Tryz.prog 76 #[p_ sb,u_ now,i_ ci,.agg (gZ p).toArray] w (D2 sb lt lm bt my a tl mk ck ac mc kc kb on ka et ek kk) (fun((er,kb',on',ka',et',ek',kk',ac'):Int×(bm En)×(bm Int)×(bm MB)×T×(bm It)×(bm Vt)×Int)=>(i_ er)) (fun(er,kb',on',ka',et',ek',kk',ac')=>Lp kc lm now ci p er kb a.ym on ka et ek kk ac kb' on' ka' et' ek' kk' ac') fun(er,kb',on',ka',et',ek',kk',ac')=>(D2 sb lt lm bt my a tl mk now ac' mc kc kb' on' ka' et' ek' kk'):=by
 refine aU Tryz.func76 rfl hs (aC<|dD [.al] [] (fun b1=>[(7,p_ b1)]) (fun b1=>aA b1 (gZ p) 45) ?_)
 intro b1
 refine aE<|aO<|aD [(12,b_ false)]<|bY<|aC<|bA 2 [] [(16,p_ sb),(17,u_ now)]<|aG<|bM (some 18) [0] (Jx sb lt lm bt my a.bs tl.be mk ck ac now ‹_› ‹_›) ?_
 rintro⟨⟩-
 refine ak [(15,b_ false)]<|bY<|aP<|aC<|bA 5 [.ld 0] [(24,.map<|some my),(25,i_ ci)] ?_
 rcases hk2:aB kb ci with _|m2
 ·refine aG<|cC (some 26) (.tuple #[n_,b_ false]) (OA (kt:=3) (et:=167) (enck:=(fun k:Int=>i_ k)) (encv:=(fun m:En=>p_ m.eb)) (b:=my) (kv:=kb) (k:=ci) (fun w s=>nO<|s.mem (i:=3) rfl) hk2 rfl rfl rfl (by kernel_rfl) eE (by kernel_rfl) rfl)<|ak [(9,n_),(10,b_ false)]<|aE<|aO<|aD [(29,b_ true)]<|dX<|aD [(8,i_ 23)]<|aF<|bJ [0,0,0,0,0,0,0] [i_ 23] (23,kb,on,ka,et,ek,kk,ac) ?_ ?_
  ·rfl
  exact .inl ⟨by decide,(fun m_ h_=>by obtain⟨h1_,h2_,h3_,h4_,h5_,h6_⟩:=h_;(simp_all;done)),rfl,.inl rfl,rfl,rfl,rfl,rfl,rfl,(by unfold putE;simp_all<;>omega)⟩
 refine aG<|cC (some 26) (.tuple #[p_ m2.eb,b_ true]) (kF (kt:=3) (et:=167) (k:=ci) (fun w s=>nO<|s.mem (i:=3) rfl) hk2 rfl rfl rfl (by kernel_rfl) eE rfl)<|ak [(9,p_ m2.eb),(10,b_ true)]<|aE<|aO<|aD [(29,b_ false)]<|bY<|bW [.rd [b_ m2.ec.hl]] [(32,b_ (!m2.ec.hl))] (o1<|ro ⟨m2.eb,3,none⟩ (vs:=[b_ m2.ec.hl])<|fJ (fun w s=>(fZ (s.mem (i:=3) rfl) hk2:)) rfl)<|aI rfl (fun e2=>?_) (fun e2=>?_)
 ·refine aD [(8,i_ 29)]<|aF<|bJ [0,0,0,0,0,0,0] [i_ 29] (29,kb,on,ka,et,ek,kk,ac) ?_ ?_
  ·rfl
  exact .inl ⟨by decide,(fun m_ h_=>by obtain⟨h1_,h2_,h3_,h4_,h5_,h6_⟩:=h_;(simp_all;done)),rfl,.inl rfl,rfl,rfl,rfl,rfl,rfl,(by unfold putE;simp_all<;>omega)⟩
 refine aE<|Ai [.ld 7,.o,.ld 7,.ld 0,.cl] (rg 0 14) [] [(39,b_<|(decide (p.qn<1))||(decide (p.qn>lm)))] T0 trivial<|aI rfl (fun e3=>?_) (fun e3=>?_)
 ·refine aD [(8,i_ 26)]<|aF<|bJ [0,0,0,0,0,0,0] [i_ 26] (26,kb,on,ka,et,ek,kk,ac) ?_ ?_
  ·rfl
  exact .inl ⟨by decide,(fun m_ h_=>by obtain⟨h1_,h2_,h3_,h4_,h5_,h6_⟩:=h_;(simp_all;omega)),rfl,.inl rfl,rfl,rfl,rfl,rfl,rfl,(by unfold putE;simp_all<;>omega)⟩
 have p3:=e3;try simp only[bQ] at p3
 refine aE<|Ai [.ld 0,.ld 7] (rg 0 10) [] [(53,b_<|decide ((IntKind.u64.wrap<|ac+(IntKind.u64.wrap<|p.qn))>1099511627776))] T0 trivial<|aI rfl (fun e4=>?_) (fun e4=>?_)
 ·have p4:=dZ e4
  refine aD [(8,i_ 28)]<|aF<|bJ [0,0,0,0,0,0,0] [i_ 28] (28,kb,on,ka,et,ek,kk,ac) ?_ ?_
  ·rfl
  exact .inl ⟨by decide,(fun m_ h_=>by obtain⟨h1_,h2_,h3_,h4_,h5_,h6_⟩:=h_;(simp_all;omega)),rfl,.inl rfl,rfl,rfl,rfl,rfl,rfl,(by unfold putE;simp_all<;>omega)⟩
 have p4:=ga e4
 refine aP<|aE<|aE ?_
 have hEO:=(hB _).2 _ hk2
 obtain⟨cq,hcq⟩:=Option.isSome_iff_exists.1<|hEO.lf.1<|by(simp_all;done)
 refine bL [5] 7<|cO 2 [.rd [qp m2.qb],.ld 7] (rg 0 5) [(66,qp m2.qb),(67,.agg (gZ p).toArray)] (o1<|ro ⟨m2.eb,0,none⟩ (vs:=[qp m2.qb])<|fJ (fun w s=>(fZ (s.mem (i:=3) rfl) hk2:)) rfl)<|an 5 rfl (bM (some 68) [3] (Ta my kb ci m2 (qp m2.qb) cq p hk2 ‹_› (by rfl) ‹_› (by omega)) ?_)
 rintro⟨q'3,er4⟩ hz5
 refine cD<|cL 0 [] [6] [(11,i_ er4)]<|dj<|aD [(70,b_<|er4 !=0)]<|aI rfl (fun e6=>?_) (fun e6=>?_)
 ·have p6:=e6;try simp only[bQ] at p6
  refine aD [(8,i_ er4)]<|aF<|bJ [1,1,1,0,0,0,0] [i_ er4] (er4,aK kb ci {m2 with q:=q'3},on,ka,et,ek,kk,ac) ?_ ?_
  ·rfl
  exact .inl ⟨by assumption,(fun m_ h_=>by obtain⟨h1_,h2_,h3_,h4_,h5_,h6_⟩:=h_;have h7_:=Be (by assumption:mX _ _ _ _);simp_all),rfl,.inr ⟨_,_,_,by assumption,by assumption,by assumption,rfl⟩,rfl,rfl,rfl,rfl,rfl,(by have h7_:er4=30:=(by rcases(by assumption:mX _ _ _ _) with⟨-,-,-,⟨-,h_,-⟩|⟨-,h_,-⟩⟩;exact absurd h_ (by assumption);exact h_);rw[h7_];unfold putE;simp_all<;>omega)⟩
 have p6:=e6;try simp only[bQ] at p6
 refine au<|bL [10] 11<|cL 1 [.ld 1,.ld 7] (rg 0 10) [(79,D1 ac p),(81,q_ sb 8)]<|an 10 rfl (pF 1 (vs:=[D1 ac p]) [df my<|aK kb ci {m2 with q:=q'3},aA sb [i_ lt,i_ lm,p_ bt,.map<|some my,p_ a.bs,p_ tl.be,.map<|some mk,u_ now,D1 ac p] 141,aA bt [.map<|some mc] 185,cU mc kc,eM a on ka,eu tl et ek,eD mk kk,aA b1 (gZ p) 45] (by kernel_rfl) rfl rfl rfl rfl (by kernel_rfl) rfl rfl (by kernel_rfl) rfl (cb<|aE<|aE ?_))
 have hB1:eQ kc (aK kb ci {m2 with q:=q'3}):=CO hB hk2 hcq (by assumption:mX _ _ _ _).1
 obtain⟨mx,hmx⟩: ∃m_:En,m_=({m2 with q:=q'3}:En):=⟨_,rfl⟩
 have hkx:aB (aK kb ci {m2 with q:=q'3}) ci=some mx:=hmx▸jS _ _ _
 have hEX:=(hB1 _).2 _ hkx
 refine aW 9 (p_ mx.eb) (congrArg (fun z_=>some<|p_ z_)<|by rw[hmx])<|aM<|az [.rd [qp mx.qb],.cq<|i_ ((qC mx.q).length:Int)] [(87,b_<|((qC mx.q).length:Int)==1)] (oc (ro ⟨mx.eb,0,none⟩ (vs:=[qp mx.qb])<|fJ (fun w s=>(fZ (s.mem (i:=0) rfl) hkx:)) rfl)<|o1<|qo<|fun w s=>wT my (aK kb ci {m2 with q:=q'3}) ci mx (qp mx.qb) hkx (by rfl) ‹_› w (s.mem (i:=0) rfl))<|aI rfl (fun e7=>?_) (fun e7=>?_)
 ·have p7:=e7
  refine aM<|bA 5 [.ld 7] [(88,p_ sb),(89,u_ now),(90,p_ mx.eb),(92,i_ p.qn)]<|aG<|bM (some 93) [1,1,1,0,0,0,0] (Qk sb lt lm bt mc kc my (aK kb ci {m2 with q:=q'3}) a on ka tl et ek mk kk now (wU<|ac+(wU<|p.qn)) now ci mx p.qn hkx ‹_› ‹_› ‹_› ‹_› ‹_› ‹_›) ?_
  rintro⟨kb'5,on'6,ka'7,et'8,ek'9,kk'10⟩ hz8
  refine dP<|aD [(8,i_ 0)]<|aF<|bJ [0,0,0,0,0,0,0] [i_ 0] (0,kb'5,on'6,ka'7,et'8,ek'9,kk'10,wU<|ac+(wU<|p.qn)) ?_ ?_
  ·rfl
  (subst hmx;exact .inr ⟨rfl,rfl,_,_,⟨by assumption,by(simp_all;done),by(simp_all;done),by(simp_all;done),by(simp_all;done),(Be (by assumption:mX _ _ _ _)).2 (by(simp_all;done))⟩,KA ‹_› ‹_›,.inl ⟨by(simp_all;omega),by assumption⟩⟩)
 refine aP<|aD [(8,i_ 0)]<|aF<|bJ [1,1,1,0,0,0,0] [i_ 0] (0,aK kb ci {m2 with q:=q'3},on,ka,et,ek,kk,wU<|ac+(wU<|p.qn)) ?_ ?_
 ·rfl
 (subst hmx;exact .inr ⟨rfl,rfl,_,_,⟨by assumption,by(simp_all;done),by(simp_all;done),by(simp_all;done),by(simp_all;done),(Be (by assumption:mX _ _ _ _)).2 (by(simp_all;done))⟩,KA ‹_› ‹_›,.inr ⟨by(simp_all;omega),rfl,rfl,rfl,rfl,rfl,rfl⟩⟩)
end Go.Proofs.YtobgjpigngoggaaGreat
