/- The functions of the scheduler, layer by layer, proved operation by operation for all arguments, under the conditions that each theorem states: part 3. -/
import Derived.Test.YtobgjpigngoggaaGreatProg
import Derived.Shelf.SlMaps.Clone
import Derived.Ground.SlmcProg
import Derived.Laws.BitsAllLaws
import Derived.Sort.LotA
import Derived.Sort.LotB
import Derived.Sort.LotC
import Derived.Sort.LotD1
import Derived.Sort.LotD3
import Derived.Sort.LotD4
import Derived.Test.YtobgjpigngoggaaGreatJ2
set_option linter.unusedVariables false
set_option linter.unusedSimpArgs false
set_option maxHeartbeats 4000000
set_option maxRecDepth 100000
namespace Go.Proofs.YtobgjpigngoggaaGreat
open Go V
variable{t:T}
theorem ry(h:t.Sm):t.Bd:=by unfold T.Sm T.Bd at*;omega
variable{x:It}{r:T}
theorem H9{b:Nat}{l:T}(hl:l.Sm)(hr:r.Sm):(mk b x l r).Bd:=by
 have e1:(mk b x l r).hgt=1+max l.hgt r.hgt:=rfl
 have e2:(mk b x l r).cnt=1+l.cnt+r.cnt:=rfl
 unfold T.Sm T.Bd at*;omega
theorem jx(h:t.Right)(hc:t.cnt≤1000):t.Sm:=by have:=h.pos;unfold T.Sm;omega
abbrev Pv(p0)(p1:It)(p2)(p3)(p4:It)(p5)(p6):=(cw p0 [u_ p1.ka,i_ p1.ki,u_ p1.va,i_ p1.vi,p_ p2,.pointer<|T.ptr p3,u_ p4.ka,i_ p4.ki,u_ p4.va,i_ p4.vi,i_ p5,i_ p6] 361:V.dB)
abbrev Px(p0)(p1)(p2)(p3)(p4)(p5)(p6):=([dU 361<|T.node p0 p1 (eB p1 p2<|T.node p3 p4 (eB p4 p5 p6) (eK p5 p6) (eO p5 p6) p5 p6) (eK p2<|T.node p3 p4 (eB p4 p5 p6) (eK p5 p6) (eO p5 p6) p5 p6) (eO p2<|T.node p3 p4 (eB p4 p5 p6) (eK p5 p6) (eO p5 p6) p5 p6) p2<|T.node p3 p4 (eB p4 p5 p6) (eK p5 p6) (eO p5 p6) p5 p6]:List V.dB)
abbrev BJ(p0)(p1)(p2)(p3):=(dU 361 (T.node p0 p1 (eB p1 p2 p3) (eK p2 p3) (eO p2 p3) p2 p3):V.dB)
abbrev Py(p0)(p1:It)(p2)(p3)(p4:It)(p5)(p6):=(cw p0 [u_ p1.ka,i_ p1.ki,u_ p1.va,i_ p1.vi,.pointer<|T.ptr p2,.pointer<|T.ptr p3,u_ p4.ka,i_ p4.ki,u_ p4.va,i_ p4.vi,i_ p5,i_ p6] 361:V.dB)
theorem yq(b:Nat)(x m:It)(h n:Int)(by_:Nat)(y my:It)(hy ny:Int)(p q s:T)(hp:p.Sm)(hq:q.Sm)(hs_:s.Sm):
  CS 280 #[p_ b,i_ 0] [Pv b x by_ s m h n,dU 361<|T.node by_ y my hy ny p q,dU 361 s] (fun(zt:T)=>(.pointer<|T.ptr zt)) (fun zt=>zt=mk by_ y p (mk b x q s)) fun zt=>[dU 361 zt]:=by
 intro w hs
 refine A.C Tryz.func280 rfl hs (A.c<|A.g [.p] [] []<|A.c<|A.gl [.p,.p,.p,.p,.p,.ld 0,.p] [] [(5,p_ by_)] [b]<|A.d<|A.r0 [1] [cw by_ [u_ y.ka,i_ y.ki,u_ y.va,i_ y.vi,.pointer<|T.ptr p,.pointer<|T.ptr q,u_ my.ka,i_ my.ki,u_ my.va,i_ my.vi,i_ hy,i_ ny] 361,dU 361 p,dU 361 q] rfl (fun w hs=>nT hs) (A.O [12] 13<|A.pT 1 [.p,.p,.p,.p,.p,.p,.p,.p,.ld 0,.p,.p,.p] (rg 0 12) [(0,p_ b),(1,i_ 0),(5,p_ by_),(20,.pointer<|T.ptr q),(23,q_ b 4)] [by_]<|A.F 12 rfl (A.sT 3 [.pointer<|T.ptr q] rfl (A.E<|A.M<|A.c<|A.gT [.p,.p,.p,.p,.p,.p,.p,.st 0] [(0,p_ b),(5,p_ by_)] [(0,cw by_ [u_ y.ka,i_ y.ki,u_ y.va,i_ y.vi,.pointer<|T.ptr p,p_ b,u_ my.ka,i_ my.ki,u_ my.va,i_ my.vi,i_ hy,i_ ny] 361)] [by_]<|A.c<|A.N [.p] [0] [(31,p_ b)]<|A.j<|A.I (some 32) [3,2,2] (fun w ss hh=>ri b x m h n q s (ry ‹_›) (ry ‹_›) w hh) ?_))))
 rintro⟨⟩-
 refine A.aB<|A.c<|A.N [.p] [31,32] [(33,p_ by_)]<|A.r0 [0,0,0] [BJ b x q s] rfl (fun w hs=>lZ hs) (A.j<|A.I (some 34) [1,1,0] (fun w ss h=>ri by_ y my hy ny p (T.node b x (eB x q s) (eK q s) (eO q s) q s) (ry ‹_›) (H9 ‹_› ‹_›) w h) ?_)
 rintro⟨⟩-
 refine A.aB<|A.c<|A.h [.p,.p] [(4,p_ by_)] []<|A.e<|A.r0 [0,0,0] (Px by_ y p b x q s) rfl (fun w hs=>lZ hs) (A.Y [0] [p_ by_] ((T.node by_ y (eB y p<|T.node b x (eB x q s) (eK q s) (eO q s) q s) (eK p<|T.node b x (eB x q s) (eK q s) (eO q s) q s) (eO p<|T.node b x (eB x q s) (eK q s) (eO q s) q s) p<|T.node b x (eB x q s) (eK q s) (eO q s) q s)) ?_ ?_)
 ·rfl
 rfl
abbrev Pz(p0)(p1:It)(p2)(p3)(p4:It)(p5)(p6):=(cw p0 [u_ p1.ka,i_ p1.ki,u_ p1.va,i_ p1.vi,.pointer<|T.ptr p2,p_ p3,u_ p4.ka,i_ p4.ki,u_ p4.va,i_ p4.vi,i_ p5,i_ p6] 361:V.dB)
abbrev QA(p0)(p1)(p2)(p3)(p4)(p5)(p6):=([dU 361<|T.node p0 p1 (eB p1 (T.node p2 p3 (eB p3 p4 p5) (eK p4 p5) (eO p4 p5) p4 p5) p6) (eK (T.node p2 p3 (eB p3 p4 p5) (eK p4 p5) (eO p4 p5) p4 p5) p6) (eO (T.node p2 p3 (eB p3 p4 p5) (eK p4 p5) (eO p4 p5) p4 p5) p6) (T.node p2 p3 (eB p3 p4 p5) (eK p4 p5) (eO p4 p5) p4 p5) p6]:List V.dB)
theorem yr(b:Nat)(x m:It)(h n:Int)(by_:Nat)(y my:It)(hy ny:Int)(p q s:T)(hp:p.Sm)(hq:q.Sm)(hs_:s.Sm):
  CS 280 #[p_ b,i_ 1] [Pz b x s by_ m h n,dU 361 s,dU 361<|T.node by_ y my hy ny p q] (fun(zt:T)=>(.pointer<|T.ptr zt)) (fun zt=>zt=mk by_ y (mk b x s p) q) fun zt=>[dU 361 zt]:=by
 intro w hs
 refine A.C Tryz.func280 rfl hs (A.c<|A.g [.p] [] []<|A.c<|A.gl [.p,.p,.p,.p,.p,.ld 0,.p] [] [(5,p_ by_)] [b]<|A.d<|A.r0 [2] [cw by_ [u_ y.ka,i_ y.ki,u_ y.va,i_ y.vi,.pointer<|T.ptr p,.pointer<|T.ptr q,u_ my.ka,i_ my.ki,u_ my.va,i_ my.vi,i_ hy,i_ ny] 361,dU 361 p,dU 361 q] rfl (fun w hs=>nT hs) (A.O [12] 13<|A.pT 1 [.p,.p,.p,.p,.p,.p,.p,.p,.ld 0,.p,.p,.p] (rg 0 12) [(0,p_ b),(1,i_ 1),(5,p_ by_),(20,.pointer<|T.ptr p),(23,q_ b 5)] [by_]<|A.F 12 rfl (A.sT 3 [.pointer<|T.ptr p] rfl (A.E<|A.M<|A.c<|A.gT [.p,.p,.p,.p,.p,.p,.p,.st 0] [(0,p_ b),(5,p_ by_)] [(0,cw by_ [u_ y.ka,i_ y.ki,u_ y.va,i_ y.vi,p_ b,.pointer<|T.ptr q,u_ my.ka,i_ my.ki,u_ my.va,i_ my.vi,i_ hy,i_ ny] 361)] [by_]<|A.c<|A.N [.p] [0] [(31,p_ b)]<|A.j<|A.I (some 32) [3,3,1] (fun w ss hh=>ri b x m h n s p (ry ‹_›) (ry ‹_›) w hh) ?_))))
 rintro⟨⟩-
 refine A.aB<|A.c<|A.N [.p] [31,32] [(33,p_ by_)]<|A.r0 [0,0,0] [BJ b x s p] rfl (fun w hs=>lZ hs) (A.j<|A.I (some 34) [1,0,0] (fun w ss h=>ri by_ y my hy ny (T.node b x (eB x s p) (eK s p) (eO s p) s p) q (H9 ‹_› ‹_›) (ry ‹_›) w h) ?_)
 rintro⟨⟩-
 refine A.aB<|A.c<|A.h [.p,.p] [(4,p_ by_)] []<|A.e<|A.r0 [0,0,0] (QA by_ y b x s p q) rfl (fun w hs=>lZ hs) (A.Y [0] [p_ by_] ((T.node by_ y (eB y (T.node b x (eB x s p) (eK s p) (eO s p) s p) q) (eK (T.node b x (eB x s p) (eK s p) (eO s p) s p) q) (eO (T.node b x (eB x s p) (eK s p) (eO s p) s p) q) (T.node b x (eB x s p) (eK s p) (eO s p) s p) q)) ?_ ?_)
 ·rfl
 rfl
theorem tw(b:Nat)(x m:It)(h n:Int)(l r:T)(hl:l.Right)(hr:r.Right)(hlc:l.cnt≤900)(hrc:r.cnt≤900):
  CS 265 #[p_ b] [Py b x l r m h n,dU 361 l,dU 361 r] (fun(zt:T)=>(.pointer<|T.ptr zt)) (fun zt=>zt=iz b x l r) fun zt=>[dU 361 zt]:=by
 intro w hs
 have hl1:=hl.pos;have hr1:=hr.pos
 refine A.C Tryz.func265 rfl hs (A.c<|A.g [.p] [] []<|A.c<|A.N [.p] [] [(5,p_ b)]<|A.j<|A.I (some 6) [0,0,0] (fun w s hh=>ri b x m h n l r (y6 ‹_› (by omega)) (y6 ‹_› (by omega)) w hh) ?_)
 rintro⟨⟩-
 refine A.aB<|A.d<|A.c<|A.gl [.p,.p,.p,.ld 0,.p] [5,6] [(10,.agg #[.pointer<|T.ptr l,.pointer<|T.ptr r]),(11,i_ 0)] [b]<|A.y<|A.aV 400<|A.aC (m:=399)<|A.c<|A.g [.p] [] [(12,b_ true)]<|A.d<|A.ct<|A.p<|A.d<|A.y<|A.c<|A.g (ps 4) [12] [(3,i_ 0),(4,.pointer<|T.ptr l)]<|A.d<|A.d<|A.ka [.p,.cq<|i_<|T.hgt l,.p,.p,.p,.p,.p,.p,.ld 0,.cq<|i_<|T.hgt r,.w<|(T.hgt r)+1,.p] (rg 0 12) [] [(26,b_<|decide ((T.hgt l)≤((T.hgt r)+1)))] [b] (oc (qo<|fun w s=>nS l w<|s.mem (i:=1) rfl)<|oc (qo<|fun w s=>nS r w<|s.mem (i:=2) rfl)<|o1<|wj ((T.hgt r)+1)<|by omega)<|A.v rfl (fun e2=>?_) (fun e2=>?_)
 ·have p2:=of_decide_eq_true e2
  refine A.aA<|A.s<|A.g [.p,.p] [3,4,26] [(11,i_ 1)]<|A.aC (m:=398)<|A.c<|A.g [.p] [] [(12,b_ true)]<|A.d<|A.ct<|A.p<|A.d<|A.y<|A.c<|A.g (ps 4) [12] [(3,i_ 1),(4,.pointer<|T.ptr r)]<|A.d<|A.d<|A.ka [.p,.cq<|i_<|T.hgt r,.p,.p,.p,.p,.p,.p,.ld 0,.cq<|i_<|T.hgt l,.w<|(T.hgt l)+1,.p] (rg 0 12) [] [(26,b_<|decide ((T.hgt r)≤((T.hgt l)+1)))] [b] (oc (qo<|fun w s=>nS r w<|s.mem (i:=2) rfl)<|oc (qo<|fun w s=>nS l w<|s.mem (i:=1) rfl)<|o1<|wj ((T.hgt l)+1)<|by omega)<|A.v rfl (fun e3=>?_) (fun e3=>?_)
  ·have p3:=of_decide_eq_true e3
   refine A.aA<|A.s<|A.g [.p,.p] [3,4,26] [(11,i_ 2)]<|A.aC (m:=397)<|A.c<|A.g [.p] [] [(12,b_ false)]<|A.d<|A.cf<|A.aA<|A.c<|A.g [.p,.p] [0,10,11,12] [(2,p_ b)]<|A.e<|A.r0 [0,0,0] [BJ b x l r] rfl (fun w hs=>lZ hs) (A.Y [0] [p_ b] ((T.node b x (eB x l r) (eK l r) (eO l r) l r)) ?_ ?_)
   ·rfl
   (exact(JG (by omega)<|by omega).symm)
  have p3:=of_decide_eq_false e3
  refine A.p<|A.d<|A.d ?_
  rcases r with _|⟨b1,x2,m3,h4,n5,l6,r7⟩
  ·exfalso
   simp only[jb,wS] at*;omega
  obtain⟨hr_m,hr_h,hr_n,hr_l,hr_r⟩:=id hr
  have hr_1:=T.Right.pos hr_l;have hr_2:=T.Right.pos hr_r;simp only[im,oQ,eK,eO] at*
  refine A.r0 [2] [cw b1 [u_ x2.ka,i_ x2.ki,u_ x2.va,i_ x2.vi,.pointer<|T.ptr l6,.pointer<|T.ptr r7,u_ m3.ka,i_ m3.ki,u_ m3.va,i_ m3.vi,i_ h4,i_ n5] 361,dU 361 l6,dU 361 r7] rfl (fun w hs=>nT hs) (A.aZ [.p,.p,.p,.p,.p,.p,.ld 0,.cq<|i_<|T.hgt l6,.p,.p,.p,.p,.p,.ld 0,.cq<|i_<|T.hgt r7,.p] [0,1,2,3,4,5,6,7,8,9,10,11,12,13,14,15] [(0,p_ b),(3,i_ 1),(4,p_ b1),(42,b_<|decide ((T.hgt l6)>(T.hgt r7)))] [b1,b1] (fun κ=>κ.call 266 [.pointer<|T.ptr l6] (i_<|T.hgt l6)∧κ.call 266 [.pointer<|T.ptr r7] (i_<|T.hgt r7)∧True) (by kernel_rfl) (by kernel_rfl) ⟨(fun w s=>nS l6 w<|s.mem (i:=1) rfl),(fun w s=>nS r7 w<|s.mem (i:=2) rfl),trivial⟩<|A.v rfl (fun e4=>?_) (fun e4=>?_))
  ·have p4:=of_decide_eq_true e4
   rcases l6 with _|⟨b8,x9,m10,h11,n12,l13,r14⟩
   ·exfalso
    simp only[jb,wS] at*;omega
   obtain⟨hr_l_m,hr_l_h,hr_l_n,hr_l_l,hr_l_r⟩:=id hr_l
   have hr_l_1:=T.Right.pos hr_l_l;have hr_l_2:=T.Right.pos hr_l_r;simp only[im,oQ,eK,eO] at*
   refine A.O [5,9] 10<|A.dT 3 (ps 7) [0,1,2,3,4,6,7] [4,42] [(44,i_ 1),(45,p_ b1),(47,i_ 0),(50,q_ b 4)] []<|A.F 5 rfl (A.I (some 48) [0,0,0] (fun w s h=>yq b1 x2 m3 h4 n5 b8 x9 m10 h11 n12 l13 r14 r7 (jx ‹_› (by omega)) (jx ‹_› (by omega)) (jx ‹_› (by omega)) w h) ?_)
   rintro zt15 hz5
   subst hz5
   refine A.E<|A.dT 1 [.p] [8] [44,45,47,50] [(48,p_ b8),(51,q_ b 5)] []<|A.F 9 rfl (A.sT 1 [p_ b8] rfl (A.E<|A.M<|A.c<|A.hp [.p,.p] [(52,p_ b),(53,i_ 1)] []<|A.j<|A.I (some 54) [1,1,0] (fun w s h=>yr b x (eB x l<|T.node b1 x2 m3 h4 n5 (T.node b8 x9 m10 h11 n12 l13 r14) r7) (eK l<|T.node b1 x2 m3 h4 n5 (T.node b8 x9 m10 h11 n12 l13 r14) r7) (eO l<|T.node b1 x2 m3 h4 n5 (T.node b8 x9 m10 h11 n12 l13 r14) r7) b8 x9 (eB x9 l13<|T.node b1 x2 (eB x2 r14 r7) (eK r14 r7) (eO r14 r7) r14 r7) (eK l13<|T.node b1 x2 (eB x2 r14 r7) (eK r14 r7) (eO r14 r7) r14 r7) (eO l13<|T.node b1 x2 (eB x2 r14 r7) (eK r14 r7) (eO r14 r7) r14 r7) l13 (T.node b1 x2 (eB x2 r14 r7) (eK r14 r7) (eO r14 r7) r14 r7) l (jx ‹_› (by omega)) (by exact jx (lM ‹_› ‹_›) (by simp only[oQ,mk,eO];omega)) (jx ‹_› (by omega)) w h) ?_))
   rintro zt16 hz6
   refine A.g [.p] [52,53,54] [(2,.pointer<|T.ptr zt16)]<|A.e<|A.Y [0] [.pointer<|T.ptr zt16] (zt16) ?_ ?_
   ·rfl
   (rw[Hi (by(simp only[im,jb];omega)) (by(simp only[im,jb];omega))<|by(simp only[im,jb];omega)];assumption)
  have p4:=of_decide_eq_false e4
  refine A.p<|A.c<|A.N [.p,.p] [0,3,4,42] [(52,p_ b),(53,i_ 1)]<|A.r0 [0,0,0] [dU 361<|T.node b1 x2 m3 h4 n5 l6 r7] rfl (fun w hs=>lZ hs) (A.j<|A.I (some 54) [1,1,0] (fun w s h=>yr b x (eB x l<|T.node b1 x2 m3 h4 n5 l6 r7) (eK l<|T.node b1 x2 m3 h4 n5 l6 r7) (eO l<|T.node b1 x2 m3 h4 n5 l6 r7) b1 x2 m3 h4 n5 l6 r7 l (jx ‹_› (by omega)) (jx ‹_› (by omega)) (jx ‹_› (by omega)) w h) ?_)
  rintro zt17 hz7
  refine A.h [.p] [(2,.pointer<|T.ptr zt17)] []<|A.e<|A.Y [0] [.pointer<|T.ptr zt17] (zt17) ?_ ?_
  ·rfl
  (rw[Hh (by(simp only[im,jb];omega)) (by(simp only[im,jb];omega))<|by omega];assumption)
 have p2:=of_decide_eq_false e2
 refine A.p<|A.d<|A.d ?_
 rcases l with _|⟨b18,x19,m20,h21,n22,l23,r24⟩
 ·exfalso
  simp only[jb,wS] at*;omega
 obtain⟨hl_m,hl_h,hl_n,hl_l,hl_r⟩:=id hl
 have hl_1:=T.Right.pos hl_l;have hl_2:=T.Right.pos hl_r;simp only[im,oQ,eK,eO] at*
 refine A.r0 [1] [cw b18 [u_ x19.ka,i_ x19.ki,u_ x19.va,i_ x19.vi,.pointer<|T.ptr l23,.pointer<|T.ptr r24,u_ m20.ka,i_ m20.ki,u_ m20.va,i_ m20.vi,i_ h21,i_ n22] 361,dU 361 l23,dU 361 r24] rfl (fun w hs=>nT hs) (A.aZ [.p,.p,.p,.p,.p,.p,.ld 0,.cq<|i_<|T.hgt r24,.p,.p,.p,.p,.p,.ld 0,.cq<|i_<|T.hgt l23,.p] [0,1,2,3,4,5,6,7,8,9,10,11,12,13,14,15] [(0,p_ b),(3,i_ 0),(4,p_ b18),(42,b_<|decide ((T.hgt r24)>(T.hgt l23)))] [b18,b18] (fun κ=>κ.call 266 [.pointer<|T.ptr r24] (i_<|T.hgt r24)∧κ.call 266 [.pointer<|T.ptr l23] (i_<|T.hgt l23)∧True) (by kernel_rfl) (by kernel_rfl) ⟨(fun w s=>nS r24 w<|s.mem (i:=2) rfl),(fun w s=>nS l23 w<|s.mem (i:=1) rfl),trivial⟩<|A.v rfl (fun e8=>?_) (fun e8=>?_))
 ·have p8:=of_decide_eq_true e8
  rcases r24 with _|⟨b25,x26,m27,h28,n29,l30,r31⟩
  ·exfalso
   simp only[jb,wS] at*;omega
  obtain⟨hl_r_m,hl_r_h,hl_r_n,hl_r_l,hl_r_r⟩:=id hl_r
  have hl_r_1:=T.Right.pos hl_r_l;have hl_r_2:=T.Right.pos hl_r_r;simp only[im,oQ,eK,eO] at*
  refine A.O [5,9] 10<|A.dT 3 (ps 7) [0,1,2,3,4,6,7] [4,42] [(44,i_ 0),(45,p_ b18),(47,i_ 1),(50,q_ b 4)] []<|A.F 5 rfl (A.I (some 48) [0,0,0] (fun w s h=>yr b18 x19 m20 h21 n22 b25 x26 m27 h28 n29 l30 r31 l23 (jx ‹_› (by omega)) (jx ‹_› (by omega)) (jx ‹_› (by omega)) w h) ?_)
  rintro zt32 hz9
  subst hz9
  refine A.E<|A.dT 1 [.p] [8] [44,45,47,50] [(48,p_ b25),(51,q_ b 4)] []<|A.F 9 rfl (A.sT 1 [p_ b25] rfl (A.E<|A.M<|A.c<|A.hp [.p,.p] [(52,p_ b),(53,i_ 0)] []<|A.j<|A.I (some 54) [1,0,0] (fun w s h=>yq b x (eB x (T.node b18 x19 m20 h21 n22 l23<|T.node b25 x26 m27 h28 n29 l30 r31) r) (eK (T.node b18 x19 m20 h21 n22 l23<|T.node b25 x26 m27 h28 n29 l30 r31) r) (eO (T.node b18 x19 m20 h21 n22 l23<|T.node b25 x26 m27 h28 n29 l30 r31) r) b25 x26 (eB x26 (T.node b18 x19 (eB x19 l23 l30) (eK l23 l30) (eO l23 l30) l23 l30) r31) (eK (T.node b18 x19 (eB x19 l23 l30) (eK l23 l30) (eO l23 l30) l23 l30) r31) (eO (T.node b18 x19 (eB x19 l23 l30) (eK l23 l30) (eO l23 l30) l23 l30) r31) (T.node b18 x19 (eB x19 l23 l30) (eK l23 l30) (eO l23 l30) l23 l30) r31 r (by exact jx (lM ‹_› ‹_›) (by simp only[oQ,mk,eO];omega)) (jx ‹_› (by omega)) (jx ‹_› (by omega)) w h) ?_))
  rintro zt33 hz10
  refine A.g [.p] [52,53,54] [(2,.pointer<|T.ptr zt33)]<|A.e<|A.Y [0] [.pointer<|T.ptr zt33] (zt33) ?_ ?_
  ·rfl
  (rw[Hg (by(simp only[im,jb];omega))<|by(simp only[im,jb];omega)];assumption)
 have p8:=of_decide_eq_false e8
 refine A.p<|A.c<|A.N [.p,.p] [0,3,4,42] [(52,p_ b),(53,i_ 0)]<|A.r0 [0,0,0] [dU 361<|T.node b18 x19 m20 h21 n22 l23 r24] rfl (fun w hs=>lZ hs) (A.j<|A.I (some 54) [1,0,0] (fun w s h=>yq b x (eB x (T.node b18 x19 m20 h21 n22 l23 r24) r) (eK (T.node b18 x19 m20 h21 n22 l23 r24) r) (eO (T.node b18 x19 m20 h21 n22 l23 r24) r) b18 x19 m20 h21 n22 l23 r24 r (jx ‹_› (by omega)) (jx ‹_› (by omega)) (jx ‹_› (by omega)) w h) ?_)
 rintro zt34 hz11
 refine A.h [.p] [(2,.pointer<|T.ptr zt34)] []<|A.e<|A.Y [0] [.pointer<|T.ptr zt34] (zt34) ?_ ?_
 ·rfl
 (rw[He (by(simp only[im,jb];omega))<|by omega];assumption)
def kl(a b:It):Prop:=ei a.ka a.ki b.ka b.ki
instance(a b:It):Decidable (kl a b):=by unfold kl;infer_instance
variable{a b:It}
theorem FC{c:It}(h:kl a b)(k:kl b c):kl a c:=by unfold kl ei at*;omega
theorem Hj: ¬kl a a:=by unfold kl ei;omega
theorem wT(h:kl a b): ¬kl b a:=by unfold kl ei at*;omega
theorem QD(h: ¬kl a b)(k: ¬kl b a):a.ka=b.ka∧a.ki=b.ki:=by unfold kl ei at*;omega
def fa(l:List It):Prop:=l.Pairwise kl
def gw(x:It):List It→List It
 |[]=>[x]
 |y::l=>if kl x y then x::y::l else y::gw x l
theorem uK(x:It): ∀l,(gw x l).length=l.length+1
 |[]=>rfl
 |y::l=>by unfold gw;split<;>simp[uK x l]
variable{y:It}
theorem EZ(h:kl x y)(R:List It): ∀L,gw x (L++y::R)=gw x L++y::R
 |[]=>by simp[gw,h]
 |z::L=>by simp only[List.cons_append,gw];split<;>simp[EZ h R L]
theorem EA(h:kl y x)(R:List It): ∀L,fa (L++y::R)→gw x (L++y::R)=L++y::gw x R
 |[],_=>by simp[gw,wT h]
 |z::L,hs=>by
  have hs':=List.pairwise_cons.1 hs
  have hz:kl z y:=hs'.1 y<|by simp
  have hn: ¬kl x z:=wT<|FC hz h
  simp only[List.cons_append,gw,if_neg hn]
  rw[EA h R L hs'.2]
theorem zX{z:It}: ∀{l:List It},z∈gw x l↔z=x∨z∈l
 |[]=>by simp[gw]
 |y::l=>by
  unfold gw;split
  ·simp
  ·simp only[List.mem_cons,zX (l:=l)];grind
theorem FD: ∀{l:List It},fa l→(∀y∈l,¬(y.ka=x.ka∧y.ki=x.ki))→fa (gw x l)
 |[],_,_=>by simp[gw,fa]
 |y::l,hs,hn=>by
  have hs':=List.pairwise_cons.1 hs
  unfold gw;split
  ·rename_i h
   refine List.pairwise_cons.2 ⟨fun z hz=>?_,hs⟩
   rcases List.mem_cons.1 hz with rfl|hz
   ·exact h
   ·exact FC h<|hs'.1 z hz
  ·rename_i h
   refine List.pairwise_cons.2 ⟨fun z hz=>?_,FD hs'.2 fun z hz=>hn z<|by simp[hz]⟩
   rcases zX.1 hz with rfl|hz
   ·by_cases hk:kl y z
    ·exact hk
    ·exact absurd (QD hk h)<|hn y<|by simp
   ·exact hs'.1 z hz
def gf(a i:Int)(l:List It):List It:=l.filter fun y=> !decide (y.ka=a∧y.ki=i)
variable{a i:Int}{l:List It}
theorem MM(h:fa l):fa (gf a i l):=List.Pairwise.filter _ h
theorem vU(h: ∀y∈l,¬(y.ka=a∧y.ki=i)):gf a i l=l:=by
 unfold gf;rw[List.filter_eq_self];intro y hy;simp only[Bool.not_eq_true',decide_eq_false_iff_not];exact h y hy
variable{L R:List It}
theorem kE(h:fa (L++x::R)):fa L∧fa R∧(∀y∈L,kl y x)∧(∀y∈R,kl x y)∧(∀y∈L,∀z∈R,kl y z):=by
 obtain⟨h1,h2,h3⟩:=List.pairwise_append.1 h
 obtain⟨h4,h5⟩:=List.pairwise_cons.1 h2
 exact⟨h1,h5,fun y hy=>h3 y hy x<|by simp,h4,fun y hy z hz=>h3 y hy z<|by simp[hz]⟩
theorem AG(h:fa (L++x::R)):gf x.ka x.ki (L++x::R)=L++R:=by
 obtain⟨_,_,h3,h4,_⟩:=kE h
 have hL: ∀y∈L,¬(y.ka=x.ka∧y.ki=x.ki):=fun y hy e=>by have:=h3 y hy;unfold kl ei at this;omega
 have hR: ∀y∈R,¬(y.ka=x.ka∧y.ki=x.ki):=fun y hy e=>by have:=h4 y hy;unfold kl ei at this;omega
 have e1:=vU hL;have e2:=vU hR
 unfold gf at*
 rw[List.filter_append,List.filter_cons,e1,e2];simp
theorem LR(h:fa (L++x::R))(hk:ei a i x.ka x.ki):gf a i (L++x::R)=gf a i L++x::R:=by
 obtain⟨_,_,h3,h4,_⟩:=kE h
 have hR: ∀y∈x::R,¬(y.ka=a∧y.ki=i):=fun y hy e=>by
  rcases List.mem_cons.1 hy with rfl|hy
  ·unfold ei at hk;omega
  ·have:=h4 y hy;unfold kl ei at*;omega
 have e1:=vU hR
 unfold gf at*
 rw[List.filter_append,e1]
theorem Ks(h:fa (L++x::R))(hk:ei x.ka x.ki a i):gf a i (L++x::R)=L++x::gf a i R:=by
 obtain⟨_,_,h3,h4,_⟩:=kE h
 have hL: ∀y∈L,¬(y.ka=a∧y.ki=i):=fun y hy e=>by have:=h3 y hy;unfold kl ei at*;omega
 have hx: ¬(x.ka=a∧x.ki=i):=fun e=>by unfold ei at hk;omega
 have e1:=vU hL
 unfold gf at*
 rw[List.filter_append,e1,List.filter_cons,if_pos (by simp only[Bool.not_eq_true',decide_eq_false_iff_not];exact hx)]
def T.Bal:T→Prop
 | .nil=>True
 | .node _ _ _ _ _ l r=>l.hgt≤r.hgt+1∧r.hgt≤l.hgt+1∧l.Bal∧r.Bal
variable{b:Nat}{l:T}
theorem px:(mk b x l r).hgt=1+max l.hgt r.hgt:=rfl
theorem xQ:(mk b x l r).toL=l.toL++x::r.toL:=rfl
theorem mS(h1:l.hgt≤r.hgt+1)(h2:r.hgt≤l.hgt+1)(h3:l.Bal)(h4:r.Bal):(mk b x l r).Bal:=⟨h1,h2,h3,h4⟩
theorem wU(hl:l.Right)(hr:r.Right)(bl:l.Bal)(br:r.Bal)(h1:l.hgt≤r.hgt+2)(h2:r.hgt≤l.hgt+2):
  (iz b x l r).Right∧(iz b x l r).Bal∧(iz b x l r).toL=l.toL++x::r.toL∧max l.hgt r.hgt≤(iz b x l r).hgt∧(iz b x l r).hgt≤1+max l.hgt r.hgt∧(l.hgt≤r.hgt+1→r.hgt≤l.hgt+1→(iz b x l r).hgt=1+max l.hgt r.hgt):=by
 by_cases c1:l.hgt≤r.hgt+1
 ·by_cases c2:r.hgt≤l.hgt+1
  ·rw[JG c1 c2]
   exact⟨lM hl hr,mS c1 c2 bl br,rfl,by rw[px];omega,by rw[px];omega,fun _ _=>rfl⟩
  ·cases r with
   |nil=>have:=hl.pos;simp only[jb] at*;omega
   |node br' y my hy ny p q=>
    obtain⟨em,eh,en,hp,hq⟩:=hr
    obtain⟨b1,b2,bp,bq⟩:=br
    by_cases c3:p.hgt>q.hgt
    ·cases p with
     |nil=>have:=hq.pos;simp only[jb] at*;omega
     |node bz z mz hz nz a c=>
      rw[Hi c1 c2 c3]
      obtain⟨em2,eh2,en2,ha,hc⟩:=hp
      obtain⟨b3,b4,ba,bc⟩:=bp
      simp only[im,eK] at*
      refine⟨lM (lM hl ha)<|lM hc hq,mS ?_ ?_ (mS ?_ ?_ bl ba)<|mS ?_ ?_ bc bq,?_,?_,?_,?_⟩
      all_goals(try simp only[px,xQ,T.toL,List.append_assoc,List.cons_append])<;>(try omega)
    ·rw[Hh c1 c2 c3]
     simp only[im,eK] at*
     refine⟨lM (lM hl hp) hq,mS ?_ ?_ (mS ?_ ?_ bl bp) bq,?_,?_,?_,?_⟩
     all_goals(try simp only[px,xQ,T.toL,List.append_assoc,List.cons_append])<;>(try omega)
 ·cases l with
  |nil=>have:=hr.pos;simp only[jb] at*;omega
  |node bl' y my hy ny p q=>
   obtain⟨em,eh,en,hp,hq⟩:=hl
   obtain⟨b1,b2,bp,bq⟩:=bl
   by_cases c3:q.hgt>p.hgt
   ·cases q with
    |nil=>have:=hp.pos;simp only[jb] at*;omega
    |node bz z mz hz nz a c=>
     rw[Hg c1 c3]
     obtain⟨em2,eh2,en2,ha,hc⟩:=hq
     obtain⟨b3,b4,ba,bc⟩:=bq
     simp only[im,eK] at*
     refine⟨lM (lM hp ha)<|lM hc hr,mS ?_ ?_ (mS ?_ ?_ bp ba)<|mS ?_ ?_ bc br,?_,?_,?_,?_⟩
     all_goals(try simp only[px,xQ,T.toL,List.append_assoc,List.cons_append])<;>(try omega)
   ·rw[He c1 c3]
    simp only[im,eK] at*
    refine⟨lM hp<|lM hq hr,mS ?_ ?_ bp<|mS ?_ ?_ bq br,?_,?_,?_,?_⟩
    all_goals(try simp only[px,xQ,T.toL,List.append_assoc,List.cons_append])<;>(try omega)
structure i4(t z:T)(l:List It)(lo hi:Int):Prop where
 right:z.Right
 bal:z.Bal
 list:z.toL=l
 lo:t.hgt+lo≤z.hgt
 hi:z.hgt≤t.hgt+hi
variable{m it:It}{h n:Int}{z:T}
theorem TS(ht:(T.node b x m h n l r).Right)(hb:(T.node b x m h n l r).Bal)(c:i4 l z (gw it l.toL) 0 1)(hk:kl it x):i4 (.node b x m h n l r) (iz b x z r) (gw it (T.node b x m h n l r).toL) 0 1:=by
 obtain⟨em,eh,en,hl,hr⟩:=ht
 obtain⟨b1,b2,bl,br⟩:=hb
 have c4:=c.lo;have c5:=c.hi
 obtain⟨k1,k2,k3,k4,k5,k6⟩:=wU (b:=b) (x:=x) c.right hr c.bal br (by omega)<|by omega
 refine⟨k1,k2,by rw[k3,c.list,T.toL,EZ hk],?_,?_⟩<;>rw[im,eh,eK]
 ·by_cases d1:z.hgt≤r.hgt+1
  ·have:=k6 d1 (by omega);omega
  ·omega
 ·by_cases d1:z.hgt≤r.hgt+1
  ·have:=k6 d1 (by omega);omega
  ·omega
theorem TT(ht:(T.node b x m h n l r).Right)(hb:(T.node b x m h n l r).Bal)(hs:fa (T.node b x m h n l r).toL)(c:i4 r z (gw it r.toL) 0 1)(hk:kl x it):i4 (.node b x m h n l r) (iz b x l z) (gw it (T.node b x m h n l r).toL) 0 1:=by
 obtain⟨em,eh,en,hl,hr⟩:=ht
 obtain⟨b1,b2,bl,br⟩:=hb
 have c4:=c.lo;have c5:=c.hi
 obtain⟨k1,k2,k3,k4,k5,k6⟩:=wU (b:=b) (x:=x) hl c.right bl c.bal (by omega)<|by omega
 refine⟨k1,k2,by rw[k3,c.list,T.toL,EA hk _ _ hs],?_,?_⟩<;>rw[im,eh,eK]
 ·by_cases d1:z.hgt≤l.hgt+1
  ·have:=k6 (by omega) d1;omega
  ·omega
 ·by_cases d1:z.hgt≤l.hgt+1
  ·have:=k6 (by omega) d1;omega
  ·omega
variable{lst:List It}
theorem GP{b':Nat}(ht:(T.node b x m h n l r).Right)(hb:(T.node b x m h n l r).Bal)(c:i4 r z lst (-1) 0):i4 (.node b x m h n l r) (iz b' y l z) (l.toL++y::lst) (-1) 0:=by
 obtain⟨em,eh,en,hl,hr⟩:=ht
 obtain⟨b1,b2,bl,br⟩:=hb
 have c4:=c.lo;have c5:=c.hi
 obtain⟨k1,k2,k3,k4,k5,k6⟩:=wU (b:=b') (x:=y) hl c.right bl c.bal (by omega)<|by omega
 refine⟨k1,k2,by rw[k3,c.list],?_,?_⟩<;>rw[im,eh,eK]
 ·by_cases d1:l.hgt≤z.hgt+1
  ·have:=k6 d1 (by omega);omega
  ·omega
 ·by_cases d1:l.hgt≤z.hgt+1
  ·have:=k6 d1 (by omega);omega
  ·omega
theorem MN{b':Nat}(ht:(T.node b x m h n l r).Right)(hb:(T.node b x m h n l r).Bal)(c:i4 l z lst (-1) 0):i4 (.node b x m h n l r) (iz b' y z r) (lst++y::r.toL) (-1) 0:=by
 obtain⟨em,eh,en,hl,hr⟩:=ht
 obtain⟨b1,b2,bl,br⟩:=hb
 have c4:=c.lo;have c5:=c.hi
 obtain⟨k1,k2,k3,k4,k5,k6⟩:=wU (b:=b') (x:=y) c.right hr c.bal br (by omega)<|by omega
 refine⟨k1,k2,by rw[k3,c.list],?_,?_⟩<;>rw[im,eh,eK]
 ·by_cases d1:r.hgt≤z.hgt+1
  ·have:=k6 (by omega) d1;omega
  ·omega
 ·by_cases d1:r.hgt≤z.hgt+1
  ·have:=k6 (by omega) d1;omega
  ·omega
theorem MO:i4 .nil (mk b it .nil .nil) (gw it T.nil.toL) 0 1:=⟨lM EY EY,mS (by decide) (by decide) trivial trivial,rfl,by simp[px,jb],by simp[px,jb]⟩
def T.findT(a i:Int):T→T
 | .nil=> .nil
 | .node b x m h n l r=>if x.ka=a∧x.ki=i then .node b x m h n l r else if ei x.ka x.ki a i then T.findT a i r else T.findT a i l
theorem Dl{TN:TypeId}{w:World}: ∀{t:T},(dU TN t).holds w→(dU TN<|t.findT a i).holds w
 | .nil,_=>trivial
 | .node b x m h n l r,h1=>by
   unfold T.findT
   split
   ·exact h1
   ·split
    ·exact Dl (t:=r) h1.2.2
    ·exact Dl (t:=l) h1.2.1
theorem vV: ∀{t:T},fa t.toL→t.findT a i= .nil→ ∀y∈t.toL,¬(y.ka=a∧y.ki=i)
 | .nil,_,_=>by simp[T.toL]
 | .node b x m h n l r,hs,hf=>by
   obtain⟨h1,h2,h3,h4,h5⟩:=kE (L:=l.toL) (R:=r.toL) hs
   unfold T.findT at hf
   split at hf
   ·cases hf
   ·rename_i hx
    split at hf
    ·rename_i hl
     have ih:=vV h2 hf
     intro y hy
     simp only[T.toL,List.mem_append,List.mem_cons] at hy
     rcases hy with hy|rfl|hy
     ·intro e;have:=h3 y hy;unfold kl ei at*;omega
     ·exact hx
     ·exact ih y hy
    ·rename_i hl
     have ih:=vV h1 hf
     intro y hy
     simp only[T.toL,List.mem_append,List.mem_cons] at hy
     rcases hy with hy|rfl|hy
     ·exact ih y hy
     ·exact hx
     ·intro e;have:=h4 y hy;unfold kl ei at*;omega
theorem pS: ∀{t:T}{b:Nat}{x m:It}{h n:Int}{l r:T},t.findT a i= .node b x m h n l r→(x.ka=a∧x.ki=i)∧x∈t.toL
 | .nil,_,_,_,_,_,_,_,hf=>by cases hf
 | .node b' x' m' h' n' l' r',b,x,m,h,n,l,r,hf=>by
   unfold T.findT at hf
   split at hf
   ·rename_i hx;cases hf;exact⟨hx,by simp[T.toL]⟩
   ·split at hf
    ·have:=pS hf;exact⟨this.1,by simp[T.toL,this.2]⟩
    ·have:=pS hf;exact⟨this.1,by simp[T.toL,this.2]⟩
def T.hasB(at_:Int):T→Bool
 | .nil=>false
 | .node _ _ m .. =>decide (m.va≤at_)
theorem LS(h:fa (y::L)):gf y.ka y.ki (y::L)=L:=by simpa using AG (L:=[]) h
theorem vp(L:List It):(gf a i L).length≤L.length:=List.length_filter_le _ _
theorem MP(h:L.head?=some y):y∈L:=List.mem_of_mem_head? h
theorem OD(hR:(T.node b x m h n l .nil).Right)(hB:(T.node b x m h n l .nil).Bal):i4 (.node b x m h n l .nil) l (l.toL++T.nil.toL) (-1) 0:=by
 obtain⟨em,eh,en,hl,hr⟩:=hR
 have:=hl.pos
 refine⟨hl,hB.2.2.1,by simp[T.toL],?_,?_⟩<;>rw[im,eh,eK,jb]<;>omega
theorem OE(hR:(T.node b x m h n l r).Right)(hB:(T.node b x m h n l r).Bal)(hS:fa r.toL)(hy:r.toL.head?=some y)(c:i4 r z (gf y.ka y.ki r.toL) (-1) 0):
  i4 (.node b x m h n l r) (iz b y l z) (l.toL++r.toL) (-1) 0:=by
 have h1:=GP (b':=b) (y:=y) hR hB c
 obtain⟨L,hL⟩: ∃L,r.toL=y::L:=by cases hr:r.toL with|nil=>rw[hr] at hy;cases hy|cons z L=>rw[hr] at hy;simp at hy;subst hy;exact⟨L,rfl⟩
 rw[hL,LS<|hL▸hS] at h1
 rw[hL];exact h1
section
variable{b:Nat}{x m:It}{h n:Int}{l r z:T}{a i:Int}
theorem MQ(hS:fa (T.node b x m h n l r).toL)(hk:x.ka=a∧x.ki=i):gf a i (T.node b x m h n l r).toL=l.toL++r.toL:=by
 obtain⟨rfl,rfl⟩:=hk;exact AG hS
theorem TU(hS:fa (T.node b x m h n l r).toL)(hM: ∃y∈(T.node b x m h n l r).toL,y.ka=a∧y.ki=i)(hc:ei x.ka x.ki a i): ∃y∈r.toL,y.ka=a∧y.ki=i:=by
 obtain⟨y,hy,e1,e2⟩:=hM
 obtain⟨_,_,h3,_,_⟩:=kE (L:=l.toL) (R:=r.toL) hS
 simp only[T.toL,List.mem_append,List.mem_cons] at hy
 rcases hy with hy|rfl|hy
 ·have:=h3 y hy;unfold kl ei at*;omega
 ·unfold ei at hc;omega
 ·exact⟨y,hy,e1,e2⟩
theorem GQ(hc: ¬ei x.ka x.ki a i)(hn: ¬(x.ka=a∧x.ki=i)):ei a i x.ka x.ki:=by unfold ei at*;omega
theorem TV(hS:fa (T.node b x m h n l r).toL)(hM: ∃y∈(T.node b x m h n l r).toL,y.ka=a∧y.ki=i)(hc: ¬ei x.ka x.ki a i)(hn: ¬(x.ka=a∧x.ki=i)): ∃y∈l.toL,y.ka=a∧y.ki=i:=by
 obtain⟨y,hy,e1,e2⟩:=hM
 obtain⟨_,_,_,h4,_⟩:=kE (L:=l.toL) (R:=r.toL) hS
 have hk:=GQ hc hn
 simp only[T.toL,List.mem_append,List.mem_cons] at hy
 rcases hy with hy|rfl|hy
 ·exact⟨y,hy,e1,e2⟩
 ·unfold ei at hk;omega
 ·have:=h4 y hy;unfold kl ei at*;omega
theorem TW(hR:(T.node b x m h n l r).Right)(hB:(T.node b x m h n l r).Bal)(hS:fa (T.node b x m h n l r).toL)(c:i4 r z (gf a i r.toL) (-1) 0)(hc:ei x.ka x.ki a i):i4 (.node b x m h n l r) (iz b x l z) (gf a i (T.node b x m h n l r).toL) (-1) 0:=by
 have:=GP (b':=b) (y:=x) hR hB c
 rw[T.toL,Ks hS hc];exact this
theorem TX(hR:(T.node b x m h n l r).Right)(hB:(T.node b x m h n l r).Bal)(hS:fa (T.node b x m h n l r).toL)(c:i4 l z (gf a i l.toL) (-1) 0)(hn: ¬(x.ka=a∧x.ki=i))(hc: ¬ei x.ka x.ki a i):i4 (.node b x m h n l r) (iz b x z r) (gf a i (T.node b x m h n l r).toL) (-1) 0:=by
 have:=MN (b':=b) (y:=x) hR hB c
 rw[T.toL,LR hS<|GQ hc hn];exact this
end
theorem MR(hS:fa L)(hx:x∈L)(hy:y∈L)(h:x.ka=y.ka∧x.ki=y.ki):x=y:=by
 induction L with
 |nil=>simp at hx
 |cons z L ih=>
  obtain⟨h1,h2⟩:=List.pairwise_cons.1 hS
  rcases List.mem_cons.1 hx with e|hx'<;>rcases List.mem_cons.1 hy with e'|hy'
  ·rw[e,e']
  ·have:=h1 y hy';rw[e] at h;unfold kl ei at this;omega
  ·have:=h1 x hx';rw[e'] at h;unfold kl ei at this;omega
  ·exact ih h2 hx' hy'
theorem VH(hS:fa t.toL)(hy:y∈t.toL)(hf:t.findT y.ka y.ki= .node b x m h n l r):x=y:=
 MR hS (pS hf).2 hy (pS hf).1
def bt(a b:It):Prop:=ei b.va b.vi a.va a.vi∨(b.va=a.va∧b.vi=a.vi)∧ei b.ka b.ki a.ka a.ki
theorem CN{a b:It}(h:bt a b):dO a b=b:=if_pos h
theorem CO{a b:It}(h: ¬bt a b):dO a b=a:=if_neg h
theorem rI(a b:It):(bt a b∧dO a b=b)∨(¬bt a b∧dO a b=a):=by
 by_cases h:bt a b
 ·exact .inl ⟨h,CN h⟩
 ·exact .inr ⟨h,CO h⟩
theorem zY(a b:It):dO a b=dO b a:=by
 rcases rI a b with⟨h1,e1⟩|⟨h1,e1⟩<;>rcases rI b a with⟨h2,e2⟩|⟨h2,e2⟩<;>rw[e1,e2]
 ·unfold bt ei at*;omega
 ·cases a;cases b;simp only[bt,ei,It.mk.injEq] at*;omega
theorem zF(a b c:It):dO (dO a b) c=dO a (dO b c):=by
 rcases rI a b with⟨h1,e1⟩|⟨h1,e1⟩<;>rcases rI b c with⟨h2,e2⟩|⟨h2,e2⟩<;>rw[e1,e2]
 ·exact(CN (by unfold bt ei at*;omega)).symm
 ·exact e1.symm
 ·rw[e1];exact CO (by unfold bt ei at*;omega)
theorem FG(a:It):dO a a=a:=by rcases rI a a with⟨_,e⟩|⟨_,e⟩<;>exact e
def nr(o:Option It)(y:It):Option It:=match o with|none=>some y|some v=>some<|dO v y
def gR(o:Option It)(L:List It):Option It:=L.foldl nr o
theorem EB(a m:It): ∀L:List It,gR none L=some m→gR (some a) L=some (dO a m):=by
 have key: ∀(L:List It)(v:It),∃k,gR (some v) L=some k∧ ∀a,gR (some<|dO a v) L=some (dO a k):=by
  intro L
  induction L with
  |nil=>intro v;exact⟨v,rfl,fun a=>rfl⟩
  |cons y L ih=>
   intro v
   obtain⟨k,h1,h2⟩:=ih<|dO v y
   exact⟨k,h1,fun a=>by show gR (some<|dO (dO a v) y) L=_;rw[zF];exact h2 a⟩
 intro L h
 cases L with
 |nil=>simp[gR] at h
 |cons y L=>
  obtain⟨k,h1,h2⟩:=key L y
  have h3:gR (some y) L=some m:=h
  rw[h1] at h3;simp at h3;subst h3
  exact h2 a
theorem vM(o:Option It)(L M:List It):gR o (L++M)=gR (gR o L) M:=by simp[gR]
theorem vq: ∀{t:T},t.Right→ ∀(b:Nat)(x m:It)(h n:Int)(l r:T),t= .node b x m h n l r→gR none t.toL=some m
 | .nil,_,_,_,_,_,_,_,_,e=>by cases e
 | .node b' x' m' h' n' l' r',⟨em,_,_,hl,hr⟩,b,x,m,h,n,l,r,e=>by
   cases e
   have h1:gR none (l'.toL++[x'])=some (l'.low x'):=by
    rw[vM]
    cases l' with
    |nil=>rfl
    |node lb lx lm lh ln ll lr=>rw[vq hl lb lx lm lh ln ll lr rfl];show some (dO lm x')=some (dO x' lm);rw[zY]
   have h2:gR none (l'.toL++x'::r'.toL)=gR (some<|l'.low x') r'.toL:=by
    rw[←h1,←vM];simp
   rw[T.toL,h2,em,eB]
   cases r' with
   |nil=>rfl
   |node rb rx rm rh rn rl rr=>exact EB _ _ _<|vq hr rb rx rm rh rn rl rr rfl
theorem zG: ∀{L:List It}{m:It},gR none L=some m→m∈L∧ ∀y∈L,m.va≤y.va:=by
 have key: ∀(L:List It)(v m:It),gR (some v) L=some m→m∈v::L∧ ∀y∈v::L,m.va≤y.va:=by
  intro L
  induction L with
  |nil=>intro v m h;simp[gR] at h;subst h;simp
  |cons y L ih=>
   intro v m h
   obtain⟨h1,h2⟩:=ih (dO v y) m h
   have hb:dO v y=v∨dO v y=y:=by rcases rI v y with⟨_,e⟩|⟨_,e⟩<;>simp[e]
   have hle:(dO v y).va≤v.va∧(dO v y).va≤y.va:=by rcases rI v y with⟨h,e⟩|⟨h,e⟩<;>rw[e]<;>unfold bt ei at h<;>omega
   have h3:=h2 _<|List.mem_cons_self ..
   refine⟨?_,fun z hz=>?_⟩
   ·rcases List.mem_cons.1 h1 with rfl|h1
    ·rcases hb with e|e<;>rw[e]<;>simp
    ·simp[h1]
   ·rcases List.mem_cons.1 hz with rfl|hz
    ·omega
    ·rcases List.mem_cons.1 hz with rfl|hz
     ·omega
     ·exact h2 z<|by simp[hz]
 intro L m h
 cases L with
 |nil=>simp[gR] at h
 |cons y L=>exact key L y m h
def eR(n:Int)(L:List It):Option It:=L.find? fun y=>decide (y.va≤n)
theorem uL(hR:t.Right)(n:Int):t.hasB n=true↔ ∃y∈t.toL,y.va≤n:=by
 cases t with
 |nil=>simp[T.hasB,T.toL]
 |node b x m h k l r=>
  have h1:=zG<|vq hR b x m h k l r rfl
  simp only[T.hasB,decide_eq_true_eq]
  exact⟨fun h=>⟨m,h1.1,h⟩,fun⟨y,hy,hn⟩=>Int.le_trans (h1.2 y hy) hn⟩
theorem yv(hR:t.Right)(h:t.hasB n=false):eR n t.toL=none:=by
 unfold eR;rw[List.find?_eq_none]
 intro y hy he
 have:=(uL hR n).2 ⟨y,hy,by simpa using he⟩
 rw[h] at this;cases this
variable{k:Int}
theorem OF(hl:l.Right)(hh:l.hasB n=true):eR n (T.node b x m h k l r).toL=eR n l.toL:=by
 unfold eR;rw[T.toL,List.find?_append]
 obtain⟨y,hy,hn⟩:=(uL hl n).1 hh
 have:(l.toL.find? fun y=>decide (y.va≤n)).isSome:=by rw[List.find?_isSome];exact⟨y,hy,by simpa using hn⟩
 obtain⟨z,hz⟩:=Option.isSome_iff_exists.1 this
 rw[hz];rfl
theorem MS(hl:l.Right)(hh:l.hasB n=false)(hx:x.va≤n):eR n (T.node b x m h k l r).toL=some x:=by
 have:=yv hl hh
 unfold eR at*;rw[T.toL,List.find?_append,this];simp[hx]
theorem OG(hl:l.Right)(hh:l.hasB n=false)(hx: ¬x.va≤n):eR n (T.node b x m h k l r).toL=eR n r.toL:=by
 have:=yv hl hh
 unfold eR at*;rw[T.toL,List.find?_append,this,List.find?_cons_of_neg<|by simpa using hx];rfl
theorem TY(hR:(T.node b x m h k l r).Right)(ht:(T.node b x m h k l r).hasB n=true)(hh:l.hasB n=false)(hx: ¬x.va≤n):r.hasB n=true:=by
 obtain⟨_,_,_,hl,hr⟩:=id hR
 obtain⟨y,hy,hn⟩:=(uL hR n).1 ht
 refine(uL hr n).2 ⟨y,?_,hn⟩
 simp only[T.toL,List.mem_append,List.mem_cons] at hy
 rcases hy with hy|rfl|hy
 ·have:=(uL hl n).2 ⟨y,hy,hn⟩;rw[hh] at this;cases this
 ·exact absurd hn hx
 ·exact hy
def bl(n:Int)(L:List It):List It:=L.filter fun y=>decide (y.ka≤n)
def eS(n:Int)(L:List It):Option It:=gR none<|bl n L
def ob(mt:Bool)(ov:It):Option It:=bif mt then some ov else none
variable{l r:List It}
theorem OH(hS:fa (l++x::r))(hx:x.ka>n):bl n (l++x::r)=bl n l:=by
 obtain⟨_,_,_,h4,_⟩:=kE hS
 unfold bl;rw[List.filter_append,List.filter_cons_of_neg<|by simpa using hx]
 have:r.filter (fun y=>decide (y.ka≤n))=[]:=by
  rw[List.filter_eq_nil_iff];intro y hy;have:=h4 y hy;unfold kl ei at this;simp;omega
 rw[this,List.append_nil]
theorem FH(hS:fa (l++x::r))(hx: ¬x.ka>n):bl n (l++x::r)=l++x::bl n r:=by
 obtain⟨_,_,h3,_,_⟩:=kE hS
 unfold bl;rw[List.filter_append,List.filter_cons_of_pos (by simp;omega)]
 have:l.filter (fun y=>decide (y.ka≤n))=l:=by
  rw[List.filter_eq_self];intro y hy;have:=h3 y hy;unfold kl ei at this;simp;omega
 rw[this]
variable{r:T}
theorem Uc{l:T}(o:Option It)(hS:fa (T.node b x m h k l r).toL)(hx:x.ka>n):gR o (bl n (T.node b x m h k l r).toL)=gR o (bl n l.toL):=by
 rw[T.toL,OH hS hx]
theorem JH(mt:Bool)(ov:It)(hS:fa (T.node b x m h k .nil r).toL)(hx: ¬x.ka>n):gR (ob mt ov) (bl n (T.node b x m h k .nil r).toL)=gR (some<|bif mt then dO ov x else dO x x) (bl n r.toL):=by
 rw[T.toL,FH hS hx]
 cases mt
 ·show gR (nr none x) _=_;simp only[nr,cond_false,FG]
 ·rfl
theorem JI{l:T}{lb:Nat}{lx lm:It}{lh ln:Int}{ll lr:T}(mt:Bool)(ov:It)(hl:l.Right)(el:l= .node lb lx lm lh ln ll lr)(hS:fa (T.node b x m h k l r).toL)(hx: ¬x.ka>n):
  gR (ob mt ov) (bl n (T.node b x m h k l r).toL)=gR (some<|dO (bif mt then dO ov x else dO x x) lm) (bl n r.toL):=by
 rw[T.toL,FH hS hx,vM]
 have h1:=vq hl lb lx lm lh ln ll lr el
 cases mt
 ·show gR (nr (gR none l.toL) x) _=_
  rw[h1];simp only[nr,cond_false,FG,zY]
 ·show gR (nr (gR (some ov) l.toL) x) _=_
  rw[EB ov lm _ h1];simp only[nr,cond_true]
  rw[zF,zY lm x,←zF]
def sG(a i:Int)(l:List It):Int:=match l.findIdx? (fun y=>decide (y.ka=a∧y.ki=i)) with|some k=>(k:Int)|none=> -1
theorem KI(h: ∀y∈l,¬(y.ka=a∧y.ki=i)):sG a i l= -1:=by
 unfold sG;rw[List.findIdx?_eq_none_iff.2 (by intro y hy;simpa using h y hy)]
variable{k:Nat}
theorem VF(hx:l[k]? =some x)(hk:x.ka=a∧x.ki=i)(h: ∀y∈l.take k,¬(y.ka=a∧y.ki=i)):sG a i l=(k:Int):=by
 unfold sG
 obtain⟨hlt,hget⟩:=List.getElem?_eq_some_iff.1 hx
 have:l.findIdx? (fun y=>decide (y.ka=a∧y.ki=i))=some k:=by
  rw[List.findIdx?_eq_some_iff_getElem]
  refine⟨hlt,by rw[hget];simpa using hk,fun j hj=>?_⟩
  have hm:l[j]∈l.take k:=List.mem_iff_getElem.2 ⟨j,by simp;omega,by simp⟩
  simpa using h _ hm
 rw[this]
theorem VE:0≤sG a i l↔ ∃y∈l,y.ka=a∧y.ki=i:=by
 by_cases h: ∃y∈l,y.ka=a∧y.ki=i
 ·refine⟨fun _=>h,fun _=>?_⟩
  unfold sG
  cases hf:l.findIdx? (fun y=>decide (y.ka=a∧y.ki=i)) with
  |some k=>simp
  |none=>
   obtain⟨y,hy,he⟩:=h
   have:=List.findIdx?_eq_none_iff.1 hf y hy
   simp at this;exact absurd he.2<|this he.1
 ·rw[KI<|fun y hy he=>h ⟨y,hy,he⟩]
  exact⟨fun h'=>by omega,fun h'=>absurd h' h⟩
theorem VG{α:Type}{l:List α}{x:α}(hx:l[k]? =some x):l.take (k+1)=l.take k++[x]:=by rw[List.take_add_one,hx];rfl
theorem VI:gf a i (l++[x])=gf a i l++(if x.ka=a∧x.ki=i then[] else[x]):=by
 unfold gf;rw[List.filter_append];by_cases h:x.ka=a∧x.ki=i
 ·rw[List.filter_cons_of_neg<|by simpa using h,if_pos h];rfl
 ·rw[List.filter_cons_of_pos (by simp only[Bool.not_eq_true',decide_eq_false_iff_not];exact h),if_neg h];rfl
theorem VJ{α:Type}{l:List α}{x:α}(hx:l[k]? =some x):l.drop k=x::l.drop (k+1):=by
 obtain⟨hlt,hget⟩:=List.getElem?_eq_some_iff.1 hx
 rw[List.drop_eq_getElem_cons hlt,hget]
theorem KX:eS n (l++[x])=if x.ka≤n then nr (eS n l) x else eS n l:=by
 unfold eS bl;rw[List.filter_append]
 by_cases h:x.ka≤n
 ·rw[List.filter_cons_of_pos<|by simpa using h,vM,if_pos h];rfl
 ·rw[List.filter_cons_of_neg<|by simpa using h,if_neg h];simp
theorem Kt(h:eS n l=some m):m∈l:=(List.mem_filter.1 (zG h).1).1
theorem VK{v:It}{mt:Bool}(hS:fa (l++[x]))(hf:ob mt v=eS n l):eS n (l++[x])=if x.ka≤n∧(mt=false∨ei x.va x.vi v.va v.vi) then some x else ob mt v:=by
 rw[KX,←hf]
 cases mt with
 |false=>simp[ob,nr]
 |true=>
  have hm:v∈l:=Kt (n:=n) (by rw[←hf];rfl)
  obtain⟨_,_,h3,_,_⟩:=kE (L:=l) (R:=[]) hS
  have hk:=h3 v hm
  have:dO v x=if ei x.va x.vi v.va v.vi then x else v:=by
   by_cases h:ei x.va x.vi v.va v.vi
   ·rw[if_pos h];exact CN<|.inl h
   ·rw[if_neg h];refine CO fun hb=>?_
    rcases hb with hb|⟨_,hb⟩
    ·exact h hb
    ·exact wT hk hb
  by_cases h1:x.ka≤n<;>by_cases h2:ei x.va x.vi v.va v.vi<;>simp[h1,h2,ob,nr,this]
def nd:Nat→Nat
 |0=>0
 |1=>1
 |k+2=>nd k+nd (k+1)+1
theorem AH: ∀k,nd k≤nd (k+1)
 |0=>by decide
 |1=>by decide
 |k+2=>by have:=AH k;have:=AH<|k+1;simp only[nd] at*;omega
theorem yM{a:Nat}(h:a≤b):nd a≤nd b:=by
 induction b with
 |zero=>simp at h;subst h;exact Nat.le_refl _
 |succ b ih=>
  rcases Nat.lt_or_ge a (b+1) with h'|h'
  ·exact Nat.le_trans (ih<|by omega)<|AH b
  ·rw[show a=b+1 by omega];exact Nat.le_refl _
theorem JJ: ∀k,nd k+1≤2^k
 |0=>by decide
 |1=>by decide
 |k+2=>by have h1:=JJ k;have h2:=JJ<|k+1;simp only[nd,Nat.pow_succ] at*;omega
theorem wV: ∀{t:T},t.Right→t.Bal→nd t.hgt.toNat≤t.toL.length
 | .nil,_,_=>by simp[T.hgt,nd]
 | .node b x m h n l r,⟨_,eh,_,hl,hr⟩,⟨b1,b2,bl_,br_⟩=>by
   have h1:=wV hl bl_;have h2:=wV hr br_
   have p1:=hl.pos;have p2:=hr.pos
   simp only[T.hgt,T.toL,List.length_append,List.length_cons]
   rw[eh,eK]
   by_cases hc:l.hgt≤r.hgt
   ·by_cases hz:r.hgt.toNat=0
    ·rw[show(1+max l.hgt r.hgt).toNat=1 by omega];simp only[nd];omega
    ·obtain⟨k,hk⟩: ∃k,r.hgt.toNat=k+1:=⟨r.hgt.toNat-1,by omega⟩
     rw[show(1+max l.hgt r.hgt).toNat=k+2 by omega]
     have:=yM (a:=k) (b:=l.hgt.toNat)<|by omega
     rw[hk] at h2;simp only[nd];omega
   ·obtain⟨k,hk⟩: ∃k,l.hgt.toNat=k+1:=⟨l.hgt.toNat-1,by omega⟩
    rw[show(1+max l.hgt r.hgt).toNat=k+2 by omega]
    have:=yM (a:=k) (b:=r.hgt.toNat)<|by omega
    rw[hk] at h1;simp only[nd];omega
theorem xR: ∀{t:T},t.Right→t.toL.length+1≤2^t.hgt.toNat
 | .nil,_=>by simp[T.hgt,T.toL]
 | .node b x m h n l r,⟨_,eh,_,hl,hr⟩=>by
   have h1:=xR hl;have h2:=xR hr
   have p1:=hl.pos;have p2:=hr.pos
   simp only[T.hgt,T.toL,List.length_append,List.length_cons]
   rw[eh,eK,show(1+max l.hgt r.hgt).toNat=max l.hgt.toNat r.hgt.toNat+1 by omega,Nat.pow_succ]
   have:=Nat.pow_le_pow_right (n:=2) (by decide) (show l.hgt.toNat≤max l.hgt.toNat r.hgt.toNat by omega)
   have:=Nat.pow_le_pow_right (n:=2) (by decide) (show r.hgt.toNat≤max l.hgt.toNat r.hgt.toNat by omega)
   omega
structure WF(t:T):Prop where
 right:t.Right
 bal:t.Bal
 srt:fa t.toL
theorem QE:WF .nil:=⟨trivial,trivial,by simp[T.toL,fa]⟩
theorem WF.cnt(h:WF t):t.cnt=t.toL.length:=h.right.pos.2.2
theorem QF(h:WF t)(hN: ∀y∈t.toL,¬(y.ka=it.ka∧y.ki=it.ki))(c:i4 t z (gw it t.toL) 0 1):WF z∧z.toL=gw it t.toL:=⟨⟨c.right,c.bal,by rw[c.list];exact FD h.srt hN⟩,c.list⟩
theorem QG(h:WF t)(c:i4 t z (gf a i t.toL) (-1) 0):WF z∧z.toL=gf a i t.toL:=⟨⟨c.right,c.bal,by rw[c.list];exact MM h.srt⟩,c.list⟩
theorem VN(h:WF t)(hM: ∃y∈t.toL,y.ka=a∧y.ki=i):t.findT a i≠ .nil:=fun e=>by obtain⟨y,hy,he⟩:=hM;exact vV h.srt e y hy he
theorem VO(hM: ¬ ∃y∈t.toL,y.ka=a∧y.ki=i):t.findT a i= .nil:=by
 cases hf:t.findT a i with
 |nil=>rfl
 |node b x m h n l r=>exact absurd ⟨x,(pS hf).2,(pS hf).1⟩ hM
theorem VL(h:WF t)(hl:t.toL.length≤1000):0≤t.hgt∧t.hgt<16∧(nd t.hgt.toNat:Int)≤t.toL.length∧(t.toL.length=0↔t.hgt=0):=by
 have h1:=wV h.right h.bal;have h2:=h.right.pos;have h3:=xR h.right
 refine⟨h2.1,?_,by omega,⟨fun e=>by omega,fun e=>?_⟩⟩
 ·rcases Int.lt_or_le t.hgt 16 with h4|h4
  ·exact h4
  ·have:=yM (a:=16) (b:=t.hgt.toNat)<|by omega
   have h5:nd 16=2583:=by decide
   omega
 ·rw[e] at h3;simp at h3;rw[h3];rfl
theorem VM(h:WF t)(hl:t.toL.length=3):t.hgt=2:=by
 have h1:=wV h.right h.bal;have h2:=h.right.pos;have h3:=xR h.right
 have h4:t.hgt<3:=by
  rcases Int.lt_or_le t.hgt 3 with h4|h4
  ·exact h4
  ·have:=yM (a:=3) (b:=t.hgt.toNat)<|by omega
   have h5:nd 3=4:=by decide
   omega
 have h6: ¬t.hgt≤1:=fun h7=>by
  have:=Nat.pow_le_pow_right (n:=2) (by decide) (show t.hgt.toNat≤1 by omega)
  omega
 omega
abbrev Ha(p0)(p1:It)(p2)(p3)(p4:It)(p5)(p6):=((cw p0 [u_ p1.ka,i_ p1.ki,u_ p1.va,i_ p1.vi,.pointer<|T.ptr p2,.pointer<|T.ptr p3,u_ p4.ka,i_ p4.ki,u_ p4.va,i_ p4.vi,i_ p5,i_ p6] 361):V.dB)
theorem yt(b:Nat)(x m:It)(h n:Int)(l r:T)(a i:Int)(hc:ei x.ka x.ki a i)(w:World)(r0:(Ha b x l r m h n).holds w):
  CW 264 #[p_ b,.agg #[u_ a,i_ i]] w (i_ 1):=by
 refine A.C Tryz.func264 rfl (HS.nil w) (A.c<|A.n1 [.al,.p] [1] (fun b1=>[(3,p_ b1)]) (fun b1=>cw b1 [u_ a,i_ i] 322) ?_)
 intro b1
 refine A.d<|A.d<|A.ka [.ld 0,.p,.p,.p,.p,.rd [u_ x.ka,i_ x.ki],.cq<|i_<|ie a i x.ka x.ki,.p] (rg 0 8) [0,3] [(12,b_<|decide ((ie a i x.ka x.ki)>0))] [b1] (oc (ro ⟨b,0,none⟩ (vs:=[u_ x.ka,i_ x.ki])<|df r0 rfl)<|o1<|qo<|fun w s=>vL a i x.ka x.ki w)<|A.v rfl (fun e1=>?_) (fun e1=>?_)
 ·have p1:=of_decide_eq_true e1
  refine A.c<|A.g [.p] [12] [(4,i_ 1)]<|A.e<|A.W [i_ 1] ?_
  rfl
 exact absurd e1<|by simpa using(GO ..).2 hc
theorem yu(b:Nat)(x m:It)(h n:Int)(l r:T)(a i:Int)(hc: ¬ei x.ka x.ki a i)(w:World)(r0:(Ha b x l r m h n).holds w):
  CW 264 #[p_ b,.agg #[u_ a,i_ i]] w (i_ 0):=by
 refine A.C Tryz.func264 rfl (HS.nil w) (A.c<|A.n1 [.al,.p] [1] (fun b1=>[(3,p_ b1)]) (fun b1=>cw b1 [u_ a,i_ i] 322) ?_)
 intro b1
 refine A.d<|A.d<|A.ka [.ld 0,.p,.p,.p,.p,.rd [u_ x.ka,i_ x.ki],.cq<|i_<|ie a i x.ka x.ki,.p] (rg 0 8) [0,3] [(12,b_<|decide ((ie a i x.ka x.ki)>0))] [b1] (oc (ro ⟨b,0,none⟩ (vs:=[u_ x.ka,i_ x.ki])<|df r0 rfl)<|o1<|qo<|fun w s=>vL a i x.ka x.ki w)<|A.v rfl (fun e1=>?_) (fun e1=>?_)
 ·exact absurd e1<|by simpa using fun h_=>hc<|(GO ..).1 h_
 have p1:=of_decide_eq_false e1
 refine A.p<|A.c<|A.g [.p] [12] [(4,i_ 0)]<|A.e<|A.W [i_ 0] ?_
 rfl
abbrev QB(p0)(p1)(p2)(p3)(p4):=(dU 361 (T.node p0 (⟨p1,p2,p3,p4⟩:It) (eB (⟨p1,p2,p3,p4⟩:It) T.nil T.nil) (eK T.nil T.nil) (eO T.nil T.nil) T.nil T.nil):V.dB)
abbrev iP(p0)(p1)(p2):=(cw p0 [u_ p1,i_ p2] 322:V.dB)
theorem Jz(t:T)(bk bv:Nat)(ka ki va vi:Int)(ih: ∀(t':T)(bk' bv':Nat)(ka' ki' va' vi':Int),SizeOf.sizeOf t'<SizeOf.sizeOf t→ ∀(hR:t'.Right)(hB:t'.Bal)(hS:fa t'.toL)(hN: ∀y∈t'.toL,¬(y.ka=ka'∧y.ki=ki'))(hC:t'.cnt≤800)(w:World)(hs:HI w [dU 361 t',iP bk' ka' ki',iP bv' va' vi']),Calls Tryz.prog 246 #[.pointer<|T.ptr t',.agg #[u_ ka',i_ ki'],.func (.func 247) #[] #[p_ bk',p_ bv']] w fun e w'=> ∃zz,e= .returned ((fun(zt:T)=>(.pointer<|T.ptr zt)) zz)∧(fun(zt:T)=>i4 t' zt (gw (⟨ka',ki',va',vi'⟩:It) t'.toL) 0 1) zz∧Turn [dU 361 t',iP bk' ka' ki',iP bv' va' vi'] ((fun(zt:T)=>[iP bk' ka' ki',iP bv' va' vi',dU 361 zt]) zz) w w')(hR:t.Right)(hB:t.Bal)(hS:fa t.toL)(hN: ∀y∈t.toL,¬(y.ka=ka∧y.ki=ki))(hC:t.cnt≤800)(w:World)(hs:HS w (dE [dU 361 t,iP bk ka ki,iP bv va vi]) [dU 361 t,iP bk ka ki,iP bv va vi] w):
  CV 246 #[.pointer<|T.ptr t,.agg #[u_ ka,i_ ki],.func (.func 247) #[] #[p_ bk,p_ bv]] w [dU 361 t,iP bk ka ki,iP bv va vi] (fun(zt:T)=>(.pointer<|T.ptr zt)) (fun zt=>i4 t zt (gw (⟨ka,ki,va,vi⟩:It) t.toL) 0 1) fun zt=>[iP bk ka ki,iP bv va vi,dU 361 zt]:=by
 refine A.C Tryz.func246 rfl hs (A.c<|A.n1 [.al,.p] [1] (fun b1=>[(4,p_ b1)]) (fun b1=>cw b1 [u_ ka,i_ ki] 322) ?_)
 intro b1
 refine A.d<|A.d ?_
 rcases t with _|⟨b2,x3,m4,h5,n6,l7,r8⟩
 ·refine A.dA [.p,.p,.p,.sk,.sk,.sk,.sk,.sk,.sk,.sk,.p] (rg 0 11) [] [(0,n_),(18,b_ true)] [] T0 trivial<|A.ct<|A.c<|A.N [.p,.p] [0,2,4,18] [(19,.func (.func 247) #[] #[p_ bk,p_ bv]),(20,n_)]<|A.j<|A.iX (some 21) [n_,p_ bk,p_ bv] Tryz.func247 rfl (A.c<|A.g [.p] [0] []<|A.c<|A.g1 [.ld 1,.ld 2,.p,.p,.al,.p] [1,2] (fun b9=>[(5,p_ b9)]) (fun b9=>[(0,dU 361 T.nil)]) (fun b9=>cw b9 [u_ ka,i_ ki,u_ va,i_ vi,n_,n_,u_ 0,i_ 0,u_ 0,i_ 0,i_ 0,i_ 0] 361) (fun b9=>[bk,bv]) ?_)
  intro b9
  refine A.c<|A.N [.p] [] [(11,p_ b9)]<|A.bg [dU 361 T.nil,iP bk ka ki,iP bv va vi,iP b1 ka ki,cw b9 [u_ ka,i_ ki,u_ va,i_ vi,n_,n_,u_ 0,i_ 0,u_ 0,i_ 0,i_ 0,i_ 0] 361,dU 361 T.nil] rfl (A.j<|A.I (some 12) [4,0,3] (fun w s h=>ri b9 (⟨ka,ki,va,vi⟩:It) (⟨0,0,0,0⟩:It) 0 0 T.nil T.nil (y6 ‹_› (by omega)) (y6 ‹_› (by omega)) w h) ?_)
  rintro⟨⟩-
  refine A.aB<|A.c<|A.h [.p,.p] [(4,p_ b9)] []<|A.e<|A.pb [p_ b9]<|A.aJ [cw b9 [u_<|(⟨ka,ki,va,vi⟩:It).ka,i_<|(⟨ka,ki,va,vi⟩:It).ki,u_<|(⟨ka,ki,va,vi⟩:It).va,i_<|(⟨ka,ki,va,vi⟩:It).vi,.pointer<|T.ptr T.nil,.pointer<|T.ptr T.nil,u_<|(eB (⟨ka,ki,va,vi⟩:It) T.nil T.nil).ka,i_<|(eB (⟨ka,ki,va,vi⟩:It) T.nil T.nil).ki,u_<|(eB (⟨ka,ki,va,vi⟩:It) T.nil T.nil).va,i_<|(eB (⟨ka,ki,va,vi⟩:It) T.nil T.nil).vi,i_<|eK T.nil T.nil,i_<|eO T.nil T.nil] 361,dU 361 T.nil,dU 361 T.nil,iP bk ka ki,iP bv va vi] (sd [5])<|A.h [.p] [(6,p_ b9)] []<|A.e<|A.r0 [0,0,0] [QB b9 ka ki va vi] rfl (fun w hs=>lZ hs) (A.Y [1,1,0] [p_ b9] ((T.node b9 (⟨ka,ki,va,vi⟩:It) (eB (⟨ka,ki,va,vi⟩:It) T.nil T.nil) (eK T.nil T.nil) (eO T.nil T.nil) T.nil T.nil)) ?_ ?_)
  ·rfl
  exact MO
 obtain⟨hR_m,hR_h,hR_n,hR_l,hR_r⟩:=id hR;obtain⟨hB_1,hB_2,hB_l,hB_r⟩:=id hB
 have hS_:=kE (L:=T.toL l7) (x:=x3) (R:=T.toL r8) hS;have hR_1:=hR_l.pos;have hR_2:=hR_r.pos
 have hN_l: ∀y∈T.toL l7,¬(y.ka=ka∧y.ki=ki):=fun y hy=>hN y (by simp[T.toL,hy]);have hN_r: ∀y∈T.toL r8,¬(y.ka=ka∧y.ki=ki):=fun y hy=>hN y (by simp[T.toL,hy]);have hN_x: ¬(x3.ka=ka∧x3.ki=ki):=hN x3<|by simp[T.toL]
 simp only[im,oQ,eK,eO] at hR_h hR_n hC
 refine A.r0 [0] [cw b2 [u_ x3.ka,i_ x3.ki,u_ x3.va,i_ x3.vi,.pointer<|T.ptr l7,.pointer<|T.ptr r8,u_ m4.ka,i_ m4.ki,u_ m4.va,i_ m4.vi,i_ h5,i_ n6] 361,dU 361 l7,dU 361 r8] rfl (fun w hs=>nT hs) (A.aZ [.p,.p,.p,.p,.p,.p,.p,.ld 0,.ld 5,.eq,.p] [0,1,2,3,4,5,6,7,8,9,10] [(0,p_ b2),(2,.func (.func 247) #[] #[p_ bk,p_ bv]),(4,p_ b1),(18,b_<|(x3.ka==ka)&&(x3.ki==ki))] [b2,b1] T0 (by kernel_rfl) (by kernel_rfl) trivial<|A.v rfl (fun e2=>?_) (fun e2=>?_))
 ·exact absurd e2 (by simp;exact fun h1 h2=>hN_x ⟨h1,h2⟩)
 refine A.p<|A.d ?_
 by_cases hc:ei x3.ka x3.ki ka ki
 ·refine A.s<|A.k [.p,.ld 5,.cq<|i_ 1,.p] [18] [(7,i_ 1)] [b1] (o1<|qo<|fun w s=>yt b2 x3 m4 h5 n6 l7 r8 ka ki ‹_› w (s.mem (i:=0) rfl))<|A.d<|A.O [10,14] 15<|A.dT 3 [.p,.p,.p,.p,.p,.p,.p,.ld 0,.ld 5,.p,.p,.p] [0,1,2,3,4,5,6,7,8,9,11,12] [2,4,7] [(26,i_ 1),(32,.pointer<|T.ptr r8),(33,.agg #[u_ ka,i_ ki]),(34,.func (.func 247) #[] #[p_ bk,p_ bv]),(37,q_ b2 4)] [b2,b1]<|A.F 10 rfl (A.I (some 35) [2,2,2] (fun w s h=>ih r8 bk bv ka ki va vi (by(simp;omega)) ‹_› ‹_› hS_.2.1 ‹_› (by omega) w h) ?_)
  rintro zt10 hz3
  obtain⟨hz31,hz32,hz33,hz34,hz35⟩:=id hz3;have hz36:=T.Right.pos hz31
  rw[hz33,uK] at hz36
  refine A.E<|A.dT 1 [.p] [13] [26,32,33,34,37] [(35,.pointer<|T.ptr zt10),(38,q_ b2 5)] []<|A.F 14 rfl (A.sT 3 [.pointer<|T.ptr zt10] rfl (A.E<|A.M<|A.c<|A.hp [.p] [(39,p_ b2)] []<|A.j<|A.I (some 40) [3,3,2] (fun w s h=>tw b2 x3 m4 h5 n6 l7 zt10 ‹_› ‹_› (by omega) (by omega) w h) ?_))
  rintro zt11 hz4
  refine A.g [.p] [39,40] [(6,.pointer<|T.ptr zt11)]<|A.e<|A.Y [1,1,0] [.pointer<|T.ptr zt11] (zt11) ?_ ?_
  ·rfl
  (subst_vars;exact TT hR hB hS ‹_› hc)
 refine A.s<|A.k [.p,.ld 5,.cq<|i_ 0,.p] [18] [(7,i_ 0)] [b1] (o1<|qo<|fun w s=>yu b2 x3 m4 h5 n6 l7 r8 ka ki ‹_› w (s.mem (i:=0) rfl))<|A.d<|A.O [10,14] 15<|A.dT 3 [.p,.p,.p,.p,.p,.p,.p,.ld 0,.ld 5,.p,.p,.p] [0,1,2,3,4,5,6,7,8,9,11,12] [2,4,7] [(26,i_ 0),(32,.pointer<|T.ptr l7),(33,.agg #[u_ ka,i_ ki]),(34,.func (.func 247) #[] #[p_ bk,p_ bv]),(37,q_ b2 4)] [b2,b1]<|A.F 10 rfl (A.I (some 35) [1,2,2] (fun w s h=>ih l7 bk bv ka ki va vi (by(simp;omega)) ‹_› ‹_› hS_.1 ‹_› (by omega) w h) ?_)
 rintro zt12 hz5
 obtain⟨hz51,hz52,hz53,hz54,hz55⟩:=id hz5;have hz56:=T.Right.pos hz51
 rw[hz53,uK] at hz56
 refine A.E<|A.dT 1 [.p] [13] [26,32,33,34,37] [(35,.pointer<|T.ptr zt12),(38,q_ b2 4)] []<|A.F 14 rfl (A.sT 3 [.pointer<|T.ptr zt12] rfl (A.E<|A.M<|A.c<|A.hp [.p] [(39,p_ b2)] []<|A.j<|A.I (some 40) [3,2,2] (fun w s h=>tw b2 x3 m4 h5 n6 zt12 r8 ‹_› ‹_› (by omega) (by omega) w h) ?_))
 rintro zt13 hz6
 refine A.g [.p] [39,40] [(6,.pointer<|T.ptr zt13)]<|A.e<|A.Y [1,1,0] [.pointer<|T.ptr zt13] (zt13) ?_ ?_
 ·rfl
 (subst_vars;exact TS hR hB ‹_› (by have:=hN_x;show ei ka ki _ _;unfold ei at*;omega))
theorem Dx(t:T)(bk bv:Nat)(ka ki va vi:Int)(hR:t.Right)(hB:t.Bal)(hS:fa t.toL)(hN: ∀y∈t.toL,¬(y.ka=ka∧y.ki=ki))(hC:t.cnt≤800)(w:World)(hs:HS w (dE [dU 361 t,iP bk ka ki,iP bv va vi]) [dU 361 t,iP bk ka ki,iP bv va vi] w):
  Calls Tryz.prog 246 #[.pointer<|T.ptr t,.agg #[u_ ka,i_ ki],.func (.func 247) #[] #[p_ bk,p_ bv]] w fun e w'=> ∃zz,e= .returned ((fun(zt:T)=>(.pointer<|T.ptr zt)) zz)∧(fun(zt:T)=>i4 t zt (gw (⟨ka,ki,va,vi⟩:It) t.toL) 0 1) zz∧Turn [dU 361 t,iP bk ka ki,iP bv va vi] ((fun(zt:T)=>[iP bk ka ki,iP bv va vi,dU 361 zt]) zz) w w':=
 Jz t bk bv ka ki va vi (fun t' bk' bv' ka' ki' va' vi' hlt_ g0_ g1_ g2_ g3_ g4_ w_ y_=>Dx t' bk' bv' ka' ki' va' vi' g0_ g1_ g2_ g3_ g4_ w_ y_) hR hB hS hN hC w hs
termination_by SizeOf.sizeOf t
decreasing_by exact hlt_
theorem EV(bt:Nat)(t:T)(a i:Int)(w:World)(r0:(cw bt [.pointer<|T.ptr t] 251).holds w)(r1:(dU 361 t).holds w):
  CW 245 #[p_ bt,.agg #[u_ a,i_ i]] w (.pointer<|T.ptr<|T.findT a i t):=by
 refine A.C Tryz.func245 rfl (HS.nil w) (A.c<|A.n1 [.al,.p] [1] (fun b1=>[(3,p_ b1)]) (fun b1=>cw b1 [u_ a,i_ i] 322) ?_)
 intro b1
 refine A.c<|A.k [.p,.p,.p,.rd [.pointer<|T.ptr t],.p] [0] [(5,.pointer<|T.ptr t)] [] (o1<|ro ⟨bt,0,none⟩ (vs:=[.pointer<|T.ptr t])<|df r0 rfl)<|A.d<|A.y<|A.lp (σ:=T) [] (fun u=>[(5,.pointer<|T.ptr u)]) [] (fun u=>[]) (fun u=>((dU 361 u).holds w)∧(T.findT a i u=T.findT a i t)) (fun u=>SizeOf.sizeOf u) (t:T) ⟨r1,(by rfl)⟩ ?_ ?_
 ·exact A.J [0]
 rintro u ⟨hu,hf⟩
 refine A.d<|A.d ?_
 rcases u with _|⟨b2,x3,m4,h5,n6,l7,r8⟩
 ·refine A.dA [.p,.p,.p,.sk,.sk,.sk,.sk,.sk,.sk,.sk,.p] (rg 0 11) [] [(5,n_),(20,b_ false)] [] T0 trivial ?_
  refine A.cf ?_
  refine A.aA ?_
  refine A.d ?_
  refine A.s<|A.g [.p,.p] [3,5,20] [(4,n_)] ?_
  refine A.e ?_
  refine A.W [n_] ?_
  refine congrArg Value.pointer ?_;rw[←hf];rfl
 refine A.ka [.p,.p,.p,.p,.p,.p,.p,.rd [u_ x3.ka,i_ x3.ki],.ld 0,.eq,.p] (rg 0 11) [] [(5,p_ b2),(13,p_ b2),(14,p_ b2),(15,p_ b2),(16,p_ b2),(17,.agg #[u_ x3.ka,i_ x3.ki]),(18,.agg #[u_ a,i_ i]),(19,b_ (!((x3.ka==a)&&(x3.ki==i)))),(20,b_ (!((x3.ka==a)&&(x3.ki==i))))] [b1] (o1<|ro ⟨b2,0,none⟩ (vs:=[u_ x3.ka,i_ x3.ki])<|df hu.1 rfl)<|A.v rfl (fun e1=>?_) (fun e1=>?_)
 ·refine A.p<|A.y ?_
  by_cases hc:ei x3.ka x3.ki a i
  ·refine A.ka [.p,.p,.ld 0,.cq<|i_ 1,.p,.p,.p,.rd [.pointer<|T.ptr r8],.p] (rg 0 9) [20] [(5,.pointer<|T.ptr r8)] [b1] (oc (qo<|fun w s=>yt b2 x3 m4 h5 n6 l7 r8 a i ‹_› w (d6 s hu.1))<|o1<|ro ⟨b2,5,none⟩ (vs:=[.pointer<|T.ptr r8])<|df hu.1 rfl)<|A.Z (r8) ⟨hu.2.2,(by rw[←hf];(conv=>rhs;unfold T.findT);(rw[if_neg (by intro he_;simp_all),if_pos hc]))⟩ (by(simp;omega)) ?_
   exact A.J [0]
  refine A.ka [.p,.p,.ld 0,.cq<|i_ 0,.p,.p,.p,.rd [.pointer<|T.ptr l7],.p] (rg 0 9) [20] [(5,.pointer<|T.ptr l7)] [b1] (oc (qo<|fun w s=>yu b2 x3 m4 h5 n6 l7 r8 a i ‹_› w (d6 s hu.1))<|o1<|ro ⟨b2,4,none⟩ (vs:=[.pointer<|T.ptr l7])<|df hu.1 rfl)<|A.Z (l7) ⟨hu.2.1,(by rw[←hf];(conv=>rhs;unfold T.findT);(rw[if_neg (by intro he_;simp_all),if_neg hc]))⟩ (by(simp;omega)) ?_
  exact A.J [0]
 refine A.aA ?_
 refine A.d ?_
 refine A.s<|A.g [.p,.p] [3,5,13,14,15,16,17,18,19,20] [(4,p_ b2)] ?_
 refine A.e ?_
 refine A.W [p_ b2] ?_
 refine congrArg Value.pointer ?_;rw[←hf];(unfold T.findT;rw[if_pos<|by simp_all];rfl)
theorem EW(t:T)(n:Int)(w:World)(r0:(dU 361 t).holds w):
  CW 268 #[.pointer<|T.ptr t,u_ n] w (b_<|T.hasB n t):=by
 refine A.C Tryz.func268 rfl (HS.nil w) (A.c<|A.g [.p] [] []<|A.c<|A.N [.p] [] [(5,.pointer<|T.ptr t)] ?_)
 rcases t with _|⟨b1,x2,m3,h4,n5,l6,r7⟩
 ·refine A.g [.p,.p,.sk,.sk,.sk,.sk,.sk,.sk,.sk,.sk,.p,.p] [0,1,5] [(4,b_ false)]<|A.e<|A.W [b_ false] ?_
  rfl
 refine A.k [.p,.p,.p,.p,.p,.p,.p,.rd [u_ m3.va],.p,.p,.p,.p] [0,1,5] [(4,b_<|decide (m3.va≤n))] [] (o1<|ro ⟨b1,8,none⟩ (vs:=[u_ m3.va])<|df r0.1 rfl)<|A.e<|A.W [b_<|decide (m3.va≤n)] ?_
 rfl
theorem LQ(bt:Nat)(t:T)(w:World)(r0:(cw bt [.pointer<|T.ptr t] 251).holds w)(r1:(dU 361 t).holds w):
  CW 249 #[p_ bt] w (i_<|T.cnt t):=by
 refine A.C Tryz.func249 rfl (HS.nil w) (A.c<|A.g [.p] [] []<|A.d<|A.c<|A.g [.p,.p] [] [(4,b_ false)]<|A.cf<|A.p<|A.c<|A.k [.p,.p,.p,.rd [.pointer<|T.ptr t],.cq<|i_<|T.cnt t,.p] [0,4] [(2,i_<|T.cnt t)] [] (oc (ro ⟨bt,0,none⟩ (vs:=[.pointer<|T.ptr t])<|df r0 rfl)<|o1<|qo<|fun w s=>zD t w<|d6 s r1)<|A.e<|A.W [i_<|T.cnt t] ?_)
 rfl
abbrev QC(p0)(p1:It)(p2)(p3)(p4:It)(p5)(p6):=([cw p0 [u_ p1.ka,i_ p1.ki,u_ p1.va,i_ p1.vi,.pointer<|T.ptr p2,.pointer<|T.ptr p3,u_ p4.ka,i_ p4.ki,u_ p4.va,i_ p4.vi,i_ p5,i_ p6] 361,dU 361 p2,dU 361 p3]:List V.dB)
theorem KH(b:Nat)(x m:It)(h n:Int)(l r:T)(ih: ∀(t':T)(ka' ki':Int),SizeOf.sizeOf t'<SizeOf.sizeOf (T.node b x m h n l r)→ ∀(hR:t'.Right)(hB:t'.Bal)(hS:fa t'.toL)(hM: ∃y∈t'.toL,y.ka=ka'∧y.ki=ki')(hC:t'.cnt≤800)(w:World)(hs:HI w [dU 361 t']),Calls Tryz.prog 246 #[.pointer<|T.ptr t',.agg #[u_ ka',i_ ki'],.func (.func 263) #[] #[]] w fun e w'=> ∃zz,e= .returned ((fun(zt:T)=>(.pointer<|T.ptr zt)) zz)∧(fun(zt:T)=>i4 t' zt (gf ka' ki' t'.toL) (-1) 0) zz∧Turn [dU 361 t'] ((fun(zt:T)=>[dU 361 zt]) zz) w w')(hR:(T.node b x m h n l r).Right)(hB:(T.node b x m h n l r).Bal)(hS:fa (T.node b x m h n l r).toL)(hC:(T.node b x m h n l r).cnt≤800)(w:World)(hs:HS w (dE [dU 361<|T.node b x m h n l r]) [dU 361<|T.node b x m h n l r] w):
  CV 263 #[p_ b] w [dU 361<|T.node b x m h n l r] (fun(zt:T)=>(.pointer<|T.ptr zt)) (fun zt=>i4 (T.node b x m h n l r) zt (l.toL++r.toL) (-1) 0) fun zt=>[dU 361 zt]:=by
 obtain⟨hR_m,hR_h,hR_n,hR_l,hR_r⟩:=id hR;obtain⟨hB_1,hB_2,hB_l,hB_r⟩:=id hB;have hS_:=kE (L:=T.toL l) (x:=x) (R:=T.toL r) hS;have hR_1:=hR_l.pos;have hR_2:=hR_r.pos;simp only[im,oQ,eK,eO] at hR_h hR_n hC
 refine A.C Tryz.func263 rfl hs (A.c<|A.g [.p] [] []<|A.d<|A.c<|A.N (ps 4) [] [(7,q_ b 5)]<|A.r0 [0] (QC b x l r m h n) rfl (fun w hs=>nT hs) (A.hp [.ld 0] [(0,p_ b),(8,.pointer<|T.ptr r)] [b] ?_))
 rcases r with _|⟨b1,x2,m3,h4,n5,l6,r7⟩
 ·refine A.g [.p] [8] [(9,b_ true)]<|A.ct<|A.c<|A.gl [.p,.p,.p,.p,.ld 0,.p] [0,9] [(2,.pointer<|T.ptr l)] [b]<|A.e<|A.Y [1] [.pointer<|T.ptr l] (l) ?_ ?_
  ·rfl
  exact OD hR hB
 refine A.g [.p] [8] [(9,b_ false)]<|A.cf<|A.p<|A.c<|A.gl [.p,.p,.p,.p,.ld 0,.p] [9] [(3,p_ b1)] [b]<|A.d<|A.y<|A.aX (fun(zz:T)=>match zz with|u=>[(0,p_ b),(3,.pointer<|T.ptr u)]) (fun(zz:T)=>match zz with|u=>[cw b [u_ x.ka,i_ x.ki,u_ x.va,i_ x.vi,.pointer<|T.ptr l,p_ b1,u_ m.ka,i_ m.ki,u_ m.va,i_ m.vi,i_ h,i_ n] 361,dU 361 l,dU 361<|T.node b1 x2 m3 h4 n5 l6 r7]) (fun(zz:T)=>match zz with|u=>(∀w,(dU 361<|T.node b1 x2 m3 h4 n5 l6 r7).holds w→(dU 361 u).holds w)∧(u.toL.head?=(T.toL<|T.node b1 x2 m3 h4 n5 l6 r7).head?)∧(u≠ .nil)) (fun(zz:T)=>match zz with|u=>SizeOf.sizeOf u) ((T.node b1 x2 m3 h4 n5 l6 r7):T) ⟨(fun _ h=>h),(by rfl),(by simp)⟩ ?_ ?_
 ·exact A.J [0,0,0]
 rintro u ⟨hv,hhd,hu⟩
 refine A.d<|A.c<|A.N [.p] [] [(20,.pointer<|T.ptr u)] ?_
 rcases u with _|⟨b8,x9,m10,h11,n12,l13,r14⟩
 ·exact absurd rfl hu
 refine A.kp [.p,.p,.p,.rd [.pointer<|T.ptr l13]] [20] [(3,p_ b8),(24,.pointer<|T.ptr l13)] [] (o1<|ro ⟨b8,4,none⟩ (vs:=[.pointer<|T.ptr l13])<|fi (fun w s=>(hv _<|s.mem (i:=2) rfl).1) rfl) ?_
 rcases l13 with _|⟨b15,x16,m17,h18,n19,l20,r21⟩
 ·refine A.g [.p] [24] [(25,b_ false)]<|A.cf<|A.aA<|A.c<|A.ks [.p,.p,.p,.p,.rd [u_ x9.ka,i_ x9.ki,u_ x9.va,i_ x9.vi],.p,.p,.st 0] [25] [] [(0,cw b [u_ x9.ka,i_ x9.ki,u_ x9.va,i_ x9.vi,.pointer<|T.ptr l,p_ b1,u_ m.ka,i_ m.ki,u_ m.va,i_ m.vi,i_ h,i_ n] 361)] [b] (o1<|ro ⟨b8,0,none⟩ (vs:=[u_ x9.ka,i_ x9.ki,u_ x9.va,i_ x9.vi])<|fi (fun w s=>(hv _<|s.mem (i:=2) rfl).1) rfl)<|A.d<|A.O [11,15] 16<|A.kd 3 [.p,.p,.p,.p,.p,.ld 0,.p,.p,.p,.p,.rd [u_ x9.ka,i_ x9.ki],.p,.p] [0,1,2,3,4,5,6,7,8,9,10,12,13] [3] [(43,p_ b1),(48,.agg #[u_ x9.ka,i_ x9.ki]),(51,q_ b 4)] [b] (o1<|ro ⟨b8,0,none⟩ (vs:=[u_ x9.ka,i_ x9.ki])<|fi (fun w s=>(hv _<|s.mem (i:=2) rfl).1) rfl)<|A.F 11 rfl (A.I (some 49) [2] (fun w s h=>ih (T.node b1 x2 m3 h4 n5 l6 r7) x9.ka x9.ki (by(simp;omega)) ‹_› ‹_› hS_.2.1 ⟨_,MP<|hhd.symm.trans<|by simp[T.toL],rfl,rfl⟩ (by omega) w h) ?_)
  rintro zt22 hz1
  obtain⟨hz11,hz12,hz13,hz14,hz15⟩:=id hz1;have hz16:=T.Right.pos hz11
  rw[hz13] at hz16;have hz17:=vp (a:=x9.ka) (i:=x9.ki)<|T.toL<|T.node b1 x2 m3 h4 n5 l6 r7
  refine A.E<|A.dT 1 [.p] [14] [43,48,51] [(49,.pointer<|T.ptr zt22),(52,q_ b 5)] []<|A.F 15 rfl (A.sT 1 [.pointer<|T.ptr zt22] rfl (A.E<|A.M<|A.c<|A.hp [.p] [(53,p_ b)] []<|A.j<|A.I (some 54) [1,1,0] (fun w s hh=>tw b x9 m h n l zt22 ‹_› ‹_› (by omega) (by omega) w hh) ?_))
  rintro zt23 hz2
  refine A.g [.p] [53,54] [(2,.pointer<|T.ptr zt23)]<|A.e<|A.Y [0] [.pointer<|T.ptr zt23] (zt23) ?_ ?_
  ·rfl
  (subst_vars;exact OE hR hB hS_.2.1 (hhd.symm.trans<|by simp[T.toL]) ‹_›)
 refine A.g [.p] [24] [(25,b_ true)]<|A.ct<|A.p<|A.y<|A.s<|A.k [.p,.p,.p,.p,.rd [p_ b15],.p] [25] [(3,p_ b15)] [] (o1<|ro ⟨b8,4,none⟩ (vs:=[p_ b15])<|fi (fun w s=>(hv _<|s.mem (i:=2) rfl).1) rfl)<|A.Z ((T.node b15 x16 m17 h18 n19 l20 r21)) ⟨(fun w hw=>(hv w hw).2.1),(by rw[←hhd];simp only[T.toL];simp),(by simp)⟩ (by(simp;omega)) ?_
 exact A.J [0,0,0]
theorem KB(t:T)(ka ki:Int)(ih: ∀(t':T)(ka' ki':Int),SizeOf.sizeOf t'<SizeOf.sizeOf t→ ∀(hR:t'.Right)(hB:t'.Bal)(hS:fa t'.toL)(hM: ∃y∈t'.toL,y.ka=ka'∧y.ki=ki')(hC:t'.cnt≤800)(w:World)(hs:HI w [dU 361 t']),Calls Tryz.prog 246 #[.pointer<|T.ptr t',.agg #[u_ ka',i_ ki'],.func (.func 263) #[] #[]] w fun e w'=> ∃zz,e= .returned ((fun(zt:T)=>(.pointer<|T.ptr zt)) zz)∧(fun(zt:T)=>i4 t' zt (gf ka' ki' t'.toL) (-1) 0) zz∧Turn [dU 361 t'] ((fun(zt:T)=>[dU 361 zt]) zz) w w')(hR:t.Right)(hB:t.Bal)(hS:fa t.toL)(hM: ∃y∈t.toL,y.ka=ka∧y.ki=ki)(hC:t.cnt≤800)(w:World)(hs:HS w (dE [dU 361 t]) [dU 361 t] w):
  CV 246 #[.pointer<|T.ptr t,.agg #[u_ ka,i_ ki],.func (.func 263) #[] #[]] w [dU 361 t] (fun(zt:T)=>(.pointer<|T.ptr zt)) (fun zt=>i4 t zt (gf ka ki t.toL) (-1) 0) fun zt=>[dU 361 zt]:=by
 refine A.C Tryz.func246 rfl hs (A.c<|A.n1 [.al,.p] [1] (fun b1=>[(4,p_ b1)]) (fun b1=>cw b1 [u_ ka,i_ ki] 322) ?_)
 intro b1
 refine A.d<|A.d ?_
 rcases t with _|⟨b2,x3,m4,h5,n6,l7,r8⟩
 ·exact absurd hM<|by simp[T.toL]
 obtain⟨hR_m,hR_h,hR_n,hR_l,hR_r⟩:=id hR;obtain⟨hB_1,hB_2,hB_l,hB_r⟩:=id hB
 have hS_:=kE (L:=T.toL l7) (x:=x3) (R:=T.toL r8) hS;have hR_1:=hR_l.pos;have hR_2:=hR_r.pos
 have hC0:=hC;simp only[im,oQ,eK,eO] at hR_h hR_n hC
 refine A.r0 [0] [cw b2 [u_ x3.ka,i_ x3.ki,u_ x3.va,i_ x3.vi,.pointer<|T.ptr l7,.pointer<|T.ptr r8,u_ m4.ka,i_ m4.ki,u_ m4.va,i_ m4.vi,i_ h5,i_ n6] 361,dU 361 l7,dU 361 r8] rfl (fun w hs=>nT hs) (A.aZ [.p,.p,.p,.p,.p,.p,.p,.ld 0,.ld 3,.eq,.p] [0,1,2,3,4,5,6,7,8,9,10] [(0,p_ b2),(2,.func (.func 263) #[] #[]),(4,p_ b1),(18,b_<|(x3.ka==ka)&&(x3.ki==ki))] [b2,b1] T0 (by kernel_rfl) (by kernel_rfl) trivial<|A.v rfl (fun e1=>?_) (fun e1=>?_))
 ·have p1:=e1;try simp only[dc] at p1
  refine A.c<|A.N [.p,.p] [0,2,4,18] [(19,.func (.func 263) #[] #[]),(20,p_ b2)]<|A.bB [0,0,0] (fun _:Unit=>True) (fun _=>[dU 361<|T.node b2 x3 m4 h5 n6 l7 r8]) (fun _=>[dU 361<|T.node b2 x3 m4 h5 n6 l7 r8,cw b1 [u_ ka,i_ ki] 322]) rfl (fun w hs=>lZ hs) (fun _=>rfl) (fun _ _=>?_)
  refine A.j<|A.I (some 21) [0] (fun w s h=>KH b2 x3 m4 h5 n6 l7 r8 ih ‹_› ‹_› ‹_› ‹_› w h) ?_
  rintro zt9 hz2
  obtain⟨hz21,hz22,hz23,hz24,hz25⟩:=id hz2;have hz26:=T.Right.pos hz21
  rw[hz23] at hz26
  refine A.h [.p] [(6,.pointer<|T.ptr zt9)] []<|A.e<|A.Y [0] [.pointer<|T.ptr zt9] (zt9) ?_ ?_
  ·rfl
  (rw[MQ hS ‹_›];assumption)
 refine A.p<|A.d ?_
 by_cases hc:ei x3.ka x3.ki ka ki
 ·refine A.s<|A.k [.p,.ld 3,.cq<|i_ 1,.p] [18] [(7,i_ 1)] [b1] (o1<|qo<|fun w s=>yt b2 x3 m4 h5 n6 l7 r8 ka ki ‹_› w (s.mem (i:=0) rfl))<|A.d<|A.O [10,14] 15<|A.dT 3 [.p,.p,.p,.p,.p,.p,.p,.ld 0,.ld 3,.p,.p,.p] [0,1,2,3,4,5,6,7,8,9,11,12] [2,4,7] [(26,i_ 1),(32,.pointer<|T.ptr r8),(33,.agg #[u_ ka,i_ ki]),(34,.func (.func 263) #[] #[]),(37,q_ b2 4)] [b2,b1]<|A.F 10 rfl (A.I (some 35) [2] (fun w s h=>ih r8 ka ki (by(simp;omega)) ‹_› ‹_› hS_.2.1 (TU hS hM hc) (by omega) w h) ?_)
  rintro zt10 hz3
  obtain⟨hz31,hz32,hz33,hz34,hz35⟩:=id hz3;have hz36:=T.Right.pos hz31
  rw[hz33] at hz36;have hz37:=vp (a:=ka) (i:=ki)<|T.toL r8
  refine A.E<|A.dT 1 [.p] [13] [26,32,33,34,37] [(35,.pointer<|T.ptr zt10),(38,q_ b2 5)] []<|A.F 14 rfl (A.sT 1 [.pointer<|T.ptr zt10] rfl (A.E<|A.M<|A.c<|A.hp [.p] [(39,p_ b2)] []<|A.j<|A.I (some 40) [1,1,0] (fun w s h=>tw b2 x3 m4 h5 n6 l7 zt10 ‹_› ‹_› (by omega) (by omega) w h) ?_))
  rintro zt11 hz4
  refine A.g [.p] [39,40] [(6,.pointer<|T.ptr zt11)]<|A.e<|A.Y [0] [.pointer<|T.ptr zt11] (zt11) ?_ ?_
  ·rfl
  (subst_vars;exact TW hR hB hS ‹_› hc)
 refine A.s<|A.k [.p,.ld 3,.cq<|i_ 0,.p] [18] [(7,i_ 0)] [b1] (o1<|qo<|fun w s=>yu b2 x3 m4 h5 n6 l7 r8 ka ki ‹_› w (s.mem (i:=0) rfl))<|A.d<|A.O [10,14] 15<|A.dT 3 [.p,.p,.p,.p,.p,.p,.p,.ld 0,.ld 3,.p,.p,.p] [0,1,2,3,4,5,6,7,8,9,11,12] [2,4,7] [(26,i_ 0),(32,.pointer<|T.ptr l7),(33,.agg #[u_ ka,i_ ki]),(34,.func (.func 263) #[] #[]),(37,q_ b2 4)] [b2,b1]<|A.F 10 rfl (A.I (some 35) [1] (fun w s h=>ih l7 ka ki (by(simp;omega)) ‹_› ‹_› hS_.1 (by exact TV hS hM hc (by intro he_;simp_all)) (by omega) w h) ?_)
 rintro zt12 hz5
 obtain⟨hz51,hz52,hz53,hz54,hz55⟩:=id hz5;have hz56:=T.Right.pos hz51
 rw[hz53] at hz56;have hz57:=vp (a:=ka) (i:=ki)<|T.toL l7
 refine A.E<|A.dT 1 [.p] [13] [26,32,33,34,37] [(35,.pointer<|T.ptr zt12),(38,q_ b2 4)] []<|A.F 14 rfl (A.sT 1 [.pointer<|T.ptr zt12] rfl (A.E<|A.M<|A.c<|A.hp [.p] [(39,p_ b2)] []<|A.j<|A.I (some 40) [1,0,0] (fun w s h=>tw b2 x3 m4 h5 n6 zt12 r8 ‹_› ‹_› (by omega) (by omega) w h) ?_))
 rintro zt13 hz6
 refine A.g [.p] [39,40] [(6,.pointer<|T.ptr zt13)]<|A.e<|A.Y [0] [.pointer<|T.ptr zt13] (zt13) ?_ ?_
 ·rfl
 (subst_vars;exact TX hR hB hS ‹_› (by intro he_;simp_all) hc)
theorem EX(t:T)(ka ki:Int)(hR:t.Right)(hB:t.Bal)(hS:fa t.toL)(hM: ∃y∈t.toL,y.ka=ka∧y.ki=ki)(hC:t.cnt≤800)(w:World)(hs:HS w (dE [dU 361 t]) [dU 361 t] w):
  Calls Tryz.prog 246 #[.pointer<|T.ptr t,.agg #[u_ ka,i_ ki],.func (.func 263) #[] #[]] w fun e w'=> ∃zz,e= .returned ((fun(zt:T)=>(.pointer<|T.ptr zt)) zz)∧(fun(zt:T)=>i4 t zt (gf ka ki t.toL) (-1) 0) zz∧Turn [dU 361 t] ((fun(zt:T)=>[dU 361 zt]) zz) w w':=
 KB t ka ki (fun t' ka' ki' hlt_ g0_ g1_ g2_ g3_ g4_ w_ y_=>EX t' ka' ki' g0_ g1_ g2_ g3_ g4_ w_ y_) hR hB hS hM hC w hs
termination_by SizeOf.sizeOf t
decreasing_by exact hlt_
abbrev sX(p0)(p1):=([cw p0 [.pointer<|T.ptr p1] 251,dU 361 p1]:List V.dB)
theorem vP(bt:Nat)(t:T)(ka ki va vi:Int)(hW:WF t)(hN: ∀y∈t.toL,¬(y.ka=ka∧y.ki=ki))(hC:t.toL.length≤800)(w:World)(hs:HI w (sX bt t)):
  CV 203 #[p_ bt,.agg #[u_ ka,i_ ki],.agg #[u_ va,i_ vi]] w (sX bt t) (fun(zt:T)=>(i_ 0)) (fun zt=>WF zt∧T.toL zt=gw (⟨ka,ki,va,vi⟩:It) t.toL) fun zt=>(sX bt zt):=by
 have hR:=hW.right;have hB:=hW.bal;have hS:=hW.srt;have hCn:=hW.cnt
 refine A.C Tryz.func203 rfl hs (A.c<|A.n2 [.al,.al,.p] [1,2] (fun b1 b2=>[(4,p_ b1),(5,p_ b2)]) (fun b1 b2=>[cw b1 [u_ ka,i_ ki] 322,cw b2 [u_ va,i_ vi] 322]) ?_)
 intro b1 b2
 refine A.d<|A.y<|A.c<|A.g (ps 3) [] [(7,b_ false)]<|A.cf<|A.c<|A.kp [.p,.ld 2,.cq<|.pointer<|T.ptr<|T.findT ka ki t] [7] [(13,.pointer<|T.ptr<|T.findT ka ki t)] [b1] (o1<|qo<|fun w s=>EV bt t ka ki w (s.mem (i:=0) rfl)<|s.mem (i:=1) rfl) ?_
 rcases hq10:T.findT ka ki t with _|⟨b3,x4,m5,h6,n7,l8,r9⟩
 ·refine A.g [.p,.p] [13] [(10,b_ false)]<|A.cf<|A.p<|A.d<|A.O [7,10] 11<|A.dT 4 [.p,.p,.p,.p,.ld 0,.ld 2,.p] (rg 0 7) [0,4,5,10] [(15,p_ bt),(19,.pointer<|T.ptr t),(20,.agg #[u_ ka,i_ ki]),(21,.func (.func 247) #[] #[p_ b1,p_ b2])] [bt,b1]<|A.F 7 rfl (A.I (some 22) [1,1,1] (fun w s h=>Dx t b1 b2 ka ki va vi ‹_› ‹_› ‹_› ‹_› (by omega) w h) ?_)
  rintro zt11 hz1
  obtain⟨hz11,hz12,hz13,hz14,hz15⟩:=id hz1;have hz16:=T.Right.pos hz11
  rw[hz13,uK] at hz16
  refine A.E<|A.dT 1 [.p,.p] [8,9] [15,19,20,21] [(22,.pointer<|T.ptr zt11),(24,p_ bt)] []<|A.F 10 rfl (A.sT 3 [.pointer<|T.ptr zt11] rfl (A.E<|A.M<|A.c<|A.h [.p] [(6,i_ 0)] []<|A.e<|A.Y [3,2] [i_ 0] (zt11) ?_ ?_))
  ·rfl
  exact QF hW hN ‹_›
 exact absurd (pS hq10).1 (hN _ (pS hq10).2)
theorem zE(bt:Nat)(t:T)(ka ki:Int)(hW:WF t)(hM: ∃y∈t.toL,y.ka=ka∧y.ki=ki)(hC:t.toL.length≤800)(w:World)(hs:HI w (sX bt t)):
  CV 244 #[p_ bt,.agg #[u_ ka,i_ ki]] w (sX bt t) (fun(zt:T)=>(i_ 0)) (fun zt=>WF zt∧T.toL zt=gf ka ki t.toL) fun zt=>(sX bt zt):=by
 have hR:=hW.right;have hB:=hW.bal;have hS:=hW.srt;have hCn:=hW.cnt
 refine A.C Tryz.func244 rfl hs (A.c<|A.n1 [.al,.p] [1] (fun b1=>[(3,p_ b1)]) (fun b1=>cw b1 [u_ ka,i_ ki] 322) ?_)
 intro b1
 refine A.d<|A.y<|A.c<|A.g (ps 3) [] [(5,b_ false)]<|A.cf<|A.c<|A.kp [.p,.ld 2,.cq<|.pointer<|T.ptr<|T.findT ka ki t] [5] [(11,.pointer<|T.ptr<|T.findT ka ki t)] [b1] (o1<|qo<|fun w s=>EV bt t ka ki w (s.mem (i:=0) rfl)<|s.mem (i:=1) rfl) ?_
 rcases hq9:T.findT ka ki t with _|⟨b2,x3,m4,h5,n6,l7,r8⟩
 ·obtain⟨y,hy,he⟩:=hM;exact absurd he<|vV hS hq9 y hy
 refine A.g [.p,.p] [11] [(8,b_ false)]<|A.cf<|A.p<|A.d<|A.O [6,9] 10<|A.dT 4 [.p,.p,.p,.p,.ld 0,.ld 2] (rg 0 6) [0,3,8] [(13,p_ bt),(17,.pointer<|T.ptr t),(18,.agg #[u_ ka,i_ ki])] [bt,b1]<|A.F 6 rfl (A.I (some 19) [1] (fun w s h=>EX t ka ki ‹_› ‹_› ‹_› ‹_› (by omega) w h) ?_)
 rintro zt10 hz1
 obtain⟨hz11,hz12,hz13,hz14,hz15⟩:=id hz1;have hz16:=T.Right.pos hz11
 rw[hz13] at hz16;have hz17:=vp (a:=ka) (i:=ki)<|T.toL t
 refine A.E<|A.dT 1 [.p,.p] [7,8] [13,17,18] [(19,.pointer<|T.ptr zt10),(21,p_ bt)] []<|A.F 9 rfl (A.sT 1 [.pointer<|T.ptr zt10] rfl (A.E<|A.M<|A.c<|A.h [.p] [(4,i_ 0)] []<|A.e<|A.Y [1,0] [i_ 0] (zt10) ?_ ?_))
 ·rfl
 exact QG hW ‹_›
theorem Dy(bt:Nat)(t:T)(hW:WF t)(w:World)(r0:(cw bt [.pointer<|T.ptr t] 251).holds w)(r1:(dU 361 t).holds w):
  CW 204 #[p_ bt] w (.tuple #[.agg #[u_<|(t.toL.head?.getD default).ka,i_<|(t.toL.head?.getD default).ki,u_<|(t.toL.head?.getD default).va,i_<|(t.toL.head?.getD default).vi],b_<|t.toL.head?.isSome]):=by
 have hR:=hW.right;have hB:=hW.bal;have hS:=hW.srt;have hCn:=hW.cnt
 refine A.C Tryz.func204 rfl (HS.nil w) (A.c<|A.n1 [.al,.p] [] (fun b1=>[(2,p_ b1)]) (fun b1=>cw b1 [u_ 0,i_ 0,u_ 0,i_ 0] 324) ?_)
 intro b1
 refine A.d<|A.c<|A.k [.p,.cq<|i_<|T.cnt t,.p] [] [(7,b_<|(T.cnt t)==0)] [] (o1<|qo<|fun w s=>LQ bt t w (d6 s r0)<|d6 s r1)<|A.v rfl (fun e1=>?_) (fun e1=>?_)
 ·refine A.c (A.gs [.p,.st 0,.p] [0,7] [(3,b_ false)] [] [b1]<|A.e<|A.aj 0 [u_ 0,i_ 0,u_ 0,i_ 0] (b_ false) ?_)
  (rw[show t.toL=[] from by have:=hR.pos;simp at*;exact List.eq_nil_of_length_eq_zero<|by omega];rfl)
 refine A.p<|A.c<|A.k [.p,.p,.p,.rd [.pointer<|T.ptr t],.p] [0,7] [(4,.pointer<|T.ptr t)] [] (o1<|ro ⟨bt,0,none⟩ (vs:=[.pointer<|T.ptr t])<|df r0 rfl)<|A.d<|A.y ?_
 have hne:t≠ .nil:=by rintro rfl;simp[T.cnt] at*
 refine A.lp (σ:=T) [] (fun u=>[(4,.pointer<|T.ptr u)]) [] (fun u=>[]) (fun u=>((dU 361 u).holds w)∧(u.toL.head?=t.toL.head?)∧(u≠ .nil)) (fun u=>SizeOf.sizeOf u) (t:T) ⟨r1,(by rfl),hne⟩ ?_ ?_
 ·exact A.J [0]
 rintro u ⟨hu,hhd,hun⟩
 refine A.d<|A.c<|A.N [.p] [] [(13,.pointer<|T.ptr u)] ?_
 rcases u with _|⟨b2,x3,m4,h5,n6,l7,r8⟩
 ·exact absurd rfl hun
 refine A.kp [.p,.p,.p,.rd [.pointer<|T.ptr l7]] [13] [(4,p_ b2),(17,.pointer<|T.ptr l7)] [] (o1<|ro ⟨b2,4,none⟩ (vs:=[.pointer<|T.ptr l7])<|df hu.1 rfl) ?_
 rcases l7 with _|⟨b9,x10,m11,h12,n13,l14,r15⟩
 ·refine A.g [.p] [17] [(18,b_ false)] (A.cf<|A.aA<|A.c<|A.ks [.p,.p,.p,.rd [u_ x3.ka,i_ x3.ki,u_ x3.va,i_ x3.vi],.st 0,.p] [4,18] [(3,b_ true)] [(0,cw b1 [u_ x3.ka,i_ x3.ki,u_ x3.va,i_ x3.vi] 324)] [b1] (o1<|ro ⟨b2,0,none⟩ (vs:=[u_ x3.ka,i_ x3.ki,u_ x3.va,i_ x3.vi])<|df hu.1 rfl)<|A.e<|A.aj 0 [u_ x3.ka,i_ x3.ki,u_ x3.va,i_ x3.vi] (b_ true) ?_)
  (rw[←hhd];rfl)
 refine A.g [.p] [17] [(18,b_ true)]<|A.ct<|A.p<|A.y<|A.s<|A.k [.p,.p,.p,.p,.rd [p_ b9],.p] [18] [(4,p_ b9)] [] (o1<|ro ⟨b2,4,none⟩ (vs:=[p_ b9])<|df hu.1 rfl)<|A.Z ((T.node b9 x10 m11 h12 n13 l14 r15)) ⟨hu.2.1,(by rw[←hhd];simp[T.toL]),(by simp)⟩ (by(simp;omega)) ?_
 exact A.J [0]
theorem Kr(bt:Nat)(t:T)(n:Int)(hW:WF t)(w:World)(r0:(cw bt [.pointer<|T.ptr t] 251).holds w)(r1:(dU 361 t).holds w):
  CW 252 #[p_ bt,u_ n] w (.tuple #[.agg #[u_<|((eR n t.toL).getD default).ka,i_<|((eR n t.toL).getD default).ki,u_<|((eR n t.toL).getD default).va,i_<|((eR n t.toL).getD default).vi],b_<|(eR n t.toL).isSome]):=by
 have hR:=hW.right;have hB:=hW.bal;have hS:=hW.srt;have hCn:=hW.cnt
 refine A.C Tryz.func252 rfl (HS.nil w) (A.c<|A.n1 [.al,.p] [] (fun b1=>[(4,p_ b1)]) (fun b1=>cw b1 [u_ 0,i_ 0,u_ 0,i_ 0] 324) ?_)
 intro b1
 refine A.d<|A.c<|A.k [.p,.p,.p,.p,.p,.p,.rd [.pointer<|T.ptr t],.p,.cq<|b_<|T.hasB n t,.p,.p] [] [(17,b_ (!(T.hasB n t)))] [] (oc (ro ⟨bt,0,none⟩ (vs:=[.pointer<|T.ptr t])<|df r0 rfl)<|o1<|qo<|fun w s=>EW t n w<|d6 s r1)<|A.v rfl (fun e1=>?_) (fun e1=>?_)
 ·refine A.c (A.gs [.p,.st 0,.p] [0,1,17] [(5,b_ false)] [] [b1]<|A.e<|A.aj 0 [u_ 0,i_ 0,u_ 0,i_ 0] (b_ false) ?_)
  (rw[yv hR<|by simp_all];rfl)
 refine A.p<|A.c<|A.k [.p,.p,.p,.rd [.pointer<|T.ptr t],.p] [0,17] [(6,.pointer<|T.ptr t)] [] (o1<|ro ⟨bt,0,none⟩ (vs:=[.pointer<|T.ptr t])<|df r0 rfl)<|A.y ?_
 have hE_:=e1
 refine A.lp (σ:=T) [] (fun u=>[(6,.pointer<|T.ptr u)]) [] (fun u=>[]) (fun u=>((dU 361 u).holds w)∧u.Right∧(eR n u.toL=eR n t.toL)∧(u.hasB n=true)) (fun u=>SizeOf.sizeOf u) (t:T) ⟨r1,hR,(by rfl),(by simpa using hE_)⟩ ?_ ?_
 ·exact A.J [0]
 rintro u ⟨hu,hRu,hf,hb⟩
 refine A.y<|A.y<|A.c<|A.N [.p] [] [(29,.pointer<|T.ptr u)] ?_
 rcases u with _|⟨b2,x3,m4,h5,n6,l7,r8⟩
 ·simp[T.hasB] at hb
 obtain⟨_,_,_,hRu_l,hRu_r⟩:=id hRu
 refine A.k [.p,.p,.p,.rd [.pointer<|T.ptr l7],.p,.cq<|b_<|T.hasB n l7,.p] [29] [(6,p_ b2),(28,b_<|T.hasB n l7)] [] (oc (ro ⟨b2,4,none⟩ (vs:=[.pointer<|T.ptr l7])<|df hu.1 rfl)<|o1<|qo<|fun w s=>EW l7 n w<|d6 s hu.2.1)<|A.v rfl (fun e2=>?_) (fun e2=>?_)
 ·have p2:=e2
  refine A.s<|A.k [.p,.p,.p,.p,.rd [.pointer<|T.ptr l7],.p] [28] [(6,.pointer<|T.ptr l7)] [] (o1<|ro ⟨b2,4,none⟩ (vs:=[.pointer<|T.ptr l7])<|df hu.1 rfl)<|A.Z (l7) ⟨hu.2.1,hRu_l,(by rw[←hf];exact(OF hRu_l ‹_›).symm),‹_›⟩ (by(simp;omega)) ?_
  exact A.J [0]
 refine A.c<|A.k [.p,.p,.p,.p,.p,.rd [u_ x3.va],.p,.p,.p] [28] [(41,b_<|decide (x3.va≤n))] [] (o1<|ro ⟨b2,2,none⟩ (vs:=[u_ x3.va])<|df hu.1 rfl)<|A.v rfl (fun e3=>?_) (fun e3=>?_)
 ·have p3:=of_decide_eq_true e3
  refine A.c (A.ks [.p,.p,.p,.rd [u_ x3.ka,i_ x3.ki,u_ x3.va,i_ x3.vi],.st 0,.p] [1,6,41] [(5,b_ true)] [(0,cw b1 [u_ x3.ka,i_ x3.ki,u_ x3.va,i_ x3.vi] 324)] [b1] (o1<|ro ⟨b2,0,none⟩ (vs:=[u_ x3.ka,i_ x3.ki,u_ x3.va,i_ x3.vi])<|df hu.1 rfl)<|A.e<|A.aj 0 [u_ x3.ka,i_ x3.ki,u_ x3.va,i_ x3.vi] (b_ true) ?_)
  (rw[←hf,MS hRu_l ‹_› (by simp_all)];rfl)
 have p3:=of_decide_eq_false e3
 refine A.s<|A.k [.p,.p,.p,.p,.rd [.pointer<|T.ptr r8],.p] [41] [(6,.pointer<|T.ptr r8)] [] (o1<|ro ⟨b2,5,none⟩ (vs:=[.pointer<|T.ptr r8])<|df hu.1 rfl)<|A.Z (r8) ⟨hu.2.2,hRu_r,(by rw[←hf];exact(OG hRu_l ‹_› (by simp_all)).symm),(TY hRu hb ‹_› (by simp_all))⟩ (by(simp;omega)) ?_
 exact A.J [0]
theorem Dz(bt:Nat)(t:T)(n:Int)(hW:WF t)(w:World)(r0:(cw bt [.pointer<|T.ptr t] 251).holds w)(r1:(dU 361 t).holds w):
  CW 222 #[p_ bt,u_ n] w (.tuple #[.agg #[u_<|((eS n t.toL).getD default).ka,i_<|((eS n t.toL).getD default).ki,u_<|((eS n t.toL).getD default).va,i_<|((eS n t.toL).getD default).vi],b_<|(eS n t.toL).isSome]):=by
 have hR:=hW.right;have hB:=hW.bal;have hS:=hW.srt;have hCn:=hW.cnt
 refine A.C Tryz.func222 rfl (HS.nil w) (A.c<|A.n1 [.al,.p] [] (fun b1=>[(4,p_ b1)]) (fun b1=>cw b1 [u_ 0,i_ 0,u_ 0,i_ 0] 324) ?_)
 intro b1
 refine A.c<|A.n1 [.al] [] (fun b2=>[(6,p_ b2)]) (fun b2=>cw b2 [u_ 0,i_ 0,u_ 0,i_ 0] 324) ?_
 intro b2
 refine A.c<|A.g1 [.al,.st 2] [] (fun b3=>[(7,p_ b3)]) (fun b3=>[]) (fun b3=>cw b3 [b_ false] 4) (fun b3=>[b3]) ?_
 intro b3
 refine A.c<|A.g [.p,.p] [] [(8,.func (.func 257) #[] #[p_ b3,p_ b2])]<|A.d<|A.c<|A.g [.p,.p] [] [(13,b_ false)]<|A.cf<|A.p<|A.d<|A.c<|A.k [.p,.p,.p,.rd [.pointer<|T.ptr t],.p] [0,13] [(9,.pointer<|T.ptr t)] [] (o1<|ro ⟨bt,0,none⟩ (vs:=[.pointer<|T.ptr t])<|df r0 rfl)<|A.y<|A.su 1 (cw b2 [u_<|(default:It).ka,i_<|(default:It).ki,u_<|(default:It).va,i_<|(default:It).vi] 324) rfl (iL<|cc (congrArg u_ (by rfl:0=(default:It).ka))<|cc (congrArg i_ (by rfl:0=(default:It).ki))<|cc (congrArg u_ (by rfl:0=(default:It).va))<|cc (congrArg i_ (by rfl:0=(default:It).vi)) rfl) (A.lp (σ:=T×Bool×It) [] (fun(u,mt,ov)=>[(9,.pointer<|T.ptr u)]) [1,1] (fun(u,mt,ov)=>[cw b3 [b_ mt] 4,cw b2 [u_ ov.ka,i_ ov.ki,u_ ov.va,i_ ov.vi] 324]) (fun(u,mt,ov)=>((dU 361 u).holds w)∧u.Right∧(fa u.toL)∧(gR (ob mt ov) (bl n u.toL)=eS n t.toL)∧(mt=false→ov=default)) (fun(u,mt,ov)=>SizeOf.sizeOf u) (t,false,(default:It)) ⟨r1,hR,hS,(by rfl),(fun _=>rfl)⟩ ?_ ?_)
 ·exact A.J [2,1,0]
 rintro⟨u,mt,ov⟩ ⟨hu,hRu,hSu,hf,hm⟩
 refine A.d<|A.c<|A.N [.p] [] [(19,.pointer<|T.ptr u)] ?_
 rcases u with _|⟨b4,x5,m6,h7,n8,l9,r10⟩
 ·refine A.g [.p] [19] [(9,n_),(20,b_ false)] ?_
  refine A.cf ?_
  refine A.aA ?_
  refine A.d ?_
  refine A.d3 [2] 4 [cw b3 [b_ mt] 4,cw b2 [u_ ov.ka,i_ ov.ki,u_ ov.va,i_ ov.vi] 324] ?_
  refine A.bT 2 [.ld 1,.ld 0] [0,1] [(4,p_ b1),(58,.agg #[u_ ov.ka,i_ ov.ki,u_ ov.va,i_ ov.vi]),(59,b_ mt)] [b2,b3] (sd [2]) ?_
  refine A.o3 2 rfl (A.sT 2 [u_ ov.ka,i_ ov.ki,u_ ov.va,i_ ov.vi] rfl ?_)
  refine A.aF (sd [2]) ?_
  refine A.bT 0 [.p] [3] [(4,p_ b1),(5,b_ mt)] [] (sd [2]) ?_
  refine A.f3 ?_
  refine A.e ?_
  refine A.aj 2 [u_ ov.ka,i_ ov.ki,u_ ov.va,i_ ov.vi] (b_ mt) ?_
  have hf':ob mt ov=eS n t.toL:=hf;rw[←hf'];cases mt with|true=>rfl|false=>rw[hm rfl];rfl
 obtain⟨_,_,_,hRu_l,hRu_r⟩:=id hRu
 refine A.g [.p] [19] [(9,p_ b4),(20,b_ true)]<|A.ct<|A.p<|A.y<|A.d<|A.c<|A.k [.p,.p,.p,.p,.p,.rd [u_ x5.ka],.p,.p] [20] [(28,b_<|decide (x5.ka>n))] [] (o1<|ro ⟨b4,0,none⟩ (vs:=[u_ x5.ka])<|df hu.1 rfl)<|A.v rfl (fun e1=>?_) (fun e1=>?_)
 ·have p1:=of_decide_eq_true e1
  refine A.c<|A.k [.p,.p,.p,.p,.rd [.pointer<|T.ptr l9],.p] [28] [(9,.pointer<|T.ptr l9)] [] (o1<|ro ⟨b4,4,none⟩ (vs:=[.pointer<|T.ptr l9])<|df hu.1 rfl)<|A.aA<|A.Z (l9,mt,ov) ⟨hu.2.1,hRu_l,((kE hSu).1),(by rw[←hf];(rw[Uc _ hSu ‹_›];done)),hm⟩ (by(simp;omega)) ?_
  exact A.J [0,0,0]
 have p1:=of_decide_eq_false e1
 refine A.p<|A.c<|A.kp [.p,.p,.p,.p,.rd [u_ x5.ka,i_ x5.ki,u_ x5.va,i_ x5.vi]] [28] [(34,.func (.func 257) #[] #[p_ b3,p_ b2]),(38,.agg #[u_ x5.ka,i_ x5.ki,u_ x5.va,i_ x5.vi])] [] (o1<|ro ⟨b4,0,none⟩ (vs:=[u_ x5.ka,i_ x5.ki,u_ x5.va,i_ x5.vi])<|df hu.1 rfl)<|A.j<|A.iX (some 39) [.agg #[u_ x5.ka,i_ x5.ki,u_ x5.va,i_ x5.vi],p_ b3,p_ b2] Tryz.func257 rfl (A.c<|A.n1 [.al] [0] (fun b11=>[(3,p_ b11)]) (fun b11=>cw b11 [u_ x5.ka,i_ x5.ki,u_ x5.va,i_ x5.vi] 324) ?_)
 intro b11
 refine A.d<|A.c<|A.gl [.ld 0,.p] [] [(5,b_ (!mt))] [b3]<|A.cn (!mt) (fun e2=>?_)<|fun e2=>?_
 ·refine A.s<|A.gs [.ld 3,.st 1] [5] [] [(1,cw b2 [u_ x5.ka,i_ x5.ki,u_ x5.va,i_ x5.vi] 324)] [b11,b2]<|A.d<|A.s<|A.gT [.st 0] [(2,p_ b2),(3,p_ b11)] [(0,cw b3 [b_ true] 4)] [b3]<|A.s<|A.ks [.ld 1,.ld 3,.cq<|.agg #[u_<|(dO x5 x5).ka,i_<|(dO x5 x5).ki,u_<|(dO x5 x5).va,i_<|(dO x5 x5).vi],.st 1] [2,3] [] [(1,cw b2 [u_<|(dO x5 x5).ka,i_<|(dO x5 x5).ki,u_<|(dO x5 x5).va,i_<|(dO x5 x5).vi] 324)] [b2,b11,b2] (o1<|qo<|fun w s=>q9 x5 x5 w)<|A.bC [] (fun _ w r s=>trivial)<|A.ae (by kernel_rfl)<|A.aJ [cw b3 [b_ true] 4,cw b2 [u_<|(dO x5 x5).ka,i_<|(dO x5 x5).ki,u_<|(dO x5 x5).va,i_<|(dO x5 x5).vi] 324,cw b1 [u_ 0,i_ 0,u_ 0,i_ 0] 324] (sd [3])<|A.aB<|A.d<|A.d<|A.s<|A.hk [.p,.p,.p,.p,.rd [.pointer<|T.ptr l9],.p] [(1,u_ n),(4,p_ b1),(6,p_ b2),(7,p_ b3),(8,.func (.func 257) #[] #[p_ b3,p_ b2]),(9,p_ b4),(10,.pointer<|T.ptr l9)] [] (o1<|ro ⟨b4,4,none⟩ (vs:=[.pointer<|T.ptr l9])<|df hu.1 rfl)<|A.d<|A.s<|A.N [.p] [] [(45,.pointer<|T.ptr l9)] ?_
  rcases l9 with _|⟨b12,x13,m14,h15,n16,l17,r18⟩
  ·refine A.g [.p] [45] [(10,n_),(46,b_ false)]<|A.cf<|A.p<|A.s<|A.k [.p,.p,.p,.p,.rd [.pointer<|T.ptr r10],.p] [10,46] [(9,.pointer<|T.ptr r10)] [] (o1<|ro ⟨b4,5,none⟩ (vs:=[.pointer<|T.ptr r10])<|df hu.1 rfl)<|A.Z (r10,true,dO x5 x5) ⟨hu.2.2,hRu_r,((kE hSu).2.1),(by rw[←hf];(rw[JH _ _ hSu ‹_›];simp_all[ob];done)),(by(intro h_;cases h_))⟩ (by(simp;done)) ?_
   exact A.J [0,0,0]
  refine A.g [.p] [45] [(10,p_ b12),(46,b_ true)]<|A.ct<|A.s<|A.kp [.p,.p,.p,.p,.rd [u_ m14.ka,i_ m14.ki,u_ m14.va,i_ m14.vi]] [10,46] [(47,.func (.func 257) #[] #[p_ b3,p_ b2]),(51,.agg #[u_ m14.ka,i_ m14.ki,u_ m14.va,i_ m14.vi])] [] (o1<|ro ⟨b12,6,none⟩ (vs:=[u_ m14.ka,i_ m14.ki,u_ m14.va,i_ m14.vi])<|df hu.2.1.1 rfl)<|A.j<|A.iX (some 52) [.agg #[u_ m14.ka,i_ m14.ki,u_ m14.va,i_ m14.vi],p_ b3,p_ b2] Tryz.func257 rfl (A.c<|A.m1 [.al] (fun b19=>[(1,p_ b3),(2,p_ b2),(3,p_ b19)]) (fun _=>[]) (fun b19=>cw b19 [u_ m14.ka,i_ m14.ki,u_ m14.va,i_ m14.vi] 324) (fun b19=>[]) ?_)
  intro b19
  refine A.d<|A.d<|A.s<|A.gl [.ld 0,.p] [] [(5,b_ false)] [b3]<|A.cf<|A.p<|A.d<|A.s<|A.gs [.st 0] [1,5] [] [] [b3]<|A.s<|A.ks [.ld 1,.ld 3,.cq<|.agg #[u_<|(dO (dO x5 x5) m14).ka,i_<|(dO (dO x5 x5) m14).ki,u_<|(dO (dO x5 x5) m14).va,i_<|(dO (dO x5 x5) m14).vi],.st 1] [2,3] [] [(1,cw b2 [u_<|(dO (dO x5 x5) m14).ka,i_<|(dO (dO x5 x5) m14).ki,u_<|(dO (dO x5 x5) m14).va,i_<|(dO (dO x5 x5) m14).vi] 324)] [b2,b19,b2] (o1<|qo<|fun w s=>q9 (dO x5 x5) m14 w)<|A.bC [] (fun _ w r s=>trivial)<|A.ae (by kernel_rfl)<|A.aJ [cw b3 [b_ true] 4,cw b2 [u_<|(dO (dO x5 x5) m14).ka,i_<|(dO (dO x5 x5) m14).ki,u_<|(dO (dO x5 x5) m14).va,i_<|(dO (dO x5 x5) m14).vi] 324,cw b1 [u_ 0,i_ 0,u_ 0,i_ 0] 324] (sd [3])<|A.aB<|A.s<|A.hk [.p,.p,.p,.p,.rd [.pointer<|T.ptr r10],.p] [(1,u_ n),(4,p_ b1),(6,p_ b2),(7,p_ b3),(8,.func (.func 257) #[] #[p_ b3,p_ b2]),(9,.pointer<|T.ptr r10)] [] (o1<|ro ⟨b4,5,none⟩ (vs:=[.pointer<|T.ptr r10])<|df hu.1 rfl)<|A.Z (r10,true,dO (dO x5 x5) m14) ⟨(by exact hu.2.2),(by exact hRu_r),(by exact(kE hSu).2.1),(by rw[←hf];(rw[JI _ _ hRu_l rfl hSu (by assumption)];simp_all[ob];done)),(by(intro h_;cases h_))⟩ (by(simp;omega)) ?_
  exact A.J [0,0,0]
 refine A.p<|A.d<|A.s<|A.gs [.st 0] [1,5] [] [(0,cw b3 [b_ true] 4)] [b3]<|A.s<|A.gU [.ld 1,.ld 3,.cq<|.agg #[u_<|(dO ov x5).ka,i_<|(dO ov x5).ki,u_<|(dO ov x5).va,i_<|(dO ov x5).vi],.st 1] [] [(1,cw b2 [u_<|(dO ov x5).ka,i_<|(dO ov x5).ki,u_<|(dO ov x5).va,i_<|(dO ov x5).vi] 324)] [b2,b11,b2] (o1<|qo<|fun w s=>q9 ov x5 w)<|A.bC [] (fun _ w r s=>trivial)<|A.ae (by kernel_rfl)<|A.aJ [cw b3 [b_ true] 4,cw b2 [u_<|(dO ov x5).ka,i_<|(dO ov x5).ki,u_<|(dO ov x5).va,i_<|(dO ov x5).vi] 324,cw b1 [u_ 0,i_ 0,u_ 0,i_ 0] 324] (sd [3])<|A.aB<|A.d<|A.d<|A.s<|A.hk [.p,.p,.p,.p,.rd [.pointer<|T.ptr l9],.p] [(1,u_ n),(4,p_ b1),(6,p_ b2),(7,p_ b3),(8,.func (.func 257) #[] #[p_ b3,p_ b2]),(9,p_ b4),(10,.pointer<|T.ptr l9)] [] (o1<|ro ⟨b4,4,none⟩ (vs:=[.pointer<|T.ptr l9])<|df hu.1 rfl)<|A.d<|A.s<|A.N [.p] [] [(45,.pointer<|T.ptr l9)] ?_
 rcases l9 with _|⟨b20,x21,m22,h23,n24,l25,r26⟩
 ·refine A.g [.p] [45] [(10,n_),(46,b_ false)]<|A.cf<|A.p<|A.s<|A.k [.p,.p,.p,.p,.rd [.pointer<|T.ptr r10],.p] [10,46] [(9,.pointer<|T.ptr r10)] [] (o1<|ro ⟨b4,5,none⟩ (vs:=[.pointer<|T.ptr r10])<|df hu.1 rfl)<|A.Z (r10,true,dO ov x5) ⟨hu.2.2,hRu_r,((kE hSu).2.1),(by rw[←hf];(rw[JH _ _ hSu ‹_›];simp_all[ob];done)),(by(intro h_;cases h_))⟩ (by(simp;done)) ?_
  exact A.J [0,0,0]
 refine A.g [.p] [45] [(10,p_ b20),(46,b_ true)]<|A.ct<|A.s<|A.kp [.p,.p,.p,.p,.rd [u_ m22.ka,i_ m22.ki,u_ m22.va,i_ m22.vi]] [10,46] [(47,.func (.func 257) #[] #[p_ b3,p_ b2]),(51,.agg #[u_ m22.ka,i_ m22.ki,u_ m22.va,i_ m22.vi])] [] (o1<|ro ⟨b20,6,none⟩ (vs:=[u_ m22.ka,i_ m22.ki,u_ m22.va,i_ m22.vi])<|df hu.2.1.1 rfl)<|A.j<|A.iX (some 52) [.agg #[u_ m22.ka,i_ m22.ki,u_ m22.va,i_ m22.vi],p_ b3,p_ b2] Tryz.func257 rfl (A.c<|A.m1 [.al] (fun b27=>[(1,p_ b3),(2,p_ b2),(3,p_ b27)]) (fun _=>[]) (fun b27=>cw b27 [u_ m22.ka,i_ m22.ki,u_ m22.va,i_ m22.vi] 324) (fun b27=>[]) ?_)
 intro b27
 refine A.d<|A.d<|A.s<|A.gl [.ld 0,.p] [] [(5,b_ false)] [b3]<|A.cf<|A.p<|A.d<|A.s<|A.gs [.st 0] [1,5] [] [] [b3]<|A.s<|A.ks [.ld 1,.ld 3,.cq<|.agg #[u_<|(dO (dO ov x5) m22).ka,i_<|(dO (dO ov x5) m22).ki,u_<|(dO (dO ov x5) m22).va,i_<|(dO (dO ov x5) m22).vi],.st 1] [2,3] [] [(1,cw b2 [u_<|(dO (dO ov x5) m22).ka,i_<|(dO (dO ov x5) m22).ki,u_<|(dO (dO ov x5) m22).va,i_<|(dO (dO ov x5) m22).vi] 324)] [b2,b27,b2] (o1<|qo<|fun w s=>q9 (dO ov x5) m22 w)<|A.bC [] (fun _ w r s=>trivial)<|A.ae (by kernel_rfl)<|A.aJ [cw b3 [b_ true] 4,cw b2 [u_<|(dO (dO ov x5) m22).ka,i_<|(dO (dO ov x5) m22).ki,u_<|(dO (dO ov x5) m22).va,i_<|(dO (dO ov x5) m22).vi] 324,cw b1 [u_ 0,i_ 0,u_ 0,i_ 0] 324] (sd [3])<|A.aB<|A.s<|A.hk [.p,.p,.p,.p,.rd [.pointer<|T.ptr r10],.p] [(1,u_ n),(4,p_ b1),(6,p_ b2),(7,p_ b3),(8,.func (.func 257) #[] #[p_ b3,p_ b2]),(9,.pointer<|T.ptr r10)] [] (o1<|ro ⟨b4,5,none⟩ (vs:=[.pointer<|T.ptr r10])<|df hu.1 rfl)<|A.Z (r10,true,dO (dO ov x5) m22) ⟨(by exact hu.2.2),(by exact hRu_r),(by exact(kE hSu).2.1),(by rw[←hf];(rw[JI _ _ hRu_l rfl hSu (by assumption)];simp_all[ob];done)),(by(intro h_;cases h_))⟩ (by(simp;omega)) ?_
 exact A.J [0,0,0]
theorem FA:
  CS 88 #[] [] (fun(bt:Nat)=>(p_ bt)) (fun _=>True) fun bt=>[cw bt [.pointer<|T.ptr T.nil] 251,dU 361 T.nil]:=by
 intro w hs
 refine A.C Tryz.func88 rfl hs (A.aO [] [] trivial rfl (A.c<|A.g [.p] [] []<|A.c<|A.n1 [.p,.al,.p] [] (fun b1=>[(0,p_ b1)]) (fun b1=>cw b1 [n_] 251) ?_))
 intro b1
 refine A.e<|A.bg [cw b1 [n_] 251,dU 361 T.nil] rfl (A.Y [0,0] [p_ b1] (b1) ?_ ?_)
 ·rfl
 trivial
structure dq(t:T)(kv:List (Int×It)):Prop where
 wf:WF t
 mem: ∀y,y∈t.toL↔cu kv y.ki=some y
 own: ∀k y,cu kv k=some y→y.ki=k∧y.vi=k
 nd:(kv.map (·.1)).Nodup
 len:t.toL.length=kv.length
theorem pX:dq .nil []:=⟨QE,fun y=>by simp[T.toL,cu],fun k y h=>by simp[cu] at h,by simp,rfl⟩
variable{kv:List (Int×It)}{k:Int}
theorem uB(h:cu kv k≠none): ∃y,cu kv k=some y:=by
 cases e:cu kv k with
 |none=>exact absurd e h
 |some y=>exact⟨y,rfl⟩
theorem L0(hS:fa L)(hx:x∈L):(gf x.ka x.ki L).length+1=L.length:=by
 obtain⟨A,B,rfl⟩:=List.append_of_mem hx
 rw[AG hS];simp;omega
theorem zf(h:dq t kv)(hk:cu kv k≠none): ∃y∈t.toL,y.ka=((cu kv k).getD default).ka∧y.ki=((cu kv k).getD default).ki:=by
 obtain⟨y,e⟩:=uB hk
 have:=h.own k y e
 exact⟨y,(h.mem y).2 (by rw[this.1];exact e),by rw[e];rfl,by rw[e];rfl⟩
theorem zg(h:dq t kv)(hk:cu kv k≠none)(hz:WF z∧z.toL=gf ((cu kv k).getD default).ka ((cu kv k).getD default).ki t.toL):dq z (dJ kv k):=by
 obtain⟨hW,e⟩:=hz
 obtain⟨x,ex⟩:=uB hk
 have ox:=h.own k x ex
 rw[ex] at e;simp only[Option.getD_some] at e
 have hx:x∈t.toL:=(h.mem x).2 (by rw[ox.1];exact ex)
 refine⟨hW,fun y=>?_,fun q y hq=>?_,kB h.nd k,?_⟩
 ·rw[e,iG h.nd]
  unfold gf;rw[List.mem_filter,h.mem y]
  by_cases e2:k=y.ki
  ·rw[if_pos e2];subst e2
   constructor
   ·rintro⟨h1,h2⟩;rw[ex] at h1;cases h1;simp at h2
   ·intro h1;cases h1
  ·rw[if_neg e2]
   constructor
   ·exact fun h1=>h1.1
   ·intro h1;refine⟨h1,?_⟩
    simp;right;intro h3;exact e2<|by rw[h3,ox.1]
 ·rw[iG h.nd] at hq;split at hq
  ·cases hq
  ·exact h.own q y hq
 ·have h1:=L0 h.wf.srt hx;have h2:=wE hk;have h3:=h.len
  rw[e];omega
theorem vx(h:dq t kv)(hk:cu kv k=none): ∀y∈t.toL,¬(y.ka=a∧y.ki=k):=by
 rintro y hy ⟨_,e⟩
 have:=(h.mem y).1 hy;rw[e,hk] at this;cases this
theorem vy{b:Int}(h:dq t kv)(hk:cu kv k=none)(hz:WF z∧z.toL=gw ⟨a,k,b,k⟩ t.toL):dq z (dC kv k ⟨a,k,b,k⟩):=by
 obtain⟨hW,e⟩:=hz
 refine⟨hW,fun y=>?_,fun q y hq=>?_,kj h.nd _ _,?_⟩
 ·rw[e,zX,i7,h.mem y]
  by_cases e2:k=y.ki
  ·rw[if_pos e2];subst e2
   constructor
   ·rintro(h1|h1)
    ·rw[←h1]
    ·rw[hk] at h1;cases h1
   ·intro h1;left;simpa using h1.symm
  ·rw[if_neg e2]
   constructor
   ·rintro(h1|h1)
    ·exact absurd (by rw[h1]) e2
    ·exact h1
   ·exact .inr
 ·rw[i7] at hq;split at hq
  ·cases hq;exact⟨by assumption,by assumption⟩
  ·exact h.own q y hq
 ·rw[e,uK,yk _ hk,h.len]
theorem L1{kv':List (Int×It)}(h:dq t kv)(hg: ∀k,cu kv' k=cu kv k)(hn:(kv'.map (·.1)).Nodup)(hl:kv'.length=kv.length):dq t kv':=
 ⟨h.wf,fun y=>by rw[hg];exact h.mem y,fun k y hk=>h.own k y (by rw[←hg];exact hk),hn,by rw[hl];exact h.len⟩
theorem AN(h:cu kv k=none):dJ kv k=kv:=by
 induction kv with
 |nil=>rfl
 |cons p kv ih=>
  simp only[cu] at h;simp only[dJ]
  by_cases e:p.1=k
  ·rw[if_pos e] at h;cases h
  ·rw[if_neg e] at h;rw[if_neg e,ih h]
theorem tu(hn:(kv.map (·.1)).Nodup)(k:Int):cu (dJ kv k) k=none:=by rw[iG hn,if_pos rfl]
theorem M8{b:Int}(hkv:(kv.map (·.1)).Nodup)(hk:cu kv k≠none)(h:dq t (dJ kv k))(hz:WF z∧z.toL=gw ⟨a,k,b,k⟩ t.toL):dq z (dC kv k ⟨a,k,b,k⟩):=by
 have h1:=vy h (tu hkv k) hz
 refine L1 h1 (fun q=>?_) (kj hkv _ _) ?_
 ·rw[i7,i7];split
  ·rfl
  ·rw[iG hkv,if_neg ‹_›]
 ·rw[Dj _ hk,yk _<|tu hkv k];have:=wE hk;omega
theorem Gf(kv:List (Int×It))(k:Int):(dJ kv k).length≤kv.length:=by
 by_cases h:cu kv k=none
 ·rw[AN h];exact Nat.le_refl _
 ·have:=wE h;omega
def oe:Int:=9223372036854775808
def nG(L:List It):Int:=if L=[] then oe else dS (L.head?.getD default).ka oe
def i9(L:List It):Int:=if L=[] then oe else dS ((eS 18446744073709551615 L).getD default).va oe
theorem yw(h:dq t kv):(kv.length:Int)=0↔t.toL=[]:=by
 have:=h.len;rw[←List.length_eq_zero_iff];omega
theorem mJ:jd Tryz.prog 3 (fun k:Int=>i_ k):=ee<|by kernel_rfl
abbrev so(p0)(p1)(p2):=(cw p0 [p_ p1,.map<|some p2] 190:V.dB)
abbrev xY(p0):=(cw p0 [.pointer<|T.ptr T.nil] 251:V.dB)
abbrev xZ(p0):=(dY (fun k:Int=>i_ k) (fun y:It=>(.agg #[u_ y.ka,i_ y.ki,u_ y.va,i_ y.vi])) p0 ([]:List (Int×It)):V.dB)
theorem Q2:
  CS 60 #[] [] (fun((be,bt,mb):Nat×Nat×Nat)=>(p_ be)) (fun _=>True) fun(be,bt,mb)=>[so be bt mb,xY bt,dU 361 T.nil,xZ mb]:=by
 intro w hs
 refine A.C Tryz.func60 rfl hs (A.c<|A.g [.p] [] []<|A.c<|A.j<|A.I (some 1) [] (fun w s h=>FA w h) ?_)
 rintro bt1-
 refine A.j<|A.aY (fun k:Int=>i_ k) (fun y:It=>(.agg #[u_ y.ka,i_ y.ki,u_ y.va,i_ y.vi])) 2 (by kernel_rfl) rfl (fun m2=>[xY bt1,dU 361 T.nil,xZ m2]) (fun _=>rfl) ?_
 intro m2
 refine A.m1 [.p,.al,.p] (fun b3=>[(0,p_ b3)]) (fun _=>[]) (fun b3=>so b3 bt1 m2) (fun b3=>[]) ?_
 intro b3
 refine A.e<|A.Y [3,0,0,0] [p_ b3] (b3,bt1,m2) ?_ ?_
 ·rfl
 trivial
abbrev qD(p0)(p1):=(cw p0 [.pointer<|T.ptr p1] 251:V.dB)
abbrev xc(p0)(p1):=(dY (fun k:Int=>i_ k) (fun y:It=>(.agg #[u_ y.ka,i_ y.ki,u_ y.va,i_ y.vi])) p0 p1:V.dB)
theorem Db(be bt mb:Nat)(t:T)(kv:List (Int×It))(ci:Int)(hd:cu kv ci=none)(w:World)(r0:(so be bt mb).holds w)(r1:(qD bt t).holds w)(r2:(dU 361 t).holds w)(r3:(xc mb kv).holds w):
  CW 202 #[p_ be,i_ ci] w (i_ 6):=by
 refine A.C Tryz.func202 rfl (HS.nil w) (A.c<|A.g [.p] [] []<|A.d<|A.c<|A.g [.p,.p] [] [(8,b_ false)]<|A.cf<|A.p<|A.c<|A.kp [.p,.p,.p,.rd [.map<|some mb],.p] [8] [(13,.map<|some mb),(14,i_ ci)] [] (o1<|ro ⟨be,1,none⟩ (vs:=[.map<|some mb])<|df r0 rfl)<|A.j<|A.u (some 15) _ (tf 3 324 ci (default:It) (fun w s=>d6 s r3) mJ)<|A.g1 [.p,.p,.p,.al,.st 0,.p] [13,14,15] (fun b1=>[(5,p_ b1),(6,b_<|(cu kv ci).isSome)]) (fun b1=>[]) (fun b1=>cw b1 [u_<|((cu kv ci).getD (default:It)).ka,i_<|((cu kv ci).getD (default:It)).ki,u_<|((cu kv ci).getD (default:It)).va,i_<|((cu kv ci).getD (default:It)).vi] 324) (fun b1=>[b1]) ?_)
 intro b1
 refine A.d<|A.c<|A.g [.p,.p] [6] [(19,b_ (!((cu kv ci).isSome)))]<|A.v rfl (fun e1=>?_) (fun e1=>?_)
 ·refine A.c<|A.g [.p] [0,1,5,19] [(4,i_ 6)]<|A.e<|A.W [i_ 6] ?_
  rfl
 exact absurd e1<|by simp[hd]
abbrev xd(p0)(p1)(p2):=(dY (fun k:Int=>i_ k) (fun y:It=>(.agg #[u_ y.ka,i_ y.ki,u_ y.va,i_ y.vi])) p0 (dJ p1 p2):V.dB)
theorem ED(be bt mb:Nat)(t:T)(kv:List (Int×It))(ci:Int)(hE:dq t kv)(hd:cu kv ci≠none)(hC:kv.length≤700):
  CS 202 #[p_ be,i_ ci] [so be bt mb,qD bt t,dU 361 t,xc mb kv] (fun(zt:T)=>(i_ 0)) (fun zt=>dq zt<|dJ kv ci) fun zt=>[so be bt mb,qD bt zt,dU 361 zt,xd mb kv ci]:=by
 intro w hs
 have hW:=hE.wf;have hl_:=hE.len
 refine A.C Tryz.func202 rfl hs (A.c<|A.g [.p] [] []<|A.d<|A.c<|A.g [.p,.p] [] [(8,b_ false)]<|A.cf<|A.p<|A.c<|A.gm [.p,.p,.p,.ld 0,.p] [8] [(13,.map<|some mb),(14,i_ ci)] [be]<|A.j<|A.u (some 15) _ (nQ (kt:=3) (et:=324) (enck:=(fun k:Int=>i_ k)) (encv:=(fun y:It=>(.agg #[u_ y.ka,i_ y.ki,u_ y.va,i_ y.vi]))) (b:=mb) (kv:=kv) (k:=ci) (d0:=(default:It)) (fun w s=>s.mem (i:=3) rfl) rfl rfl rfl (by kernel_rfl) mJ (by kernel_rfl) rfl)<|A.g1 [.p,.p,.p,.al,.st 4,.p] [13,14,15] (fun b1=>[(5,p_ b1),(6,b_<|(cu kv ci).isSome)]) (fun b1=>[]) (fun b1=>cw b1 [u_<|((cu kv ci).getD (default:It)).ka,i_<|((cu kv ci).getD (default:It)).ki,u_<|((cu kv ci).getD (default:It)).va,i_<|((cu kv ci).getD (default:It)).vi] 324) (fun b1=>[b1]) ?_)
 intro b1
 refine A.d<|A.c<|A.g [.p,.p] [6] [(19,b_ (!((cu kv ci).isSome)))]<|A.v rfl (fun e1=>?_) (fun e1=>?_)
 ·exact absurd e1<|by(obtain⟨y,hy⟩:=uB hd;simp[hy])
 refine A.p<|A.c<|A.gm [.p,.p,.p,.ld 0,.p] [1,19] [(23,.map<|some mb),(24,i_ ci)] [be]<|A.j<|A.bD (kt:=3) (et:=324) (enck:=(fun k:Int=>i_ k)) (encv:=(fun y:It=>(.agg #[u_ y.ka,i_ y.ki,u_ y.va,i_ y.vi]))) (kv:=kv) (k:=ci) 3 [so be bt mb,qD bt t,dU 361 t,xd mb kv ci,cw b1 [u_<|((cu kv ci).getD (default:It)).ka,i_<|((cu kv ci).getD (default:It)).ki,u_<|((cu kv ci).getD (default:It)).va,i_<|((cu kv ci).getD (default:It)).vi] 324] (by kernel_rfl) rfl rfl rfl (by kernel_rfl) mJ rfl rfl (A.aB<|A.d<|A.O [6] 8<|A.pT 2 [.p,.p,.p,.ld 0,.p,.ld 4] (rg 0 6) [(28,p_ bt),(30,.agg #[u_<|((cu kv ci).getD (default:It)).ka,i_<|((cu kv ci).getD (default:It)).ki])] [be,b1]<|A.F 6 rfl (A.I (some 31) [1,1] (fun w s h=>zE bt t (((cu kv ci).getD (default:It)).ka) (((cu kv ci).getD (default:It)).ki) ‹_› (zf hE ‹_›) (by omega) w h) ?_))
 rintro zt2 hz2
 obtain⟨hz2W,hz2L⟩:=id hz2
 refine A.E<|A.dT 0 [.p] [7] [28,30,31] [(4,i_ 0)] []<|A.M<|A.e<|A.Y [2,0,0,0] [i_ 0] (zt2) ?_ ?_
 ·rfl
 exact zg hE hd ⟨by assumption,by assumption⟩
abbrev sq(p0)(p1)(p2):=(cw p0 [p_ p1,.map<|some p2] 192:V.dB)
theorem Q3:
  CS 61 #[] [] (fun((be,bt,mb):Nat×Nat×Nat)=>(p_ be)) (fun _=>True) fun(be,bt,mb)=>[sq be bt mb,xY bt,dU 361 T.nil,xZ mb]:=by
 intro w hs
 refine A.C Tryz.func61 rfl hs (A.c<|A.g [.p] [] []<|A.c<|A.j<|A.I (some 1) [] (fun w s h=>FA w h) ?_)
 rintro bt1-
 refine A.j<|A.aY (fun k:Int=>i_ k) (fun y:It=>(.agg #[u_ y.ka,i_ y.ki,u_ y.va,i_ y.vi])) 2 (by kernel_rfl) rfl (fun m2=>[xY bt1,dU 361 T.nil,xZ m2]) (fun _=>rfl) ?_
 intro m2
 refine A.m1 [.p,.al,.p] (fun b3=>[(0,p_ b3)]) (fun _=>[]) (fun b3=>sq b3 bt1 m2) (fun b3=>[]) ?_
 intro b3
 refine A.e<|A.Y [3,0,0,0] [p_ b3] (b3,bt1,m2) ?_ ?_
 ·rfl
 trivial
theorem KJ(be bt mb:Nat)(t:T)(kv:List (Int×It))(ci:Int)(hd:cu kv ci=none)(w:World)(r0:(sq be bt mb).holds w)(r1:(qD bt t).holds w)(r2:(dU 361 t).holds w)(r3:(xc mb kv).holds w):
  CW 217 #[p_ be,i_ ci] w (i_ 6):=by
 refine A.C Tryz.func217 rfl (HS.nil w) (A.c<|A.g [.p] [] []<|A.d<|A.c<|A.g [.p,.p] [] [(8,b_ false)]<|A.cf<|A.p<|A.c<|A.kp [.p,.p,.p,.rd [.map<|some mb],.p] [8] [(13,.map<|some mb),(14,i_ ci)] [] (o1<|ro ⟨be,1,none⟩ (vs:=[.map<|some mb])<|df r0 rfl)<|A.j<|A.u (some 15) _ (tf 3 324 ci (default:It) (fun w s=>d6 s r3) mJ)<|A.g1 [.p,.p,.p,.al,.st 0,.p] [13,14,15] (fun b1=>[(5,p_ b1),(6,b_<|(cu kv ci).isSome)]) (fun b1=>[]) (fun b1=>cw b1 [u_<|((cu kv ci).getD (default:It)).ka,i_<|((cu kv ci).getD (default:It)).ki,u_<|((cu kv ci).getD (default:It)).va,i_<|((cu kv ci).getD (default:It)).vi] 324) (fun b1=>[b1]) ?_)
 intro b1
 refine A.d<|A.c<|A.g [.p,.p] [6] [(19,b_ (!((cu kv ci).isSome)))]<|A.v rfl (fun e1=>?_) (fun e1=>?_)
 ·refine A.c<|A.g [.p] [0,1,5,19] [(4,i_ 6)]<|A.e<|A.W [i_ 6] ?_
  rfl
 exact absurd e1<|by simp[hd]
theorem Kv(be bt mb:Nat)(t:T)(kv:List (Int×It))(ci:Int)(hE:dq t kv)(hd:cu kv ci≠none)(hC:kv.length≤700):
  CS 217 #[p_ be,i_ ci] [sq be bt mb,qD bt t,dU 361 t,xc mb kv] (fun(zt:T)=>(i_ 0)) (fun zt=>dq zt<|dJ kv ci) fun zt=>[sq be bt mb,qD bt zt,dU 361 zt,xd mb kv ci]:=by
 intro w hs
 have hW:=hE.wf;have hl_:=hE.len
 refine A.C Tryz.func217 rfl hs (A.c<|A.g [.p] [] []<|A.d<|A.c<|A.g [.p,.p] [] [(8,b_ false)]<|A.cf<|A.p<|A.c<|A.gm [.p,.p,.p,.ld 0,.p] [8] [(13,.map<|some mb),(14,i_ ci)] [be]<|A.j<|A.u (some 15) _ (nQ (kt:=3) (et:=324) (enck:=(fun k:Int=>i_ k)) (encv:=(fun y:It=>(.agg #[u_ y.ka,i_ y.ki,u_ y.va,i_ y.vi]))) (b:=mb) (kv:=kv) (k:=ci) (d0:=(default:It)) (fun w s=>s.mem (i:=3) rfl) rfl rfl rfl (by kernel_rfl) mJ (by kernel_rfl) rfl)<|A.g1 [.p,.p,.p,.al,.st 4,.p] [13,14,15] (fun b1=>[(5,p_ b1),(6,b_<|(cu kv ci).isSome)]) (fun b1=>[]) (fun b1=>cw b1 [u_<|((cu kv ci).getD (default:It)).ka,i_<|((cu kv ci).getD (default:It)).ki,u_<|((cu kv ci).getD (default:It)).va,i_<|((cu kv ci).getD (default:It)).vi] 324) (fun b1=>[b1]) ?_)
 intro b1
 refine A.d<|A.c<|A.g [.p,.p] [6] [(19,b_ (!((cu kv ci).isSome)))]<|A.v rfl (fun e1=>?_) (fun e1=>?_)
 ·exact absurd e1<|by(obtain⟨y,hy⟩:=uB hd;simp[hy])
 refine A.p<|A.c<|A.gm [.p,.p,.p,.ld 0,.p] [1,19] [(23,.map<|some mb),(24,i_ ci)] [be]<|A.j<|A.bD (kt:=3) (et:=324) (enck:=(fun k:Int=>i_ k)) (encv:=(fun y:It=>(.agg #[u_ y.ka,i_ y.ki,u_ y.va,i_ y.vi]))) (kv:=kv) (k:=ci) 3 [sq be bt mb,qD bt t,dU 361 t,xd mb kv ci,cw b1 [u_<|((cu kv ci).getD (default:It)).ka,i_<|((cu kv ci).getD (default:It)).ki,u_<|((cu kv ci).getD (default:It)).va,i_<|((cu kv ci).getD (default:It)).vi] 324] (by kernel_rfl) rfl rfl rfl (by kernel_rfl) mJ rfl rfl (A.aB<|A.d<|A.O [6] 8<|A.pT 2 [.p,.p,.p,.ld 0,.p,.ld 4] (rg 0 6) [(28,p_ bt),(30,.agg #[u_<|((cu kv ci).getD (default:It)).ka,i_<|((cu kv ci).getD (default:It)).ki])] [be,b1]<|A.F 6 rfl (A.I (some 31) [1,1] (fun w s h=>zE bt t (((cu kv ci).getD (default:It)).ka) (((cu kv ci).getD (default:It)).ki) ‹_› (zf hE ‹_›) (by omega) w h) ?_))
 rintro zt2 hz2
 obtain⟨hz2W,hz2L⟩:=id hz2
 refine A.E<|A.dT 0 [.p] [7] [28,30,31] [(4,i_ 0)] []<|A.M<|A.e<|A.Y [2,0,0,0] [i_ 0] (zt2) ?_ ?_
 ·rfl
 exact zg hE hd ⟨by assumption,by assumption⟩
abbrev tA(p0)(p1):=(cw p0 [.pointer<|T.ptr p1] 251:V.dB)
abbrev ud(p0)(p1):=(dY (fun k:Int=>i_ k) (fun y:It=>(.agg #[u_ y.ka,i_ y.ki,u_ y.va,i_ y.vi])) p0 p1:V.dB)
theorem Q4(be bt mb:Nat)(t:T)(kv:List (Int×It))(w:World)(r0:(cw be [p_ bt,.map<|some mb] 190).holds w)(r1:(tA bt t).holds w)(r2:(dU 361 t).holds w)(r3:(ud mb kv).holds w):
  CW 221 #[p_ be] w (i_ (kv.length:Int)):=by
 refine A.C Tryz.func221 rfl (HS.nil w) (A.c<|A.g [.p] [] []<|A.d<|A.c<|A.g [.p,.p] [] [(4,b_ false)]<|A.cf<|A.p<|A.c<|A.kp [.p,.p,.p,.rd [.map<|some mb]] [0,4] [(8,.map<|some mb)] [] (o1<|ro ⟨be,1,none⟩ (vs:=[.map<|some mb])<|df r0 rfl)<|A.j<|A.u (some 9) (i_ (kv.length:Int)) (ru (kt:=3) (et:=324) (enck:=(fun k:Int=>i_ k)) (encv:=(fun y:It=>(.agg #[u_ y.ka,i_ y.ki,u_ y.va,i_ y.vi]))) (b:=mb) (kv:=kv) (fun w s=>d6 s r3) rfl rfl (by kernel_rfl))<|A.g [.p] [8,9] [(2,i_ (kv.length:Int))]<|A.e<|A.W [i_ (kv.length:Int)] ?_)
 rfl
theorem Q5(be bt mb:Nat)(t:T)(kv:List (Int×It))(ci a b:Int)(hE:dq t kv)(hC:kv.length≤700):
  CS 147 #[p_ be,i_ ci,u_ a,u_ b] [cw be [p_ bt,.map<|some mb] 190,cw bt [.pointer<|T.ptr t] 251,dU 361 t,dY (fun k:Int=>i_ k) (fun y:It=>(.agg #[u_ y.ka,i_ y.ki,u_ y.va,i_ y.vi])) mb kv] (fun(zt:T)=>(i_ 0)) (fun zt=>dq zt<|dC (dJ kv ci) ci ⟨a,ci,b,ci⟩) fun zt=>[cw be [p_ bt,.map<|some mb] 190,cw bt [.pointer<|T.ptr zt] 251,dU 361 zt,dY (fun k:Int=>i_ k) (fun y:It=>(.agg #[u_ y.ka,i_ y.ki,u_ y.va,i_ y.vi])) mb<|dC (dJ kv ci) ci ⟨a,ci,b,ci⟩]:=by
 intro w hs
 have hW:=hE.wf;have hl_:=hE.len
 have hdl:=Gf kv ci
 refine A.C Tryz.func147 rfl hs (A.c<|A.g [.p] [] []<|A.d<|A.c<|A.g [.p,.p] [] [(11,b_ false)]<|A.cf<|A.p<|A.d ?_)
 by_cases hd:cu kv ci=none
 ·refine A.s<|A.k [.p,.p,.cq<|i_ 6] [11] [] [] (o1<|qo<|fun w s=>Db be bt mb t kv ci ‹_› w (s.mem (i:=0) rfl) (s.mem (i:=1) rfl) (s.mem (i:=2) rfl) (s.mem (i:=3) rfl))<|A.c<|A.g1 [.p,.p,.p,.p,.p,.p,.p,.al,.st 4] [2,3] (fun b1=>[(9,p_ b1)]) (fun b1=>[]) (fun b1=>cw b1 [u_ a,i_ ci,u_ b,i_ ci] 324) (fun b1=>[b1]) ?_
  intro b1
  refine A.d<|A.O [6] 7<|A.dT 1 [.p,.p,.p,.ld 0,.p,.ld 4] (rg 0 6) [1] [(25,.map<|some mb),(26,i_ ci),(27,.agg #[u_ a,i_ ci,u_ b,i_ ci])] [be,b1]<|A.F 6 rfl (A.mP 3 324 3 ci (⟨a,ci,b,ci⟩:It) rfl mJ (A.E<|A.M<|A.d<|A.O [8] 10<|A.pT 2 [.p,.p,.p,.ld 0,.p,.ld 4,.p,.ld 4] (rg 0 8) [(31,p_ bt),(33,.agg #[u_ a,i_ ci]),(35,.agg #[u_ b,i_ ci])] [be,b1,b1]<|A.F 8 rfl (A.I (some 36) [1,1] (fun w s h=>vP bt t a ci b ci ‹_› (vx hE ‹_›) (by omega) w h) ?_)))
  rintro zt2 hz1
  obtain⟨hz1W,hz1L⟩:=id hz1
  refine A.E<|A.dT 0 [.p] [9] [31,33,35,36] [(8,i_ 0)] []<|A.M<|A.e ?_
  rw[show dC kv ci (⟨a,ci,b,ci⟩:It)=(dC (dJ kv ci) ci ⟨a,ci,b,ci⟩) from by(rw[AN hd])]
  refine A.Y [2,0,0,0] [i_ 0] (zt2) ?_ ?_
  ·rfl
  (rw[AN hd];exact vy hE hd ⟨by assumption,by assumption⟩)
 refine A.s<|A.N [.p,.p] [11] [(12,p_ be),(13,i_ ci)]<|A.j<|A.I (some 14) [0,0,0,0] (fun w s h=>ED be bt mb t kv ci ‹_› ‹_› ‹_› w h) ?_
 rintro zt3 hz2
 have hz2W:=hz2.wf;have hz2l:=hz2.len
 refine A.aB<|A.c<|A.g1 [.p,.p,.p,.p,.p,.p,.p,.al,.st 4] [2,3,12,13,14] (fun b4=>[(9,p_ b4)]) (fun b4=>[]) (fun b4=>cw b4 [u_ a,i_ ci,u_ b,i_ ci] 324) (fun b4=>[b4]) ?_
 intro b4
 refine A.d<|A.O [6] 7<|A.dT 1 [.p,.p,.p,.ld 0,.p,.ld 4] (rg 0 6) [1] [(25,.map<|some mb),(26,i_ ci),(27,.agg #[u_ a,i_ ci,u_ b,i_ ci])] [be,b4]<|A.F 6 rfl (A.mP 3 324 3 ci (⟨a,ci,b,ci⟩:It) rfl mJ (A.E<|A.M<|A.d<|A.O [8] 10<|A.pT 2 [.p,.p,.p,.ld 0,.p,.ld 4,.p,.ld 4] (rg 0 8) [(31,p_ bt),(33,.agg #[u_ a,i_ ci]),(35,.agg #[u_ b,i_ ci])] [be,b4,b4]<|A.F 8 rfl (A.I (some 36) [1,1] (fun w s h=>vP bt zt3 a ci b ci ‹_› (vx ‹_› (tu hE.nd _)) (by omega) w h) ?_)))
 rintro zt5 hz3
 obtain⟨hz3W,hz3L⟩:=id hz3
 refine A.E<|A.dT 0 [.p] [9] [31,33,35,36] [(8,i_ 0)] []<|A.M<|A.e ?_
 rw[show dC (dJ kv ci) ci (⟨a,ci,b,ci⟩:It)=(dC (dJ kv ci) ci ⟨a,ci,b,ci⟩) from by rfl]
 refine A.Y [2,0,0,0] [i_ 0] (zt5) ?_ ?_
 ·rfl
 exact vy ‹_› (tu hE.nd _) ⟨by assumption,by assumption⟩
theorem OV(be bt mb:Nat)(t:T)(kv:List (Int×It))(n:Int)(hE:dq t kv)(w:World)(r0:(cw be [p_ bt,.map<|some mb] 190).holds w)(r1:(cw bt [.pointer<|T.ptr t] 251).holds w)(r2:(dU 361 t).holds w)(r3:(dY (fun k:Int=>i_ k) (fun y:It=>(.agg #[u_ y.ka,i_ y.ki,u_ y.va,i_ y.vi])) mb kv).holds w):
  CW 209 #[p_ be,u_ n] w (.tuple #[i_<|((eS (dS n 9223372036854775807) t.toL).getD default).ki,b_<|(eS (dS n 9223372036854775807) t.toL).isSome]):=by
 have hW:=hE.wf;have hl_:=hE.len
 refine A.C Tryz.func209 rfl (HS.nil w) (A.d<|A.s<|A.g [.p,.p] [] []<|A.d<|A.d<|A.s<|A.g [.p,.p] [] [(9,b_ false)]<|A.cf<|A.p<|(A.d<|A.s<|A.no [.p,.p,.p,.rd [p_ bt],.p,.p,.cq<|.tuple #[.agg #[u_<|((eS (dS n 9223372036854775807) t.toL).getD default).ka,i_<|((eS (dS n 9223372036854775807) t.toL).getD default).ki,u_<|((eS (dS n 9223372036854775807) t.toL).getD default).va,i_<|((eS (dS n 9223372036854775807) t.toL).getD default).vi],b_<|(eS (dS n 9223372036854775807) t.toL).isSome],.p,.p,.p,.al,.st 0,.p] [0,1,9] (fun b1=>[(6,p_ b1),(7,b_<|(eS (dS n 9223372036854775807) t.toL).isSome)]) (fun b1=>[]) (fun b1=>cw b1 [u_<|((eS (dS n 9223372036854775807) t.toL).getD default).ka,i_<|((eS (dS n 9223372036854775807) t.toL).getD default).ki,u_<|((eS (dS n 9223372036854775807) t.toL).getD default).va,i_<|((eS (dS n 9223372036854775807) t.toL).getD default).vi] 324) (fun b1=>[b1]) (fun b1=>oc (ro ⟨be,0,none⟩ (vs:=[p_ bt])<|df r0 rfl)<|o1<|qo<|fun w s=>Dz bt t (dS n 9223372036854775807) (by assumption) w (d6 s r1)<|d6 s r2) ?_))
 intro b1
 refine A.c<|A.gl [.p,.p,.ld 0,.p,.p,.p] [6,7] [(4,i_<|((eS (dS n 9223372036854775807) t.toL).getD default).ki),(5,b_<|(eS (dS n 9223372036854775807) t.toL).isSome)] [b1]<|A.e<|A.W [i_<|((eS (dS n 9223372036854775807) t.toL).getD default).ki,b_<|(eS (dS n 9223372036854775807) t.toL).isSome] ?_
 rfl
abbrev xe(p0)(p1)(p2):=(cw p0 [p_ p1,.map<|some p2] 192:V.dB)
theorem IE(be bt mb:Nat)(t:T)(kv:List (Int×It))(w:World)(r0:(xe be bt mb).holds w)(r1:(tA bt t).holds w)(r2:(dU 361 t).holds w)(r3:(ud mb kv).holds w):
  CW 218 #[p_ be] w (i_ (kv.length:Int)):=by
 refine A.C Tryz.func218 rfl (HS.nil w) (A.c<|A.g [.p] [] []<|A.d<|A.c<|A.g [.p,.p] [] [(4,b_ false)]<|A.cf<|A.p<|A.c<|A.kp [.p,.p,.p,.rd [.map<|some mb]] [0,4] [(8,.map<|some mb)] [] (o1<|ro ⟨be,1,none⟩ (vs:=[.map<|some mb])<|df r0 rfl)<|A.j<|A.u (some 9) (i_ (kv.length:Int)) (ru (kt:=3) (et:=324) (enck:=(fun k:Int=>i_ k)) (encv:=(fun y:It=>(.agg #[u_ y.ka,i_ y.ki,u_ y.va,i_ y.vi]))) (b:=mb) (kv:=kv) (fun w s=>d6 s r3) rfl rfl (by kernel_rfl))<|A.g [.p] [8,9] [(2,i_ (kv.length:Int))]<|A.e<|A.W [i_ (kv.length:Int)] ?_)
 rfl
theorem Q6(be bt mb:Nat)(t:T)(kv:List (Int×It))(ci a b:Int)(hE:dq t kv)(hC:kv.length≤700):
  CS 207 #[p_ be,i_ ci,u_ a,u_ b] [xe be bt mb,tA bt t,dU 361 t,ud mb kv] (fun(zt:T)=>(i_ 0)) (fun zt=>dq zt<|dC kv ci ⟨a,ci,b,ci⟩) fun zt=>[xe be bt mb,tA bt zt,dU 361 zt,dY (fun k:Int=>i_ k) (fun y:It=>(.agg #[u_ y.ka,i_ y.ki,u_ y.va,i_ y.vi])) mb<|dC kv ci ⟨a,ci,b,ci⟩]:=by
 intro w hs
 have hW:=hE.wf;have hl_:=hE.len
 have hdl:=Gf kv ci
 refine A.C Tryz.func207 rfl hs (A.c<|A.g [.p] [] []<|A.d<|A.c<|A.g [.p,.p] [] [(13,b_ false)]<|A.cf<|A.p<|A.d ?_)
 by_cases hd:cu kv ci=none
 ·refine A.s<|A.g1 [.p,.p,.p,.p,.p,.p,.p,.al,.st 4] [2,3,13] (fun b1=>[(9,p_ b1)]) (fun b1=>[]) (fun b1=>cw b1 [u_ a,i_ ci,u_ b,i_ ci] 324) (fun b1=>[b1]) ?_
  intro b1
  refine A.d<|A.c<|A.gm [.p,.p,.p,.ld 0,.p] [] [(25,.map<|some mb),(26,i_ ci)] [be]<|A.j<|A.u (some 27) _ (nQ (kt:=3) (et:=324) (enck:=(fun k:Int=>i_ k)) (encv:=(fun y:It=>(.agg #[u_ y.ka,i_ y.ki,u_ y.va,i_ y.vi]))) (b:=mb) (kv:=kv) (k:=ci) (d0:=(default:It)) (fun w s=>s.mem (i:=3) rfl) rfl rfl rfl (by kernel_rfl) mJ (by kernel_rfl) rfl)<|A.g1 [.p,.p,.p,.al,.st 5,.p] [25,26,27] (fun b2=>[(10,p_ b2),(11,b_<|(cu kv ci).isSome)]) (fun b2=>[]) (fun b2=>cw b2 [u_<|((cu kv ci).getD (default:It)).ka,i_<|((cu kv ci).getD (default:It)).ki,u_<|((cu kv ci).getD (default:It)).va,i_<|((cu kv ci).getD (default:It)).vi] 324) (fun b2=>[b2]) ?_
  intro b2
  refine A.c<|A.g [.p] [11] [(30,b_<|(cu kv ci).isSome)]<|A.v rfl (fun e1=>?_) (fun e1=>?_)
  ·exact absurd e1<|by simp[hd]
  refine A.p<|A.d<|A.O [6] 7<|A.dT 1 [.p,.p,.p,.ld 0,.p,.ld 4] (rg 0 6) [1,10,30] [(41,.map<|some mb),(42,i_ ci),(43,.agg #[u_ a,i_ ci,u_ b,i_ ci])] [be,b1]<|A.F 6 rfl (A.mP 3 324 3 ci (⟨a,ci,b,ci⟩:It) rfl mJ (A.E<|A.M<|A.d<|A.O [8] 10<|A.pT 2 [.p,.p,.p,.ld 0,.p,.ld 4,.p,.ld 4] (rg 0 8) [(47,p_ bt),(49,.agg #[u_ a,i_ ci]),(51,.agg #[u_ b,i_ ci])] [be,b1,b1]<|A.F 8 rfl (A.I (some 52) [1,1] (fun w s h=>vP bt t a ci b ci ‹_› (vx hE ‹_›) (by omega) w h) ?_)))
  rintro zt3 hz2
  obtain⟨hz2W,hz2L⟩:=id hz2
  refine A.E<|A.dT 0 [.p] [9] [47,49,51,52] [(8,i_ 0)] []<|A.M<|A.e ?_
  rw[show dC kv ci (⟨a,ci,b,ci⟩:It)=(dC kv ci ⟨a,ci,b,ci⟩) from by rfl]
  refine A.Y [2,0,0,0] [i_ 0] (zt3) ?_ ?_
  ·rfl
  (exact vy hE (by simp_all) ⟨by assumption,by assumption⟩)
 refine A.s<|A.g1 [.p,.p,.p,.p,.p,.p,.p,.al,.st 4] [2,3,13] (fun b4=>[(9,p_ b4)]) (fun b4=>[]) (fun b4=>cw b4 [u_ a,i_ ci,u_ b,i_ ci] 324) (fun b4=>[b4]) ?_
 intro b4
 refine A.d<|A.c<|A.gm [.p,.p,.p,.ld 0,.p] [] [(25,.map<|some mb),(26,i_ ci)] [be]<|A.j<|A.u (some 27) _ (nQ (kt:=3) (et:=324) (enck:=(fun k:Int=>i_ k)) (encv:=(fun y:It=>(.agg #[u_ y.ka,i_ y.ki,u_ y.va,i_ y.vi]))) (b:=mb) (kv:=kv) (k:=ci) (d0:=(default:It)) (fun w s=>s.mem (i:=3) rfl) rfl rfl rfl (by kernel_rfl) mJ (by kernel_rfl) rfl)<|A.g1 [.p,.p,.p,.al,.st 5,.p] [25,26,27] (fun b5=>[(10,p_ b5),(11,b_<|(cu kv ci).isSome)]) (fun b5=>[]) (fun b5=>cw b5 [u_<|((cu kv ci).getD (default:It)).ka,i_<|((cu kv ci).getD (default:It)).ki,u_<|((cu kv ci).getD (default:It)).va,i_<|((cu kv ci).getD (default:It)).vi] 324) (fun b5=>[b5]) ?_
 intro b5
 refine A.c<|A.g [.p] [11] [(30,b_<|(cu kv ci).isSome)]<|A.v rfl (fun e3=>?_) (fun e3=>?_)
 ·refine A.O [6] 7<|A.dT 1 [.p,.p,.p,.ld 0,.p,.ld 5] (rg 0 6) [10,30] [(34,p_ bt),(36,.agg #[u_<|((cu kv ci).getD (default:It)).ka,i_<|((cu kv ci).getD (default:It)).ki])] [be,b5]<|A.F 6 rfl (A.I (some 37) [1,1] (fun w s h=>zE bt t (((cu kv ci).getD (default:It)).ka) (((cu kv ci).getD (default:It)).ki) ‹_› (zf hE ‹_›) (by omega) w h) ?_)
  rintro zt6 hz4
  obtain⟨hz4W,hz4L⟩:=id hz4
  refine A.E<|A.M<|A.d ?_
  have hE2:=zg hE hd ‹_›;have hE2l:=hE2.len;have hE2W:=hE2.wf
  refine A.O [6] 7<|A.dT 1 [.p,.p,.p,.ld 2,.p,.ld 4] (rg 0 6) [1,34,36,37] [(41,.map<|some mb),(42,i_ ci),(43,.agg #[u_ a,i_ ci,u_ b,i_ ci])] [be,b4]<|A.F 6 rfl (A.mP 3 324 3 ci (⟨a,ci,b,ci⟩:It) rfl mJ (A.E<|A.M<|A.d<|A.O [8] 10<|A.pT 2 [.p,.p,.p,.ld 2,.p,.ld 4,.p,.ld 4] (rg 0 8) [(47,p_ bt),(49,.agg #[u_ a,i_ ci]),(51,.agg #[u_ b,i_ ci])] [be,b4,b4]<|A.F 8 rfl (A.I (some 52) [0,0] (fun w s h=>vP bt zt6 a ci b ci ‹_› (vx hE2<|tu hE.nd _) (by omega) w h) ?_)))
  rintro zt7 hz5
  obtain⟨hz5W,hz5L⟩:=id hz5
  refine A.E<|A.dT 0 [.p] [9] [47,49,51,52] [(8,i_ 0)] []<|A.M<|A.e ?_
  rw[show dC kv ci (⟨a,ci,b,ci⟩:It)=(dC kv ci ⟨a,ci,b,ci⟩) from by rfl]
  refine A.Y [2,0,0,0] [i_ 0] (zt7) ?_ ?_
  ·rfl
  exact M8 hE.nd hd hE2 ⟨by assumption,by assumption⟩
 exact absurd e3<|by(obtain⟨y,hy⟩:=uB hd;simp[hy])
theorem OW(be bt mb:Nat)(t:T)(kv:List (Int×It))(n:Int)(hE:dq t kv)(w:World)(r0:(cw be [p_ bt,.map<|some mb] 192).holds w)(r1:(cw bt [.pointer<|T.ptr t] 251).holds w)(r2:(dU 361 t).holds w)(r3:(dY (fun k:Int=>i_ k) (fun y:It=>(.agg #[u_ y.ka,i_ y.ki,u_ y.va,i_ y.vi])) mb kv).holds w):
  CW 210 #[p_ be,u_ n] w (.tuple #[i_<|((eR (dS n 9223372036854775807) t.toL).getD default).ki,b_<|(eR (dS n 9223372036854775807) t.toL).isSome]):=by
 have hW:=hE.wf;have hl_:=hE.len
 refine A.C Tryz.func210 rfl (HS.nil w) (A.d<|A.s<|A.g [.p,.p] [] []<|A.d<|A.d<|A.s<|A.g [.p,.p] [] [(9,b_ false)]<|A.cf<|A.p<|(A.d<|A.s<|A.no [.p,.p,.p,.rd [p_ bt],.p,.p,.cq<|.tuple #[.agg #[u_<|((eR (dS n 9223372036854775807) t.toL).getD default).ka,i_<|((eR (dS n 9223372036854775807) t.toL).getD default).ki,u_<|((eR (dS n 9223372036854775807) t.toL).getD default).va,i_<|((eR (dS n 9223372036854775807) t.toL).getD default).vi],b_<|(eR (dS n 9223372036854775807) t.toL).isSome],.p,.p,.p,.al,.st 0,.p] [0,1,9] (fun b1=>[(6,p_ b1),(7,b_<|(eR (dS n 9223372036854775807) t.toL).isSome)]) (fun b1=>[]) (fun b1=>cw b1 [u_<|((eR (dS n 9223372036854775807) t.toL).getD default).ka,i_<|((eR (dS n 9223372036854775807) t.toL).getD default).ki,u_<|((eR (dS n 9223372036854775807) t.toL).getD default).va,i_<|((eR (dS n 9223372036854775807) t.toL).getD default).vi] 324) (fun b1=>[b1]) (fun b1=>oc (ro ⟨be,0,none⟩ (vs:=[p_ bt])<|df r0 rfl)<|o1<|qo<|fun w s=>Kr bt t (dS n 9223372036854775807) (by assumption) w (d6 s r1)<|d6 s r2) ?_))
 intro b1
 refine A.c<|A.gl [.p,.p,.ld 0,.p,.p,.p] [6,7] [(4,i_<|((eR (dS n 9223372036854775807) t.toL).getD default).ki),(5,b_<|(eR (dS n 9223372036854775807) t.toL).isSome)] [b1]<|A.e<|A.W [i_<|((eR (dS n 9223372036854775807) t.toL).getD default).ki,b_<|(eR (dS n 9223372036854775807) t.toL).isSome] ?_
 rfl
theorem OX(be bt mb:Nat)(t:T)(kv:List (Int×It))(hE:dq t kv)(w:World)(r0:(cw be [p_ bt,.map<|some mb] 190).holds w)(r1:(tA bt t).holds w)(r2:(dU 361 t).holds w)(r3:(ud mb kv).holds w):
  CW 163 #[p_ be] w (u_<|nG t.toL):=by
 have hW:=hE.wf;have hl_:=hE.len
 have hem:=yw hE
 refine A.C Tryz.func163 rfl (HS.nil w) (A.c<|A.g [.p] [] []<|A.d<|A.c<|A.k [.p,.cq<|i_ (kv.length:Int),.p] [] [(7,b_<|(kv.length:Int)==0)] [] (o1<|qo<|fun w s=>Q4 be bt mb t kv w (d6 s r0) (d6 s r1) (d6 s r2)<|d6 s r3)<|A.v rfl (fun e1=>?_) (fun e1=>?_))
 ·have p1:=e1;try simp only[dc] at p1
  refine A.c<|A.g [.p] [0,7] [(2,u_ 9223372036854775808)]<|A.e<|A.W [u_ 9223372036854775808] ?_
  refine congrArg (Value.int .u64) ?_;(unfold nG);by_cases he:t.toL=[]<;>first|(rw[if_pos he];rfl)|(exfalso;exact he<|hem.1 ‹_›)
 have p1:=e1;try simp only[dc] at p1
 refine A.p<|A.d<|A.s<|A.no [.p,.p,.p,.rd [p_ bt],.cq<|.tuple #[.agg #[u_<|(t.toL.head?.getD default).ka,i_<|(t.toL.head?.getD default).ki,u_<|(t.toL.head?.getD default).va,i_<|(t.toL.head?.getD default).vi],b_<|t.toL.head?.isSome],.p,.p,.p,.al,.st 0,.p] [0,7] (fun b1=>[(3,p_ b1)]) (fun b1=>[]) (fun b1=>cw b1 [u_<|(t.toL.head?.getD default).ka,i_<|(t.toL.head?.getD default).ki,u_<|(t.toL.head?.getD default).va,i_<|(t.toL.head?.getD default).vi] 324) (fun b1=>[b1]) (fun b1=>oc (ro ⟨be,0,none⟩ (vs:=[p_ bt])<|df r0 rfl)<|o1<|qo<|fun w s=>Dy bt t (by assumption) w (d6 s r1)<|d6 s r2) ?_
 intro b1
 refine A.c<|A.gl [.p,.p,.ld 0,.p,.p] [3] [(2,u_<|dS ((t.toL.head?.getD default).ka) 9223372036854775808)] [b1]<|A.e<|A.W [u_<|dS ((t.toL.head?.getD default).ka) 9223372036854775808] ?_
 refine congrArg (Value.int .u64) ?_;(unfold nG);by_cases he:t.toL=[]<;>first|(rw[if_neg he];rfl)|(exfalso;have h_:=hem.2 he;omega)
theorem Q7(be bt mb:Nat)(t:T)(kv:List (Int×It))(hE:dq t kv)(w:World)(r0:(cw be [p_ bt,.map<|some mb] 192).holds w)(r1:(cw bt [.pointer<|T.ptr t] 251).holds w)(r2:(dU 361 t).holds w)(r3:(dY (fun k:Int=>i_ k) (fun y:It=>(.agg #[u_ y.ka,i_ y.ki,u_ y.va,i_ y.vi])) mb kv).holds w):
  CW 164 #[p_ be] w (u_<|i9 t.toL):=by
 have hW:=hE.wf;have hl_:=hE.len
 have hem:=yw hE
 refine A.C Tryz.func164 rfl (HS.nil w) (A.c<|A.g [.p] [] []<|A.d<|A.c<|A.k [.p,.cq<|i_ (kv.length:Int),.p] [] [(7,b_<|(kv.length:Int)==0)] [] (o1<|qo<|fun w s=>IE be bt mb t kv w (d6 s r0) (d6 s r1) (d6 s r2)<|d6 s r3)<|A.v rfl (fun e1=>?_) (fun e1=>?_))
 ·have p1:=e1;try simp only[dc] at p1
  refine A.c<|A.g [.p] [0,7] [(2,u_ 9223372036854775808)]<|A.e<|A.W [u_ 9223372036854775808] ?_
  refine congrArg (Value.int .u64) ?_;(unfold i9);by_cases he:t.toL=[]<;>first|(rw[if_pos he];rfl)|(exfalso;exact he<|hem.1 ‹_›)
 have p1:=e1;try simp only[dc] at p1
 refine A.p<|A.d<|A.s<|A.no [.p,.p,.p,.rd [p_ bt],.cq<|.tuple #[.agg #[u_<|((eS 18446744073709551615 t.toL).getD default).ka,i_<|((eS 18446744073709551615 t.toL).getD default).ki,u_<|((eS 18446744073709551615 t.toL).getD default).va,i_<|((eS 18446744073709551615 t.toL).getD default).vi],b_<|(eS 18446744073709551615 t.toL).isSome],.p,.p,.p,.al,.st 0,.p] [0,7] (fun b1=>[(3,p_ b1)]) (fun b1=>[]) (fun b1=>cw b1 [u_<|((eS 18446744073709551615 t.toL).getD default).ka,i_<|((eS 18446744073709551615 t.toL).getD default).ki,u_<|((eS 18446744073709551615 t.toL).getD default).va,i_<|((eS 18446744073709551615 t.toL).getD default).vi] 324) (fun b1=>[b1]) (fun b1=>oc (ro ⟨be,0,none⟩ (vs:=[p_ bt])<|df r0 rfl)<|o1<|qo<|fun w s=>Dz bt t 18446744073709551615 (by assumption) w (d6 s r1)<|d6 s r2) ?_
 intro b1
 refine A.c<|A.gl [.p,.p,.ld 0,.p,.p] [3] [(2,u_<|dS (((eS 18446744073709551615 t.toL).getD default).va) 9223372036854775808)] [b1]<|A.e<|A.W [u_<|dS (((eS 18446744073709551615 t.toL).getD default).va) 9223372036854775808] ?_
 refine congrArg (Value.int .u64) ?_;(unfold i9);by_cases he:t.toL=[]<;>first|(rw[if_neg he];rfl)|(exfalso;have h_:=hem.2 he;omega)
theorem Q8(be bt mb:Nat)(t:T)(kv:List (Int×It))(hE:dq t kv)(w:World)(r0:(xe be bt mb).holds w)(r1:(tA bt t).holds w)(r2:(dU 361 t).holds w)(r3:(ud mb kv).holds w):
  CW 148 #[p_ be] w (.tuple #[u_<|(t.toL.head?.getD default).ka,b_<|t.toL.head?.isSome]):=by
 have hW:=hE.wf;have hl_:=hE.len
 have hem:=yw hE
 refine A.C Tryz.func148 rfl (HS.nil w) (A.d<|A.s<|A.g [.p,.p] [] []<|A.d<|A.d<|A.s<|A.g [.p,.p] [] [(7,b_ false)]<|A.cf<|A.p<|(A.d<|A.s<|A.no [.p,.p,.p,.rd [p_ bt],.cq<|.tuple #[.agg #[u_<|(t.toL.head?.getD default).ka,i_<|(t.toL.head?.getD default).ki,u_<|(t.toL.head?.getD default).va,i_<|(t.toL.head?.getD default).vi],b_<|t.toL.head?.isSome],.p,.p,.p,.al,.st 0,.p] [0,7] (fun b1=>[(4,p_ b1),(5,b_<|t.toL.head?.isSome)]) (fun b1=>[]) (fun b1=>cw b1 [u_<|(t.toL.head?.getD default).ka,i_<|(t.toL.head?.getD default).ki,u_<|(t.toL.head?.getD default).va,i_<|(t.toL.head?.getD default).vi] 324) (fun b1=>[b1]) (fun b1=>oc (ro ⟨be,0,none⟩ (vs:=[p_ bt])<|df r0 rfl)<|o1<|qo<|fun w s=>Dy bt t (by assumption) w (d6 s r1)<|d6 s r2) ?_))
 intro b1
 refine A.c<|A.gl [.p,.p,.ld 0,.p,.p,.p] [4,5] [(2,u_<|(t.toL.head?.getD default).ka),(3,b_<|t.toL.head?.isSome)] [b1]<|A.e<|A.W [u_<|(t.toL.head?.getD default).ka,b_<|t.toL.head?.isSome] ?_
 rfl
structure Hd where
 ha:Int
 hb:Int
 hc:Int
 hd:Int
 deriving Inhabited,DecidableEq
structure Rl where
 ma:Int
 mb:Int
 mc:Int
 md:Int
 wa:Int
 wb:Int
 wc:Int
 wd:Int
 cl:Int
 deriving Inhabited,DecidableEq
def ft(x:Rl):List Value:=[(w_ x.ma),(w_ x.mb),(w_ x.mc),(w_ x.md),(w_ x.wa),(w_ x.wb),(w_ x.wc),(w_ x.wd),(i_ x.cl)]
theorem lK(x:Rl):(ft x).length=9:=rfl
theorem Lm(x:Rl):(ft x).all Value.oneCell'=true:=rfl
def qX(v m:Int):Int:=((v.toNat&&&m.toNat:Nat):Int)
theorem pW{v m:Int}(hv:0≤v∧v<65536)(hm:0≤m∧m<65536):dL .and .u16 v m=qX v m:=by
 obtain⟨a,rfl⟩:=Int.eq_ofNat_of_zero_le hv.1
 obtain⟨b,rfl⟩:=Int.eq_ofNat_of_zero_le hm.1
 have h:=Nat.and_le_left (n:=a) (m:=b)
 have e:(BitVec.ofInt IntKind.u16.bits (a:Int)&&&BitVec.ofInt IntKind.u16.bits (b:Int)).toNat=a&&&b:=by
  rw[BitVec.toNat_and,BitVec.toNat_ofInt,BitVec.toNat_ofInt]
  have h1:((a:Int)%(2^IntKind.u16.bits:Nat)).toNat=a:=by simp[IntKind.bits];omega
  have h2:((b:Int)%(2^IntKind.u16.bits:Nat)).toNat=b:=by simp[IntKind.bits];omega
  rw[h1,h2]
 unfold dL;simp only[e];unfold qX;rw[NF<|by omega];rfl
theorem EP(w:World):
  CW 65 #[] w (.agg #[w_ 65535,w_ 65535,w_ 65535,w_ 65535]):=by
 refine A.C Tryz.func65 rfl (HS.nil w) (A.c<|A.n1 [.al] [] (fun b1=>[(0,p_ b1)]) (fun b1=>cw b1 [w_ 0,w_ 0,w_ 0,w_ 0] 43) ?_)
 intro b1
 refine A.c<|A.gs [.p,.st 0] [] [] [(0,cw b1 [w_ 65535,w_ 65535,w_ 65535,w_ 65535] 43)] [b1]<|A.e<|A.pc 0 [w_ 65535,w_ 65535,w_ 65535,w_ 65535] ?_
 rfl
abbrev Fb(p0)(p1)(p2)(p3)(p4):=(cw p0 [w_ p1,w_ p2,w_ p3,w_ p4] 43:V.dB)
abbrev NX(p0):=(cw p0 [w_ 0,w_ 0,w_ 0,w_ 0] 43:V.dB)
abbrev NY(p0)(p1)(p2)(p3)(p4)(p5)(p6)(p7)(p8):=(cw p0 [w_<|dL .and .u16 p1 p2,w_<|dL .and .u16 p3 p4,w_<|dL .and .u16 p5 p6,w_<|dL .and .u16 p7 p8] 43:V.dB)
theorem yz(x0 x1 x2 x3 y0 y1 y2 y3:Int)(w:World):
  CW 64 #[.agg #[w_ x0,w_ x1,w_ x2,w_ x3],.agg #[w_ y0,w_ y1,w_ y2,w_ y3]] w (.agg #[w_<|dL .and .u16 x0 y0,w_<|dL .and .u16 x1 y1,w_<|dL .and .u16 x2 y2,w_<|dL .and .u16 x3 y3]):=by
 refine A.C Tryz.func64 rfl (HS.nil w) (A.d ?_)
 refine A.s<|A.ag [.al,.al,.al] [2,3,4] (fun b1 b2 b3=>[(2,p_ b1),(3,p_ b2),(4,p_ b3)]) (fun b1 b2 b3=>[Fb b1 x0 x1 x2 x3,Fb b2 y0 y1 y2 y3,NX b3]) (fun b1 b2 b3=>[]) (fun _ _ _=>T0) (fun _ _ _=>by kernel_rfl) (fun b1 b2 b3=>trivial) ?_
 intro b1 b2 b3
 refine A.d ?_
 refine A.d ?_
 refine A.s<|A.g [.p] [] [(6,i_ 0)] ?_
 refine A.y ?_
 refine A.aV 400 ?_
 refine A.aC (m:=399) ?_
 refine A.d ?_
 refine A.s<|A.g [.p] [] [(7,b_ true)] ?_
 refine A.d ?_
 refine A.ct ?_
 refine A.p ?_
 refine A.d ?_
 refine A.y ?_
 refine A.d ?_
 refine A.s<|A.g [.p,.p] [7] [(5,i_ 0)] ?_
 refine A.O [8] 9 ?_
 refine A.dT 1 [.p,.p,.ld 0,.p,.p,.ld 1,.p,.p] (rg 0 8) [5] [(15,w_<|dL .and .u16 x0 y0),(16,p_ b1)] [b1,b2] ?_
 refine A.F 8 rfl (A.sT 0 [w_<|dL .and .u16 x0 y0] rfl ?_)
 refine A.E ?_
 refine A.M ?_
 refine A.s<|A.h [.p,.p] [(2,p_ b1),(3,p_ b2),(4,p_ b3),(6,i_ 1)] [] ?_
 refine A.aC (m:=398) ?_
 refine A.d ?_
 refine A.s<|A.g [.p] [] [(7,b_ true)] ?_
 refine A.d ?_
 refine A.ct ?_
 refine A.p ?_
 refine A.d ?_
 refine A.y ?_
 refine A.d ?_
 refine A.s<|A.g [.p,.p] [7] [(5,i_ 1)] ?_
 refine A.O [8] 9 ?_
 refine A.dT 1 [.p,.p,.ld 0,.p,.p,.ld 1,.p,.p] (rg 0 8) [5] [(15,w_<|dL .and .u16 x1 y1),(16,q_ b1 1)] [b1,b2] ?_
 refine A.F 8 rfl (A.sT 0 [w_<|dL .and .u16 x1 y1] rfl ?_)
 refine A.E ?_
 refine A.M ?_
 refine A.s<|A.h [.p,.p] [(2,p_ b1),(3,p_ b2),(4,p_ b3),(6,i_ 2)] [] ?_
 refine A.aC (m:=397) ?_
 refine A.d ?_
 refine A.s<|A.g [.p] [] [(7,b_ true)] ?_
 refine A.d ?_
 refine A.ct ?_
 refine A.p ?_
 refine A.d ?_
 refine A.y ?_
 refine A.d ?_
 refine A.s<|A.g [.p,.p] [7] [(5,i_ 2)] ?_
 refine A.O [8] 9 ?_
 refine A.dT 1 [.p,.p,.ld 0,.p,.p,.ld 1,.p,.p] (rg 0 8) [5] [(15,w_<|dL .and .u16 x2 y2),(16,q_ b1 2)] [b1,b2] ?_
 refine A.F 8 rfl (A.sT 0 [w_<|dL .and .u16 x2 y2] rfl ?_)
 refine A.E ?_
 refine A.M ?_
 refine A.s<|A.h [.p,.p] [(2,p_ b1),(3,p_ b2),(4,p_ b3),(6,i_ 3)] [] ?_
 refine A.aC (m:=396) ?_
 refine A.d ?_
 refine A.s<|A.g [.p] [] [(7,b_ true)] ?_
 refine A.d ?_
 refine A.ct ?_
 refine A.p ?_
 refine A.d ?_
 refine A.y ?_
 refine A.d ?_
 refine A.s<|A.g [.p,.p] [7] [(5,i_ 3)] ?_
 refine A.O [8] 9 ?_
 refine A.dT 1 [.p,.p,.ld 0,.p,.p,.ld 1,.p,.p] (rg 0 8) [5] [(15,w_<|dL .and .u16 x3 y3),(16,q_ b1 3)] [b1,b2] ?_
 refine A.F 8 rfl (A.sT 0 [w_<|dL .and .u16 x3 y3] rfl ?_)
 refine A.E ?_
 refine A.M ?_
 refine A.s<|A.h [.p,.p] [(2,p_ b1),(3,p_ b2),(4,p_ b3),(6,i_ 4)] [] ?_
 refine A.aC (m:=395) ?_
 refine A.d ?_
 refine A.s<|A.g [.p] [] [(7,b_ false)] ?_
 refine A.d ?_
 refine A.cf ?_
 refine A.aA ?_
 refine A.d ?_
 refine A.s<|A.gT [.ld 0,.st 2] [(4,p_ b3)] [(2,NY b3 x0 y0 x1 y1 x2 y2 x3 y3)] [b1,b3] ?_
 refine A.e ?_
 refine A.pc 2 [w_<|dL .and .u16 x0 y0,w_<|dL .and .u16 x1 y1,w_<|dL .and .u16 x2 y2,w_<|dL .and .u16 x3 y3] ?_
 rfl
def kO(x:Hd):Prop:=(0≤x.ha∧x.ha≤65535)∧(0≤x.hb∧x.hb≤65535)∧(0≤x.hc∧x.hc≤65535)∧(0≤x.hd∧x.hd≤65535)
def kP(x:Rl):Prop:=(0≤x.ma∧x.ma≤65535)∧(0≤x.mb∧x.mb≤65535)∧(0≤x.mc∧x.mc≤65535)∧(0≤x.md∧x.md≤65535)∧(0≤x.wa∧x.wa≤65535)∧(0≤x.wb∧x.wb≤65535)∧(0≤x.wc∧x.wc≤65535)∧(0≤x.wd∧x.wd≤65535)∧((-9223372036854775808)≤x.cl∧x.cl≤9223372036854775807)
def Jf:List FK:=[.int .u16,.int .u16,.int .u16,.int .u16,.int .u16,.int .u16,.int .u16,.int .u16,.int .i64]
theorem RO(cs:List Value)(h:mY Jf cs): ∃x,cs=ft x∧kP x:=by
 unfold Jf at h
 obtain⟨v0,cs0,rfl,h0,g0⟩:=gP h
 obtain⟨a0,rfl,r0⟩:=mO h0
 obtain⟨v1,cs1,rfl,h1,g1⟩:=gP g0
 obtain⟨a1,rfl,r1⟩:=mO h1
 obtain⟨v2,cs2,rfl,h2,g2⟩:=gP g1
 obtain⟨a2,rfl,r2⟩:=mO h2
 obtain⟨v3,cs3,rfl,h3,g3⟩:=gP g2
 obtain⟨a3,rfl,r3⟩:=mO h3
 obtain⟨v4,cs4,rfl,h4,g4⟩:=gP g3
 obtain⟨a4,rfl,r4⟩:=mO h4
 obtain⟨v5,cs5,rfl,h5,g5⟩:=gP g4
 obtain⟨a5,rfl,r5⟩:=mO h5
 obtain⟨v6,cs6,rfl,h6,g6⟩:=gP g5
 obtain⟨a6,rfl,r6⟩:=mO h6
 obtain⟨v7,cs7,rfl,h7,g7⟩:=gP g6
 obtain⟨a7,rfl,r7⟩:=mO h7
 obtain⟨v8,cs8,rfl,h8,g8⟩:=gP g7
 obtain⟨a8,rfl,r8⟩:=n0 h8
 obtain rfl:=rp g8
 exact⟨⟨a0,a1,a2,a3,a4,a5,a6,a7,a8⟩,rfl,r0,r1,r2,r3,r4,r5,r6,r7,r8⟩
def mt(r:Rl)(h:Hd):Bool:=qX h.ha r.ma==r.wa&&qX h.hb r.mb==r.wb&&qX h.hc r.mc==r.wc&&qX h.hd r.md==r.wd
theorem KP(r:Rl)(h:Hd)(hr:kP r)(hh:kO h)(w:World):
  CW 110 #[.agg #[w_ r.ma,w_ r.mb,w_ r.mc,w_ r.md,w_ r.wa,w_ r.wb,w_ r.wc,w_ r.wd,i_ r.cl],.agg #[w_ h.ha,w_ h.hb,w_ h.hc,w_ h.hd]] w (b_<|mt r h):=by
 obtain⟨hr1,hr2,hr3,hr4,hr5,hr6,hr7,hr8,hr9⟩:=hr;obtain⟨hh1,hh2,hh3,hh4⟩:=hh
 refine A.C Tryz.func110 rfl (HS.nil w) (A.c<|A.n2 [.al,.al,.p] [0,1] (fun b1 b2=>[(2,p_ b1),(3,p_ b2)]) (fun b1 b2=>[cw b1 [w_ r.ma,w_ r.mb,w_ r.mc,w_ r.md,w_ r.wa,w_ r.wb,w_ r.wc,w_ r.wd,i_ r.cl] 86,cw b2 [w_ h.ha,w_ h.hb,w_ h.hc,w_ h.hd] 43]) ?_)
 intro b1 b2
 refine A.d<|A.ka [.ld 1,.p,.ld 0,.cq<|.agg #[w_<|dL .and .u16 h.ha r.ma,w_<|dL .and .u16 h.hb r.mb,w_<|dL .and .u16 h.hc r.mc,w_<|dL .and .u16 h.hd r.md],.p,.ld 0,.eq,.p] (rg 0 8) [2,3] [(4,b_<|((dL .and .u16 h.ha r.ma)==r.wa)&&(((dL .and .u16 h.hb r.mb)==r.wb)&&(((dL .and .u16 h.hc r.mc)==r.wc)&&((dL .and .u16 h.hd r.md)==r.wd))))] [b2,b1,b1] (o1<|qo<|fun ww ss=>yz h.ha h.hb h.hc h.hd r.ma r.mb r.mc r.md ww)<|A.e<|A.W [b_<|((dL .and .u16 h.ha r.ma)==r.wa)&&(((dL .and .u16 h.hb r.mb)==r.wb)&&(((dL .and .u16 h.hc r.mc)==r.wc)&&((dL .and .u16 h.hd r.md)==r.wd)))] ?_
 refine congrArg Value.bool ?_;rw[pW (by omega)<|by omega,pW (by omega)<|by omega,pW (by omega)<|by omega,pW (by omega)<|by omega];(unfold mt;simp[Bool.and_assoc])
end Go.Proofs.YtobgjpigngoggaaGreat
namespace Go.Proofs.YtobgjpigngoggaaGreat
open Go V
def iQ(x:Int):List Value:=[(i_ x)]
theorem vh(x:Int):(iQ x).length=1:=rfl
theorem Eo(x:Int):(iQ x).all Value.oneCell'=true:=rfl
theorem LG(p:Addr)(l:List Rl)(cl:Nat)(hl:l.length≤100000)(w:World)(r0:eo w (some p) (V.dF ft l))(hs:HI w []):
  CV 63 #[.slice (some p) l.length cl] w [] (fun((al',cl'):(Option Addr)×Nat)=>(.slice al' l.length cl')) (fun _=>True) fun(al',cl')=>[sl al' (l.length) cl' 86 9<|V.dF ft l]:=by
 refine A.C Tryz.func63 rfl hs (A.c<|A.g [.p] [] []<|A.d<|A.c<|A.g [.p,.p] [] [(4,b_ false)]<|A.cf<|A.p<|(A.c<|A.j<|A.aE 5 (e:=86) [] (by kernel_rfl) rfl (fun _=>by kernel_rfl) _ (fun _=>rfl) ?_))
 intro b1
 refine A.N [.p] [0,4] [(5,.slice (some ⟨b1,0,none⟩) 0 0),(6,.slice (some p) l.length cl)]<|A.j<|A.bM 0 (b:=b1) 0 9 [sl (some ⟨b1,0,none⟩) (([]:List Rl).length) 0 86 9<|V.dF ft ([]:List Rl)] rfl rfl (by decide) rfl (A.ap ft ([]:List Rl) l 0 7 (.agg #[w_ 0,w_ 0,w_ 0,w_ 0,w_ 0,w_ 0,w_ 0,w_ 0,i_ 0]) 24 lK Lm (ef r0<|by simp[dE]) (by simp;omega) ?_)
 intro A3 c3
 refine A.h [.p] [(2,.slice A3 l.length c3)] []<|A.e<|A.Y [0] [.slice A3 l.length c3] (A3,c3) ?_ ?_
 ·rfl
 trivial
theorem LH(l:List Rl)(cl:Nat)(w:World):
  CW 63 #[.slice none l.length cl] w e_:=by
 refine A.C Tryz.func63 rfl (HS.nil w) (A.c<|A.g [.p] [] []<|A.d<|A.c<|A.g [.p,.p] [] [(4,b_ true)]<|A.ct<|A.c<|A.g [.p] [0,4] [(2,e_)]<|A.e<|A.W [e_] ?_)
 rfl
theorem Dt(al:Option Addr)(l:List Rl)(cl:Nat)(hl:l.length≤100000)(w:World)(r0:eo w al (V.dF ft l))(hs:HI w []):
  CV 63 #[.slice al l.length cl] w [] (fun((al',cl'):(Option Addr)×Nat)=>(.slice al' l.length cl')) (fun _=>True) fun(al',cl')=>[sl al' (l.length) cl' 86 9<|V.dF ft l]:=by
 cases al with
 |some p=>exact LG p l cl hl w r0 hs
 |none=>
  have hn:l=[]:=by
   cases l with
   |nil=>rfl
   |cons x xs=>have h:=(r0 0 _ rfl).1;simp at h
  subst hn
  exact Calls.mono (LH [] cl w) fun e w' h=>⟨(none,0),h.1,trivial,⟨h.2,by intro it hi;simp at hi;subst hi;exact xh _ _ _,by simp[dE,sl,fq],by simp[dE,sl,fq]⟩⟩end Go.Proofs.YtobgjpigngoggaaGreat
namespace Go.Proofs.YtobgjpigngoggaaGreat
open Go V
def ic(h:Hd):Value:= .agg #[(w_ h.ha),(w_ h.hb),(w_ h.hc),(w_ h.hd)]
theorem u4:jd Tryz.prog 43 ic:=LD (by kernel_rfl)
 (fun a b=>by
  have e:j9 Tryz.prog 10000 43 (ic a) (ic b)=some ((a.ha==b.ha)&&((a.hb==b.hb)&&((a.hc==b.hc)&&(a.hd==b.hd)))):=by
   cases a;cases b;kernel_rfl
  rw[e];refine congrArg some ?_;cases a;cases b;rw[Bool.eq_iff_iff];simp)
 (fun a em=>by cases em<;>kernel_rfl) (fun a=>by
  have e:Instr.sameBits 10000 (ic a) (ic a)=((a.ha==a.ha)&&((a.hb==a.hb)&&((a.hc==a.hc)&&((a.hd==a.hd)&&true)))):=by kernel_rfl
  rw[e];simp)
def Rl.want(r:Rl):Hd:=⟨r.wa,r.wb,r.wc,r.wd⟩
def Rl.wh(r:Rl):Bool:=r.ma==65535&&r.mb==65535&&r.mc==65535&&r.md==65535
def Rl.good(r:Rl):Bool:=decide (1≤r.cl)&&decide (r.cl≤65536)&&mt r r.want
def eF(l:List Rl):Nat→List (Hd×Int)
 |0=>[]
 |k+1=>match l[k]? with
  |some r=>if r.wh&& !(cu (eF l k) r.want).isSome then dC (eF l k) r.want k else eF l k
  |none=>eF l k
def dV(l:List Rl):Nat→List Int
 |0=>[]
 |k+1=>match l[k]? with
  |some r=>if r.wh then dV l k else dV l k++[(k:Int)]
  |none=>dV l k
variable{r:Rl}
theorem HH(h:kP r):(((decide (r.cl<1))||(decide (r.cl>65536)))||(!(((dL .and .u16 r.wa r.ma)==r.wa)&&(((dL .and .u16 r.wb r.mb)==r.wb)&&(((dL .and .u16 r.wc r.mc)==r.wc)&&((dL .and .u16 r.wd r.md)==r.wd))))))= !r.good:=by
 obtain⟨h1,h2,h3,h4,h5,h6,h7,h8,h9⟩:=h
 rw[pW (by omega)<|by omega,pW (by omega)<|by omega,pW (by omega)<|by omega,pW (by omega)<|by omega]
 have e1:decide (r.cl<1)= !decide (1≤r.cl):=by rw[Bool.eq_iff_iff];simp
 have e2:decide (r.cl>65536)= !decide (r.cl≤65536):=by rw[Bool.eq_iff_iff];simp
 unfold Rl.good mt Rl.want;rw[e1,e2];simp only[Bool.not_and,Bool.and_assoc];simp[Bool.and_assoc,Bool.or_assoc]
theorem xo(r:Rl):(!((r.ma==65535)&&((r.mb==65535)&&((r.mc==65535)&&(r.md==65535)))))= !r.wh:=by unfold Rl.wh;simp[Bool.and_assoc]
variable{l:List Rl}{k:Nat}
theorem HJ(hr:l[k]? =some r)(h1:(!((r.ma==65535)&&((r.mb==65535)&&((r.mc==65535)&&(r.md==65535)))))=false)(h2:(!(cu (eF l k) (⟨r.wa,r.wb,r.wc,r.wd⟩:Hd)).isSome)=true):dC (eF l k) (⟨r.wa,r.wb,r.wc,r.wd⟩:Hd) (k:Int)=eF l (k+1):=by
 rw[xo] at h1;have:r.wh=true:=by simpa using h1
 rw[eF];simp only[hr];rw[if_pos (by rw[this];simpa[Rl.want] using h2)];rfl
theorem wI(hr:l[k]? =some r)(h:(!((r.ma==65535)&&((r.mb==65535)&&((r.mc==65535)&&(r.md==65535)))))=true∨(!(cu (eF l k) (⟨r.wa,r.wb,r.wc,r.wd⟩:Hd)).isSome)=false):eF l k=eF l (k+1):=by
 rw[xo] at h
 rw[eF];simp only[hr];rw[if_neg];rcases h with h|h
 ·simp at h;simp[h]
 ·have:(!(cu (eF l k) r.want).isSome)=false:=h
  rw[this];simp
theorem vj(hr:l[k]? =some r)(h1:(!((r.ma==65535)&&((r.mb==65535)&&((r.mc==65535)&&(r.md==65535)))))=true):dV l k++[(k:Int)]=dV l (k+1):=by
 rw[xo] at h1;simp at h1;rw[dV];simp[hr,h1]
theorem pU(hr:l[k]? =some r)(h1:(!((r.ma==65535)&&((r.mb==65535)&&((r.mc==65535)&&(r.md==65535)))))=false):dV l k=dV l (k+1):=by
 rw[xo] at h1;simp at h1;rw[dV];simp[hr,h1]
theorem vk(l:List Rl): ∀k,(dV l k).length≤k
 |0=>by simp[dV]
 |k+1=>by have:=vk l k;unfold dV;split;(split;omega;simp;omega);omega
theorem vT{α:Type}{l:List α}{x:α}(h:l[k]? =some x):l.take (k+1)=l.take k++[x]:=by rw[List.take_add_one,h];rfl
theorem Ou(hn: ∀y∈l.take k,y.good=true)(hb: ¬ ∀x∈l,x.good=true):k<l.length:=by
 rcases Nat.lt_or_ge k l.length with h|h
 ·exact h
 ·rw[List.take_of_length_le h] at hn;exact absurd hn hb
theorem Ap(h:kP r)(e:(((decide (r.cl<1))||(decide (r.cl>65536)))||(!(((dL .and .u16 r.wa r.ma)==r.wa)&&(((dL .and .u16 r.wb r.mb)==r.wb)&&(((dL .and .u16 r.wc r.mc)==r.wc)&&((dL .and .u16 r.wd r.md)==r.wd))))))=false):r.good=true:=by
 rw[HH h] at e;simpa using e
theorem RP(al:Option Addr)(l:List Rl)(cl:Nat)(hl:l.length≤32)(hg: ∀x∈l,x.good=true)(hR: ∀x∈l,kP x)(w:World)(r0:eo w al (V.dF ft l))(hs:HI w []):
  CV 43 #[.slice al l.length cl] w [] (fun((bt,ar,cr,mb,am,cm):Nat×(Option Addr)×Nat×Nat×(Option Addr)×Nat)=>(.tuple #[p_ bt,i_ 0])) (fun _=>True) fun(bt,ar,cr,mb,am,cm)=>[cw bt [.slice ar l.length cr,.map<|some mb,.slice am ((dV l l.length).length) cm] 150,sl ar (l.length) cr 86 9<|V.dF ft l,dY ic (fun x:Int=>i_ x) mb<|eF l l.length,sl am ((dV l l.length).length) cm 3 1<|V.dF iQ<|dV l l.length]:=by
 refine A.C Tryz.func43 rfl hs (A.c<|A.h [.p,.p] [(0,.slice al l.length cl)] []<|A.d<|A.c<|A.h (ps 3) [(0,.slice al l.length cl),(11,b_<|decide ((l.length:Int)>32))] []<|A.v (E:=decide ((l.length:Int)>32)) rfl (fun e1=>?_) (fun e1=>?_))
 ·exact absurd e1 (by simp;omega)
 have p1:=of_decide_eq_false e1
 refine A.p<|A.c<|A.hp [.p] [(0,.slice al l.length cl),(12,.slice al l.length cl)] []<|A.j<|A.I (some 13) [] (fun w s h=>Dt al l cl (by omega) w ((ef r0<|by simp[dE]) w s) h) ?_
 rintro⟨al'1,cl'2⟩-
 refine A.j<|A.aY ic (fun x:Int=>i_ x) 14 (by kernel_rfl) rfl (fun m4=>[sl al'1 (l.length) cl'2 86 9<|V.dF ft l,dY ic (fun x:Int=>i_ x) m4 ([]:List (Hd×Int))]) (fun _=>rfl) ?_
 intro m4
 refine A.m1 [.p,.al,.p] (fun b5=>[(0,.slice al l.length cl),(4,p_ b5)]) (fun _=>[]) (fun b5=>cw b5 [.slice al'1 l.length cl'2,.map<|some m4,e_] 150) (fun b5=>[]) ?_
 intro b5
 refine A.d<|A.c<|A.h (ps 3) [(4,p_ b5),(17,.slice al l.length cl),(18,i_ (l.length:Int)),(19,i_ 0)] []<|A.y<|A.aM 3 1 [sl al'1 (l.length) cl'2 86 9<|V.dF ft l,dY ic (fun x:Int=>i_ x) m4<|eF l 0,cw b5 [.slice al'1 l.length cl'2,.map<|some m4,.slice none ((dV l 0).length) 0] 150,sl none ((dV l 0).length) 0 3 1<|V.dF iQ<|dV l 0] rfl (A.aX (fun((k,am,cm,bt,ar,cr,mb):Nat×(Option Addr)×Nat×Nat×(Option Addr)×Nat×Nat)=>[(17,.slice al l.length cl),(18,i_ (l.length:Int)),(19,i_ (k:Int)),(4,p_ bt)]) (fun((k,am,cm,bt,ar,cr,mb):Nat×(Option Addr)×Nat×Nat×(Option Addr)×Nat×Nat)=>[cw bt [.slice ar l.length cr,.map<|some mb,.slice am ((dV l k).length) cm] 150,sl ar (l.length) cr 86 9<|V.dF ft l,dY ic (fun x:Int=>i_ x) mb<|eF l k,sl am ((dV l k).length) cm 3 1<|V.dF iQ<|dV l k]) (fun((k,am,cm,bt,ar,cr,mb):Nat×(Option Addr)×Nat×Nat×(Option Addr)×Nat×Nat)=>(k≤l.length)) (fun((k,am,cm,bt,ar,cr,mb):Nat×(Option Addr)×Nat×Nat×(Option Addr)×Nat×Nat)=>l.length-k) (0,none,0,b5,al'1,cl'2,m4) (by omega) ?_ ?_)
 ·exact A.aI [2,0,0,0] ⟨rfl,rfl,rfl,rfl,trivial⟩<|by kernel_rfl
 rintro⟨k,am,cm,bt,ar,cr,mb⟩ hk
 have hk:k≤l.length:=hk
 have hm:=vk l k
 refine A.aO [(17,.slice al l.length cl),(18,i_ (l.length:Int)),(19,i_ (k:Int)),(4,p_ bt)] [cw bt [.slice ar l.length cr,.map<|some mb,.slice am ((dV l k).length) cm] 150,sl ar (l.length) cr 86 9<|V.dF ft l,dY ic (fun x:Int=>i_ x) mb<|eF l k,sl am ((dV l k).length) cm 3 1<|V.dF iQ<|dV l k] ⟨rfl,rfl,rfl,rfl,trivial⟩ rfl (A.c<|A.h [.p] [(17,.slice al l.length cl),(18,i_ (l.length:Int)),(19,i_ (k:Int)),(4,p_ bt),(20,b_<|decide ((k:Int)<(l.length:Int)))] []<|A.d<|A.v (E:=decide ((k:Int)<(l.length:Int))) rfl (fun e3=>?_) (fun e3=>?_))
 ·have p3:=of_decide_eq_true e3
  refine A.p<|A.d<|A.y<|A.c<|A.hq [.p,.ix] [(17,.slice al l.length cl),(18,i_ (l.length:Int)),(19,i_ (k:Int)),(4,p_ bt),(21,i_ (k:Int)),(22,.pointer<|some<|(dR al).add (k*9))] [] (o1<|io (k:Int)<|gW lK (by decide) (ef r0<|by simp[dE])<|by omega) ?_
  obtain⟨x7,hx7⟩: ∃x,(l)[k]? =some x:=⟨_,List.getElem?_eq_getElem<|by omega⟩
  refine A.au [.rd [w_ x7.ma,w_ x7.mb,w_ x7.mc,w_ x7.md,w_ x7.wa,w_ x7.wb,w_ x7.wc,w_ x7.wd,i_ x7.cl],.al,.p,.st 4] [17,18,19,4,6,5] (fun b8=>[(17,.slice al l.length cl),(18,i_ (l.length:Int)),(19,i_ (k:Int)),(4,p_ bt),(6,p_ b8),(5,i_ (k:Int))]) (fun b8=>[cw bt [.slice ar l.length cr,.map<|some mb,.slice am ((dV l k).length) cm] 150,sl ar (l.length) cr 86 9<|V.dF ft l,dY ic (fun x:Int=>i_ x) mb<|eF l k,sl am ((dV l k).length) cm 3 1<|V.dF iQ<|dV l k,cw b8 [w_ x7.ma,w_ x7.mb,w_ x7.mc,w_ x7.md,w_ x7.wa,w_ x7.wb,w_ x7.wc,w_ x7.wd,i_ x7.cl] 86]) (fun b8=>[b8]) (fun _=>(fun κ=>κ.rd ((dR al).add (k*9)) [w_ x7.ma,w_ x7.mb,w_ x7.mc,w_ x7.md,w_ x7.wa,w_ x7.wb,w_ x7.wc,w_ x7.wd,i_ x7.cl]∧True)) (fun _=>by kernel_rfl) (fun b8=>⟨fS (vs:=[w_ x7.ma,w_ x7.mb,w_ x7.mc,w_ x7.md,w_ x7.wa,w_ x7.wb,w_ x7.wc,w_ x7.wd,i_ x7.cl]) lK (ef r0<|by simp[dE]) hx7 (Nat.le_of_ble_eq_true rfl) rfl,trivial⟩) ?_
  intro b8
  refine A.d<|A.d<|A.aZ [.p,.ld 4,.p,.p,.o,.p,.ld 4,.p,.cl,.p,.o,.p,.ld 4,.p,.ld 4,.cq<|.agg #[w_<|dL .and .u16 x7.wa x7.ma,w_<|dL .and .u16 x7.wb x7.mb,w_<|dL .and .u16 x7.wc x7.mc,w_<|dL .and .u16 x7.wd x7.md],.p,.ld 4,.eq,.cl] [0,1,2,3,4,5,6,7,8,9,10,11,12,13,14,15,16,17] [(17,.slice al l.length cl),(18,i_ (l.length:Int)),(19,i_ (k:Int)),(4,p_ bt),(6,p_ b8),(5,i_ (k:Int)),(41,b_<|((decide (x7.cl<1))||(decide (x7.cl>65536)))||(!(((dL .and .u16 x7.wa x7.ma)==x7.wa)&&(((dL .and .u16 x7.wb x7.mb)==x7.wb)&&(((dL .and .u16 x7.wc x7.mc)==x7.wc)&&((dL .and .u16 x7.wd x7.md)==x7.wd))))))] [b8,b8,b8,b8,b8] (fun κ=>((true&&(((decide (x7.cl<1))||(decide (x7.cl>65536)))==false))=true→κ.call 64 [.agg #[w_ x7.wa,w_ x7.wb,w_ x7.wc,w_ x7.wd],.agg #[w_ x7.ma,w_ x7.mb,w_ x7.mc,w_ x7.md]] (.agg #[w_<|dL .and .u16 x7.wa x7.ma,w_<|dL .and .u16 x7.wb x7.mb,w_<|dL .and .u16 x7.wc x7.mc,w_<|dL .and .u16 x7.wd x7.md]))∧True) (by kernel_rfl) (by kernel_rfl) ⟨(fun h_=>(fun w s=>yz x7.wa x7.wb x7.wc x7.wd x7.ma x7.mb x7.mc x7.md w)),trivial⟩<|(A.v (E:=((decide (x7.cl<1))||(decide (x7.cl>65536)))||(!(((dL .and .u16 x7.wa x7.ma)==x7.wa)&&(((dL .and .u16 x7.wb x7.mb)==x7.wb)&&(((dL .and .u16 x7.wc x7.mc)==x7.wc)&&((dL .and .u16 x7.wd x7.md)==x7.wd)))))) rfl (fun e4=>?_) (fun e4=>?_))
  ·exact absurd e4 (by rw[HH<|hR _<|List.mem_of_getElem? ‹_›,hg _<|List.mem_of_getElem? ‹_›];decide)
  refine A.p<|A.d<|A.O [] 12<|A.pT 6 [.p,.p,.p,.ld 0,.p,.ld 4] (rg 0 6) [(17,.slice al l.length cl),(18,i_ (l.length:Int)),(19,i_ (k:Int)),(4,p_ bt),(6,p_ b8),(5,i_ (k:Int)),(46,.map<|some mb),(48,.agg #[w_ x7.wa,w_ x7.wb,w_ x7.wc,w_ x7.wd])] [bt,b8]<|A.aR 6 (some 49) (.tuple #[i_<|(cu (eF l k) (⟨x7.wa,x7.wb,x7.wc,x7.wd⟩:Hd)).getD 0,b_<|(cu (eF l k) (⟨x7.wa,x7.wb,x7.wc,x7.wd⟩:Hd)).isSome]) rfl (by kernel_rfl) (by kernel_rfl) (tf 43 3 (⟨x7.wa,x7.wb,x7.wc,x7.wd⟩:Hd) 0 (qM 2 rfl) u4) (A.pT 0 (ps 5) (rg 7 5) [(17,.slice al l.length cl),(18,i_ (l.length:Int)),(19,i_ (k:Int)),(4,p_ bt),(6,p_ b8),(5,i_ (k:Int)),(8,b_<|(cu (eF l k) (⟨x7.wa,x7.wb,x7.wc,x7.wd⟩:Hd)).isSome)] []<|A.M<|A.y<|A.d<|A.aZ [.p,.ld 4,.cq<|.agg #[w_ 65535,w_ 65535,w_ 65535,w_ 65535],.eq,.p] (rg 0 5) [(17,.slice al l.length cl),(18,i_ (l.length:Int)),(19,i_ (k:Int)),(4,p_ bt),(6,p_ b8),(5,i_ (k:Int)),(8,b_<|(cu (eF l k) (⟨x7.wa,x7.wb,x7.wc,x7.wd⟩:Hd)).isSome),(52,b_ (!((x7.ma==65535)&&((x7.mb==65535)&&((x7.mc==65535)&&(x7.md==65535))))))] [b8] (fun κ=>κ.call 65 [] (.agg #[w_ 65535,w_ 65535,w_ 65535,w_ 65535])∧True) (by kernel_rfl) (by kernel_rfl) ⟨(fun w s=>EP w),trivial⟩<|A.v (E:= !((x7.ma==65535)&&((x7.mb==65535)&&((x7.mc==65535)&&(x7.md==65535))))) rfl (fun e5=>?_) (fun e5=>?_))
  ·refine A.s<|A.hp [.p,.p,.p,.p,.ld 0,.p] [(17,.slice al l.length cl),(18,i_ (l.length:Int)),(19,i_ (k:Int)),(4,p_ bt),(57,p_ bt),(61,.slice am ((dV l k).length) cm),(62,i_ (k:Int))] [bt]<|A.j<|A.aE 63 (e:=3) [i_ (k:Int)] (by kernel_rfl) rfl (fun _=>by kernel_rfl) (fun b9=>[cw bt [.slice ar l.length cr,.map<|some mb,.slice am ((dV l k).length) cm] 150,sl ar (l.length) cr 86 9<|V.dF ft l,dY ic (fun x:Int=>i_ x) mb<|eF l k,sl am ((dV l k).length) cm 3 1<|V.dF iQ<|dV l k,cw b8 [w_ x7.ma,w_ x7.mb,w_ x7.mc,w_ x7.md,w_ x7.wa,w_ x7.wb,w_ x7.wc,w_ x7.wd,i_ x7.cl] 86,cw b9 [i_ (k:Int)] 3]) (fun _=>rfl) ?_
   intro b9
   refine A.j<|A.an (enc:=iQ) (xs:=(dV l k)) ([(k:Int)]) 3 64 (e:=3) (z:=(i_ 0)) (sz:=1) (by_:=8) (by kernel_rfl) rfl rfl rfl (by kernel_rfl) (by kernel_rfl) (by rfl) (by decide) vh Eo rfl (gG (i:=5) rfl) (by simp;omega) (fun A10 c10=>[cw bt [.slice ar l.length cr,.map<|some mb,.slice am ((dV l k).length) cm] 150,sl ar (l.length) cr 86 9<|V.dF ft l,dY ic (fun x:Int=>i_ x) mb<|eF l k,sl A10 (((dV l k)++([(k:Int)])).length) c10 3 1<|V.dF iQ<|(dV l k)++([(k:Int)]),cw b8 [w_ x7.ma,w_ x7.mb,w_ x7.mc,w_ x7.md,w_ x7.wa,w_ x7.wb,w_ x7.wc,w_ x7.wd,i_ x7.cl] 86,cw b9 [i_ (k:Int)] 3]) (fun _ _=>rfl) ?_
   intro A10 c10
   refine A.gT [.p,.p,.st 0] [(17,.slice al l.length cl),(18,i_ (l.length:Int)),(19,i_ (k:Int)),(4,p_ bt)] [(0,cw bt [.slice ar l.length cr,.map<|some mb,.slice A10 (((dV l k)++([(k:Int)])).length) c10] 150)] [bt]<|A.s<|A.hk [.w<|(k:Int)+1,.p] [(17,.slice al l.length cl),(18,i_ (l.length:Int)),(19,i_<|(k:Int)+1),(4,p_ bt)] [] (o1<|wj ((k:Int)+1)<|by omega)<|(A.su 0 (cw bt [.slice ar l.length cr,.map<|some mb,.slice A10 ((dV l<|k+1).length) c10] 150) rfl (iL<|cc rfl (cc rfl (cc (congrArg (fun z_:List Int=>Value.slice A10 z_.length c10) (vj ‹_› ‹_›:(dV l k)++([(k:Int)])=(dV l<|k+1))) rfl))) ?_)
   rw[show(eF l k)=(eF l<|k+1) from by exact wI ‹_› (.inl ‹_›)]
   refine A.su 3 (sl A10 ((dV l<|k+1).length) c10 3 1<|V.dF iQ<|dV l<|k+1) rfl (eI (vj ‹_› ‹_›:(dV l k)++([(k:Int)])=(dV l<|k+1))) (A.Z (k+1,A10,c10,bt,ar,cr,mb) (by omega) (by(simp;omega)) ?_)
   exact A.aI [0,0,0,0] ⟨rfl,rfl,rfl,rfl,trivial⟩<|by kernel_rfl
  refine A.c<|A.h (ps 3) [(17,.slice al l.length cl),(18,i_ (l.length:Int)),(19,i_ (k:Int)),(4,p_ bt),(6,p_ b8),(5,i_ (k:Int)),(67,b_ (!((cu (eF l k) (⟨x7.wa,x7.wb,x7.wc,x7.wd⟩:Hd)).isSome)))] []<|A.v (E:= !((cu (eF l k) (⟨x7.wa,x7.wb,x7.wc,x7.wd⟩:Hd)).isSome)) rfl (fun e6=>?_) (fun e6=>?_)
  ·refine A.O [7] 8<|A.pT 1 [.p,.p,.p,.ld 0,.p,.ld 4,.p] (rg 0 7) [(17,.slice al l.length cl),(18,i_ (l.length:Int)),(19,i_ (k:Int)),(4,p_ bt),(73,.map<|some mb),(75,.agg #[w_ x7.wa,w_ x7.wb,w_ x7.wc,w_ x7.wd]),(76,i_ (k:Int))] [bt,b8]<|A.F 7 rfl (A.mP 43 3 2 (⟨x7.wa,x7.wb,x7.wc,x7.wd⟩:Hd) (k:Int) rfl u4 (A.E<|A.M<|A.s<|A.hk [.w<|(k:Int)+1,.p] [(17,.slice al l.length cl),(18,i_ (l.length:Int)),(19,i_<|(k:Int)+1),(4,p_ bt)] [] (o1<|wj ((k:Int)+1)<|by omega)<|(A.su 0 (cw bt [.slice ar l.length cr,.map<|some mb,.slice am ((dV l<|k+1).length) cm] 150) rfl (iL<|cc rfl (cc rfl (cc (congrArg (fun z_:List Int=>Value.slice am z_.length cm) (pU ‹_› ‹_›:(dV l k)=(dV l<|k+1))) rfl))) ?_)))
   rw[show dC (eF l k) (⟨x7.wa,x7.wb,x7.wc,x7.wd⟩:Hd) (k:Int)=(eF l<|k+1) from by exact HJ ‹_› ‹_› ‹_›]
   refine A.su 3 (sl am ((dV l<|k+1).length) cm 3 1<|V.dF iQ<|dV l<|k+1) rfl (eI (pU ‹_› ‹_›:(dV l k)=(dV l<|k+1))) (A.Z (k+1,am,cm,bt,ar,cr,mb) (by omega) (by(simp;omega)) ?_)
   exact A.aI [0,0,0,0] ⟨rfl,rfl,rfl,rfl,trivial⟩<|by kernel_rfl
  refine A.p<|A.s<|A.hk [.w<|(k:Int)+1,.p] [(17,.slice al l.length cl),(18,i_ (l.length:Int)),(19,i_<|(k:Int)+1),(4,p_ bt)] [] (o1<|wj ((k:Int)+1)<|by omega)<|A.su 0 (cw bt [.slice ar l.length cr,.map<|some mb,.slice am ((dV l<|k+1).length) cm] 150) rfl (iL<|cc rfl (cc rfl (cc (congrArg (fun z_:List Int=>Value.slice am z_.length cm) (pU ‹_› ‹_›:(dV l k)=(dV l<|k+1))) rfl))) ?_
  rw[show(eF l k)=(eF l<|k+1) from by exact wI ‹_› (.inr ‹_›)]
  refine A.su 3 (sl am ((dV l<|k+1).length) cm 3 1<|V.dF iQ<|dV l<|k+1) rfl (eI (pU ‹_› ‹_›:(dV l k)=(dV l<|k+1))) (A.Z (k+1,am,cm,bt,ar,cr,mb) (by omega) (by(simp;omega)) ?_)
  exact A.aI [0,0,0,0] ⟨rfl,rfl,rfl,rfl,trivial⟩<|by kernel_rfl
 have p3:=of_decide_eq_false e3
 refine A.aA<|A.c<|A.h (ps 3) [(2,p_ bt),(3,i_ 0)] []<|A.e<|A.su 0 (cw bt [.slice ar l.length cr,.map<|some mb,.slice am ((dV l l.length).length) cm] 150) rfl (iL<|cc rfl (cc rfl (cc (congrArg (fun z_:List Int=>Value.slice am z_.length cm) (by(rw[show k=l.length from by omega]):(dV l k)=(dV l l.length))) rfl))) ?_
 rw[show(eF l k)=(eF l l.length) from by(rw[show k=l.length from by omega])]
 refine A.su 3 (sl am ((dV l l.length).length) cm 3 1<|V.dF iQ<|dV l l.length) rfl (eI (by(rw[show k=l.length from by omega]):(dV l k)=(dV l l.length))) (A.aG [0,0,0,0] [p_ bt,i_ 0] (fun _ w r s=>⟨fk r rfl,fk r rfl,trivial⟩) (bt,ar,cr,mb,am,cm) ?_ ?_<|by kernel_rfl)
 ·rfl
 trivial
theorem Ov(al:Option Addr)(l:List Rl)(cl:Nat)(hl:l.length≤32)(hb: ¬ ∀x∈l,x.good=true)(hR: ∀x∈l,kP x)(w:World)(r0:eo w al (V.dF ft l)):
  CW 43 #[.slice al l.length cl] w (.tuple #[n_,i_ 1]):=by
 refine A.C Tryz.func43 rfl (HS.nil w) (A.c<|A.h [.p,.p] [(0,.slice al l.length cl)] []<|A.d<|A.c<|A.h (ps 3) [(0,.slice al l.length cl),(11,b_<|decide ((l.length:Int)>32))] []<|A.v (E:=decide ((l.length:Int)>32)) rfl (fun e1=>?_) (fun e1=>?_))
 ·exact absurd e1 (by simp;omega)
 have p1:=of_decide_eq_false e1
 refine A.p<|A.c<|A.hp [.p] [(0,.slice al l.length cl),(12,.slice al l.length cl)] []<|A.j<|A.I (some 13) [] (fun w s h=>Dt al l cl (by omega) w ((ef r0<|by simp[dE]) w s) h) ?_
 rintro⟨al'1,cl'2⟩-
 refine A.j<|A.aY ic (fun x:Int=>i_ x) 14 (by kernel_rfl) rfl (fun m4=>[sl al'1 (l.length) cl'2 86 9<|V.dF ft l,dY ic (fun x:Int=>i_ x) m4 ([]:List (Hd×Int))]) (fun _=>rfl) ?_
 intro m4
 refine A.m1 [.p,.al,.p] (fun b5=>[(0,.slice al l.length cl),(4,p_ b5)]) (fun _=>[]) (fun b5=>cw b5 [.slice al'1 l.length cl'2,.map<|some m4,e_] 150) (fun b5=>[]) ?_
 intro b5
 refine A.d<|A.c<|A.h (ps 3) [(4,p_ b5),(17,.slice al l.length cl),(18,i_ (l.length:Int)),(19,i_ 0)] []<|A.y<|A.aM 3 1 [sl al'1 (l.length) cl'2 86 9<|V.dF ft l,dY ic (fun x:Int=>i_ x) m4<|eF l 0,cw b5 [.slice al'1 l.length cl'2,.map<|some m4,.slice none ((dV l 0).length) 0] 150,sl none ((dV l 0).length) 0 3 1<|V.dF iQ<|dV l 0] rfl (A.aX (fun((k,am,cm,bt,ar,cr,mb):Nat×(Option Addr)×Nat×Nat×(Option Addr)×Nat×Nat)=>[(17,.slice al l.length cl),(18,i_ (l.length:Int)),(19,i_ (k:Int)),(4,p_ bt)]) (fun((k,am,cm,bt,ar,cr,mb):Nat×(Option Addr)×Nat×Nat×(Option Addr)×Nat×Nat)=>[cw bt [.slice ar l.length cr,.map<|some mb,.slice am ((dV l k).length) cm] 150,sl ar (l.length) cr 86 9<|V.dF ft l,dY ic (fun x:Int=>i_ x) mb<|eF l k,sl am ((dV l k).length) cm 3 1<|V.dF iQ<|dV l k]) (fun((k,am,cm,bt,ar,cr,mb):Nat×(Option Addr)×Nat×Nat×(Option Addr)×Nat×Nat)=>(k≤l.length)∧(∀y∈l.take k,y.good=true)) (fun((k,am,cm,bt,ar,cr,mb):Nat×(Option Addr)×Nat×Nat×(Option Addr)×Nat×Nat)=>l.length-k) (0,none,0,b5,al'1,cl'2,m4) ⟨(by omega),(by simp)⟩ ?_ ?_)
 ·exact A.aI [2,0,0,0] ⟨rfl,rfl,rfl,rfl,trivial⟩<|by kernel_rfl
 rintro⟨k,am,cm,bt,ar,cr,mb⟩ ⟨hk,hn⟩
 have hm:=vk l k
 refine A.aO [(17,.slice al l.length cl),(18,i_ (l.length:Int)),(19,i_ (k:Int)),(4,p_ bt)] [cw bt [.slice ar l.length cr,.map<|some mb,.slice am ((dV l k).length) cm] 150,sl ar (l.length) cr 86 9<|V.dF ft l,dY ic (fun x:Int=>i_ x) mb<|eF l k,sl am ((dV l k).length) cm 3 1<|V.dF iQ<|dV l k] ⟨rfl,rfl,rfl,rfl,trivial⟩ rfl (A.c<|A.h [.p] [(17,.slice al l.length cl),(18,i_ (l.length:Int)),(19,i_ (k:Int)),(4,p_ bt),(20,b_<|decide ((k:Int)<(l.length:Int)))] []<|A.d<|A.v (E:=decide ((k:Int)<(l.length:Int))) rfl (fun e3=>?_) (fun e3=>?_))
 ·have p3:=of_decide_eq_true e3
  refine A.p<|A.d<|A.y<|A.c<|A.hq [.p,.ix] [(17,.slice al l.length cl),(18,i_ (l.length:Int)),(19,i_ (k:Int)),(4,p_ bt),(21,i_ (k:Int)),(22,.pointer<|some<|(dR al).add (k*9))] [] (o1<|io (k:Int)<|gW lK (by decide) (ef r0<|by simp[dE])<|by omega) ?_
  obtain⟨x7,hx7⟩: ∃x,(l)[k]? =some x:=⟨_,List.getElem?_eq_getElem<|by omega⟩
  refine A.au [.rd [w_ x7.ma,w_ x7.mb,w_ x7.mc,w_ x7.md,w_ x7.wa,w_ x7.wb,w_ x7.wc,w_ x7.wd,i_ x7.cl],.al,.p,.st 4] [17,18,19,4,6,5] (fun b8=>[(17,.slice al l.length cl),(18,i_ (l.length:Int)),(19,i_ (k:Int)),(4,p_ bt),(6,p_ b8),(5,i_ (k:Int))]) (fun b8=>[cw bt [.slice ar l.length cr,.map<|some mb,.slice am ((dV l k).length) cm] 150,sl ar (l.length) cr 86 9<|V.dF ft l,dY ic (fun x:Int=>i_ x) mb<|eF l k,sl am ((dV l k).length) cm 3 1<|V.dF iQ<|dV l k,cw b8 [w_ x7.ma,w_ x7.mb,w_ x7.mc,w_ x7.md,w_ x7.wa,w_ x7.wb,w_ x7.wc,w_ x7.wd,i_ x7.cl] 86]) (fun b8=>[b8]) (fun _=>(fun κ=>κ.rd ((dR al).add (k*9)) [w_ x7.ma,w_ x7.mb,w_ x7.mc,w_ x7.md,w_ x7.wa,w_ x7.wb,w_ x7.wc,w_ x7.wd,i_ x7.cl]∧True)) (fun _=>by kernel_rfl) (fun b8=>⟨fS (vs:=[w_ x7.ma,w_ x7.mb,w_ x7.mc,w_ x7.md,w_ x7.wa,w_ x7.wb,w_ x7.wc,w_ x7.wd,i_ x7.cl]) lK (ef r0<|by simp[dE]) hx7 (Nat.le_of_ble_eq_true rfl) rfl,trivial⟩) ?_
  intro b8
  refine A.d<|A.d<|A.aZ [.p,.ld 4,.p,.p,.o,.p,.ld 4,.p,.cl,.p,.o,.p,.ld 4,.p,.ld 4,.cq<|.agg #[w_<|dL .and .u16 x7.wa x7.ma,w_<|dL .and .u16 x7.wb x7.mb,w_<|dL .and .u16 x7.wc x7.mc,w_<|dL .and .u16 x7.wd x7.md],.p,.ld 4,.eq,.cl] [0,1,2,3,4,5,6,7,8,9,10,11,12,13,14,15,16,17] [(17,.slice al l.length cl),(18,i_ (l.length:Int)),(19,i_ (k:Int)),(4,p_ bt),(6,p_ b8),(5,i_ (k:Int)),(41,b_<|((decide (x7.cl<1))||(decide (x7.cl>65536)))||(!(((dL .and .u16 x7.wa x7.ma)==x7.wa)&&(((dL .and .u16 x7.wb x7.mb)==x7.wb)&&(((dL .and .u16 x7.wc x7.mc)==x7.wc)&&((dL .and .u16 x7.wd x7.md)==x7.wd))))))] [b8,b8,b8,b8,b8] (fun κ=>((true&&(((decide (x7.cl<1))||(decide (x7.cl>65536)))==false))=true→κ.call 64 [.agg #[w_ x7.wa,w_ x7.wb,w_ x7.wc,w_ x7.wd],.agg #[w_ x7.ma,w_ x7.mb,w_ x7.mc,w_ x7.md]] (.agg #[w_<|dL .and .u16 x7.wa x7.ma,w_<|dL .and .u16 x7.wb x7.mb,w_<|dL .and .u16 x7.wc x7.mc,w_<|dL .and .u16 x7.wd x7.md]))∧True) (by kernel_rfl) (by kernel_rfl) ⟨(fun h_=>(fun w s=>yz x7.wa x7.wb x7.wc x7.wd x7.ma x7.mb x7.mc x7.md w)),trivial⟩<|(A.v (E:=((decide (x7.cl<1))||(decide (x7.cl>65536)))||(!(((dL .and .u16 x7.wa x7.ma)==x7.wa)&&(((dL .and .u16 x7.wb x7.mb)==x7.wb)&&(((dL .and .u16 x7.wc x7.mc)==x7.wc)&&((dL .and .u16 x7.wd x7.md)==x7.wd)))))) rfl (fun e4=>?_) (fun e4=>?_))
  ·refine A.c<|A.h [.p,.p] [(2,n_),(3,i_ 1)] []<|A.e<|A.aL [n_,i_ 1] (fun _ w r s=>⟨fk r rfl,fk r rfl,trivial⟩) ?_
   rfl
  refine A.p<|A.d<|A.O [] 12<|A.pT 6 [.p,.p,.p,.ld 0,.p,.ld 4] (rg 0 6) [(17,.slice al l.length cl),(18,i_ (l.length:Int)),(19,i_ (k:Int)),(4,p_ bt),(6,p_ b8),(5,i_ (k:Int)),(46,.map<|some mb),(48,.agg #[w_ x7.wa,w_ x7.wb,w_ x7.wc,w_ x7.wd])] [bt,b8]<|A.aR 6 (some 49) (.tuple #[i_<|(cu (eF l k) (⟨x7.wa,x7.wb,x7.wc,x7.wd⟩:Hd)).getD 0,b_<|(cu (eF l k) (⟨x7.wa,x7.wb,x7.wc,x7.wd⟩:Hd)).isSome]) rfl (by kernel_rfl) (by kernel_rfl) (tf 43 3 (⟨x7.wa,x7.wb,x7.wc,x7.wd⟩:Hd) 0 (qM 2 rfl) u4) (A.pT 0 (ps 5) (rg 7 5) [(17,.slice al l.length cl),(18,i_ (l.length:Int)),(19,i_ (k:Int)),(4,p_ bt),(6,p_ b8),(5,i_ (k:Int)),(8,b_<|(cu (eF l k) (⟨x7.wa,x7.wb,x7.wc,x7.wd⟩:Hd)).isSome)] []<|A.M<|A.y<|A.d<|A.aZ [.p,.ld 4,.cq<|.agg #[w_ 65535,w_ 65535,w_ 65535,w_ 65535],.eq,.p] (rg 0 5) [(17,.slice al l.length cl),(18,i_ (l.length:Int)),(19,i_ (k:Int)),(4,p_ bt),(6,p_ b8),(5,i_ (k:Int)),(8,b_<|(cu (eF l k) (⟨x7.wa,x7.wb,x7.wc,x7.wd⟩:Hd)).isSome),(52,b_ (!((x7.ma==65535)&&((x7.mb==65535)&&((x7.mc==65535)&&(x7.md==65535))))))] [b8] (fun κ=>κ.call 65 [] (.agg #[w_ 65535,w_ 65535,w_ 65535,w_ 65535])∧True) (by kernel_rfl) (by kernel_rfl) ⟨(fun w s=>EP w),trivial⟩<|A.v (E:= !((x7.ma==65535)&&((x7.mb==65535)&&((x7.mc==65535)&&(x7.md==65535))))) rfl (fun e5=>?_) (fun e5=>?_))
  ·refine A.s<|A.hp [.p,.p,.p,.p,.ld 0,.p] [(17,.slice al l.length cl),(18,i_ (l.length:Int)),(19,i_ (k:Int)),(4,p_ bt),(57,p_ bt),(61,.slice am ((dV l k).length) cm),(62,i_ (k:Int))] [bt]<|A.j<|A.aE 63 (e:=3) [i_ (k:Int)] (by kernel_rfl) rfl (fun _=>by kernel_rfl) (fun b9=>[cw bt [.slice ar l.length cr,.map<|some mb,.slice am ((dV l k).length) cm] 150,sl ar (l.length) cr 86 9<|V.dF ft l,dY ic (fun x:Int=>i_ x) mb<|eF l k,sl am ((dV l k).length) cm 3 1<|V.dF iQ<|dV l k,cw b8 [w_ x7.ma,w_ x7.mb,w_ x7.mc,w_ x7.md,w_ x7.wa,w_ x7.wb,w_ x7.wc,w_ x7.wd,i_ x7.cl] 86,cw b9 [i_ (k:Int)] 3]) (fun _=>rfl) ?_
   intro b9
   refine A.j<|A.an (enc:=iQ) (xs:=(dV l k)) ([(k:Int)]) 3 64 (e:=3) (z:=(i_ 0)) (sz:=1) (by_:=8) (by kernel_rfl) rfl rfl rfl (by kernel_rfl) (by kernel_rfl) (by rfl) (by decide) vh Eo rfl (gG (i:=5) rfl) (by simp;omega) (fun A10 c10=>[cw bt [.slice ar l.length cr,.map<|some mb,.slice am ((dV l k).length) cm] 150,sl ar (l.length) cr 86 9<|V.dF ft l,dY ic (fun x:Int=>i_ x) mb<|eF l k,sl A10 (((dV l k)++([(k:Int)])).length) c10 3 1<|V.dF iQ<|(dV l k)++([(k:Int)]),cw b8 [w_ x7.ma,w_ x7.mb,w_ x7.mc,w_ x7.md,w_ x7.wa,w_ x7.wb,w_ x7.wc,w_ x7.wd,i_ x7.cl] 86,cw b9 [i_ (k:Int)] 3]) (fun _ _=>rfl) ?_
   intro A10 c10
   refine A.gT [.p,.p,.st 0] [(17,.slice al l.length cl),(18,i_ (l.length:Int)),(19,i_ (k:Int)),(4,p_ bt)] [(0,cw bt [.slice ar l.length cr,.map<|some mb,.slice A10 (((dV l k)++([(k:Int)])).length) c10] 150)] [bt]<|A.s<|A.hk [.w<|(k:Int)+1,.p] [(17,.slice al l.length cl),(18,i_ (l.length:Int)),(19,i_<|(k:Int)+1),(4,p_ bt)] [] (o1<|wj ((k:Int)+1)<|by omega)<|(A.su 0 (cw bt [.slice ar l.length cr,.map<|some mb,.slice A10 ((dV l<|k+1).length) c10] 150) rfl (iL<|cc rfl (cc rfl (cc (congrArg (fun z_:List Int=>Value.slice A10 z_.length c10) (vj ‹_› ‹_›:(dV l k)++([(k:Int)])=(dV l<|k+1))) rfl))) ?_)
   rw[show(eF l k)=(eF l<|k+1) from by exact wI ‹_› (.inl ‹_›)]
   refine A.su 3 (sl A10 ((dV l<|k+1).length) c10 3 1<|V.dF iQ<|dV l<|k+1) rfl (eI (vj ‹_› ‹_›:(dV l k)++([(k:Int)])=(dV l<|k+1))) (A.Z (k+1,A10,c10,bt,ar,cr,mb) ⟨(by omega),(by rw[vT ‹_›];intro y hy;rcases List.mem_append.1 hy with hy|hy;exact hn y hy;(simp at hy;subst hy;exact Ap (hR _<|List.mem_of_getElem? ‹_›) ‹_›))⟩ (by(simp;omega)) ?_)
   exact A.aI [0,0,0,0] ⟨rfl,rfl,rfl,rfl,trivial⟩<|by kernel_rfl
  refine A.c<|A.h (ps 3) [(17,.slice al l.length cl),(18,i_ (l.length:Int)),(19,i_ (k:Int)),(4,p_ bt),(6,p_ b8),(5,i_ (k:Int)),(67,b_ (!((cu (eF l k) (⟨x7.wa,x7.wb,x7.wc,x7.wd⟩:Hd)).isSome)))] []<|A.v (E:= !((cu (eF l k) (⟨x7.wa,x7.wb,x7.wc,x7.wd⟩:Hd)).isSome)) rfl (fun e6=>?_) (fun e6=>?_)
  ·refine A.O [7] 8<|A.pT 1 [.p,.p,.p,.ld 0,.p,.ld 4,.p] (rg 0 7) [(17,.slice al l.length cl),(18,i_ (l.length:Int)),(19,i_ (k:Int)),(4,p_ bt),(73,.map<|some mb),(75,.agg #[w_ x7.wa,w_ x7.wb,w_ x7.wc,w_ x7.wd]),(76,i_ (k:Int))] [bt,b8]<|A.F 7 rfl (A.mP 43 3 2 (⟨x7.wa,x7.wb,x7.wc,x7.wd⟩:Hd) (k:Int) rfl u4 (A.E<|A.M<|A.s<|A.hk [.w<|(k:Int)+1,.p] [(17,.slice al l.length cl),(18,i_ (l.length:Int)),(19,i_<|(k:Int)+1),(4,p_ bt)] [] (o1<|wj ((k:Int)+1)<|by omega)<|(A.su 0 (cw bt [.slice ar l.length cr,.map<|some mb,.slice am ((dV l<|k+1).length) cm] 150) rfl (iL<|cc rfl (cc rfl (cc (congrArg (fun z_:List Int=>Value.slice am z_.length cm) (pU ‹_› ‹_›:(dV l k)=(dV l<|k+1))) rfl))) ?_)))
   rw[show dC (eF l k) (⟨x7.wa,x7.wb,x7.wc,x7.wd⟩:Hd) (k:Int)=(eF l<|k+1) from by exact HJ ‹_› ‹_› ‹_›]
   refine A.su 3 (sl am ((dV l<|k+1).length) cm 3 1<|V.dF iQ<|dV l<|k+1) rfl (eI (pU ‹_› ‹_›:(dV l k)=(dV l<|k+1))) (A.Z (k+1,am,cm,bt,ar,cr,mb) ⟨(by omega),(by rw[vT ‹_›];intro y hy;rcases List.mem_append.1 hy with hy|hy;exact hn y hy;(simp at hy;subst hy;exact Ap (hR _<|List.mem_of_getElem? ‹_›) ‹_›))⟩ (by(simp;omega)) ?_)
   exact A.aI [0,0,0,0] ⟨rfl,rfl,rfl,rfl,trivial⟩<|by kernel_rfl
  refine A.p<|A.s<|A.hk [.w<|(k:Int)+1,.p] [(17,.slice al l.length cl),(18,i_ (l.length:Int)),(19,i_<|(k:Int)+1),(4,p_ bt)] [] (o1<|wj ((k:Int)+1)<|by omega)<|A.su 0 (cw bt [.slice ar l.length cr,.map<|some mb,.slice am ((dV l<|k+1).length) cm] 150) rfl (iL<|cc rfl (cc rfl (cc (congrArg (fun z_:List Int=>Value.slice am z_.length cm) (pU ‹_› ‹_›:(dV l k)=(dV l<|k+1))) rfl))) ?_
  rw[show(eF l k)=(eF l<|k+1) from by exact wI ‹_› (.inr ‹_›)]
  refine A.su 3 (sl am ((dV l<|k+1).length) cm 3 1<|V.dF iQ<|dV l<|k+1) rfl (eI (pU ‹_› ‹_›:(dV l k)=(dV l<|k+1))) (A.Z (k+1,am,cm,bt,ar,cr,mb) ⟨(by omega),(by rw[vT ‹_›];intro y hy;rcases List.mem_append.1 hy with hy|hy;exact hn y hy;(simp at hy;subst hy;exact Ap (hR _<|List.mem_of_getElem? ‹_›) ‹_›))⟩ (by(simp;omega)) ?_)
  exact A.aI [0,0,0,0] ⟨rfl,rfl,rfl,rfl,trivial⟩<|by kernel_rfl
 exact absurd e3 (by simp;exact Ou hn hb)
theorem NZ(al:Option Addr)(l:List Rl)(cl:Nat)(hl:32<l.length)(w:World)(r0:eo w al (V.dF ft l)):
  CW 43 #[.slice al l.length cl] w (.tuple #[n_,i_ 2]):=by
 refine A.C Tryz.func43 rfl (HS.nil w) (A.c<|A.g [.p,.p] [] []<|A.d<|A.c<|A.g (ps 3) [] [(11,b_<|decide ((l.length:Int)>32))]<|A.v rfl (fun e1=>?_) (fun e1=>?_))
 ·have p1:=of_decide_eq_true e1
  refine A.c<|A.g [.p,.p] [0,11] [(2,n_),(3,i_ 2)]<|A.e<|A.W [n_,i_ 2] ?_
  rfl
 exact absurd e1 (by simp;omega)
def fW(l:List Rl)(h:Hd):Int:=match l.find? (fun r=>mt r h) with|some r=>r.cl|none=>0
variable{h:Hd}
theorem Ox{x:Rl}(hx:l[k]? =some x)(hn: ∀y∈l.take k,mt y h=false)(e:mt x h=true):x.cl=fW l h:=by
 unfold fW
 have:l.find? (fun r=>mt r h)=some x:=by
  rw[←List.take_append_drop k l,List.find?_append,List.find?_eq_none.2 (by intro y hy;simp[hn y hy])]
  have hk:=(List.getElem?_eq_some_iff.1 hx)
  obtain⟨hk1,hk2⟩:=hk
  rw[List.drop_eq_getElem_cons hk1,hk2];simp[e]
 rw[this]
theorem Oy(hn: ∀y∈l.take k,mt y h=false)(e:l.length≤k):0=fW l h:=by
 rw[List.take_of_length_le e] at hn;unfold fW
 rw[List.find?_eq_none.2 (by intro y hy;simp[hn y hy])]
theorem Fe(l:List Rl): ∀(n j:Nat)(x:Int),(dV l n)[j]? =some x→ ∃(i:Nat)(r:Rl),x=(i:Int)∧i<n∧l[i]? =some r∧r.wh=false
 |0,j,x,h=>by simp[dV] at h
 |n+1,j,x,h=>by
  rw[dV] at h
  have up:(dV l n)[j]? =some x→ ∃(i:Nat)(r:Rl),x=(i:Int)∧i<n+1∧l[i]? =some r∧r.wh=false:=fun h=>by
   obtain⟨i,r,h1,h2,h3⟩:=Fe l n j x h;exact⟨i,r,h1,by omega,h3⟩
  cases hl:l[n]? with
  |none=>rw[hl] at h;exact up h
  |some r=>
   rw[hl] at h;simp only at h
   cases hw:r.wh with
   |true=>rw[hw] at h;exact up h
   |false=>
    rw[hw] at h;simp only[Bool.false_eq_true,if_false,List.getElem?_append] at h
    split at h
    ·exact up h
    ·simp only[List.getElem?_cons,List.getElem?_nil] at h
     split at h
     ·simp at h;exact⟨n,r,h.symm,by omega,hl,hw⟩
     ·simp at h
theorem fm{κ β:Type}[DecidableEq κ]: ∀(kv:List (κ×β))(k h:κ)(v:β),cu (dC kv k v) h=if k=h then some v else cu kv h
 |[],k,h,v=>by simp only[dC,cu]
 |p::kv,k,h,v=>by
  simp only[dC]
  by_cases e:p.1=k
  ·rw[if_pos e];simp only[cu];subst e;by_cases e2:p.1=h<;>simp[e2]
  ·rw[if_neg e];simp only[cu];rw[fm kv k h v]
   by_cases e2:p.1=h
   ·rw[if_pos e2,if_neg (by intro h3;exact e<|e2.trans h3.symm),if_pos e2]
   ·rw[if_neg e2,if_neg e2]
theorem Aq(l:List Rl)(h:Hd): ∀n,match cu (eF l n) h with
  |some v=> ∃(i:Nat)(r:Rl),v=(i:Int)∧i<n∧l[i]? =some r∧r.wh=true∧r.want=h∧ ∀(j:Nat)s,j<i→l[j]? =some s→s.wh=true→s.want≠h
  |none=> ∀(j:Nat)s,j<n→l[j]? =some s→s.wh=true→s.want≠h
 |0=>by simp only[eF,cu];intro j s hj;omega
 |n+1=>by
  have ih:=Aq l h n
  have keep:(match cu (eF l n) h with
    |some v=> ∃(i:Nat)(r:Rl),v=(i:Int)∧i<n∧l[i]? =some r∧r.wh=true∧r.want=h∧ ∀(j:Nat)s,j<i→l[j]? =some s→s.wh=true→s.want≠h
    |none=> ∀(j:Nat)s,j<n→l[j]? =some s→s.wh=true→s.want≠h)→(cu (eF l n) h=none→ ∀s,l[n]? =some s→s.wh=true→s.want≠h)→(match cu (eF l n) h with
    |some v=> ∃(i:Nat)(r:Rl),v=(i:Int)∧i<n+1∧l[i]? =some r∧r.wh=true∧r.want=h∧ ∀(j:Nat)s,j<i→l[j]? =some s→s.wh=true→s.want≠h
    |none=> ∀(j:Nat)s,j<n+1→l[j]? =some s→s.wh=true→s.want≠h):=by
   intro a b
   cases hm:cu (eF l n) h with
   |some v=>rw[hm] at a;obtain⟨i,r,h1,h2,h3⟩:=a;exact⟨i,r,h1,by omega,h3⟩
   |none=>
    rw[hm] at a;intro j s hj hs hw
    rcases Nat.lt_or_ge j n with g|g
    ·exact a j s g hs hw
    ·have:j=n:=by omega
     subst this;exact b hm s hs hw
  rw[eF]
  cases hl:l[n]? with
  |none=>exact keep ih (by intro _ s hs;rw[hl] at hs;cases hs)
  |some r=>
   simp only[]
   by_cases hc:(r.wh&& !(cu (eF l n) r.want).isSome)=true
   ·rw[if_pos hc]
    simp at hc
    rw[fm]
    by_cases e:r.want=h
    ·rw[if_pos e];refine⟨n,r,rfl,by omega,hl,hc.1,e,fun j s hj hs hw=>?_⟩
     rw[e] at hc;rw[hc.2] at ih;exact ih j s hj hs hw
    ·rw[if_neg e];exact keep ih (by intro _ s hs hw;rw[hl] at hs;cases hs;exact e)
   ·rw[if_neg hc]
    refine keep ih (by intro hm s hs hw e;rw[hl] at hs;cases hs;apply hc;rw[e,hm,hw];rfl)
def rf(l:List Rl)(h:Hd)(ms:List Int):Prop:= ∀y∈ms,∀s,l[y.toNat]? =some s→mt s h=false
variable{ms:List Int}{i:Nat}
theorem N1(hn:rf l h ms)(hr:l[i]? =some r)(e:mt r h=false):rf l h (ms++[(i:Int)]):=by
 intro y hy s hs
 rcases List.mem_append.1 hy with hy|hy
 ·exact hn y hy s hs
 ·simp at hy;subst hy;simp only[Int.toNat_natCast] at hs;rw[hr] at hs;cases hs;exact e
theorem Ff(l:List Rl): ∀n,(∀y∈dV l n,y<(n:Int))∧(dV l n).Pairwise (· < ·)
 |0=>⟨by intro y hy;simp[dV] at hy,by simp[dV]⟩
 |n+1=>by
  have ih:=Ff l n
  have up:(∀y∈dV l n,y<((n+1:Nat):Int))∧(dV l n).Pairwise (· < ·):=⟨fun y hy=>by have:=ih.1 y hy;omega,ih.2⟩
  rw[dV];split
  ·split
   ·exact up
   ·refine⟨fun y hy=>?_,?_⟩
    ·rcases List.mem_append.1 hy with hy|hy
     ·exact up.1 y hy
     ·simp at hy;omega
    ·rw[List.pairwise_append];refine⟨ih.2,by simp,fun a ha b hb=>?_⟩
     simp at hb;subst hb;exact ih.1 a ha
  ·exact up
theorem zO(l:List Rl)(hl:l[i]? =some r)(hw:r.wh=false): ∀n,i<n→(i:Int)∈dV l n
 |0,h=>by omega
 |n+1,h=>by
  rw[dV]
  rcases Nat.lt_or_ge i n with g|g
  ·have:=zO l hl hw n g
   split
   ·split
    ·exact this
    ·exact List.mem_append_left _ this
   ·exact this
  ·have e:i=n:=by omega
   subst e;rw[hl];simp only[hw,Bool.false_eq_true,if_false];exact List.mem_append_right _<|by simp
variable{j:Nat}
theorem Dk(hk:(dV l l.length)[k]? =some (i:Int))(hj:j<i)(hl:l[j]? =some r)(hw:r.wh=false):(j:Int)∈(dV l l.length).take k:=by
 have hm:=zO l hl hw l.length (List.getElem?_eq_some_iff.1 hl).1
 obtain⟨q,hq⟩:=List.mem_iff_getElem?.1 hm
 obtain⟨hk1,hk2⟩:=List.getElem?_eq_some_iff.1 hk
 obtain⟨hq1,hq2⟩:=List.getElem?_eq_some_iff.1 hq
 rcases Nat.lt_trichotomy q k with g|g|g
 ·exact List.mem_iff_getElem?.2 ⟨q,by rw[List.getElem?_take,if_pos g,hq]⟩
 ·subst g;rw[hk] at hq;simp at hq;omega
 ·have:=List.pairwise_iff_getElem.1 (Ff l l.length).2 k q hk1 hq1 g
  rw[hk2,hq2] at this;omega
theorem wJ{x:Int}(h:0≤x∧x<65536):qX x 65535=x:=by
 obtain⟨a,rfl⟩:=Int.eq_ofNat_of_zero_le h.1
 unfold qX;have e:(65535:Int).toNat=2^16-1:=by decide
 rw[e,Int.toNat_natCast,Nat.and_two_pow_sub_one_eq_mod,Nat.mod_eq_of_lt<|by omega]
theorem J5(hh:kO h)(hw:r.wh=true):mt r h=true↔r.want=h:=by
 obtain⟨h1,h2,h3,h4⟩:=hh
 unfold Rl.wh at hw;simp at hw;obtain⟨⟨⟨e1,e2⟩,e3⟩,e4⟩:=hw
 unfold mt;rw[e1,e2,e3,e4,wJ<|by omega,wJ<|by omega,wJ<|by omega,wJ<|by omega]
 unfold Rl.want;cases h;simp;constructor
 ·rintro⟨⟨⟨a,b⟩,c⟩,d⟩;exact⟨a.symm,b.symm,c.symm,d.symm⟩
 ·rintro⟨a,b,c,d⟩;exact⟨⟨⟨a.symm,b.symm⟩,c.symm⟩,d.symm⟩
theorem Fg(hr:l[i]? =some r)(hg: ∀x∈l,x.good=true)(hm:mt r h=true)(hb: ∀(j:Nat)s,j<i→l[j]? =some s→mt s h=false):r.cl=fW l h∧ ¬fW l h=0:=by
 have e:r.cl=fW l h:=Ox hr (fun y hy=>by
  obtain⟨j,hj⟩:=List.mem_iff_getElem?.1 hy
  rw[List.getElem?_take] at hj;split at hj
  ·exact hb j y ‹_› hj
  ·cases hj) hm
 refine⟨e,?_⟩;rw[←e];have:=hg r<|List.mem_of_getElem? hr;unfold Rl.good at this;simp at this;omega
theorem As(p:(cu (eF l l.length) h).isSome=true): ∃(i:Nat)(r:Rl),(cu (eF l l.length) h).getD 0=(i:Int)∧l[i]? =some r∧r.wh=true∧r.want=h∧ ∀(j:Nat)s,j<i→l[j]? =some s→s.wh=true→s.want≠h:=by
 have e:=Aq l h l.length
 cases hm:cu (eF l l.length) h with
 |none=>rw[hm] at p;cases p
 |some v=>rw[hm] at e;obtain⟨i,r,h1,h2,h3⟩:=e;exact⟨i,r,by simpa using h1,h3⟩
theorem HK(p:cu (eF l l.length) h=none): ∀(j:Nat)s,l[j]? =some s→s.wh=true→s.want≠h:=by
 have e:=Aq l h l.length
 rw[p] at e;intro j s hs;exact e j s (List.getElem?_eq_some_iff.1 hs).1 hs
theorem zP(hh:kO h)(h1: ∀(j:Nat)s,j<i→l[j]? =some s→s.wh=true→s.want≠h)(h2: ∀(j:Nat)s,j<i→l[j]? =some s→s.wh=false→mt s h=false): ∀(j:Nat)s,j<i→l[j]? =some s→mt s h=false:=by
 intro j s hj hs
 cases hw:s.wh with
 |false=>exact h2 j s hj hs hw
 |true=>
  cases hm:mt s h with
  |false=>rfl
  |true=>exact absurd ((J5 hh hw).1 hm)<|h1 j s hj hs hw
theorem Au(hn:rf l h ms){s:Rl}(hj:(j:Int)∈ms)(hs:l[j]? =some s):mt s h=false:=hn _ hj s<|by simpa using hs
theorem N2{x:Rl}(hR: ∀x∈l,kP x)(hh:kO h)(hg: ∀x∈l,x.good=true)(hn:rf l h ((dV l l.length).take k))
  (hk:(dV l l.length)[k]? =some (i:Int))(hx:l[i]? =some x)(p:(cu (eF l l.length) h).isSome=true→(i:Int)≤(cu (eF l l.length) h).getD 0)(hm:mt x h=true):x.cl=fW l h∧ ¬fW l h=0:=by
 refine Fg hx hg hm<|zP hh (fun j s hj hs hw=>?_)<|fun j s hj hs hw=>Au hn (Dk hk hj hs hw) hs
 cases hp:(cu (eF l l.length) h).isSome with
 |true=>obtain⟨q,r,h1,h2,h3,h4,h5⟩:=As hp;have:=p hp;exact h5 j s (by omega) hs hw
 |false=>exact HK (by simpa using hp) j s hs hw
theorem HL(hn:rf l h (dV l l.length)){s:Rl}(hs:l[j]? =some s)(hw:s.wh=false):mt s h=false:=
 Au hn (zO l hs hw l.length (List.getElem?_eq_some_iff.1 hs).1) hs
theorem Oz(hR: ∀x∈l,kP x)(hh:kO h)(hg: ∀x∈l,x.good=true)(hn:rf l h (dV l l.length))(p:cu (eF l l.length) h=none):0=fW l h∧fW l h=0:=by
 have:0=fW l h:=Oy (k:=l.length) (fun y hy=>by
  obtain⟨j,hj⟩:=List.mem_iff_getElem?.1<|List.mem_of_mem_take hy
  exact zP (i:=l.length) hh (fun j s _ hs hw=>HK p j s hs hw) (fun j s _ hs hw=>HL hn hs hw) j y (List.getElem?_eq_some_iff.1 hj).1 hj)<|Nat.le_refl _
 exact⟨this,this.symm⟩
theorem Jg{q:Nat}(hh:kO h)(hg: ∀x∈l,x.good=true)(h2:l[q]? =some r)(h3:r.wh=true)(h4:r.want=h)(h5: ∀(j:Nat)s,j<q→l[j]? =some s→s.wh=true→s.want≠h)
 (hb: ∀(j:Nat)s,j<q→l[j]? =some s→s.wh=false→mt s h=false):r.cl=fW l h∧ ¬fW l h=0:=Fg h2 hg ((J5 hh h3).2 h4)<|zP hh h5 hb
def lz(c:Int):Int:=if c=0 then 31 else 0
variable{x:Int}
theorem Cc{c:Int}(h:x=c∧ ¬c=0):((.tuple #[(i_ x),(i_ 0)]):Value)=(.tuple #[(i_ c),(i_<|lz c)]):=by unfold lz;rw[if_neg h.2,h.1]
theorem PC{c:Int}(h:0=c∧c=0):((.tuple #[(i_ 0),(i_ 31)]):Value)=(.tuple #[(i_ c),(i_<|lz c)]):=by unfold lz;rw[if_pos h.2,h.2]
abbrev uR(p0)(p1:List Rl)(p2):=(.slice p0 ((dV p1 p1.length).length) p2:Value)
abbrev N3(p0)(p1):=((.tuple #[i_<|fW p0 p1,i_<|lz<|fW p0 p1]):Value)
theorem PD(bt:Nat)(ar:Option Addr)(l:List Rl)(cr mb:Nat)(am:Option Addr)(cm:Nat)(h:Hd)(hl:l.length≤32)(hR: ∀x∈l,kP x)(hh:kO h)(hg: ∀x∈l,x.good=true)(w:World)(r0:(cw bt [.slice ar l.length cr,.map<|some mb,uR am l cm] 150).holds w)(r1:(dY ic (fun x:Int=>i_ x) mb<|eF l l.length).holds w)(r2:eo w ar (V.dF ft l))(r3:eo w am (V.dF iQ<|dV l l.length)):
  CW 75 #[p_ bt,.agg #[w_ h.ha,w_ h.hb,w_ h.hc,w_ h.hd]] w (N3 l h):=by
 refine A.C Tryz.func75 rfl (HS.nil w) (A.d ?_)
 refine A.s<|A.n1 [.al,.p,.p] [1] (fun b1=>[(3,p_ b1)]) (fun b1=>cw b1 [w_ h.ha,w_ h.hb,w_ h.hc,w_ h.hd] 43) ?_
 intro b1
 refine A.d<|A.c<|A.g [.p,.p] [] [(11,b_ false)]<|A.cf<|A.p<|A.d<|A.O [] 11<|A.kd 6 [.p,.p,.p,.rd [.map<|some mb],.ld 0] (rg 0 5) [11] [(16,.map<|some mb),(17,.agg #[w_ h.ha,w_ h.hb,w_ h.hc,w_ h.hd])] [b1] (o1<|ro ⟨bt,1,none⟩ (vs:=[.map<|some mb])<|df r0 rfl)<|A.aR 5 (some 18) (.tuple #[i_<|(cu (eF l l.length) h).getD 0,b_<|(cu (eF l l.length) h).isSome]) rfl (by kernel_rfl) (by kernel_rfl) (nQ (kt:=43) (et:=3) (enck:=ic) (encv:=(fun x:Int=>i_ x)) (b:=mb) (kv:=(eF l l.length)) (k:=h) (d0:=0) (fun w s=>d6 s r1) rfl rfl rfl (by kernel_rfl) u4 (by kernel_rfl) rfl) (A.pT 0 (ps 5) (rg 6 5) [(0,p_ bt),(3,p_ b1),(6,i_<|(cu (eF l l.length) h).getD 0),(7,b_<|(cu (eF l l.length) h).isSome)] []<|A.M<|A.d<|A.c<|A.k [.p,.p,.p,.rd [uR am l cm],.p,.p] [] [(24,uR am l cm),(25,i_ ((dV l l.length).length:Int)),(26,i_ 0)] [] (o1<|ro ⟨bt,2,none⟩ (vs:=[uR am l cm])<|df r0 rfl)<|A.y<|A.aX (fun(zz:Nat)=>match zz with|k=>[(0,p_ bt),(3,p_ b1),(6,i_<|(cu (eF l l.length) h).getD 0),(7,b_<|(cu (eF l l.length) h).isSome),(24,uR am l cm),(25,i_ ((dV l l.length).length:Int)),(26,i_ (k:Int))]) (fun(zz:Nat)=>match zz with|k=>[cw b1 [w_ h.ha,w_ h.hb,w_ h.hc,w_ h.hd] 43]) (fun(zz:Nat)=>match zz with|k=>(k≤(dV l l.length).length)∧(rf l h<|(dV l l.length).take k)) (fun(zz:Nat)=>match zz with|k=>(dV l l.length).length-k) (0:Nat) ⟨(by omega),(by intro y hy;simp at hy)⟩ ?_ ?_)
 ·exact A.J [0]
 rintro k ⟨hk,hn⟩
 have hm:=vk l l.length
 refine A.c<|A.g [.p] [] [(27,b_<|decide ((k:Int)<((dV l l.length).length:Int)))]<|A.d<|A.v rfl (fun e1=>?_) (fun e1=>?_)
 ·have p1:=of_decide_eq_true e1
  refine A.p<|A.d<|A.y<|A.c<|A.kp [.ix] [27] [(28,.pointer<|some<|(dR am).add (k*1))] [] (o1<|io (k:Int)<|gW vh (by decide) (ef r3<|by simp[dE])<|by omega) ?_
  obtain⟨x2,hx2⟩: ∃x,((dV l l.length))[k]? =some x:=⟨_,List.getElem?_eq_getElem<|by omega⟩
  refine A.k [.rd [i_ x2],.p] [28] [(9,i_ x2)] [] (o1<|ro ((dR am).add (k*1))<|fS (vs:=[i_ x2]) vh (ef r3<|by simp[dE]) hx2 (Nat.le_of_ble_eq_true rfl) rfl)<|A.d<|A.d ?_
  obtain⟨i3,ri3,hxi3,hli3,hri3,hwi3⟩:=Fe l l.length k x2 ‹_›
  subst hxi3
  refine A.s<|A.g [.p,.p,.o,.p,.p,.p,.cl] [] [(9,i_ (i3:Int)),(35,b_<|((cu (eF l l.length) h).isSome)&&(decide (((cu (eF l l.length) h).getD 0)<(i3:Int))))]<|A.v rfl (fun e2=>?_) (fun e2=>?_)
  ·have p2:=e2;try simp only[dc] at p2
   refine A.aA<|A.te<|A.bm rfl (A.d<|A.c<|A.g [.p,.p] [3,7,24,25,26,9,35] [(55,b_ (!((cu (eF l l.length) h).isSome)))]<|A.v rfl (fun e3=>?_) (fun e3=>?_))
   ·have p3:=e3;try simp only[dc] at p3
    refine A.c (A.g [.p,.p] [0,6,55] [(4,i_ 0),(5,i_ 31)]<|A.e<|A.W [i_ 0,i_ 31] ?_)
    (exfalso;simp_all;done)
   have p3:=e3;try simp only[dc] at p3
   refine A.p<|A.d ?_
   obtain⟨q4,rq4,hvq4,hlq4,hwq4,heq4,hmq4⟩:=As (l:=l) (h:=h) ‹_›
   have hiq4:=(List.getElem?_eq_some_iff.1 hlq4).1
   rw[hvq4]
   refine A.s<|A.k [.p,.p,.p,.rd [.slice ar l.length cr],.p,.ix,.p,.rd [i_ rq4.cl],.p,.p] [0,6,55] [(4,i_ rq4.cl),(5,i_ 0)] [] (oc (ro ⟨bt,0,none⟩ (vs:=[.slice ar l.length cr])<|df r0 rfl)<|oc (io (q4:Int)<|gW lK (by decide) (ef r2<|by simp[dE])<|by omega)<|o1<|ro (((dR ar).add (q4*9)).add 8)<|pV (f:=8) (vs:=[i_ rq4.cl]) lK (ef r2<|by simp[dE]) hlq4 (by simp) rfl)<|A.e<|A.W [i_ rq4.cl,i_ 0] ?_
   exact Cc<|Jg hh hg ‹_› ‹_› ‹_› ‹_› (fun j s hj hs hw=>Au hn (Dk ‹_› (by omega) hs hw) hs)
  have p2:=e2;try simp only[dc] at p2
  refine A.p<|A.d<|A.ka [.p,.p,.p,.rd [.slice ar l.length cr],.p,.ix,.rd [w_ ri3.ma,w_ ri3.mb,w_ ri3.mc,w_ ri3.md,w_ ri3.wa,w_ ri3.wb,w_ ri3.wc,w_ ri3.wd,i_ ri3.cl],.ld 0,.cq<|b_<|mt ri3 h] (rg 0 9) [35] [(44,b_<|mt ri3 h)] [b1] (oc (ro ⟨bt,0,none⟩ (vs:=[.slice ar l.length cr])<|df r0 rfl)<|oc (io (i3:Int)<|gW lK (by decide) (ef r2<|by simp[dE])<|by omega)<|oc (ro ((dR ar).add (i3*9))<|fS (vs:=[w_ ri3.ma,w_ ri3.mb,w_ ri3.mc,w_ ri3.md,w_ ri3.wa,w_ ri3.wb,w_ ri3.wc,w_ ri3.wd,i_ ri3.cl]) lK (ef r2<|by simp[dE]) hri3 (Nat.le_of_ble_eq_true rfl) rfl)<|o1<|qo<|fun w s=>KP ri3 h (hR _<|List.mem_of_getElem? ‹_›) ‹_› w)<|A.v rfl (fun e4=>?_) (fun e4=>?_)
  ·have p4:=e4;try simp only[dc] at p4
   refine A.c<|A.k [.p,.p,.p,.rd [.slice ar l.length cr],.p,.ix,.p,.rd [i_ ri3.cl],.p,.p] [0,3,6,7,24,25,26,9,44] [(4,i_ ri3.cl),(5,i_ 0)] [] (oc (ro ⟨bt,0,none⟩ (vs:=[.slice ar l.length cr])<|df r0 rfl)<|oc (io (i3:Int)<|gW lK (by decide) (ef r2<|by simp[dE])<|by omega)<|o1<|ro (((dR ar).add (i3*9)).add 8)<|pV (f:=8) (vs:=[i_ ri3.cl]) lK (ef r2<|by simp[dE]) hri3 (by simp) rfl)<|A.e<|A.W [i_ ri3.cl,i_ 0] ?_
   exact Cc<|N2 hR hh hg hn ‹_› ‹_› (by simp_all) ‹_›
  have p4:=e4;try simp only[dc] at p4
  refine A.p<|A.s<|A.k [.w<|(k:Int)+1,.p] [9,44] [(26,i_<|(k:Int)+1)] [] (o1<|wj ((k:Int)+1)<|by omega)<|A.Z (k+1) ⟨(by omega),(by(rw[vT<|by(assumption)];exact N1 hn ‹_› ‹_›))⟩ (by(simp;omega)) ?_
  exact A.J [0]
 have p1:=of_decide_eq_false e1
 refine A.aA<|A.d<|A.c<|A.g [.p,.p] [3,7,24,25,26,27] [(55,b_ (!((cu (eF l l.length) h).isSome)))]<|A.v rfl (fun e5=>?_) (fun e5=>?_)
 ·have p5:=e5;try simp only[dc] at p5
  refine A.c<|A.g [.p,.p] [0,6,55] [(4,i_ 0),(5,i_ 31)]<|A.e<|A.W [i_ 0,i_ 31] ?_
  exact PC<|Oz hR hh hg (by rw[List.take_of_length_le<|by omega] at hn;exact hn)<|by simp_all
 have p5:=e5;try simp only[dc] at p5
 refine A.p<|A.d ?_
 obtain⟨q5,rq5,hvq5,hlq5,hwq5,heq5,hmq5⟩:=As (l:=l) (h:=h) ‹_›
 have hiq5:=(List.getElem?_eq_some_iff.1 hlq5).1
 rw[hvq5]
 refine A.s<|A.k [.p,.p,.p,.rd [.slice ar l.length cr],.p,.ix,.p,.rd [i_ rq5.cl],.p,.p] [0,6,55] [(4,i_ rq5.cl),(5,i_ 0)] [] (oc (ro ⟨bt,0,none⟩ (vs:=[.slice ar l.length cr])<|df r0 rfl)<|oc (io (q5:Int)<|gW lK (by decide) (ef r2<|by simp[dE])<|by omega)<|o1<|ro (((dR ar).add (q5*9)).add 8)<|pV (f:=8) (vs:=[i_ rq5.cl]) lK (ef r2<|by simp[dE]) hlq5 (by simp) rfl)<|A.e<|A.W [i_ rq5.cl,i_ 0] ?_
 exact Cc<|Jg hh hg ‹_› ‹_› ‹_› ‹_› (fun j s hj hs hw=>HL (by rw[List.take_of_length_le<|by omega] at hn;exact hn) hs hw)
def iI(x:Int):List Value:=[(u_ x)]
theorem il(x:Int):(iI x).length=1:=rfl
theorem mI(x:Int):(iI x).all Value.oneCell'=true:=rfl
structure SR where
 sp:Int
 sb:Int
 sr:Int
 sw:Int
 sg:Int
 deriving Inhabited,DecidableEq
def Uo(cv:List (Int×SL))(ci a:Int)(zc:List (Int×SL)):Prop:= ∃A c,zc=dC cv ci ⟨A,c,((cu cv ci).getD dN).sx++[a]⟩
def eX:SR:=⟨0,0,0,0,0⟩
theorem iO:jd Tryz.prog 3 (fun k:Int=>i_ k):=ee<|by kernel_rfl
abbrev BC(p0):=(dY (fun k:Int=>i_ k) jo p0 ([]:List (Int×SL)):V.dB)
abbrev sV(p0)(p1)(p2):=(cw p0 [.map<|some p1,.map<|some p2] 157:V.dB)
abbrev H5(p0):=(dY (fun k:Int=>i_ k) (fun y:SR=>(.agg #[u_ y.sp,u_ y.sb,u_ y.sr,u_ y.sw,u_ y.sg])) p0 ([]:List (Int×SR)):V.dB)
abbrev pt:=(fX 40 iI ([]:List (Int×SL)):V.dB)
theorem Sr:
  CS 44 #[] [] (fun((bs,mc,mr):Nat×Nat×Nat)=>(p_ bs)) (fun _=>True) fun(bs,mc,mr)=>[sV bs mc mr,BC mc,pt,H5 mr]:=by
 intro w hs
 refine A.C Tryz.func44 rfl hs (A.d<|A.cC 40 iI [pt] rfl (A.s<|A.h [.p] [] []<|A.d<|A.cC 40 iI [pt,pt] rfl (A.s<|A.j<|A.aY (fun k:Int=>i_ k) jo 1 (by kernel_rfl) rfl (fun m1=>[pt,pt,BC m1]) (fun _=>rfl) ?_)))
 intro m1
 refine A.j<|A.aY (fun k:Int=>i_ k) (fun y:SR=>(.agg #[u_ y.sp,u_ y.sb,u_ y.sr,u_ y.sw,u_ y.sg])) 2 (by kernel_rfl) rfl (fun m2=>[pt,pt,BC m1,H5 m2]) (fun _=>rfl) ?_
 intro m2
 refine A.m1 [.p,.al,.p] (fun b3=>[(0,p_ b3)]) (fun _=>[]) (fun b3=>sV b3 m1 m2) (fun b3=>[]) ?_
 intro b3
 refine A.e<|A.Y [4,2,0,1] [p_ b3] (b3,m1,m2) ?_ ?_
 ·rfl
 trivial
abbrev BD(p0)(p1)(p2)(p3)(p4)(p5):=([(13,i_ p0),(22,.slice p1 (((((cu p2 p0).getD dN).sx)++([p3])).length) p4),(12,.map<|some p5)]:dM)
abbrev xJ(p0)(p1):=(dY (fun k:Int=>i_ k) (fun y:SR=>(.agg #[u_ y.sp,u_ y.sb,u_ y.sr,u_ y.sw,u_ y.sg])) p0 p1:V.dB)
abbrev lO(p0)(p1)(p2)(p3)(p4):=(fX 40 iI (dC p0 p1 ⟨p2,p3,(((cu p0 p1).getD dN).sx)++([p4])⟩):V.dB)
abbrev mQ(p0)(p1):=([fX 40 iI<|dJ p0 p1,sl (((cu p0 p1).getD dN).sa) ((((cu p0 p1).getD dN).sx).length) (((cu p0 p1).getD dN).sc) 40 1<|V.dF iI<|((cu p0 p1).getD dN).sx]:List V.dB)
theorem P4(bs mc mr:Nat)(cv:List (Int×SL))(rv:List (Int×SR))(ci a:Int)(hl:((cu cv ci).getD dN).sx.length≤100000):
  CS 77 #[p_ bs,i_ ci,u_ a] [sV bs mc mr,dY (fun k:Int=>i_ k) jo mc cv,fX 40 iI cv,xJ mr rv] (fun(zc:(List<|Int×SL))=>(i_ 0)) (fun zc=>Uo cv ci a zc) fun zc=>[sV bs mc mr,dY (fun k:Int=>i_ k) jo mc zc,fX 40 iI zc,xJ mr rv]:=by
 intro w hs
 refine A.C Tryz.func77 rfl hs (A.c<|A.g [.p] [] []<|A.d<|A.c<|A.g [.p,.p] [] [(8,b_ false)]<|A.cf<|A.p<|A.d<|A.bY (fun((A2,c2):Option Addr×Nat)=>[]) (fun((A2,c2):Option Addr×Nat)=>[lO cv ci A2 c2 a,sV bs mc mr,dY (fun k:Int=>i_ k) jo mc<|dC cv ci ⟨A2,c2,(((cu cv ci).getD dN).sx)++([a])⟩,xJ mr rv]) (fun _=>True) ?_<|fun zz_ _=>?_)
 ·refine A.O [12,13,14] 15<|A.dT 6 (ps 9) [0,1,2,4,5,6,7,9,11] [0,1,2,8] [(11,p_ bs),(13,i_ ci),(16,p_ bs),(18,i_ ci),(20,u_ a)] []<|A.bV 3 8 12 rfl rfl rfl (by kernel_rfl) ?_ ?_ ?_
  ·refine A.u (some 12) (.map<|some mc) (nW rfl rfl (by kernel_rfl) (l0 (i:=0) rfl rfl))<|A.aD (.refl _)<|A.aw 8 12 rfl rfl (by kernel_rfl) ?_ ?_
   ·refine A.u (some 17) (.map<|some mc) (nW rfl rfl (by kernel_rfl) (l0 (i:=0) rfl rfl))<|A.aD (.refl _)<|A.aw 10 12 rfl rfl (by kernel_rfl) ?_ ?_
    ·refine A.u (some 19) _ (kD (kt:=3) (et:=233) (enck:=(fun k:Int=>i_ k)) (encv:=jo) (b:=mc) (kv:=cv) (k:=ci) (d0:=dN) (fun w s=>s.mem (i:=1) rfl) rfl rfl rfl (by kernel_rfl) iO (by kernel_rfl) rfl)<|A.aD (.refl _)<|A.F 12 rfl (A.aE 21 (e:=40) [u_ a] (by kernel_rfl) rfl (fun _=>by kernel_rfl) _ (fun _=>rfl) ?_)
     intro b1
     refine A.E<|A.F 13 rfl (A.r0 [2] (mQ cv ci) rfl (fun w hs=>mK cv ci hs) (A.ap iI (((cu cv ci).getD dN).sx) ([a]) 1 22 (u_ 0) 8 il mI (gG (i:=5) rfl) (by simp;omega) ?_))
     intro A2 c2
     refine A.E<|A.F 14 rfl (A.mP 3 233 3 ci ⟨A2,c2,(((cu cv ci).getD dN).sx)++([a])⟩ rfl iO (A.r0 [0,0] [lO cv ci A2 c2 a] rfl (fun w hs=>mL cv ci A2 c2 ((((cu cv ci).getD dN).sx)++([a])) hs) (A.E<|A.M ?_)))
     exact A.aK (A2,c2) trivial<|A.aW (show V.sub _ [] from trivial)<|sd [4]
    refine A.aE 21 (e:=40) [u_ a] (by kernel_rfl) rfl (fun _=>by kernel_rfl) _ (fun _=>rfl) ?_
    intro b3
    refine A.E<|A.aR 10 (some 19) (.slice (((cu cv ci).getD dN).sa) (((cu cv ci).getD dN).sx.length)<|((cu cv ci).getD dN).sc) rfl (by kernel_rfl) (by kernel_rfl) (kD (kt:=3) (et:=233) (enck:=(fun k:Int=>i_ k)) (encv:=jo) (b:=mc) (kv:=cv) (k:=ci) (d0:=dN) (fun w s=>s.mem (i:=1) rfl) rfl rfl rfl (by kernel_rfl) iO (by kernel_rfl) rfl) (A.F 13 rfl (A.r0 [2] (mQ cv ci) rfl (fun w hs=>mK cv ci hs) (A.ap iI (((cu cv ci).getD dN).sx) ([a]) 1 22 (u_ 0) 8 il mI (gG (i:=5) rfl) (by simp;omega) ?_)))
    intro A4 c4
    refine A.E<|A.F 14 rfl (A.mP 3 233 3 ci ⟨A4,c4,(((cu cv ci).getD dN).sx)++([a])⟩ rfl iO (A.r0 [0,0] [lO cv ci A4 c4 a] rfl (fun w hs=>mL cv ci A4 c4 ((((cu cv ci).getD dN).sx)++([a])) hs) (A.E<|A.M ?_)))
    exact A.aK (A4,c4) trivial<|A.aW (show V.sub _ [] from trivial)<|sd [4]
   refine A.aE 21 (e:=40) [u_ a] (by kernel_rfl) rfl (fun _=>by kernel_rfl) _ (fun _=>rfl) ?_
   intro b5
   refine A.E<|A.dT 3 [.ld 0] [8] [11,16,20] [(21,.slice (some ⟨b5,0,none⟩) 1 1),(17,.map<|some mc)] [bs]<|A.aR 10 (some 19) (.slice (((cu cv ci).getD dN).sa) (((cu cv ci).getD dN).sx.length)<|((cu cv ci).getD dN).sc) rfl (by kernel_rfl) (by kernel_rfl) (kD (kt:=3) (et:=233) (enck:=(fun k:Int=>i_ k)) (encv:=jo) (b:=mc) (kv:=cv) (k:=ci) (d0:=dN) (fun w s=>s.mem (i:=1) rfl) rfl rfl rfl (by kernel_rfl) iO (by kernel_rfl) rfl) (A.F 13 rfl (A.r0 [2] (mQ cv ci) rfl (fun w hs=>mK cv ci hs) (A.ap iI (((cu cv ci).getD dN).sx) ([a]) 1 22 (u_ 0) 8 il mI (gG (i:=5) rfl) (by simp;omega) ?_)))
   intro A6 c6
   refine A.E<|A.F 14 rfl (A.mP 3 233 3 ci ⟨A6,c6,(((cu cv ci).getD dN).sx)++([a])⟩ rfl iO (A.r0 [0,0] [lO cv ci A6 c6 a] rfl (fun w hs=>mL cv ci A6 c6 ((((cu cv ci).getD dN).sx)++([a])) hs) (A.E<|A.M ?_)))
   exact A.aK (A6,c6) trivial<|A.aW (show V.sub _ [] from trivial)<|sd [4]
  ·refine A.u (some 17) (.map<|some mc) (nW rfl rfl (by kernel_rfl) (l0 (i:=0) rfl rfl))<|A.aD (.refl _)<|A.bV 3 10 12 rfl rfl rfl (by kernel_rfl) ?_ ?_ ?_
   ·refine A.u (some 12) (.map<|some mc) (nW rfl rfl (by kernel_rfl) (l0 (i:=0) rfl rfl))<|A.aD (.refl _)<|A.aw 10 12 rfl rfl (by kernel_rfl) ?_ ?_
    ·refine A.u (some 19) _ (kD (kt:=3) (et:=233) (enck:=(fun k:Int=>i_ k)) (encv:=jo) (b:=mc) (kv:=cv) (k:=ci) (d0:=dN) (fun w s=>s.mem (i:=1) rfl) rfl rfl rfl (by kernel_rfl) iO (by kernel_rfl) rfl)<|A.aD (.refl _)<|A.F 12 rfl (A.aE 21 (e:=40) [u_ a] (by kernel_rfl) rfl (fun _=>by kernel_rfl) _ (fun _=>rfl) ?_)
     intro b7
     refine A.E<|A.F 13 rfl (A.r0 [2] (mQ cv ci) rfl (fun w hs=>mK cv ci hs) (A.ap iI (((cu cv ci).getD dN).sx) ([a]) 1 22 (u_ 0) 8 il mI (gG (i:=5) rfl) (by simp;omega) ?_))
     intro A8 c8
     refine A.E<|A.F 14 rfl (A.mP 3 233 3 ci ⟨A8,c8,(((cu cv ci).getD dN).sx)++([a])⟩ rfl iO (A.r0 [0,0] [lO cv ci A8 c8 a] rfl (fun w hs=>mL cv ci A8 c8 ((((cu cv ci).getD dN).sx)++([a])) hs) (A.E<|A.M ?_)))
     exact A.aK (A8,c8) trivial<|A.aW (show V.sub _ [] from trivial)<|sd [4]
    refine A.aE 21 (e:=40) [u_ a] (by kernel_rfl) rfl (fun _=>by kernel_rfl) _ (fun _=>rfl) ?_
    intro b9
    refine A.E<|A.aR 10 (some 19) (.slice (((cu cv ci).getD dN).sa) (((cu cv ci).getD dN).sx.length)<|((cu cv ci).getD dN).sc) rfl (by kernel_rfl) (by kernel_rfl) (kD (kt:=3) (et:=233) (enck:=(fun k:Int=>i_ k)) (encv:=jo) (b:=mc) (kv:=cv) (k:=ci) (d0:=dN) (fun w s=>s.mem (i:=1) rfl) rfl rfl rfl (by kernel_rfl) iO (by kernel_rfl) rfl) (A.F 13 rfl (A.r0 [2] (mQ cv ci) rfl (fun w hs=>mK cv ci hs) (A.ap iI (((cu cv ci).getD dN).sx) ([a]) 1 22 (u_ 0) 8 il mI (gG (i:=5) rfl) (by simp;omega) ?_)))
    intro A10 c10
    refine A.E<|A.F 14 rfl (A.mP 3 233 3 ci ⟨A10,c10,(((cu cv ci).getD dN).sx)++([a])⟩ rfl iO (A.r0 [0,0] [lO cv ci A10 c10 a] rfl (fun w hs=>mL cv ci A10 c10 ((((cu cv ci).getD dN).sx)++([a])) hs) (A.E<|A.M ?_)))
    exact A.aK (A10,c10) trivial<|A.aW (show V.sub _ [] from trivial)<|sd [4]
   ·refine A.u (some 19) _ (kD (kt:=3) (et:=233) (enck:=(fun k:Int=>i_ k)) (encv:=jo) (b:=mc) (kv:=cv) (k:=ci) (d0:=dN) (fun w s=>s.mem (i:=1) rfl) rfl rfl rfl (by kernel_rfl) iO (by kernel_rfl) rfl)<|A.aD (.refl _)<|A.aw 3 12 rfl rfl (by kernel_rfl) ?_ ?_
    ·refine A.u (some 12) (.map<|some mc) (nW rfl rfl (by kernel_rfl) (l0 (i:=0) rfl rfl))<|A.aD (.refl _)<|A.F 12 rfl (A.aE 21 (e:=40) [u_ a] (by kernel_rfl) rfl (fun _=>by kernel_rfl) _ (fun _=>rfl) ?_)
     intro b11
     refine A.E<|A.F 13 rfl (A.r0 [2] (mQ cv ci) rfl (fun w hs=>mK cv ci hs) (A.ap iI (((cu cv ci).getD dN).sx) ([a]) 1 22 (u_ 0) 8 il mI (gG (i:=5) rfl) (by simp;omega) ?_))
     intro A12 c12
     refine A.E<|A.F 14 rfl (A.mP 3 233 3 ci ⟨A12,c12,(((cu cv ci).getD dN).sx)++([a])⟩ rfl iO (A.r0 [0,0] [lO cv ci A12 c12 a] rfl (fun w hs=>mL cv ci A12 c12 ((((cu cv ci).getD dN).sx)++([a])) hs) (A.E<|A.M ?_)))
     exact A.aK (A12,c12) trivial<|A.aW (show V.sub _ [] from trivial)<|sd [4]
    refine A.aE 21 (e:=40) [u_ a] (by kernel_rfl) rfl (fun _=>by kernel_rfl) _ (fun _=>rfl) ?_
    intro b13
    refine A.E<|A.aw 3 13 rfl rfl (by kernel_rfl) ?_ ?_
    ·refine A.u (some 12) (.map<|some mc) (nW rfl rfl (by kernel_rfl) (l0 (i:=0) rfl rfl))<|A.aD (.refl _)<|A.F 13 rfl (A.r0 [2] (mQ cv ci) rfl (fun w hs=>mK cv ci hs) (A.ap iI (((cu cv ci).getD dN).sx) ([a]) 1 22 (u_ 0) 8 il mI (gG (i:=5) rfl) (by simp;omega) ?_))
     intro A14 c14
     refine A.E<|A.F 14 rfl (A.mP 3 233 3 ci ⟨A14,c14,(((cu cv ci).getD dN).sx)++([a])⟩ rfl iO (A.r0 [0,0] [lO cv ci A14 c14 a] rfl (fun w hs=>mL cv ci A14 c14 ((((cu cv ci).getD dN).sx)++([a])) hs) (A.E<|A.M ?_)))
     exact A.aK (A14,c14) trivial<|A.aW (show V.sub _ [] from trivial)<|sd [4]
    refine A.r0 [2] (mQ cv ci) rfl (fun w hs=>mK cv ci hs) (A.ap iI (((cu cv ci).getD dN).sx) ([a]) 1 22 (u_ 0) 8 il mI (gG (i:=5) rfl) (by simp;omega) ?_)
    intro A15 c15
    refine A.E<|A.pT 1 [.ld 2] [3] (BD ci A15 cv a c15 mc) [bs]<|A.F 14 rfl (A.mP 3 233 3 ci ⟨A15,c15,(((cu cv ci).getD dN).sx)++([a])⟩ rfl iO (A.r0 [0,0] [lO cv ci A15 c15 a] rfl (fun w hs=>mL cv ci A15 c15 ((((cu cv ci).getD dN).sx)++([a])) hs) (A.E<|A.M ?_)))
    exact A.aK (A15,c15) trivial<|A.aW (show V.sub _ [] from trivial)<|sd [4]
   refine A.aE 21 (e:=40) [u_ a] (by kernel_rfl) rfl (fun _=>by kernel_rfl) _ (fun _=>rfl) ?_
   intro b16
   refine A.E<|A.aR 10 (some 19) (.slice (((cu cv ci).getD dN).sa) (((cu cv ci).getD dN).sx.length)<|((cu cv ci).getD dN).sc) rfl (by kernel_rfl) (by kernel_rfl) (kD (kt:=3) (et:=233) (enck:=(fun k:Int=>i_ k)) (encv:=jo) (b:=mc) (kv:=cv) (k:=ci) (d0:=dN) (fun w s=>s.mem (i:=1) rfl) rfl rfl rfl (by kernel_rfl) iO (by kernel_rfl) rfl) (A.aw 3 13 rfl rfl (by kernel_rfl) ?_ ?_)
   ·refine A.u (some 12) (.map<|some mc) (nW rfl rfl (by kernel_rfl) (l0 (i:=0) rfl rfl))<|A.aD (.refl _)<|A.F 13 rfl (A.r0 [2] (mQ cv ci) rfl (fun w hs=>mK cv ci hs) (A.ap iI (((cu cv ci).getD dN).sx) ([a]) 1 22 (u_ 0) 8 il mI (gG (i:=5) rfl) (by simp;omega) ?_))
    intro A17 c17
    refine A.E<|A.F 14 rfl (A.mP 3 233 3 ci ⟨A17,c17,(((cu cv ci).getD dN).sx)++([a])⟩ rfl iO (A.r0 [0,0] [lO cv ci A17 c17 a] rfl (fun w hs=>mL cv ci A17 c17 ((((cu cv ci).getD dN).sx)++([a])) hs) (A.E<|A.M ?_)))
    exact A.aK (A17,c17) trivial<|A.aW (show V.sub _ [] from trivial)<|sd [4]
   refine A.r0 [2] (mQ cv ci) rfl (fun w hs=>mK cv ci hs) (A.ap iI (((cu cv ci).getD dN).sx) ([a]) 1 22 (u_ 0) 8 il mI (gG (i:=5) rfl) (by simp;omega) ?_)
   intro A18 c18
   refine A.E<|A.pT 1 [.ld 2] [3] (BD ci A18 cv a c18 mc) [bs]<|A.F 14 rfl (A.mP 3 233 3 ci ⟨A18,c18,(((cu cv ci).getD dN).sx)++([a])⟩ rfl iO (A.r0 [0,0] [lO cv ci A18 c18 a] rfl (fun w hs=>mL cv ci A18 c18 ((((cu cv ci).getD dN).sx)++([a])) hs) (A.E<|A.M ?_)))
   exact A.aK (A18,c18) trivial<|A.aW (show V.sub _ [] from trivial)<|sd [4]
  refine A.aE 21 (e:=40) [u_ a] (by kernel_rfl) rfl (fun _=>by kernel_rfl) _ (fun _=>rfl) ?_
  intro b19
  refine A.E<|A.dT 4 [.ld 0] [8] [16,20] [(21,.slice (some ⟨b19,0,none⟩) 1 1),(17,.map<|some mc)] [bs]<|A.aR 10 (some 19) (.slice (((cu cv ci).getD dN).sa) (((cu cv ci).getD dN).sx.length)<|((cu cv ci).getD dN).sc) rfl (by kernel_rfl) (by kernel_rfl) (kD (kt:=3) (et:=233) (enck:=(fun k:Int=>i_ k)) (encv:=jo) (b:=mc) (kv:=cv) (k:=ci) (d0:=dN) (fun w s=>s.mem (i:=1) rfl) rfl rfl rfl (by kernel_rfl) iO (by kernel_rfl) rfl) (A.aw 3 13 rfl rfl (by kernel_rfl) ?_ ?_)
  ·refine A.u (some 12) (.map<|some mc) (nW rfl rfl (by kernel_rfl) (l0 (i:=0) rfl rfl))<|A.aD (.refl _)<|A.F 13 rfl (A.r0 [2] (mQ cv ci) rfl (fun w hs=>mK cv ci hs) (A.ap iI (((cu cv ci).getD dN).sx) ([a]) 1 22 (u_ 0) 8 il mI (gG (i:=5) rfl) (by simp;omega) ?_))
   intro A20 c20
   refine A.E<|A.F 14 rfl (A.mP 3 233 3 ci ⟨A20,c20,(((cu cv ci).getD dN).sx)++([a])⟩ rfl iO (A.r0 [0,0] [lO cv ci A20 c20 a] rfl (fun w hs=>mL cv ci A20 c20 ((((cu cv ci).getD dN).sx)++([a])) hs) (A.E<|A.M ?_)))
   exact A.aK (A20,c20) trivial<|A.aW (show V.sub _ [] from trivial)<|sd [4]
  refine A.r0 [2] (mQ cv ci) rfl (fun w hs=>mK cv ci hs) (A.ap iI (((cu cv ci).getD dN).sx) ([a]) 1 22 (u_ 0) 8 il mI (gG (i:=5) rfl) (by simp;omega) ?_)
  intro A21 c21
  refine A.E<|A.pT 1 [.ld 2] [3] (BD ci A21 cv a c21 mc) [bs]<|A.F 14 rfl (A.mP 3 233 3 ci ⟨A21,c21,(((cu cv ci).getD dN).sx)++([a])⟩ rfl iO (A.r0 [0,0] [lO cv ci A21 c21 a] rfl (fun w hs=>mL cv ci A21 c21 ((((cu cv ci).getD dN).sx)++([a])) hs) (A.E<|A.M ?_)))
  exact A.aK (A21,c21) trivial<|A.aW (show V.sub _ [] from trivial)<|sd [4]
 obtain⟨A2,c2⟩:=zz_
 refine A.aO [] [lO cv ci A2 c2 a,sV bs mc mr,dY (fun k:Int=>i_ k) jo mc<|dC cv ci ⟨A2,c2,(((cu cv ci).getD dN).sx)++([a])⟩,xJ mr rv] trivial rfl (A.c<|A.g [.p] [] [(6,i_ 0)]<|A.e<|A.Y [1,1,0,0] [i_ 0] (dC cv ci ⟨A2,c2,(((cu cv ci).getD dN).sx)++([a])⟩) ?_ ?_)
 ·rfl
 exact⟨_,_,rfl⟩
def m8(cv:List (Int×SL))(ci dn nb:Int):Int:=match((cu cv ci).getD dN).sx with
 |[]=>6
 |x::_=>if nb<1 then 26 else if dn<x then 27 else 0
variable{cv:List (Int×SL)}{ci dn nb:Int}
theorem Ly(h:(((cu cv ci).getD dN).sx.length:Int)=0):m8 cv ci dn nb=6:=by
 unfold m8;cases e:((cu cv ci).getD dN).sx with
 |nil=>rfl
 |cons x xs=>rw[e] at h;simp at h;omega
theorem wP(h:((cu cv ci).getD dN).sx[0]? =some x):m8 cv ci dn nb=if nb<1 then 26 else if dn<x then 27 else 0:=by
 unfold m8;cases e:((cu cv ci).getD dN).sx with
 |nil=>rw[e] at h;simp at h
 |cons y xs=>rw[e] at h;simp at h;subst h;rfl
theorem zT(h:m8 cv ci dn nb=0):1≤((cu cv ci).getD dN).sx.length:=by
 unfold m8 at h;cases e:((cu cv ci).getD dN).sx with
 |nil=>rw[e] at h;simp at h
 |cons y xs=>simp
theorem K8(h: ¬(((cu cv ci).getD dN).sx.length:Int)=0)(h2:nb<1):m8 cv ci dn nb=26:=by
 unfold m8;cases e:((cu cv ci).getD dN).sx with
 |nil=>rw[e] at h;simp at h
 |cons y xs=>simp only;rw[if_pos h2]
def uy(s:SL):SL:=⟨iE s.sa s.sc 1 1,s.sc-1,s.sx.drop 1⟩
def vC(r:SR)(x dn nb:Int)(rl:Bool):SR:=⟨IntKind.u64.wrap<|r.sp+1,IntKind.u64.wrap<|r.sb+IntKind.u64.wrap nb,if rl then IntKind.u64.wrap (r.sr+1) else r.sr,IntKind.u64.wrap<|r.sw+IntKind.u64.wrap (dn-x),eE r.sg<|IntKind.u64.wrap<|dn-x⟩
theorem Ft{l:List Int}(h:l[0]? =some x):l.headD 0=x:=by cases l<;>simp_all
theorem K9(bs mc mr:Nat)(cv:List (Int×SL))(rv:List (Int×SR))(ci dn nb:Int)(rl:Bool)(hw: ¬m8 cv ci dn nb=0)(w:World)(r0:(cw bs [.map<|some mc,.map<|some mr] 157).holds w)(r1:(dY (fun k:Int=>i_ k) jo mc cv).holds w)(r2:(fX 40 iI cv).holds w)(r3:(dY (fun k:Int=>i_ k) (fun y:SR=>(.agg #[u_ y.sp,u_ y.sb,u_ y.sr,u_ y.sw,u_ y.sg])) mr rv).holds w):
  CW 116 #[p_ bs,i_ ci,u_ dn,i_ nb,b_ rl] w (i_<|m8 cv ci dn nb):=by
 refine A.C Tryz.func116 rfl (HS.nil w) (A.c<|A.g [.p] [] []<|A.d<|A.c<|A.g [.p,.p] [] [(14,b_ false)]<|A.cf<|A.p<|A.c<|A.kp [.p,.p,.p,.rd [.map<|some mc],.p] [14] [(18,.map<|some mc),(19,i_ ci)] [] (o1<|ro ⟨bs,0,none⟩ (vs:=[.map<|some mc])<|df r0 rfl)<|A.j<|A.u (some 20) _ (qL 3 233 ci dN (fun w s=>d6 s r1) iO)<|A.g [.p] [18,19,20] [(11,.slice (((cu cv ci).getD dN).sa) (((cu cv ci).getD dN).sx.length)<|((cu cv ci).getD dN).sc)]<|A.d<|A.y<|A.c<|A.g (ps 4) [] [(21,b_<|(((cu cv ci).getD dN).sx.length:Int)==0)]<|A.v rfl (fun e1=>?_) (fun e1=>?_))
 ·have p1:=e1;try simp only[dc] at p1
  refine A.d ?_
  refine A.s<|A.g [.p] [0,1,2,3,4,11,21] [(10,i_ 6)] ?_
  refine A.e ?_
  refine A.W [i_ 6] ?_
  refine congrArg (Value.int .i64) ?_;exact(Ly ‹_›).symm
 have p1:=e1;try simp only[dc] at p1
 refine A.c<|A.g (ps 3) [21] [(25,b_<|decide (nb<1))]<|A.v rfl (fun e2=>?_) (fun e2=>?_)
 ·have p2:=of_decide_eq_true e2
  refine A.d ?_
  refine A.s<|A.g [.p] [0,1,2,3,4,11,25] [(10,i_ 26)] ?_
  refine A.e ?_
  refine A.W [i_ 26] ?_
  refine congrArg (Value.int .i64) ?_;exact(K8 ‹_› ‹_›).symm
 have p2:=of_decide_eq_false e2
 refine A.c<|A.kp [.p,.p,.ix] [25] [(29,u_ dn),(31,.pointer<|some<|(dR<|((cu cv ci).getD dN).sa).add (0*1))] [] (o1<|io (0:Int)<|gW il (by decide) (ef (rL<|u0 r2 ci)<|by simp[dE])<|by(simp;omega)) ?_
 obtain⟨x1,hx1⟩: ∃x,(((cu cv ci).getD dN).sx)[0]? =some x:=⟨_,List.getElem?_eq_getElem<|by omega⟩
 refine A.k [.rd [u_ x1],.p,.p] [29,31] [(28,b_<|decide (dn<x1))] [] (o1<|ro ((dR<|((cu cv ci).getD dN).sa).add (0*1))<|fS (vs:=[u_ x1]) il (ef (rL<|u0 r2 ci)<|by simp[dE]) hx1 (Nat.le_of_ble_eq_true rfl) rfl)<|A.v rfl (fun e3=>?_) (fun e3=>?_)
 ·have p3:=of_decide_eq_true e3
  refine A.d ?_
  refine A.s<|A.g [.p] [0,1,2,3,4,11,28] [(10,i_ 27)] ?_
  refine A.e ?_
  refine A.W [i_ 27] ?_
  refine congrArg (Value.int .i64) ?_;(rw[wP ‹_›];(rw[if_neg<|by omega,if_pos<|by omega];done))
 exact absurd e3<|by(intro h_;apply hw;rw[wP ‹_›,if_neg<|by omega,if_neg (by simp at h_;omega)])
theorem P5(bs mc mr:Nat)(cv:List (Int×SL))(rv:List (Int×SR))(ci dn nb:Int)(rl:Bool)(hw:m8 cv ci dn nb=0):
  CS 116 #[p_ bs,i_ ci,u_ dn,i_ nb,b_ rl] [cw bs [.map<|some mc,.map<|some mr] 157,dY (fun k:Int=>i_ k) jo mc cv,fX 40 iI cv,dY (fun k:Int=>i_ k) (fun y:SR=>(.agg #[u_ y.sp,u_ y.sb,u_ y.sr,u_ y.sw,u_ y.sg])) mr rv] (fun(zz:Unit)=>(i_ 0)) (fun _=>True) fun _=>[cw bs [.map<|some mc,.map<|some mr] 157,dY (fun k:Int=>i_ k) jo mc<|dC cv ci<|uy<|(cu cv ci).getD dN,fX 40 iI<|dC cv ci<|uy<|(cu cv ci).getD dN,dY (fun k:Int=>i_ k) (fun y:SR=>(.agg #[u_ y.sp,u_ y.sb,u_ y.sr,u_ y.sw,u_ y.sg])) mr<|dC rv ci<|vC ((cu rv ci).getD eX) (((cu cv ci).getD dN).sx.headD 0) dn nb rl]:=by
 intro w hs
 have hpos:=zT hw
 refine A.C Tryz.func116 rfl hs (A.c<|A.g [.p] [] []<|A.d<|A.c<|A.g [.p,.p] [] [(14,b_ false)]<|A.cf<|A.p<|(A.c<|A.gm [.p,.p,.p,.ld 0,.p] [14] [(18,.map<|some mc),(19,i_ ci)] [bs]<|A.j<|A.u (some 20) _ (kD (kt:=3) (et:=233) (enck:=(fun k:Int=>i_ k)) (encv:=jo) (b:=mc) (kv:=cv) (k:=ci) (d0:=dN) (fun w s=>s.mem (i:=1) rfl) rfl rfl rfl (by kernel_rfl) iO (by kernel_rfl) rfl)<|A.g [.p] [18,19,20] [(11,.slice (((cu cv ci).getD dN).sa) (((cu cv ci).getD dN).sx.length)<|((cu cv ci).getD dN).sc)]<|A.d<|A.y<|A.c<|A.g (ps 4) [] [(21,b_<|(((cu cv ci).getD dN).sx.length:Int)==0)]<|A.v rfl (fun e1=>?_) (fun e1=>?_)))
 ·exact absurd e1<|by(intro h_;have h2_:=zT hw;rw[beq_iff_eq] at h_;omega)
 refine A.c<|A.g (ps 3) [21] [(25,b_<|decide (nb<1))]<|A.v rfl (fun e2=>?_) (fun e2=>?_)
 ·exact absurd e2<|by(intro h_;have h2_:=zT hw;obtain⟨x_,hx_⟩: ∃x,((cu cv ci).getD dN).sx[0]? =some x:=⟨_,List.getElem?_eq_getElem h2_⟩;rw[wP hx_,if_pos<|by simpa using h_] at hw;omega)
 have p2:=of_decide_eq_false e2
 refine A.c<|A.kp [.p,.p,.ix] [25] [(29,u_ dn),(31,.pointer<|some<|(dR<|((cu cv ci).getD dN).sa).add (0*1))] [] (o1<|io (0:Int)<|gW il (by decide) (ng 2 rfl ci)<|by(simp;omega)) ?_
 obtain⟨x1,hx1⟩: ∃x,(((cu cv ci).getD dN).sx)[0]? =some x:=⟨_,List.getElem?_eq_getElem<|by omega⟩
 refine A.k [.rd [u_ x1],.p,.p] [29,31] [(28,b_<|decide (dn<x1))] [] (o1<|ro ((dR<|((cu cv ci).getD dN).sa).add (0*1))<|fS (vs:=[u_ x1]) il (ng 2 rfl ci) hx1 (Nat.le_of_ble_eq_true rfl) rfl)<|A.v rfl (fun e3=>?_) (fun e3=>?_)
 ·exact absurd e3<|by(intro h_;rw[wP ‹_›,if_neg<|by omega,if_pos<|by simpa using h_] at hw;omega)
 have p3:=of_decide_eq_false e3
 refine A.p<|A.c<|A.gm [.p,.p,.p,.ld 0,.p] [28] [(37,.map<|some mr),(38,i_ ci)] [bs]<|A.j<|A.u (some 39) _ (kD (kt:=3) (et:=289) (enck:=(fun k:Int=>i_ k)) (encv:=(fun y:SR=>(.agg #[u_ y.sp,u_ y.sb,u_ y.sr,u_ y.sw,u_ y.sg]))) (b:=mr) (kv:=rv) (k:=ci) (d0:=eX) (fun w s=>s.mem (i:=3) rfl) rfl rfl rfl (by kernel_rfl) iO (by kernel_rfl) rfl)<|A.g1 [.al,.st 4] [37,38,39] (fun b2=>[(12,p_ b2)]) (fun b2=>[]) (fun b2=>cw b2 [u_<|((cu rv ci).getD eX).sp,u_<|((cu rv ci).getD eX).sb,u_<|((cu rv ci).getD eX).sr,u_<|((cu rv ci).getD eX).sw,u_<|((cu rv ci).getD eX).sg] 289) (fun b2=>[b2]) ?_
 intro b2
 refine A.c<|A.gs [.p,.ld 4,.p,.p,.st 4] [] [] [(4,cw b2 [u_<|IntKind.u64.wrap<|(((cu rv ci).getD eX).sp)+1,u_<|((cu rv ci).getD eX).sb,u_<|((cu rv ci).getD eX).sr,u_<|((cu rv ci).getD eX).sw,u_<|((cu rv ci).getD eX).sg] 289)] [b2,b2]<|A.c<|A.gs [.p,.ld 4,.p,.p,.p,.p,.st 4] [3] [] [(4,cw b2 [u_<|IntKind.u64.wrap<|(((cu rv ci).getD eX).sp)+1,u_<|IntKind.u64.wrap<|(((cu rv ci).getD eX).sb)+(IntKind.u64.wrap<|nb),u_<|((cu rv ci).getD eX).sr,u_<|((cu rv ci).getD eX).sw,u_<|((cu rv ci).getD eX).sg] 289)] [b2,b2]<|A.d<|A.c<|A.g [.p] [4] [(50,b_ rl)]<|A.cn rl (fun e4=>?_)<|fun e4=>?_
 ·refine A.s<|A.gs [.p,.ld 4,.p,.p,.st 4] [50] [] [(4,cw b2 [u_<|IntKind.u64.wrap<|(((cu rv ci).getD eX).sp)+1,u_<|IntKind.u64.wrap<|(((cu rv ci).getD eX).sb)+(IntKind.u64.wrap<|nb),u_<|IntKind.u64.wrap<|(((cu rv ci).getD eX).sr)+1,u_<|((cu rv ci).getD eX).sw,u_<|((cu rv ci).getD eX).sg] 289)] [b2,b2]<|A.d<|A.O [9] 10<|A.kd 1 [.p,.ld 4,.p,.p,.ix,.rd [u_ x1],.p,.p,.p] (rg 0 9) [] [(62,u_<|IntKind.u64.wrap<|(((cu rv ci).getD eX).sw)+(IntKind.u64.wrap<|dn-x1)),(63,q_ b2 3)] [b2] (oc (io (0:Int)<|gW il (by decide) (ng 2 rfl ci)<|by(simp;omega))<|o1<|ro ((dR<|((cu cv ci).getD dN).sa).add (0*1))<|fS (vs:=[u_ x1]) il (ng 2 rfl ci) hx1 (Nat.le_of_ble_eq_true rfl) rfl) ?_
  refine A.F 9 rfl (A.sT 4 [u_<|IntKind.u64.wrap<|(((cu rv ci).getD eX).sw)+(IntKind.u64.wrap<|dn-x1)] rfl (A.E<|A.M<|A.d<|A.O [9] 10 ?_))
  refine A.pO 1 [.p,.ld 4,.p,.p,.ix,.rd [u_ x1],.p,.p,.p] (rg 0 9) [(0,p_ bs),(1,i_ ci),(11,.slice (((cu cv ci).getD dN).sa) (((cu cv ci).getD dN).sx.length)<|((cu cv ci).getD dN).sc),(12,p_ b2),(71,u_<|eE (((cu rv ci).getD eX).sg)<|IntKind.u64.wrap<|dn-x1),(72,q_ b2 4)] [b2] (oc (io (0:Int)<|gW il (by decide) (ng 2 rfl ci)<|by(simp;omega))<|o1<|ro ((dR<|((cu cv ci).getD dN).sa).add (0*1))<|fS (vs:=[u_ x1]) il (ng 2 rfl ci) hx1 (Nat.le_of_ble_eq_true rfl) rfl)<|A.F 9 rfl (A.sT 4 [u_<|eE (((cu rv ci).getD eX).sg)<|IntKind.u64.wrap<|dn-x1] rfl ?_)
  refine A.E<|A.M<|A.d<|A.O [6] 7<|A.pT 1 [.p,.p,.p,.ld 0,.p,.ld 4] (rg 0 6) [(0,p_ bs),(1,i_ ci),(11,.slice (((cu cv ci).getD dN).sa) (((cu cv ci).getD dN).sx.length)<|((cu cv ci).getD dN).sc),(76,.map<|some mr),(77,i_ ci),(78,.agg #[u_<|IntKind.u64.wrap<|(((cu rv ci).getD eX).sp)+1,u_<|IntKind.u64.wrap<|(((cu rv ci).getD eX).sb)+(IntKind.u64.wrap<|nb),u_<|IntKind.u64.wrap<|(((cu rv ci).getD eX).sr)+1,u_<|IntKind.u64.wrap<|(((cu rv ci).getD eX).sw)+(IntKind.u64.wrap<|dn-x1),u_<|eE (((cu rv ci).getD eX).sg)<|IntKind.u64.wrap<|dn-x1])] [bs,b2] ?_
  refine A.F 6 rfl (A.mP 3 289 3 ci (⟨IntKind.u64.wrap<|(((cu rv ci).getD eX).sp)+1,IntKind.u64.wrap<|(((cu rv ci).getD eX).sb)+(IntKind.u64.wrap<|nb),IntKind.u64.wrap<|(((cu rv ci).getD eX).sr)+1,IntKind.u64.wrap<|(((cu rv ci).getD eX).sw)+(IntKind.u64.wrap<|dn-x1),eE (((cu rv ci).getD eX).sg)<|IntKind.u64.wrap<|dn-x1⟩:SR) rfl iO ?_)
  refine A.E<|A.M<|A.d<|A.O [7] 8<|A.pT 2 [.p,.p,.p,.ld 0,.p,.p] (rg 0 6) [(82,.map<|some mc),(83,i_ ci),(84,.slice (((cu cv ci).getD dN).sa) (((cu cv ci).getD dN).sx.length)<|((cu cv ci).getD dN).sc)] [bs]<|A.aR 6 (some 85) (.slice (iE (((cu cv ci).getD dN).sa) (((cu cv ci).getD dN).sc) 1 1) (((((cu cv ci).getD dN).sx).drop 1).length)<|((cu cv ci).getD dN).sc-1) rfl (by kernel_rfl) (by kernel_rfl) (wF (e:=40) (xs:=(((cu cv ci).getD dN).sx)) (sz:=1) 1 rfl rfl rfl (by kernel_rfl) (by kernel_rfl) (by omega) (F7 2 rfl ci)) ?_
  refine A.F 7 rfl (A.mP 3 233 1 ci ⟨iE (((cu cv ci).getD dN).sa) (((cu cv ci).getD dN).sc) 1 1,(((cu cv ci).getD dN).sc-1),((((cu cv ci).getD dN).sx).drop 1)⟩ rfl iO ?_)
  refine A.r0 [2] [fX 40 iI<|dC cv ci ⟨iE (((cu cv ci).getD dN).sa) (((cu cv ci).getD dN).sc) 1 1,(((cu cv ci).getD dN).sc-1),((((cu cv ci).getD dN).sx).drop 1)⟩] rfl (fun w hs=>Gt (fun _=>rfl) cv ci (by omega) hs) ?_
  refine A.E<|A.M<|A.c<|A.h [.p] [(10,i_ 0)] []<|A.e ?_
  rw[show dC cv ci ⟨iE (((cu cv ci).getD dN).sa) (((cu cv ci).getD dN).sc) 1 1,(((cu cv ci).getD dN).sc-1),((((cu cv ci).getD dN).sx).drop 1)⟩=(dC cv ci<|uy<|(cu cv ci).getD dN) from by rfl]
  rw[show dC rv ci (⟨IntKind.u64.wrap<|(((cu rv ci).getD eX).sp)+1,IntKind.u64.wrap<|(((cu rv ci).getD eX).sb)+(IntKind.u64.wrap<|nb),IntKind.u64.wrap<|(((cu rv ci).getD eX).sr)+1,IntKind.u64.wrap<|(((cu rv ci).getD eX).sw)+(IntKind.u64.wrap<|dn-x1),eE (((cu rv ci).getD eX).sg)<|IntKind.u64.wrap<|dn-x1⟩:SR)=(dC rv ci<|vC ((cu rv ci).getD eX) (((cu cv ci).getD dN).sx.headD 0) dn nb rl) from by(unfold vC;rw[Ft ‹_›];simp_all;done)]
  refine A.Y [1,1,0,0] [i_ 0] () ?_ ?_
  ·rfl
  trivial
 refine A.p<|A.d<|A.O [9] 10<|A.kd 1 [.p,.ld 4,.p,.p,.ix,.rd [u_ x1],.p,.p,.p] (rg 0 9) [50] [(62,u_<|IntKind.u64.wrap<|(((cu rv ci).getD eX).sw)+(IntKind.u64.wrap<|dn-x1)),(63,q_ b2 3)] [b2] (oc (io (0:Int)<|gW il (by decide) (ng 2 rfl ci)<|by(simp;omega))<|o1<|ro ((dR<|((cu cv ci).getD dN).sa).add (0*1))<|fS (vs:=[u_ x1]) il (ng 2 rfl ci) hx1 (Nat.le_of_ble_eq_true rfl) rfl)<|A.F 9 rfl (A.sT 4 [u_<|IntKind.u64.wrap<|(((cu rv ci).getD eX).sw)+(IntKind.u64.wrap<|dn-x1)] rfl (A.E<|A.M<|A.d<|A.O [9] 10 ?_))
 refine A.pO 1 [.p,.ld 4,.p,.p,.ix,.rd [u_ x1],.p,.p,.p] (rg 0 9) [(0,p_ bs),(1,i_ ci),(11,.slice (((cu cv ci).getD dN).sa) (((cu cv ci).getD dN).sx.length)<|((cu cv ci).getD dN).sc),(12,p_ b2),(71,u_<|eE (((cu rv ci).getD eX).sg)<|IntKind.u64.wrap<|dn-x1),(72,q_ b2 4)] [b2] (oc (io (0:Int)<|gW il (by decide) (ng 2 rfl ci)<|by(simp;omega))<|o1<|ro ((dR<|((cu cv ci).getD dN).sa).add (0*1))<|fS (vs:=[u_ x1]) il (ng 2 rfl ci) hx1 (Nat.le_of_ble_eq_true rfl) rfl)<|A.F 9 rfl (A.sT 4 [u_<|eE (((cu rv ci).getD eX).sg)<|IntKind.u64.wrap<|dn-x1] rfl (A.E ?_))
 refine A.M<|A.d<|A.O [6] 7<|A.pT 1 [.p,.p,.p,.ld 0,.p,.ld 4] (rg 0 6) [(0,p_ bs),(1,i_ ci),(11,.slice (((cu cv ci).getD dN).sa) (((cu cv ci).getD dN).sx.length)<|((cu cv ci).getD dN).sc),(76,.map<|some mr),(77,i_ ci),(78,.agg #[u_<|IntKind.u64.wrap<|(((cu rv ci).getD eX).sp)+1,u_<|IntKind.u64.wrap<|(((cu rv ci).getD eX).sb)+(IntKind.u64.wrap<|nb),u_<|((cu rv ci).getD eX).sr,u_<|IntKind.u64.wrap<|(((cu rv ci).getD eX).sw)+(IntKind.u64.wrap<|dn-x1),u_<|eE (((cu rv ci).getD eX).sg)<|IntKind.u64.wrap<|dn-x1])] [bs,b2] ?_
 refine A.F 6 rfl (A.mP 3 289 3 ci (⟨IntKind.u64.wrap<|(((cu rv ci).getD eX).sp)+1,IntKind.u64.wrap<|(((cu rv ci).getD eX).sb)+(IntKind.u64.wrap<|nb),((cu rv ci).getD eX).sr,IntKind.u64.wrap<|(((cu rv ci).getD eX).sw)+(IntKind.u64.wrap<|dn-x1),eE (((cu rv ci).getD eX).sg)<|IntKind.u64.wrap<|dn-x1⟩:SR) rfl iO (A.E ?_))
 refine A.M<|A.d<|A.O [7] 8<|A.pT 2 [.p,.p,.p,.ld 0,.p,.p] (rg 0 6) [(82,.map<|some mc),(83,i_ ci),(84,.slice (((cu cv ci).getD dN).sa) (((cu cv ci).getD dN).sx.length)<|((cu cv ci).getD dN).sc)] [bs]<|A.aR 6 (some 85) (.slice (iE (((cu cv ci).getD dN).sa) (((cu cv ci).getD dN).sc) 1 1) (((((cu cv ci).getD dN).sx).drop 1).length)<|((cu cv ci).getD dN).sc-1) rfl (by kernel_rfl) (by kernel_rfl) (wF (e:=40) (xs:=(((cu cv ci).getD dN).sx)) (sz:=1) 1 rfl rfl rfl (by kernel_rfl) (by kernel_rfl) (by omega) (F7 2 rfl ci)) ?_
 refine A.F 7 rfl (A.mP 3 233 1 ci ⟨iE (((cu cv ci).getD dN).sa) (((cu cv ci).getD dN).sc) 1 1,(((cu cv ci).getD dN).sc-1),((((cu cv ci).getD dN).sx).drop 1)⟩ rfl iO ?_)
 refine A.r0 [2] [fX 40 iI<|dC cv ci ⟨iE (((cu cv ci).getD dN).sa) (((cu cv ci).getD dN).sc) 1 1,(((cu cv ci).getD dN).sc-1),((((cu cv ci).getD dN).sx).drop 1)⟩] rfl (fun w hs=>Gt (fun _=>rfl) cv ci (by omega) hs) ?_
 refine A.E<|A.M<|A.c<|A.h [.p] [(10,i_ 0)] []<|A.e ?_
 rw[show dC cv ci ⟨iE (((cu cv ci).getD dN).sa) (((cu cv ci).getD dN).sc) 1 1,(((cu cv ci).getD dN).sc-1),((((cu cv ci).getD dN).sx).drop 1)⟩=(dC cv ci<|uy<|(cu cv ci).getD dN) from by rfl]
 rw[show dC rv ci (⟨IntKind.u64.wrap<|(((cu rv ci).getD eX).sp)+1,IntKind.u64.wrap<|(((cu rv ci).getD eX).sb)+(IntKind.u64.wrap<|nb),((cu rv ci).getD eX).sr,IntKind.u64.wrap<|(((cu rv ci).getD eX).sw)+(IntKind.u64.wrap<|dn-x1),eE (((cu rv ci).getD eX).sg)<|IntKind.u64.wrap<|dn-x1⟩:SR)=(dC rv ci<|vC ((cu rv ci).getD eX) (((cu cv ci).getD dN).sx.headD 0) dn nb rl) from by(unfold vC;rw[Ft ‹_›];simp_all;done)]
 refine A.Y [1,1,0,0] [i_ 0] () ?_ ?_
 ·rfl
 trivial
end Go.Proofs.YtobgjpigngoggaaGreat
namespace Go.Proofs.YtobgjpigngoggaaGreat
open Go V
open Go.RowKit Go.Maps Go.Shelf
def Tryz.cloneA_ren:Go.Shelf.Ren:=⟨fun|5=>131|7=>168|n=>n,fun|23=>183|25=>3|3=>62|4=>4|20=>20|n=>n,fun|n=>n⟩
theorem Tryz.cloneA:Go.Proofs.SlLaysW.n5 Tryz.prog Tryz.cloneA_ren:={
 mixed:=by kernel_rfl,
 f5:=⟨Tryz.f131.name,by decide,Tryz.func131.trans<|congrArg some<|by kernel_rfl⟩,
 f7:=Tryz.func168.trans<|congrArg some<|by kernel_rfl,
 t4:=Tryz.underlying4,
 a4:=Tryz.isAgg4,
 z4:=Tryz.sizeOf4,
 v4:=Tryz.zeroValue4,
 t20:=Tryz.underlying20,
 a20:=Tryz.isAgg20,
 z20:=Tryz.sizeOf20,
 v20:=Tryz.zeroValue20,
 t23:=Tryz.underlying183,
 a23:=Tryz.isAgg183,
 z23:=Tryz.sizeOf183,
 v23:=Tryz.zeroValue183}
theorem Ky(mb:Nat)(kv:List (Int×Cl))(w:World)(r0:(dy mb kv).holds w)(hs:HI w []):
  CV 131 #[.map<|some mb] w [] (fun(mc:Nat)=>(.map<|some mc)) (fun _=>True) fun mc=>[dy mc kv]:=by
 obtain⟨⟨es,clock,hp,hr⟩,hk⟩:=id r0
 refine(AnyW.maps_Clone Tryz.cloneA mb es clock w hp).mono ?_
 rintro e w' ⟨rfl,rfl⟩
 refine⟨w.heap.size,rfl,trivial,⟨Fr.alloc _ _ _,?_,by simp[dE,dY],by simp[dE,dY]⟩⟩
 intro it hi;simp only[List.mem_singleton] at hi;subst hi
 exact⟨⟨es,clock,(MapKept.heap_alloc w _).1,hr⟩,hk⟩
set_option maxHeartbeats 4000000 in
set_option maxRecDepth 100000 in
theorem Gn(bt mb:Nat)(kv:List (Int×Cl))(w:World)(r0:(cw bt [.map<|some mb] 185).holds w)(r1:(dy mb kv).holds w)(hs:HI w []):
  CV 91 #[p_ bt] w [] (fun((bc,mc):Nat×Nat)=>(p_ bc)) (fun _=>True) fun(bc,mc)=>[cw bc [.map<|some mc] 185,dy mc kv]:=by
 refine A.C Tryz.func91 rfl hs (A.aO [(0,p_ bt)] [] (by exact⟨rfl,trivial⟩) rfl (A.d<|A.s<|A.h [.p] [(0,p_ bt)] []<|A.d<|A.d<|A.s<|A.h [.p,.p] [(0,p_ bt),(4,b_ false)] []<|A.bW rfl (A.p<|A.d<|A.s<|A.hq [.p,.p,.p,.rd [.map<|some mb]] [(8,.map<|some mb)] [] (o1<|ro ⟨bt,0,none⟩ (vs:=[.map<|some mb])<|df r0 rfl)<|A.j<|A.I (some 9) [] (fun w s h=>Ky mb kv w (d6 s r1) h) ?_)))
 rintro mc1-
 refine A.m1 [.p,.al,.p] (fun b2=>[(2,p_ b2)]) (fun _=>[]) (fun b2=>cw b2 [.map<|some mc1] 185) (fun b2=>[]) ?_
 intro b2
 refine A.e<|A.aG [1,0] [p_ b2] (fun _ w r s=>⟨fk r rfl,trivial⟩) (b2,mc1) ?_ ?_<|by kernel_rfl
 ·rfl
 ·trivial
end Go.Proofs.YtobgjpigngoggaaGreat
namespace Go.Proofs.YtobgjpigngoggaaGreat
open Go V
def nH(v:Int):Int:=v/18446744073709551616
def nL(v:Int):Int:=v%18446744073709551616
def iZ:Int:=340282366920938463463374607431768211456
theorem H6(x y:Nat):(x&&&y)/9223372036854775808=(x/9223372036854775808)&&&(y/9223372036854775808):=by
 have:=Nat.shiftRight_and_distrib (a:=x) (b:=y) (i:=63)
 simpa[Nat.shiftRight_eq_div_pow] using this
theorem JD(x y:Nat):(x|||y)/9223372036854775808=(x/9223372036854775808)|||(y/9223372036854775808):=by
 have:=Nat.shiftRight_or_distrib (a:=x) (b:=y) (i:=63)
 simpa[Nat.shiftRight_eq_div_pow] using this
theorem MH(a b s c:Nat)(ha:a<18446744073709551616)(hb:b<18446744073709551616)(hc:c≤1)(hs:s=(a+b+c)%18446744073709551616):
  ((a&&&b)|||((a|||b)&&&(18446744073709551615-s)))/9223372036854775808=(a+b+c)/18446744073709551616:=by
 have hs2:s<18446744073709551616:=by rw[hs];omega
 rw[JD,H6,H6,JD]
 have e:(18446744073709551615-s)/9223372036854775808=1-s/9223372036854775808:=by omega
 rw[e]
 have hA:a/9223372036854775808=0∨a/9223372036854775808=1:=by omega
 have hB:b/9223372036854775808=0∨b/9223372036854775808=1:=by omega
 have hS:s/9223372036854775808=0∨s/9223372036854775808=1:=by omega
 rcases hA with hA|hA<;>rcases hB with hB|hB<;>rcases hS with hS|hS<;>rw[hA,hB,hS]<;>simp<;>omega
variable{a b c:Int}
theorem MI{s:Int}(ha:0≤a∧a<18446744073709551616)(hb:0≤b∧b<18446744073709551616)(hc:0≤c∧c≤1)(hs:s=(a+b+c)%18446744073709551616):
  dL .or .u64 (dL .and .u64 a b) (dL .andNot .u64 (dL .or .u64 a b) s)/9223372036854775808=(a+b+c)/18446744073709551616:=by
 obtain⟨A,rfl⟩:=Int.eq_ofNat_of_zero_le ha.1
 obtain⟨B,rfl⟩:=Int.eq_ofNat_of_zero_le hb.1
 obtain⟨C,rfl⟩:=Int.eq_ofNat_of_zero_le hc.1
 obtain⟨T,rfl⟩:=Int.eq_ofNat_of_zero_le (show 0≤s by omega)
 have h1:dL .and .u64 (A:Int) (B:Int)=((A&&&B:Nat):Int):=u64_and_nat A B (by omega)<|by omega
 have h2:dL .or .u64 (A:Int) (B:Int)=((A|||B:Nat):Int):=u64_or_nat A B (by omega)<|by omega
 have hl:A|||B<2^64:=Nat.or_lt_two_pow (by omega)<|by omega
 have h3:dL .andNot .u64 ((A|||B:Nat):Int) (T:Int)=(((A|||B)&&&(18446744073709551615-T):Nat):Int):=u64_andNot_nat (A|||B) T (by omega)<|by omega
 have hl2:A&&&B<2^64:=Nat.and_lt_two_pow _<|by omega
 have hl3:(A|||B)&&&(18446744073709551615-T)<2^64:=Nat.and_lt_two_pow _<|by omega
 have h4:dL .or .u64 ((A&&&B:Nat):Int) (((A|||B)&&&(18446744073709551615-T):Nat):Int)=(((A&&&B)|||((A|||B)&&&(18446744073709551615-T)):Nat):Int):=u64_or_nat _ _ (by omega)<|by omega
 rw[h1,h2,h3,h4]
 have:=MH A B T C (by omega) (by omega) (by omega)<|by omega
 omega
variable{x:Int}
theorem sF(h:0≤x∧x<18446744073709551616):dL .and .u64 x 4294967295=x%4294967296:=by
 obtain⟨A,rfl⟩:=Int.eq_ofNat_of_zero_le h.1
 have h1:dL .and .u64 (A:Int) ((4294967295:Nat):Int)=((A&&&4294967295:Nat):Int):=u64_and_nat A 4294967295 (by omega)<|by omega
 have h2:=Nat.and_two_pow_sub_one_eq_mod A 32
 show dL .and .u64 (A:Int) ((4294967295:Nat):Int)=_
 rw[h1,show(4294967295:Nat)=2^32-1 by decide,h2];omega
variable{y:Int}
theorem Ph(p:Nat)(hp:p<64)(hx:0≤x∧x<18446744073709551616)(hy:0≤y∧y<(2:Int)^p)(hm:x%(2:Int)^p=0):dL .or .u64 x y=x+y:=by
 obtain⟨A,rfl⟩:=Int.eq_ofNat_of_zero_le hx.1
 obtain⟨B,rfl⟩:=Int.eq_ofNat_of_zero_le hy.1
 have h2:(2:Int)^p=((2^p:Nat):Int):=by simp
 rw[h2] at hm hy
 have hB:B<2^p:=by omega
 have hp2:2^p<2^64:=Nat.pow_lt_pow_right (by decide) hp
 have hA:A%2^p=0:=by omega
 obtain⟨q,hq⟩:=Nat.dvd_of_mod_eq_zero hA
 have h1:dL .or .u64 (A:Int) (B:Int)=((A|||B:Nat):Int):=u64_or_nat A B (by omega)<|by omega
 rw[h1,hq,←Nat.two_pow_add_eq_or_of_lt hB];simp
theorem TO(a b:Int)(ha:0≤a∧a<18446744073709551616)(hb:0≤b∧b<18446744073709551616):
  a*b=(a/4294967296)*(b/4294967296)*18446744073709551616+((a/4294967296)*(b%4294967296)+(a%4294967296)*(b/4294967296))*4294967296+(a%4294967296)*(b%4294967296):=by
 have e1:=Int.mul_ediv_add_emod a 4294967296
 have e2:=Int.mul_ediv_add_emod b 4294967296
 generalize a/4294967296=ah at*;generalize a%4294967296=al at*
 generalize b/4294967296=bh at*;generalize b%4294967296=bl at*
 subst e1;subst e2
 simp only[Int.mul_add,Int.add_mul]
 have c1:4294967296*ah*(4294967296*bh)=ah*bh*18446744073709551616:=by
  rw[Int.mul_assoc,Int.mul_left_comm ah,←Int.mul_assoc,Int.mul_comm];rfl
 have c2:al*(4294967296*bh)=al*bh*4294967296:=by rw[Int.mul_left_comm,Int.mul_comm]
 have c3:4294967296*ah*bl=ah*bl*4294967296:=by rw[Int.mul_assoc,Int.mul_comm]
 rw[c1,c2,c3];omega
theorem wR(hx:0≤x∧x<4294967296)(hy:0≤y∧y<4294967296):0≤x*y∧x*y≤18446744065119617025:=by
 refine⟨Int.mul_nonneg hx.1 hy.1,?_⟩
 have h1:=Int.mul_le_mul_of_nonneg_left (show y≤4294967295 by omega) hx.1
 have h2:=Int.mul_le_mul_of_nonneg_right (show x≤4294967295 by omega) (show(0:Int)≤4294967295 by decide)
 omega
def rY(a b:Int):Int:=if a<b then-1 else if a=b then 0 else 1
theorem CL{v:Int}(h:0≤v∧v<iZ):0≤nH v∧nH v<18446744073709551616:=by unfold nH;unfold iZ at h;omega
theorem CM(v:Int):0≤nL v∧nL v<18446744073709551616:=by unfold nL;omega
def D1(a b c:Int):Int:=if a<b+c then 1 else 0
theorem TP{r p:Int}(hr:0≤r)(hp:0≤p):dL .or .u64 (IntKind.u64.wrap<|r*4294967296) (p%4294967296)=(r%4294967296)*4294967296+p%4294967296:=by
 rw[IntKind.wrap_u64,Ph 32 (by decide) (by omega) (by omega)<|by omega];omega
theorem VQ(a b c:Int):0≤D1 a b c∧D1 a b c≤1:=by unfold D1;split<;>omega
theorem Nx(v:Int)(hv:0≤v∧v<18446744073709551616)(w:World):
  CW 235 #[u_ v] w (.agg #[u_<|nH v,u_<|nL v]):=by
 refine A.C Tryz.func235 rfl (HS.nil w) (A.c<|A.n1 [.al] [] (fun b1=>[(2,p_ b1)]) (fun b1=>cw b1 [u_ 0,u_ 0] 213) ?_)
 intro b1
 refine A.c<|A.gs [.p,.p,.st 0] [0] [] [(0,cw b1 [u_ 0,u_ v] 213)] [b1]<|A.e<|A.pc 0 [u_ 0,u_ v] ?_
 show((.agg #[u_ 0,u_ v]):Value)=(.agg #[u_<|nH v,u_<|nL v])
 unfold nH nL;rw[Int.ediv_eq_zero_of_lt hv.1 hv.2,Int.emod_eq_of_lt hv.1 hv.2]
theorem JE(a b c:Int):lV a b c=(a+b+c)%18446744073709551616:=by unfold lV;rw[IntKind.wrap_u64,IntKind.wrap_u64];omega
theorem JF(ha:0≤a∧a<18446744073709551616)(hb:0≤b∧b<18446744073709551616)(hc:0≤c∧c≤1):jX a b c=(a+b+c)/18446744073709551616:=
 MI ha hb hc (JE a b c)
theorem zU(a b:Int)(ha:0≤a∧a<iZ)(hb:0≤b∧b<iZ)(w:World):
  CW 243 #[.agg #[u_<|nH a,u_<|nL a],.agg #[u_<|nH b,u_<|nL b]] w (.tuple #[.agg #[u_<|nH<|(a+b)%340282366920938463463374607431768211456,u_<|nL<|(a+b)%340282366920938463463374607431768211456],b_<|decide (a+b≥340282366920938463463374607431768211456)]):=by
 have a1:=CL ha;have b1:=CL hb;have a2:=CM a;have b2:=CM b
 have h:=uw ⟨nH a,nL a⟩ ⟨nH b,nL b⟩ w
 have c0:=JF a2 b2 (c:=0)<|by omega
 have c1:=JF a1 b1 (c:=(nL a+nL b+0)/18446744073709551616)<|by omega
 simp only[gr,rX,c0,c1,JE] at h
 rw[show(nH a+nH b+(nL a+nL b+0)/18446744073709551616)%18446744073709551616=nH ((a+b)%340282366920938463463374607431768211456) by unfold nH nL;unfold iZ at*;omega,show(nL a+nL b+0)%18446744073709551616=nL ((a+b)%340282366920938463463374607431768211456) by unfold nL;omega,show((nH a+nH b+(nL a+nL b+0)/18446744073709551616)/18446744073709551616 !=0)=decide (a+b≥340282366920938463463374607431768211456) by rw[Bool.eq_iff_iff];simp;unfold nH nL;unfold iZ at*;omega] at h
 exact h
theorem MJ(a b:Int)(ha:0≤a∧a<iZ)(hb:0≤b∧b<iZ)(w:World):
  CW 229 #[.agg #[u_<|nH a,u_<|nL a],.agg #[u_<|nH b,u_<|nL b]] w (i_<|rY a b):=by
 have h:=Cd ⟨nH a,nL a⟩ ⟨nH b,nL b⟩ w
 rw[show mj ⟨nH a,nL a⟩ ⟨nH b,nL b⟩=rY a b by unfold mj rY nH nL;unfold iZ at*;dsimp only;(repeat' split)<;>omega] at h
 exact h
theorem vo(a b:Int)(ha:0≤a∧a<18446744073709551616)(hb:0≤b∧b<18446744073709551616)(w:World):
  CW 205 #[u_ a,u_ b] w (.agg #[u_<|nH<|a*b,u_<|nL<|a*b]):=by
 have e0:=TO a b ha hb
 have p1:=wR (x:=a%4294967296) (y:=b%4294967296) (by omega) (by omega);have p2:=wR (x:=a/4294967296) (y:=b%4294967296) (by omega) (by omega);have p3:=wR (x:=a%4294967296) (y:=b/4294967296) (by omega) (by omega);have p4:=wR (x:=a/4294967296) (y:=b/4294967296) (by omega)<|by omega
 have h:=qP a b w
 have l:nK a b=a%4294967296*(b%4294967296):=by unfold nK;rw[sF ha,sF hb,wrap_u64<|by omega]
 have d:mA a b=a/4294967296*(b%4294967296)+nK a b/4294967296:=by unfold mA;rw[sF hb,wrap_u64 (e:=a/4294967296*(b%4294967296))<|by omega,wrap_u64<|by omega]
 have r:pB a b=a%4294967296*(b/4294967296)+mA a b%4294967296:=by unfold pB;rw[sF ha,sF (x:=mA a b)<|by omega,wrap_u64 (e:=a%4294967296*(b/4294967296))<|by omega,wrap_u64<|by omega]
 rw[show cz a b=⟨nH<|a*b,nL<|a*b⟩ by
  unfold cz;rw[sF (x:=nK a b)<|by omega,TP (by omega)<|by omega,wrap_u64 (e:=a/4294967296*(b/4294967296))<|by omega,wrap_u64 (e:=_+mA a b/4294967296)<|by omega,wrap_u64<|by omega,e0]
  unfold nH nL;rw[Nm.mk.injEq];omega] at h
 exact h
def sv(a b c t:Int):Int:=if dK a b c=0 then 0 else a*dS t b+c*(t-dS t b)
theorem Ge(ha:0≤a)(hb:0≤b)(hc:0≤c)(h:dK a b c≠0):a≤4294967295∧c≤4294967295∧b≤1048576:=by
 unfold dK at h;split at h
 ·omega
 ·split at h
  ·omega
  ·omega
theorem C0{p q:Int}(hx:0≤x∧x≤p)(hy:0≤y∧y≤q):0≤x*y∧x*y≤p*q:=
 ⟨Int.mul_nonneg hx.1 hy.1,Int.le_trans (Int.mul_le_mul_of_nonneg_left hy.2 hx.1)<|Int.mul_le_mul_of_nonneg_right hx.2<|Int.le_trans hy.1 hy.2⟩
variable{t:Int}
theorem vv(ha:0≤a)(hb:0≤b)(hc:0≤c)(ht:0≤t∧t<18446744073709551616)(h:dK a b c≠0):
  (0≤dS t b∧dS t b≤t)∧(0≤a*dS t b∧a*dS t b≤4503599626321920)∧0≤c*(t-dS t b)∧c*(t-dS t b)≤79228162495817593515539431425:=by
 obtain⟨h1,h2,h3⟩:=Ge ha hb hc h
 have e:0≤dS t b∧dS t b≤t∧dS t b≤1048576:=by rw[wm];omega
 have p1:=C0 (x:=a) (y:=dS t b) (p:=4294967295) (q:=1048576) ⟨ha,h1⟩ ⟨e.1,e.2.2⟩
 have p2:=C0 (x:=c) (y:=t-dS t b) (p:=4294967295) (q:=18446744073709551615) ⟨hc,h2⟩<|by omega
 exact⟨⟨e.1,e.2.1⟩,⟨p1.1,by omega⟩,p2.1,by omega⟩
theorem xX(ha:0≤a)(hb:0≤b)(hc:0≤c)(ht:0≤t∧t<18446744073709551616):0≤sv a b c t∧sv a b c t≤79228162495822097115165753345:=by
 unfold sv;split
 ·omega
 ·have:=vv ha hb hc ht ‹_›;omega
theorem M7(a b c t:Int)(ha:0≤a∧a<18446744073709551616)(hb:0≤b∧b<18446744073709551616)(hc:0≤c∧c<18446744073709551616)(ht:0≤t∧t<18446744073709551616)(w:World):
  CW 233 #[.agg #[u_ a,u_ b,u_ c],u_ t] w (.agg #[u_<|nH<|sv a b c t,u_<|nL<|sv a b c t]):=by
 refine A.C Tryz.func233 rfl (HS.nil w) (A.c<|A.n2 [.al,.al] [0] (fun b1 b2=>[(2,p_ b1),(4,p_ b2)]) (fun b1 b2=>[cw b1 [u_ a,u_ b,u_ c] 60,cw b2 [u_ 0,u_ 0] 213]) ?_)
 intro b1 b2
 refine A.d<|A.c<|A.k [.ld 0,.cq<|b_<|dK a b c !=0,.p] [] [(10,b_ (!(dK a b c !=0)))] [b1] (o1<|qo<|fun w s=>qe a b c w)<|A.v rfl (fun e1=>?_) (fun e1=>?_)
 ·refine A.c<|A.gs [.p,.st 1] [1,2,10] [] [] [b2]<|A.e<|A.pc 1 [u_ 0,u_ 0] ?_
  show((.agg #[u_ 0,u_ 0]):Value)=(.agg #[u_<|nH<|sv a b c t,u_<|nL<|sv a b c t])
  unfold sv;(rw[if_pos<|by simp_all];rfl)
 refine A.p<|A.c<|A.gl [.p,.p,.ld 0,.p,.p] [10] [(5,u_<|dS t b)] [b1]<|A.d<|A.d3 [14,15] 17 [cw b1 [u_ a,u_ b,u_ c] 60,cw b2 [u_ 0,u_ 0] 213]<|A.bO 3 [.p,.ld 0,.p,.cq<|.agg #[u_<|nH<|a*(dS t b),u_<|nL<|a*(dS t b)],.p,.ld 0,.p,.p,.w<|t-(dS t b),.cq<|.agg #[u_<|nH<|c*(t-(dS t b)),u_<|nL<|c*(t-(dS t b))],.cq<|.tuple #[.agg #[u_<|nH<|((a*(dS t b))+(c*(t-(dS t b))))%340282366920938463463374607431768211456,u_<|nL<|((a*(dS t b))+(c*(t-(dS t b))))%340282366920938463463374607431768211456],b_<|decide ((a*(dS t b))+(c*(t-(dS t b)))≥340282366920938463463374607431768211456)],.p,.p,.p] (rg 0 14) [(4,p_ b2),(28,.agg #[u_<|nH<|((a*(dS t b))+(c*(t-(dS t b))))%340282366920938463463374607431768211456,u_<|nL<|((a*(dS t b))+(c*(t-(dS t b))))%340282366920938463463374607431768211456]),(29,b_<|decide ((a*(dS t b))+(c*(t-(dS t b)))≥340282366920938463463374607431768211456))] [b1,b1] (.refl _) (oc (qo<|fun w s=>vo a (dS t b) ‹_› (by(have h_:=wm t b;omega)) w)<|oc (wo<|wrap_u64 (e:=t-(dS t b))<|by(have h_:=wm t b;constructor<;>omega))<|oc (qo<|fun w s=>vo c (t-(dS t b)) ‹_› (by(have h_:=wm t b;omega)) w)<|o1<|qo<|fun w s=>zU (a*(dS t b)) (c*(t-(dS t b))) (by(have h_:=vv ha.1 hb.1 hc.1 ht (by simp_all);unfold iZ;omega)) (by(have h_:=vv ha.1 hb.1 hc.1 ht (by simp_all);unfold iZ;omega)) w) ?_
 refine A.o3 14 rfl (A.af 6 [u_ 0,u_ 0] (by kernel_rfl) rfl (by kernel_rfl) (fun b3=>[cw b1 [u_ a,u_ b,u_ c] 60,cw b2 [u_ 0,u_ 0] 213,cw b3 [u_ 0,u_ 0] 213]) (fun _=>rfl) ?_)
 intro b3
 refine A.aF (sd [2])<|A.o3 15 rfl (A.sT 2 [u_<|nH<|((a*(dS t b))+(c*(t-(dS t b))))%340282366920938463463374607431768211456,u_<|nL<|((a*(dS t b))+(c*(t-(dS t b))))%340282366920938463463374607431768211456] rfl (A.aF (sd [2])<|A.bT 0 [.p] [16] [(4,p_ b2),(6,p_ b3)] [] (sd [2])<|A.f3<|A.c<|A.gT [.ld 2,.st 1] [(4,p_ b2)] [(1,cw b2 [u_<|nH<|((a*(dS t b))+(c*(t-(dS t b))))%340282366920938463463374607431768211456,u_<|nL<|((a*(dS t b))+(c*(t-(dS t b))))%340282366920938463463374607431768211456] 213)] [b3,b2]<|A.e<|A.pc 1 [u_<|nH<|((a*(dS t b))+(c*(t-(dS t b))))%340282366920938463463374607431768211456,u_<|nL<|((a*(dS t b))+(c*(t-(dS t b))))%340282366920938463463374607431768211456] ?_))
 show((.agg #[u_<|nH<|((a*(dS t b))+(c*(t-(dS t b))))%340282366920938463463374607431768211456,u_<|nL<|((a*(dS t b))+(c*(t-(dS t b))))%340282366920938463463374607431768211456]):Value)=(.agg #[u_<|nH<|sv a b c t,u_<|nL<|sv a b c t])
 unfold sv;((have h0_:dK a b c≠0:=by simp_all);rw[if_neg h0_];have h_:=vv ha.1 hb.1 hc.1 ht h0_;rw[Int.emod_eq_of_lt (by omega)<|by omega])
def lF(x:Cv):Prop:=(0≤x.ka∧x.ka≤18446744073709551615)∧(0≤x.kb∧x.kb≤18446744073709551615)∧(0≤x.kc∧x.kc≤18446744073709551615)
theorem nV{α:Type}{l:List α}{k:Nat}{x:α}(hx:l[k]? =some x):l.take (k+1)=l.take k++[x]:=by rw[List.take_add_one,hx];rfl
def vH(t:Int)(v:Cv):Int:=sv v.ka v.kb v.kc t
def eQ(l:List Cv)(t:Int):Int:=(l.map<|vH t).sum
theorem Fv(l:List Cv)(x:Cv)(t:Int):eQ (l++[x]) t=eQ l t+vH t x:=by unfold eQ;simp[List.sum_append]
def oD(st:Bool)(v:Cv):Int:=if dK v.ka v.kb v.kc=0 then 0 else if st&&decide (v.ka>v.kc) then v.ka else v.kc
def eL(st:Bool)(l:List Cv):Int:=(l.map<|oD st).sum
theorem Eu(st:Bool)(l:List Cv)(x:Cv):eL st (l++[x])=eL st l+oD st x:=by unfold eL;simp[List.sum_append]
variable{v:Cv}
theorem lB(h:lF v):(0≤v.ka∧v.ka<18446744073709551616)∧(0≤v.kb∧v.kb<18446744073709551616)∧0≤v.kc∧v.kc<18446744073709551616:=by unfold lF at h;omega
theorem DG{f:Cv→Int}{C:Int}: ∀{l:List Cv},(∀v∈l,0≤f v∧f v≤C)→0≤(l.map f).sum∧(l.map f).sum≤l.length*C
 |[],_=>by simp
 |v::l,h=>by
  have h1:=h v (by simp);have h2:=DG (l:=l) fun x hx=>h x<|by simp[hx]
  simp only[List.map_cons,List.sum_cons,List.length_cons];rw[Int.natCast_add,Int.add_mul];omega
variable{l:List Cv}
theorem sW(h: ∀v∈l,lF v)(ht:0≤t∧t<18446744073709551616)(hl:l.length≤1000):0≤eQ l t∧eQ l t≤79228162495822097115165753345000:=by
 obtain⟨h1,h2⟩:=DG (f:=vH t) (C:=79228162495822097115165753345) (l:=l) fun v hv=>by obtain⟨q1,q2,q3⟩:=lB<|h v hv;exact xX q1.1 q2.1 q3.1 ht
 unfold eQ;omega
variable{st:Bool}
theorem BE(h:lF v):0≤oD st v∧oD st v≤4294967295:=by
 obtain⟨q1,q2,q3⟩:=lB h
 unfold oD;split
 ·omega
 ·have:=Ge q1.1 q2.1 q3.1 ‹_›;split<;>omega
theorem sE(h: ∀v∈l,lF v)(hl:l.length≤1000):0≤eL st l∧eL st l≤4294967295000:=by
 obtain⟨h1,h2⟩:=DG (f:=oD st) (C:=4294967295) (l:=l) fun v hv=>BE<|h v hv
 unfold eL;omega
theorem U5(h:dK v.ka v.kb v.kc=0):oD st v=0:=by unfold oD;rw[if_pos h]
theorem U6(h: ¬dK v.ka v.kb v.kc=0):oD false v=v.kc:=by unfold oD;rw[if_neg h];rfl
theorem pw(h: ∀v∈l,lF v)(k:Nat): ∀v∈l.take k,lF v:=fun v hv=>h v<|List.mem_of_mem_take hv
theorem MA(a b c t:Int)(bt:Nat)(ha:0≤a∧a<18446744073709551616)(hb:0≤b∧b<18446744073709551616)(hc:0≤c∧c<18446744073709551616)(ht:0≤t∧t<18446744073709551616)(w:World)(r0:(cw bt [u_ t] 40).holds w):
  CW 232 #[.agg #[u_ a,u_ b,u_ c],p_ bt] w (.agg #[u_<|nH<|sv a b c t,u_<|nL<|sv a b c t]):=by
 refine A.C Tryz.func232 rfl (HS.nil w) (A.c<|A.n2 [.al,.al] [0] (fun b1 b2=>[(2,p_ b1),(3,p_ b2)]) (fun b1 b2=>[cw b1 [u_ a,u_ b,u_ c] 60,cw b2 [u_ 0,u_ 0] 213]) ?_)
 intro b1 b2
 refine A.c<|A.ks [.ld 0,.rd [u_ t],.cq<|.agg #[u_<|nH<|sv a b c t,u_<|nL<|sv a b c t],.st 1] [1,2] [] [(1,cw b2 [u_<|nH<|sv a b c t,u_<|nL<|sv a b c t] 213)] [b1,b2] (oc (ro ⟨bt,0,none⟩ (vs:=[u_ t])<|df r0 rfl)<|o1<|qo<|fun w s=>M7 a b c t ‹_› ‹_› ‹_› ‹_› w)<|A.e<|A.pc 1 [u_<|nH<|sv a b c t,u_<|nL<|sv a b c t] ?_
 rfl
theorem MC(a b c:Int)(ha:0≤a∧a<18446744073709551616)(hb:0≤b∧b<18446744073709551616)(hc:0≤c∧c<18446744073709551616)(w:World):
  CW 234 #[.agg #[u_ a,u_ b,u_ c]] w (.agg #[u_<|nH c,u_<|nL c]):=by
 refine A.C Tryz.func234 rfl (HS.nil w) (A.c<|A.n2 [.al,.al] [0] (fun b1 b2=>[(1,p_ b1),(2,p_ b2)]) (fun b1 b2=>[cw b1 [u_ a,u_ b,u_ c] 60,cw b2 [u_ 0,u_ 0] 213]) ?_)
 intro b1 b2
 refine A.c<|A.ks [.p,.ld 0,.cq<|.agg #[u_<|nH c,u_<|nL c],.st 1] [1] [] [(1,cw b2 [u_<|nH c,u_<|nL c] 213)] [b1,b2] (o1<|qo<|fun w s=>Nx c ‹_› w)<|A.e<|A.pc 1 [u_<|nH c,u_<|nL c] ?_
 rfl
theorem Np(al:Option Addr)(l:List Cv)(cl:Nat)(t:Int)(hl:l.length≤1000)(hR: ∀v∈l,lF v)(ht:0≤t∧t<18446744073709551616)(w:World)(r0:eo w al (V.dF fG l)):
  CW 181 #[vS al l cl,u_ t] w (.agg #[u_<|nH<|eQ l t,u_<|nL<|eQ l t]):=by
 refine A.C Tryz.func181 rfl (HS.nil w) (A.c<|A.n2 [.al,.al] [1] (fun b1 b2=>[(3,p_ b1),(4,p_ b2)]) (fun b1 b2=>[cw b1 [u_ t] 40,cw b2 [u_ 0,u_ 0] 213]) ?_)
 intro b1 b2
 refine A.c<|A.N [.p,.p] [0,3] [(5,vS al l cl),(6,.func (.func 232) #[] #[p_ b1])]<|A.j<|A.iX (some 7) [vS al l cl,.func (.func 232) #[] #[p_ b1]] Tryz.func231 rfl (A.c<|A.n1 [.al] [] (fun b3=>[(4,p_ b3)]) (fun b3=>cw b3 [u_ 0,u_ 0] 213) ?_)
 intro b3
 refine A.c<|A.n1 [.al] [] (fun b4=>[(5,p_ b4)]) (fun b4=>cw b4 [u_ 0,u_ 0] 213) ?_
 intro b4
 refine A.d<|A.c<|A.g (ps 3) [0] [(8,vS al l cl),(9,c_ l.length),(10,i_ 0)]<|A.y<|A.su 3 (cw b4 [u_<|nH<|eQ (l.take 0) t,u_<|nL<|eQ (l.take 0) t] 213) rfl (iL<|cc (congrArg u_ (by(simp[eQ,eL,nH,nL]):0=(nH<|eQ (l.take 0) t)))<|cc (congrArg u_ (by(simp[eQ,eL,nH,nL]):0=(nL<|eQ (l.take 0) t))) rfl) (A.lp (σ:=Nat) [] (fun k=>[(10,c_ k)]) [3] (fun k=>[cw b4 [u_<|nH<|eQ (l.take k) t,u_<|nL<|eQ (l.take k) t] 213]) (fun k=>(k≤l.length)) (fun k=>l.length-k) (0:Nat) (by omega) ?_ ?_)
 ·exact A.J [3,0,0,0]
 rintro k hk
 have hk:k≤l.length:=hk
 have hq:=sW (pw hR k) ht (by simp;omega)
 refine A.c<|A.g [.p] [] [(11,b_<|decide ((k:Int)<(l.length:Int)))]<|A.d<|A.v rfl (fun e1=>?_) (fun e1=>?_)
 ·have p1:=of_decide_eq_true e1
  refine A.p<|A.d<|A.y<|A.c<|A.kp [.ix] [11] [(12,.pointer<|some<|(dR al).add (k*3))] [] (o1<|io (k:Int)<|gW oM (by decide) (ef r0<|by simp[dE])<|by omega) ?_
  obtain⟨x5,hx5⟩: ∃x,(l)[k]? =some x:=⟨_,List.getElem?_eq_getElem<|by omega⟩
  refine A.no [.rd<|fG x5,.al,.st 4] [12] (fun b6=>[(7,p_ b6)]) (fun b6=>[]) (fun b6=>cw b6 (fG x5) 60) (fun b6=>[b6]) (fun b6=>o1<|ro ((dR al).add (k*3))<|fS (vs:=(fG x5)) oM (ef r0<|by simp[dE]) hx5 (Nat.le_of_ble_eq_true rfl) rfl) ?_
  intro b6
  refine A.c<|A.k [.ld 4,.cq<|b_<|dK x5.ka x5.kb x5.kc !=0] [] [(15,b_<|dK x5.ka x5.kb x5.kc !=0)] [b6] (o1<|qo<|fun w s=>qe x5.ka x5.kb x5.kc w)<|A.v rfl (fun e2=>?_) (fun e2=>?_)
  ·refine A.O [8] 9<|A.kd 1 [.ld 0,.p,.ld 4,.cq<|.agg #[u_<|nH<|sv x5.ka x5.kb x5.kc t,u_<|nL<|sv x5.ka x5.kb x5.kc t],.cq<|.tuple #[.agg #[u_<|nH<|((eQ (l.take k) t)+(sv x5.ka x5.kb x5.kc t))%340282366920938463463374607431768211456,u_<|nL<|((eQ (l.take k) t)+(sv x5.ka x5.kb x5.kc t))%340282366920938463463374607431768211456],b_<|decide ((eQ (l.take k) t)+(sv x5.ka x5.kb x5.kc t)≥340282366920938463463374607431768211456)],.p,.p,.p] (rg 0 8) [7,15] [(22,.agg #[u_<|nH<|((eQ (l.take k) t)+(sv x5.ka x5.kb x5.kc t))%340282366920938463463374607431768211456,u_<|nL<|((eQ (l.take k) t)+(sv x5.ka x5.kb x5.kc t))%340282366920938463463374607431768211456])] [b4,b6] (oc (qo<|fun w s=>MA x5.ka x5.kb x5.kc t b1 (by(obtain⟨q1_,q2_,q3_⟩:=lB<|hR _<|List.mem_of_getElem? ‹_›;exact q1_)) (by(obtain⟨q1_,q2_,q3_⟩:=lB<|hR _<|List.mem_of_getElem? ‹_›;exact q2_)) (by(obtain⟨q1_,q2_,q3_⟩:=lB<|hR _<|List.mem_of_getElem? ‹_›;exact q3_)) ‹_› w (s.mem (i:=1) rfl))<|o1<|qo<|fun w s=>zU (eQ (l.take k) t) (sv x5.ka x5.kb x5.kc t) (by(have h_:=sW (pw hR k) ht (by simp;omega);unfold iZ;omega)) (by(obtain⟨q1_,q2_,q3_⟩:=lB<|hR _<|List.mem_of_getElem? ‹_›;(have h1_:=xX q1_.1 q2_.1 q3_.1 ht;unfold iZ;omega))) w)<|A.F 8 rfl (A.ai 0 (vs:=[u_<|nH<|((eQ (l.take k) t)+(sv x5.ka x5.kb x5.kc t))%340282366920938463463374607431768211456,u_<|nL<|((eQ (l.take k) t)+(sv x5.ka x5.kb x5.kc t))%340282366920938463463374607431768211456]) [cw b4 [u_<|nH<|((eQ (l.take k) t)+(sv x5.ka x5.kb x5.kc t))%340282366920938463463374607431768211456,u_<|nL<|((eQ (l.take k) t)+(sv x5.ka x5.kb x5.kc t))%340282366920938463463374607431768211456] 213,cw b1 [u_ t] 40,cw b2 [u_ 0,u_ 0] 213,cw b3 [u_ 0,u_ 0] 213,cw b6 (fG x5) 60] (by kernel_rfl) rfl rfl rfl rfl (by kernel_rfl) rfl rfl (by kernel_rfl) rfl (A.E<|A.M<|A.s<|A.hk [.w<|(k:Int)+1,.p] [(1,.func (.func 232) #[] #[p_ b1]),(4,p_ b3),(5,p_ b4),(8,vS al l cl),(9,c_ l.length),(10,i_<|(k:Int)+1)] [] (o1<|wj ((k:Int)+1)<|by omega)<|?_))
   have hv7:(((eQ (l.take k) t)+(sv x5.ka x5.kb x5.kc t))%340282366920938463463374607431768211456)=(eQ (l.take<|k+1) t):=by(rw[nV ‹_›,Fv];obtain⟨q1_,q2_,q3_⟩:=lB<|hR _<|List.mem_of_getElem? ‹_›;have h1_:=xX q1_.1 q2_.1 q3_.1 ht;have h2_:=sW (pw hR k) ht (by simp;omega);(unfold vH;exact Int.emod_eq_of_lt (by omega)<|by omega))
   refine A.su 0 (cw b4 [u_<|nH<|eQ (l.take<|k+1) t,u_<|nL<|eQ (l.take<|k+1) t] 213) rfl (iL<|cc (congrArg u_ (by rw[hv7]:(nH<|((eQ (l.take k) t)+(sv x5.ka x5.kb x5.kc t))%340282366920938463463374607431768211456)=(nH<|eQ (l.take<|k+1) t)))<|cc (congrArg u_ (by rw[hv7]:(nL<|((eQ (l.take k) t)+(sv x5.ka x5.kb x5.kc t))%340282366920938463463374607431768211456)=(nL<|eQ (l.take<|k+1) t))) rfl) (A.Z (k+1) (by omega) (by omega) ?_)
   exact A.J [0,0,0,0]
  have p2:=e2;try simp only[dc] at p2
  refine A.p<|A.s<|A.k [.w<|(k:Int)+1,.p] [7,15] [(10,i_<|(k:Int)+1)] [] (o1<|wj ((k:Int)+1)<|by omega)<|?_
  have hv8:(eQ (l.take k) t)=(eQ (l.take<|k+1) t):=by(rw[nV ‹_›,Fv];obtain⟨q1_,q2_,q3_⟩:=lB<|hR _<|List.mem_of_getElem? ‹_›;have h1_:=xX q1_.1 q2_.1 q3_.1 ht;have h2_:=sW (pw hR k) ht (by simp;omega);(unfold vH sv;rw[if_pos ‹_›];omega))
  refine A.su 0 (cw b4 [u_<|nH<|eQ (l.take<|k+1) t,u_<|nL<|eQ (l.take<|k+1) t] 213) rfl (iL<|cc (congrArg u_ (by rw[hv8]:(nH<|eQ (l.take k) t)=(nH<|eQ (l.take<|k+1) t)))<|cc (congrArg u_ (by rw[hv8]:(nL<|eQ (l.take k) t)=(nL<|eQ (l.take<|k+1) t))) rfl) (A.Z (k+1) (by omega) (by omega) ?_)
  exact A.J [0,0,0,0]
 have p1:=of_decide_eq_false e1
 refine A.aA<|A.c<|A.gs [.ld 0,.st 3] [1,5,8,9,10,11] [] [(3,cw b3 [u_<|nH<|eQ (l.take k) t,u_<|nL<|eQ (l.take k) t] 213)] [b4,b3]<|A.e<|A.ak [.agg #[u_<|nH<|eQ (l.take k) t,u_<|nL<|eQ (l.take k) t]] (fun _ w r s=>⟨iF 3 r s,trivial⟩)<|A.ae (by kernel_rfl)<|A.aJ [cw b1 [u_ t] 40,cw b2 [u_ 0,u_ 0] 213] (sd [3,0])<|A.gT [.st 1] [(4,p_ b2)] [(1,cw b2 [u_<|nH<|eQ (l.take k) t,u_<|nL<|eQ (l.take k) t] 213)] [b2]<|A.e<|A.aL [.agg #[u_<|nH<|eQ (l.take k) t,u_<|nL<|eQ (l.take k) t]] (fun _ w r s=>⟨iF 1 r s,trivial⟩) ?_
 show((.agg #[u_<|nH<|eQ (l.take k) t,u_<|nL<|eQ (l.take k) t]):Value)=(.agg #[u_<|nH<|eQ l t,u_<|nL<|eQ l t])
 (have hk2:k=l.length:=by omega);subst hk2;rw[List.take_length]
theorem Fz(al:Option Addr)(l:List Cv)(cl:Nat)(hl:l.length≤1000)(hR: ∀v∈l,lF v)(w:World)(r0:eo w al (V.dF fG l)):
  CW 182 #[vS al l cl] w (.agg #[u_<|nH<|eL false l,u_<|nL<|eL false l]):=by
 refine A.C Tryz.func182 rfl (HS.nil w) (A.c<|A.n1 [.al] [] (fun b1=>[(2,p_ b1)]) (fun b1=>cw b1 [u_ 0,u_ 0] 213) ?_)
 intro b1
 refine A.c<|A.N [.p] [0] [(3,vS al l cl)]<|A.j<|A.iX (some 4) [vS al l cl,.func (.func 234) #[] #[]] Tryz.func231 rfl (A.c<|A.n1 [.al] [] (fun b2=>[(4,p_ b2)]) (fun b2=>cw b2 [u_ 0,u_ 0] 213) ?_)
 intro b2
 refine A.c<|A.n1 [.al] [] (fun b3=>[(5,p_ b3)]) (fun b3=>cw b3 [u_ 0,u_ 0] 213) ?_
 intro b3
 refine A.d<|A.c<|A.g (ps 3) [0] [(8,vS al l cl),(9,c_ l.length),(10,i_ 0)]<|A.y<|A.su 2 (cw b3 [u_<|nH<|eL false<|l.take 0,u_<|nL<|eL false<|l.take 0] 213) rfl (iL<|cc (congrArg u_ (by(simp[eQ,eL,nH,nL]):0=(nH<|eL false<|l.take 0)))<|cc (congrArg u_ (by(simp[eQ,eL,nH,nL]):0=(nL<|eL false<|l.take 0))) rfl) (A.lp (σ:=Nat) [] (fun k=>[(10,c_ k)]) [2] (fun k=>[cw b3 [u_<|nH<|eL false<|l.take k,u_<|nL<|eL false<|l.take k] 213]) (fun k=>(k≤l.length)) (fun k=>l.length-k) (0:Nat) (by omega) ?_ ?_)
 ·exact A.J [2,0,0]
 rintro k hk
 have hk:k≤l.length:=hk
 have hq:=sE (st:=false) (pw hR k) (by simp;omega)
 refine A.c<|A.g [.p] [] [(11,b_<|decide ((k:Int)<(l.length:Int)))]<|A.d<|A.v rfl (fun e1=>?_) (fun e1=>?_)
 ·have p1:=of_decide_eq_true e1
  refine A.p<|A.d<|A.y<|A.c<|A.kp [.ix] [11] [(12,.pointer<|some<|(dR al).add (k*3))] [] (o1<|io (k:Int)<|gW oM (by decide) (ef r0<|by simp[dE])<|by omega) ?_
  obtain⟨x4,hx4⟩: ∃x,(l)[k]? =some x:=⟨_,List.getElem?_eq_getElem<|by omega⟩
  refine A.no [.rd<|fG x4,.al,.st 3] [12] (fun b5=>[(7,p_ b5)]) (fun b5=>[]) (fun b5=>cw b5 (fG x4) 60) (fun b5=>[b5]) (fun b5=>o1<|ro ((dR al).add (k*3))<|fS (vs:=(fG x4)) oM (ef r0<|by simp[dE]) hx4 (Nat.le_of_ble_eq_true rfl) rfl) ?_
  intro b5
  refine A.c<|A.k [.ld 3,.cq<|b_<|dK x4.ka x4.kb x4.kc !=0] [] [(15,b_<|dK x4.ka x4.kb x4.kc !=0)] [b5] (o1<|qo<|fun w s=>qe x4.ka x4.kb x4.kc w)<|A.v rfl (fun e2=>?_) (fun e2=>?_)
  ·have p2:=e2;try simp only[dc] at p2
   refine A.O [8] 9<|A.kd 1 [.ld 0,.p,.ld 3,.cq<|.agg #[u_<|nH x4.kc,u_<|nL x4.kc],.cq<|.tuple #[.agg #[u_<|nH<|((eL false<|l.take k)+x4.kc)%340282366920938463463374607431768211456,u_<|nL<|((eL false<|l.take k)+x4.kc)%340282366920938463463374607431768211456],b_<|decide ((eL false<|l.take k)+x4.kc≥340282366920938463463374607431768211456)],.p,.p,.p] (rg 0 8) [7,15] [(22,.agg #[u_<|nH<|((eL false<|l.take k)+x4.kc)%340282366920938463463374607431768211456,u_<|nL<|((eL false<|l.take k)+x4.kc)%340282366920938463463374607431768211456])] [b3,b5] (oc (qo<|fun w s=>MC x4.ka x4.kb x4.kc (by(obtain⟨q1_,q2_,q3_⟩:=lB<|hR _<|List.mem_of_getElem? ‹_›;exact q1_)) (by(obtain⟨q1_,q2_,q3_⟩:=lB<|hR _<|List.mem_of_getElem? ‹_›;exact q2_)) (by(obtain⟨q1_,q2_,q3_⟩:=lB<|hR _<|List.mem_of_getElem? ‹_›;exact q3_)) w)<|o1<|qo<|fun w s=>zU (eL false<|l.take k) x4.kc (by(have h_:=sE (st:=false) (pw hR k) (by simp;omega);unfold iZ;omega)) (by(obtain⟨q1_,q2_,q3_⟩:=lB<|hR _<|List.mem_of_getElem? ‹_›;unfold iZ;omega)) w)<|A.F 8 rfl (A.ai 0 (vs:=[u_<|nH<|((eL false<|l.take k)+x4.kc)%340282366920938463463374607431768211456,u_<|nL<|((eL false<|l.take k)+x4.kc)%340282366920938463463374607431768211456]) [cw b3 [u_<|nH<|((eL false<|l.take k)+x4.kc)%340282366920938463463374607431768211456,u_<|nL<|((eL false<|l.take k)+x4.kc)%340282366920938463463374607431768211456] 213,cw b1 [u_ 0,u_ 0] 213,cw b2 [u_ 0,u_ 0] 213,cw b5 (fG x4) 60] (by kernel_rfl) rfl rfl rfl rfl (by kernel_rfl) rfl rfl (by kernel_rfl) rfl (A.E<|A.M<|A.s<|A.hk [.w<|(k:Int)+1,.p] [(1,.func (.func 234) #[] #[]),(4,p_ b2),(5,p_ b3),(8,vS al l cl),(9,c_ l.length),(10,i_<|(k:Int)+1)] [] (o1<|wj ((k:Int)+1)<|by omega)<|?_))
   have hv6:(((eL false<|l.take k)+x4.kc)%340282366920938463463374607431768211456)=(eL false<|l.take<|k+1):=by(rw[nV ‹_›,Eu];have hc_:=hR _<|List.mem_of_getElem? ‹_›;obtain⟨q1_,q2_,q3_⟩:=lB hc_;have h1_:=BE (st:=false) hc_;have h2_:=sE (st:=false) (pw hR k) (by simp;omega);(rw[U6 ‹_›] at h1_⊢;(try rw[if_pos ‹_›] at h1_⊢);(try rw[if_neg (by rw[(by assumption:(st&&_)=false)];decide)] at h1_⊢);(try rw[uZ] at h1_⊢);exact Int.emod_eq_of_lt (by omega)<|by omega))
   refine A.su 0 (cw b3 [u_<|nH<|eL false<|l.take<|k+1,u_<|nL<|eL false<|l.take<|k+1] 213) rfl (iL<|cc (congrArg u_ (by rw[hv6]:(nH<|((eL false<|l.take k)+x4.kc)%340282366920938463463374607431768211456)=(nH<|eL false<|l.take<|k+1)))<|cc (congrArg u_ (by rw[hv6]:(nL<|((eL false<|l.take k)+x4.kc)%340282366920938463463374607431768211456)=(nL<|eL false<|l.take<|k+1))) rfl) (A.Z (k+1) (by omega) (by omega) ?_)
   exact A.J [0,0,0]
  have p2:=e2;try simp only[dc] at p2
  refine A.p<|A.s<|A.k [.w<|(k:Int)+1,.p] [7,15] [(10,i_<|(k:Int)+1)] [] (o1<|wj ((k:Int)+1)<|by omega)<|?_
  have hv7:(eL false<|l.take k)=(eL false<|l.take<|k+1):=by(rw[nV ‹_›,Eu];have hc_:=hR _<|List.mem_of_getElem? ‹_›;obtain⟨q1_,q2_,q3_⟩:=lB hc_;have h1_:=BE (st:=false) hc_;have h2_:=sE (st:=false) (pw hR k) (by simp;omega);(rw[U5 ‹_›];omega))
  refine A.su 0 (cw b3 [u_<|nH<|eL false<|l.take<|k+1,u_<|nL<|eL false<|l.take<|k+1] 213) rfl (iL<|cc (congrArg u_ (by rw[hv7]:(nH<|eL false<|l.take k)=(nH<|eL false<|l.take<|k+1)))<|cc (congrArg u_ (by rw[hv7]:(nL<|eL false<|l.take k)=(nL<|eL false<|l.take<|k+1))) rfl) (A.Z (k+1) (by omega) (by omega) ?_)
  exact A.J [0,0,0]
 have p1:=of_decide_eq_false e1
 refine A.aA<|A.c<|A.gs [.ld 0,.st 2] [1,5,8,9,10,11] [] [(2,cw b2 [u_<|nH<|eL false<|l.take k,u_<|nL<|eL false<|l.take k] 213)] [b3,b2]<|A.e<|A.ak [.agg #[u_<|nH<|eL false<|l.take k,u_<|nL<|eL false<|l.take k]] (fun _ w r s=>⟨iF 2 r s,trivial⟩)<|A.ae (by kernel_rfl)<|A.aJ [cw b1 [u_ 0,u_ 0] 213] (sd [2,0])<|A.gT [.st 0] [(2,p_ b1)] [(0,cw b1 [u_<|nH<|eL false<|l.take k,u_<|nL<|eL false<|l.take k] 213)] [b1]<|A.e<|A.aL [.agg #[u_<|nH<|eL false<|l.take k,u_<|nL<|eL false<|l.take k]] (fun _ w r s=>⟨iF 0 r s,trivial⟩) ?_
 show((.agg #[u_<|nH<|eL false<|l.take k,u_<|nL<|eL false<|l.take k]):Value)=(.agg #[u_<|nH<|eL false l,u_<|nL<|eL false l])
 (have hk2:k=l.length:=by omega);subst hk2;rw[List.take_length]
end Go.Proofs.YtobgjpigngoggaaGreat
namespace Go.Proofs.YtobgjpigngoggaaGreat
open Go V Go.Sort
def vB(x:Int):List Value:=[(u_ x)]
theorem dI(x:Int):(vB x).length=1:=rfl
theorem Na(x:Int):(vB x).all Value.oneCell'=true:=rfl
abbrev sU(A:Option Addr)(xs:List Int)(c:Nat):V.dB:=sl A xs.length c 40 1<|V.dF vB xs
variable{d:Array Int}{i:Nat}{x:Int}
theorem iY(h:d.toList[i]? =some x):d[i]! =x:=by
 rw[Array.getElem?_toList] at h
 obtain⟨h1,h2⟩:=Array.getElem?_eq_some_iff.1 h
 rw[getElem!_pos d i h1,h2]
variable{j:Nat}{y:Int}
theorem sD(hx:d.toList[i]? =some x)(hy:d.toList[j]? =some y):(d.toList.set i y).set j x=(swp d i j).toList:=by
 unfold swp;rw[iY hx,iY hy];simp[Array.toList_setIfInBounds]
theorem jH(d:Array Int)(i j:Nat):(swp d i j).size=d.size:=swp_size d i j
variable{a:Nat}
theorem Nb(hj:a<j)(hx:d.toList[j]? =some x)(hy:d.toList[j-1]? =some y)(h:x<y):insInner ltInt a j d=insInner ltInt a (j-1) (swp d j<|j-1):=by
 obtain⟨k,rfl⟩: ∃k,j=k+1:=⟨j-1,by omega⟩
 rw[Nat.add_sub_cancel] at hy⊢
 rw[insInner,iY hx,iY hy,if_pos];simp[ltInt];omega
theorem Nc(h: ¬a<j):insInner ltInt a j d=d:=by
 cases j with
 |zero=>rfl
 |succ k=>rw[insInner,if_neg];simp;omega
theorem Lo(hj:a<j)(hx:d.toList[j]? =some x)(hy:d.toList[j-1]? =some y)(h: ¬x<y):insInner ltInt a j d=d:=by
 obtain⟨k,rfl⟩: ∃k,j=k+1:=⟨j-1,by omega⟩
 rw[Nat.add_sub_cancel] at hy
 rw[insInner,iY hx,iY hy,if_neg];simp[ltInt];omega
variable{b:Nat}
theorem Ep(h:i<b):insOuter ltInt a b i d=insOuter ltInt a b (i+1) (insInner ltInt a i d):=by rw[insOuter,if_pos h]
theorem Lp(h: ¬i<b):insOuter ltInt a b i d=d:=by rw[insOuter,if_neg h]
theorem Nh(h:i<j):reverseLoop i j d=reverseLoop (i+1) (j-1) (swp d i j):=by rw[reverseLoop,if_pos h]
theorem Ni(h: ¬i<j):reverseLoop i j d=d:=by rw[reverseLoop,if_neg h]
variable{s:Nat}
theorem S5(hx:d.toList[b]? =some x)(hy:d.toList[a]? =some y)(h:x<y):order2 ltInt d a b s=(b,a,s+1):=by
 unfold order2;rw[iY hx,iY hy,if_pos];simpa[ltInt] using h
theorem S7(hx:d.toList[b]? =some x)(hy:d.toList[a]? =some y)(h: ¬x<y):order2 ltInt d a b s=(a,b,s):=by
 unfold order2;rw[iY hx,iY hy,if_neg];simpa[ltInt] using h
theorem uk(n:Nat):(n:Int).tdiv 4=((n/4:Nat):Int):=rfl
theorem S8(n:Nat):(n:Int).tdiv 2=((n/2:Nat):Int):=rfl
theorem S9(n:Nat):(n:Int).tdiv 8=((n/8:Nat):Int):=rfl
theorem js(x y:Int)(w:World):
  CW 220 #[u_ x,u_ y] w (b_<|decide (x<y)):=by
 refine A.C Tryz.func220 rfl (HS.nil w) (A.c<|A.g [.p] [] []<|A.c<|A.N [.p] [] [(5,u_ x)]<|A.j<|A.iX (some 6) [u_ x] Tryz.func256 rfl (A.c<|A.g [.p] [] []<|A.c<|A.g (ps 4) [0] [(2,b_<|x !=x)]<|A.e<|A.pb [b_<|x !=x]<|A.hp [.p] [(0,u_ x),(1,u_ y),(7,b_<|x !=x)] []<|A.aP (x !=x) (fun e1=>?_)<|fun e1=>?_))
 ·exact absurd e1<|by simp
 refine A.D 7 (b_ false) (gu e1)<|A.g [.sk,.sk,.sk,.p,.p,.p,.p,.p,.p,.p] [0,1,7] [(4,b_<|decide (x<y))]<|A.e<|A.W [b_<|decide (x<y)] ?_
 rfl
theorem Lq(al:Option Addr)(d:Array Int)(cl:Nat)(a b:Nat)(hb:a≤b∧b≤d.size)(hS:d.size≤100000):
  CS 272 #[vS al d.toList cl,c_ a,c_ b] [sU al d.toList cl] (fun(d':(Array Int))=>(.tuple #[])) (fun d'=>d'=insertionSort ltInt d a b∧d'.size=d.size) fun d'=>[sU al d'.toList cl]:=by
 intro w hs
 refine A.C Tryz.func272 rfl hs (A.c<|A.k [.p,.w ((a+1:Nat):Int),.p] [] [(6,c_ (a+1:Nat))] [] (o1<|wi ((a:Int)+1) ((a+1:Nat):Int)<|by omega)<|A.y<|A.lp (σ:=Nat×(Array Int)) [] (fun(i,d2)=>[(6,c_ i),(0,vS al d2.toList cl)]) [0] (fun(i,d2)=>[sU al d2.toList cl]) (fun(i,d2)=>(insOuter ltInt a b i d2=insertionSort ltInt d a b)∧(d2.size=d.size)) (fun(i,d2)=>b-i) ((a+1:Nat),d) ⟨(by rfl),(by rfl)⟩ ?_ ?_)
 ·exact A.J [0]
 rintro⟨i,d2⟩ ⟨he,hz⟩
 refine A.d<|A.c<|A.g (ps 3) [] [(12,b_<|decide ((i:Int)<(b:Int)))]<|A.v rfl (fun e1=>?_) (fun e1=>?_)
 ·have p1:=of_decide_eq_true e1
  refine A.p<|A.d<|A.y<|A.c<|A.g [.p,.p] [12] [(7,c_ i)]<|A.y<|A.lp (σ:=Nat×(Array Int)) [] (fun(j,d3)=>[(7,c_ j),(0,vS al d3.toList cl)]) [0] (fun(j,d3)=>[sU al d3.toList cl]) (fun(j,d3)=>(insInner ltInt a j d3=insInner ltInt a i d2)∧(d3.size=d.size)∧(j≤i)) (fun(j,d3)=>j) (i,d2) ⟨(by rfl),(by omega),(by omega)⟩ ?_ ?_
  ·exact A.J [0]
  rintro⟨j,d3⟩ ⟨he3,hz3,hj⟩
  refine A.d<|A.d<|A.O [] 15<|A.dT 11 (ps 4) (rg 0 4) [] [(19,b_<|decide ((j:Int)>(a:Int)))] []<|A.aP (decide ((j:Int)>(a:Int))) (fun e2=>?_)<|fun e2=>?_
  ·have p2:=of_decide_eq_true e2
   refine A.D 19 (b_ true) (gu e2) ?_
   obtain⟨x1,hx1⟩: ∃x,(d3.toList)[j]? =some x:=⟨_,List.getElem?_eq_getElem<|by(simp;omega)⟩
   obtain⟨x2,hx2⟩: ∃x,(d3.toList)[(j-1:Nat)]? =some x:=⟨_,List.getElem?_eq_getElem<|by(simp;omega)⟩
   refine A.kd 0 [.p,.p,.ix,.rd [u_ x1],.p,.p,.w ((j-1:Nat):Int),.ix,.rd [u_ x2],.cq<|b_<|decide (x1<x2),.p] (rg 4 11) [19] [(20,vS al d3.toList cl),(21,c_ j),(22,.pointer<|some<|(dR al).add (j*1)),(23,u_ x1),(24,vS al d3.toList cl),(25,c_ j),(26,c_ (j-1:Nat)),(27,.pointer<|some<|(dR al).add ((j-1:Nat)*1)),(28,u_ x2),(29,b_<|decide (x1<x2)),(30,b_<|decide (x1<x2))] [] (oc (dW 0 j dI rfl (by(simp;omega)))<|oc (eJ 0 j [u_ x1] dI rfl hx1)<|oc (wi ((j:Int)-1) ((j-1:Nat):Int)<|by omega)<|oc (dW 0 (j-1:Nat) dI rfl (by(simp;omega)))<|oc (eJ 0 (j-1:Nat) [u_ x2] dI rfl hx2)<|o1<|qo<|fun w s=>js x1 x2 w)<|A.M<|A.v rfl (fun e3=>?_) (fun e3=>?_)
   ·have p3:=of_decide_eq_true e3
    refine A.p<|A.d<|A.y<|A.O [15,17] 18<|A.kd 3 [.p,.p,.p,.p,.w ((j-1:Nat):Int),.p,.p,.w ((j-1:Nat):Int),.ix,.rd [u_ x2],.p,.p,.ix,.rd [u_ x1],.ix] (rg 0 15) [30] [(35,vS al d3.toList cl),(37,c_ (j-1:Nat)),(42,u_ x2),(46,u_ x1),(47,.pointer<|some<|(dR al).add (j*1))] [] (oc (wi ((j:Int)-1) ((j-1:Nat):Int)<|by omega)<|oc (wi ((j:Int)-1) ((j-1:Nat):Int)<|by omega)<|oc (dW 0 (j-1:Nat) dI rfl (by(simp;omega)))<|oc (eJ 0 (j-1:Nat) [u_ x2] dI rfl hx2)<|oc (dW 0 j dI rfl (by(simp;omega)))<|oc (eJ 0 j [u_ x1] dI rfl hx1)<|o1<|dW 0 j dI rfl (by(simp;omega)))<|A.F 15 rfl (A.sS 0 j x2 rfl dI (by(simp;omega)) (A.D 0 (vS al (d3.toList.set j x2) cl) (dh<|by simp)<|A.D 20 (vS al (d3.toList.set j x2) cl) (dh<|by simp)<|A.D 24 (vS al (d3.toList.set j x2) cl) (dh<|by simp)<|A.D 35 (vS al (d3.toList.set j x2) cl) (dh<|by simp)<|A.E<|A.kd 1 [.ix] [16] [35,37,42,47] [(48,.pointer<|some<|(dR al).add ((j-1:Nat)*1))] [] (o1<|dW 0 (j-1:Nat) dI rfl (by(simp;omega)))<|A.F 17 rfl (A.sS 0 (j-1:Nat) x1 rfl dI (by(simp;omega)) (A.D 0 (vS al ((d3.toList.set j x2).set (j-1:Nat) x1) cl) (dh<|by simp)<|A.D 20 (vS al ((d3.toList.set j x2).set (j-1:Nat) x1) cl) (dh<|by simp)<|A.D 24 (vS al ((d3.toList.set j x2).set (j-1:Nat) x1) cl) (dh<|by simp)<|A.E<|A.M ?_))))
    have hcv3:((d3.toList.set j x2).set (j-1:Nat) x1)=(swp d3 j (j-1:Nat)).toList:=by exact sD hx1 hx2
    refine A.su 0 (sU al ((swp d3 j (j-1:Nat)).toList) cl) rfl (eI hcv3) (A.D 0 (vS al ((swp d3 j (j-1:Nat)).toList) cl) (fN hcv3)<|A.D 20 (vS al ((swp d3 j (j-1:Nat)).toList) cl) (fN hcv3)<|A.D 24 (vS al ((swp d3 j (j-1:Nat)).toList) cl) (fN hcv3)<|A.s<|A.k [.p,.w ((j-1:Nat):Int),.p] [46,48] [(7,c_ (j-1:Nat))] [] (o1<|wi ((j:Int)-1) ((j-1:Nat):Int)<|by omega)<|A.Z ((j-1:Nat),swp d3 j (j-1:Nat)) ⟨((Nb (by omega) ‹_› ‹_› (by omega)).symm.trans he3),(by(rw[jH];omega)),(by omega)⟩ (by(simp;omega)) ?_)
    exact A.J [0]
   have p3:=of_decide_eq_false e3
   refine A.aA<|A.s<|A.k [.p,.w ((i+1:Nat):Int),.p] [7,30] [(6,c_ (i+1:Nat))] [] (o1<|wi ((i:Int)+1) ((i+1:Nat):Int)<|by omega)<|A.Z ((i+1:Nat),d3) ⟨(by exact(by rw[Ep<|by omega] at he;(rw[←he3,Lo (by omega) ‹_› ‹_› (by omega)] at he;exact he))),(by omega)⟩ (by(simp;omega)) ?_
   exact A.J [0]
  have p2:=of_decide_eq_false e2
  refine A.D 19 (b_ false) (gu e2)<|A.dT 0 [.sk,.sk,.sk,.sk,.sk,.sk,.sk,.sk,.sk,.sk,.p] (rg 4 11) [19] [(30,b_ false)] []<|A.M<|A.cf<|A.aA<|A.s<|A.k [.p,.w ((i+1:Nat):Int),.p] [7,30] [(6,c_ (i+1:Nat))] [] (o1<|wi ((i:Int)+1) ((i+1:Nat):Int)<|by omega)<|A.Z ((i+1:Nat),d3) ⟨(by exact(by rw[Ep<|by omega] at he;(rw[←he3,Nc<|by omega] at he;exact he))),(by omega)⟩ (by(simp;omega)) ?_
  exact A.J [0]
 have p1:=of_decide_eq_false e1
 refine A.aA<|A.aN [0] [] (fun _ w r s=>trivial) (d2) ?_ ?_<|by kernel_rfl
 ·rfl
 (rw[Lp<|by omega] at he;exact⟨he,hz⟩)
theorem Lr(al:Option Addr)(d:Array Int)(cl:Nat)(a b:Nat)(hb:b≤d.size∧1≤b)(hS:d.size≤100000):
  CS 276 #[vS al d.toList cl,c_ a,c_ b] [sU al d.toList cl] (fun(d':(Array Int))=>(.tuple #[])) (fun d'=>d'=reverseRange d a b∧d'.size=d.size) fun d'=>[sU al d'.toList cl]:=by
 intro w hs
 refine A.C Tryz.func276 rfl hs (A.c<|A.g [.p,.p] [1] [(6,c_ a)]<|A.c<|A.k [.p,.w ((b-1:Nat):Int),.p] [2] [(7,c_ (b-1:Nat))] [] (o1<|wi ((b:Int)-1) ((b-1:Nat):Int)<|by omega)<|A.y<|A.lp (σ:=Nat×Nat×(Array Int)) [] (fun(i,j,d2)=>[(6,c_ i),(7,c_ j),(0,vS al d2.toList cl)]) [0] (fun(i,j,d2)=>[sU al d2.toList cl]) (fun(i,j,d2)=>(reverseLoop i j d2=reverseRange d a b)∧(d2.size=d.size)∧(j<b)) (fun(i,j,d2)=>j-i) (a,(b-1:Nat),d) ⟨(by rfl),(by rfl),(by omega)⟩ ?_ ?_)
 ·exact A.J [0]
 rintro⟨i,j,d2⟩ ⟨he,hz,hj⟩
 refine A.d<|A.c<|A.g (ps 3) [] [(13,b_<|decide ((i:Int)<(j:Int)))]<|A.v rfl (fun e1=>?_) (fun e1=>?_)
 ·have p1:=of_decide_eq_true e1
  refine A.p<|A.y<|A.d<|A.O [13,15] 16 ?_
  obtain⟨x1,hx1⟩: ∃x,(d2.toList)[j]? =some x:=⟨_,List.getElem?_eq_getElem<|by(simp;omega)⟩
  obtain⟨x2,hx2⟩: ∃x,(d2.toList)[i]? =some x:=⟨_,List.getElem?_eq_getElem<|by(simp;omega)⟩
  refine A.kd 3 [.p,.p,.p,.p,.p,.p,.ix,.rd [u_ x1],.p,.p,.ix,.rd [u_ x2],.ix] (rg 0 13) [13] [(16,vS al d2.toList cl),(17,c_ j),(21,u_ x1),(25,u_ x2),(26,.pointer<|some<|(dR al).add (i*1))] [] (oc (dW 0 j dI rfl (by(simp;omega)))<|oc (eJ 0 j [u_ x1] dI rfl hx1)<|oc (dW 0 i dI rfl (by(simp;omega)))<|oc (eJ 0 i [u_ x2] dI rfl hx2)<|o1<|dW 0 i dI rfl (by(simp;omega)))<|A.F 13 rfl (A.sS 0 i x1 rfl dI (by(simp;omega)) (A.D 0 (vS al (d2.toList.set i x1) cl) (dh<|by simp)<|A.D 16 (vS al (d2.toList.set i x1) cl) (dh<|by simp)<|A.E<|A.kd 1 [.ix] [14] [16,17,21,26] [(27,.pointer<|some<|(dR al).add (j*1))] [] (o1<|dW 0 j dI rfl (by(simp;omega)))<|A.F 15 rfl (A.sS 0 j x2 rfl dI (by(simp;omega)) (A.D 0 (vS al ((d2.toList.set i x1).set j x2) cl) (dh<|by simp)<|A.E<|A.M ?_))))
  have hcv3:((d2.toList.set i x1).set j x2)=(swp d2 i j).toList:=by exact sD hx2 hx1
  refine A.su 0 (sU al ((swp d2 i j).toList) cl) rfl (eI hcv3) (A.D 0 (vS al ((swp d2 i j).toList) cl) (fN hcv3)<|A.c<|A.k [.p,.w ((i+1:Nat):Int),.p] [25,27] [(6,c_ (i+1:Nat))] [] (o1<|wi ((i:Int)+1) ((i+1:Nat):Int)<|by omega)<|A.s<|A.k [.p,.w ((j-1:Nat):Int),.p] [] [(7,c_ (j-1:Nat))] [] (o1<|wi ((j:Int)-1) ((j-1:Nat):Int)<|by omega)<|(A.Z ((i+1:Nat),(j-1:Nat),swp d2 i j) ⟨(by(rw[Nh<|by omega] at he;exact he)),(by(rw[jH];omega)),(by omega)⟩ (by(simp;omega)) ?_))
  exact A.J [0]
 have p1:=of_decide_eq_false e1
 refine A.aA<|A.aN [0] [] (fun _ w r s=>trivial) (d2) ?_ ?_<|by kernel_rfl
 ·rfl
 (rw[Ni<|by omega] at he;exact⟨he,hz⟩)
abbrev oY(p0)(p1:Array Int)(p2)(p3)(p4):=([sU p0 p1.toList p2,cw p3 [c_ p4] 3]:List V.dB)
theorem zQ(al:Option Addr)(d:Array Int)(cl:Nat)(a b bs s:Nat)(ha:a<d.size)(hb:b<d.size)(hS:d.size≤100000)(hs9:s≤100)(w:World)(hs:HI w (oY al d cl bs s)):
  CV 287 #[vS al d.toList cl,c_ a,c_ b,p_ bs] w (oY al d cl bs s) (fun((x',y',t'):Nat×Nat×Nat)=>(.tuple #[c_ x',c_ y'])) (fun(x',y',t')=>order2 ltInt d a b s=(x',y',t')) fun(x',y',t')=>(oY al d cl bs t'):=by
 refine A.C Tryz.func287 rfl hs (A.c<|A.g [.p,.p] [] []<|A.d<|A.d ?_)
 obtain⟨x1,hx1⟩: ∃x,(d.toList)[b]? =some x:=⟨_,List.getElem?_eq_getElem<|by omega⟩
 obtain⟨x2,hx2⟩: ∃x,(d.toList)[a]? =some x:=⟨_,List.getElem?_eq_getElem<|by omega⟩
 refine A.ka [.p,.p,.ix,.rd [u_ x1],.p,.p,.ix,.rd [u_ x2],.cq<|b_<|decide (x1<x2)] (rg 0 9) [0] [(18,b_<|decide (x1<x2))] [] (oc (dW 0 b dI rfl (by omega))<|oc (eJ 0 b [u_ x1] dI rfl hx1)<|oc (dW 0 a dI rfl (by omega))<|oc (eJ 0 a [u_ x2] dI rfl hx2)<|o1<|qo<|fun w s=>js x1 x2 w)<|A.v rfl (fun e1=>?_) (fun e1=>?_)
 ·have p1:=of_decide_eq_true e1
  refine A.c<|A.ks [.p,.p,.ld 1,.w ((s+1:Nat):Int),.p,.st 1] [3,18] [] [(1,cw bs [c_ (s+1:Nat)] 3)] [bs,bs] (o1<|wi ((s:Int)+1) ((s+1:Nat):Int)<|by omega)<|A.c<|A.g (ps 4) [1,2] [(8,c_ b),(9,c_ a)]<|A.e<|A.Y [0,0] [c_ b,c_ a] (b,a,(s+1:Nat)) ?_ ?_
  ·rfl
  exact S5 ‹_› ‹_› (by omega)
 have p1:=of_decide_eq_false e1
 refine A.p<|A.c<|A.g (ps 4) [1,2,3,18] [(8,c_ a),(9,c_ b)]<|A.e<|A.Y [0,0] [c_ a,c_ b] (a,b,s) ?_ ?_
 ·rfl
 exact S7 ‹_› ‹_› (by omega)
theorem AE(al:Option Addr)(d:Array Int)(cl:Nat)(a b c bs s:Nat)(ha:a<d.size)(hb:b<d.size)(hc:c<d.size)(hS:d.size≤100000)(hs9:s≤90)(w:World)(hs:HI w (oY al d cl bs s)):
  CV 286 #[vS al d.toList cl,c_ a,c_ b,c_ c,p_ bs] w (oY al d cl bs s) (fun((m',t'):Nat×Nat)=>(c_ m')) (fun(m',t')=>median ltInt d a b c s=(m',t')) fun(m',t')=>(oY al d cl bs t'):=by
 refine A.C Tryz.func286 rfl hs (A.c<|A.g [.p] [] []<|A.c<|A.N (ps 4) [] [(12,vS al d.toList cl),(13,c_ a),(14,c_ b),(15,p_ bs)]<|A.j<|A.I (some 16) [0,0] (fun w ss h=>zQ al d cl a b bs s ‹_› ‹_› ‹_› (by omega) w h) ?_)
 rintro⟨x'1,y'2,t'3⟩ hz1
 have hz1m:=order2_mem ltInt d a b s;rw[hz1] at hz1m;simp only[] at hz1m;have hz1c:=order2_count (lt:=ltInt) d a b s;rw[hz1] at hz1c;simp only[] at hz1c
 refine A.g (ps 5) [12,13,14,15,16] [(1,c_ x'1),(2,c_ y'2)]<|A.c<|A.N (ps 4) [3] [(20,vS al d.toList cl),(21,c_ y'2),(22,c_ c),(23,p_ bs)]<|A.j<|A.I (some 24) [0,0] (fun w s h=>zQ al d cl y'2 c bs t'3 (by omega) ‹_› ‹_› (by omega) w h) ?_
 rintro⟨x'4,y'5,t'6⟩ hz2
 have hz2m:=order2_mem ltInt d y'2 c t'3;rw[hz2] at hz2m;simp only[] at hz2m;have hz2c:=order2_count (lt:=ltInt) d y'2 c t'3;rw[hz2] at hz2c;simp only[] at hz2c
 refine A.g (ps 5) [20,21,22,23,24] [(2,c_ x'4)]<|A.c<|A.N (ps 4) [0,1,4] [(28,vS al d.toList cl),(29,c_ x'1),(30,c_ x'4),(31,p_ bs)]<|A.j<|A.I (some 32) [0,0] (fun w s h=>zQ al d cl x'1 x'4 bs t'6 (by omega) (by omega) ‹_› (by omega) w h) ?_
 rintro⟨x'7,y'8,t'9⟩ hz3
 have hz3m:=order2_mem ltInt d x'1 x'4 t'6;rw[hz3] at hz3m;simp only[] at hz3m;have hz3c:=order2_count (lt:=ltInt) d x'1 x'4 t'6;rw[hz3] at hz3c;simp only[] at hz3c
 refine A.g (ps 5) [28,29,30,31,32] [(2,c_ y'8)]<|A.c<|A.g [.p,.p] [2] [(10,c_ y'8)]<|A.e<|A.Y [0,0] [c_ y'8] (y'8,t'9) ?_ ?_
 ·rfl
 (unfold median;simp only[*])
theorem zR(al:Option Addr)(d:Array Int)(cl:Nat)(a bs s:Nat)(ha:1≤a∧a+1<d.size)(hS:d.size≤100000)(hs9:s≤90)(w:World)(hs:HI w (oY al d cl bs s)):
  CV 285 #[vS al d.toList cl,c_ a,p_ bs] w (oY al d cl bs s) (fun((m',t'):Nat×Nat)=>(c_ m')) (fun(m',t')=>medianAdjacent ltInt d a s=(m',t')) fun(m',t')=>(oY al d cl bs t'):=by
 refine A.C Tryz.func285 rfl hs (A.c<|A.g [.p] [] []<|A.c<|A.kp [.p,.p,.w ((a-1:Nat):Int),.p,.p,.w ((a+1:Nat):Int),.p] [0,1,2] [(7,vS al d.toList cl),(9,c_ (a-1:Nat)),(10,c_ a),(12,c_ (a+1:Nat)),(13,p_ bs)] [] (oc (wi ((a:Int)-1) ((a-1:Nat):Int)<|by omega)<|o1<|wi ((a:Int)+1) ((a+1:Nat):Int)<|by omega)<|A.j<|A.I (some 14) [0,0] (fun w ss h=>AE al d cl (a-1:Nat) a (a+1:Nat) bs s (by omega) (by omega) (by omega) ‹_› ‹_› w h) ?_)
 rintro⟨m'1,t'2⟩ hz1
 have hz1m:=median_mem ltInt d (a-1:Nat) a (a+1:Nat) s;rw[hz1] at hz1m;simp only[] at hz1m;have hz1c:=median_count (lt:=ltInt) d (a-1:Nat) a (a+1:Nat) s;rw[hz1] at hz1c;simp only[] at hz1c
 refine A.g [.p] [7,9,10,12,13,14] [(6,c_ m'1)]<|A.e<|A.Y [0,0] [c_ m'1] (m'1,t'2) ?_ ?_
 ·rfl
 (unfold medianAdjacent;assumption)
variable{hi F r:Nat}
theorem Ls(h:hi≤2*r+1):siftDown ltInt hi F r d=d:=by rw[siftDown,dif_pos<|by omega]
variable{c q2:Nat}{y2 z:Int}
theorem PW{p q:Nat}(hc:c=2*r+2)(h:c<hi)(h1:d.toList[p]? =some x)(hp:p=F+(2*r+1))(h2:d.toList[q]? =some y)(hq:q=F+(2*r+1)+1)(hlt:x<y)
  (h3:d.toList[s]? =some z)(hs:s=F+r)(h4:d.toList[q2]? =some y2)(hq2:q2=F+c)(hlt2:z<y2):siftDown ltInt hi F r d=siftDown ltInt hi F c (swp d s q2):=by
 have e:q2=q:=by omega
 have ey:y2=y:=by rw[e,h2] at h4;cases h4;rfl
 subst hp;subst hc
 rw[siftDown,dif_neg<|by omega,if_pos (by rw[iY h1];rw[←hq,iY h2];simp[ltInt];omega),if_neg (by rw[←hs,iY h3,←hq2,iY h4];simp[ltInt];omega),dif_pos<|by omega,hs,hq2]
theorem PX{p q:Nat}(hc:c=2*r+2)(h:c<hi)(h1:d.toList[p]? =some x)(hp:p=F+(2*r+1))(h2:d.toList[q]? =some y)(hq:q=F+(2*r+1)+1)(hlt:x<y)
  (h3:d.toList[s]? =some z)(hs:s=F+r)(h4:d.toList[q2]? =some y2)(hq2:q2=F+c)(hlt2: ¬z<y2):siftDown ltInt hi F r d=d:=by
 have e:q2=q:=by omega
 have ey:y2=y:=by rw[e,h2] at h4;cases h4;rfl
 subst hp;subst hc
 rw[siftDown,dif_neg<|by omega,if_pos (by rw[iY h1];rw[←hq,iY h2];simp[ltInt];omega),if_pos (by rw[←hs,iY h3,←hq2,iY h4];simp[ltInt];omega)]
theorem HZ(hc:c=2*r+1)(h:c<hi)(hn: ¬(c+1<hi)∨ ∃p q x y,d.toList[p]? =some x∧p=F+(2*r+1)∧d.toList[q]? =some y∧q=F+(2*r+1)+1∧ ¬x<y)
  (h3:d.toList[s]? =some z)(hs:s=F+r)(h4:d.toList[q2]? =some y2)(hq2:q2=F+c)(hlt2:z<y2):siftDown ltInt hi F r d=siftDown ltInt hi F c (swp d s q2):=by
 subst hc
 have hk:(decide (2*r+1+1<hi)&&ltInt d[F+(2*r+1)]! d[F+(2*r+1)+1]!)=false:=by
  rcases hn with g|⟨p,q,x,y,g1,rfl,g2,g3,g4⟩
  ·simp[g]
  ·rw[iY g1,←g3,iY g2];simp[ltInt];intro _;omega
 rw[siftDown,dif_neg<|by omega,if_neg (by rw[hk];decide),if_neg (by rw[←hs,iY h3,←hq2,iY h4];simp[ltInt];omega),hs,hq2]
theorem H2(hc:c=2*r+1)(h:c<hi)(hn: ¬(c+1<hi)∨ ∃p q x y,d.toList[p]? =some x∧p=F+(2*r+1)∧d.toList[q]? =some y∧q=F+(2*r+1)+1∧ ¬x<y)
  (h3:d.toList[s]? =some z)(hs:s=F+r)(h4:d.toList[q2]? =some y2)(hq2:q2=F+c)(hlt2: ¬z<y2):siftDown ltInt hi F r d=d:=by
 subst hc
 have hk:(decide (2*r+1+1<hi)&&ltInt d[F+(2*r+1)]! d[F+(2*r+1)+1]!)=false:=by
  rcases hn with g|⟨p,q,x,y,g1,rfl,g2,g3,g4⟩
  ·simp[g]
  ·rw[iY g1,←g3,iY g2];simp[ltInt];intro _;omega
 rw[siftDown,dif_neg<|by omega,if_neg (by rw[hk];decide),if_pos (by rw[←hs,iY h3,←hq2,iY h4];simp[ltInt];omega)]
theorem PY{k:Nat}(h:1≤k):heapBuild ltInt hi F k d=heapBuild ltInt hi F (k-1) (siftDown ltInt hi F (k-1) d):=by
 obtain⟨j,rfl⟩: ∃j,k=j+1:=⟨k-1,by omega⟩
 rfl
theorem PZ{k:Nat}(h:1≤k):heapPop ltInt F k d=heapPop ltInt F (k-1) (siftDown ltInt (k-1) F 0<|swp d F<|F+(k-1)):=by
 obtain⟨j,rfl⟩: ∃j,k=j+1:=⟨k-1,by omega⟩
 rfl
theorem Nj(al:Option Addr)(d:Array Int)(cl:Nat)(a b:Nat)(hb:a<b∧b≤d.size)(hS:d.size≤100000):
  CS 275 #[vS al d.toList cl,c_ a,c_ b] [sU al d.toList cl] (fun(zz:Unit)=>(.tuple #[i_ ((rawPivot ltInt d a b).1:Int),i_<|hintCode<|hintOf (rawPivot ltInt d a b).2])) (fun _=>True) fun _=>[sU al d.toList cl]:=by
 intro w hs
 refine A.C Tryz.func275 rfl hs (A.c<|A.g [.p,.p] [] []<|A.c<|A.k [.p,.p,.w ((b-a:Nat):Int),.p] [2] [(8,c_ (b-a:Nat))] [] (o1<|wi ((b:Int)-(a:Int)) ((b-a:Nat):Int)<|by omega)<|A.c<|A.n1 [.al] [] (fun b1=>[(9,p_ b1)]) (fun b1=>cw b1 [i_ 0] 3) ?_)
 intro b1
 refine A.c<|A.k [.p,.p,.w (((b-a)/4:Nat):Int),.w ((((b-a)/4)*1:Nat):Int),.w ((a+(((b-a)/4)*1):Nat):Int),.p] [] [(10,c_ (a+(((b-a)/4)*1):Nat))] [] (oc (wo<|(km (e:=((b-a:Nat):Int).tdiv 4)<|by(rw[uk];constructor<;>omega)).trans (by rfl:(((b-a:Nat):Int).tdiv 4:Int)=(((b-a)/4:Nat):Int)))<|oc (wi ((((b-a)/4:Nat):Int)*1) ((((b-a)/4)*1:Nat):Int)<|by omega)<|o1<|wi ((a:Int)+((((b-a)/4)*1:Nat):Int)) ((a+(((b-a)/4)*1):Nat):Int)<|by omega) ?_
 refine A.c<|A.k [.p,.p,.w (((b-a)/4:Nat):Int),.w ((((b-a)/4)*2:Nat):Int),.w ((a+(((b-a)/4)*2):Nat):Int),.p] [] [(11,c_ (a+(((b-a)/4)*2):Nat))] [] (oc (wo<|(km (e:=((b-a:Nat):Int).tdiv 4)<|by(rw[uk];constructor<;>omega)).trans (by rfl:(((b-a:Nat):Int).tdiv 4:Int)=(((b-a)/4:Nat):Int)))<|oc (wi ((((b-a)/4:Nat):Int)*2) ((((b-a)/4)*2:Nat):Int)<|by omega)<|o1<|wi ((a:Int)+((((b-a)/4)*2:Nat):Int)) ((a+(((b-a)/4)*2):Nat):Int)<|by omega) ?_
 refine A.c<|A.k [.p,.p,.w (((b-a)/4:Nat):Int),.w ((((b-a)/4)*3:Nat):Int),.w ((a+(((b-a)/4)*3):Nat):Int),.p] [1] [(12,c_ (a+(((b-a)/4)*3):Nat))] [] (oc (wo<|(km (e:=((b-a:Nat):Int).tdiv 4)<|by(rw[uk];constructor<;>omega)).trans (by rfl:(((b-a:Nat):Int).tdiv 4:Int)=(((b-a)/4:Nat):Int)))<|oc (wi ((((b-a)/4:Nat):Int)*3) ((((b-a)/4)*3:Nat):Int)<|by omega)<|o1<|wi ((a:Int)+((((b-a)/4)*3:Nat):Int)) ((a+(((b-a)/4)*3):Nat):Int)<|by omega) ?_
 refine A.d<|A.c<|A.g [.p,.p] [] [(32,b_<|decide (((b-a:Nat):Int)≥8))]<|A.v rfl (fun e1=>?_) (fun e1=>?_)
 ·have p1:=of_decide_eq_true e1
  refine A.d<|A.c<|A.g [.p,.p] [8,32] [(34,b_<|decide (((b-a:Nat):Int)≥50))]<|A.v rfl (fun e2=>?_) (fun e2=>?_)
  ·have p2:=of_decide_eq_true e2
   refine A.c<|A.N [.p,.p] [34] [(35,vS al d.toList cl),(36,c_ (a+(((b-a)/4)*1):Nat))]<|A.j<|A.I (some 37) [0,0] (fun w s h=>zR al d cl (a+(((b-a)/4)*1):Nat) b1 0 (by omega) ‹_› (by omega) w h) ?_
   rintro⟨m'2,t'3⟩ hz3
   have hz3m:=medianAdjacent_mem ltInt d (a+(((b-a)/4)*1):Nat) 0;rw[hz3] at hz3m;simp only[] at hz3m;have hz3c:=medianAdjacent_count (lt:=ltInt) d (a+(((b-a)/4)*1):Nat) 0;rw[hz3] at hz3c;simp only[] at hz3c
   refine A.g [.p] [35,36,37] [(10,c_ m'2)]<|A.c<|A.N [.p,.p] [] [(38,vS al d.toList cl),(39,c_ (a+(((b-a)/4)*2):Nat))]<|A.j<|A.I (some 40) [0,0] (fun w s h=>zR al d cl (a+(((b-a)/4)*2):Nat) b1 t'3 (by omega) ‹_› (by omega) w h) ?_
   rintro⟨m'4,t'5⟩ hz4
   have hz4m:=medianAdjacent_mem ltInt d (a+(((b-a)/4)*2):Nat) t'3;rw[hz4] at hz4m;simp only[] at hz4m;have hz4c:=medianAdjacent_count (lt:=ltInt) d (a+(((b-a)/4)*2):Nat) t'3;rw[hz4] at hz4c;simp only[] at hz4c
   refine A.g [.p] [38,39,40] [(11,c_ m'4)]<|A.s<|A.N [.p,.p] [] [(41,vS al d.toList cl),(42,c_ (a+(((b-a)/4)*3):Nat))]<|A.j<|A.I (some 43) [0,0] (fun w s h=>zR al d cl (a+(((b-a)/4)*3):Nat) b1 t'5 (by omega) ‹_› (by omega) w h) ?_
   rintro⟨m'6,t'7⟩ hz5
   have hz5m:=medianAdjacent_mem ltInt d (a+(((b-a)/4)*3):Nat) t'5;rw[hz5] at hz5m;simp only[] at hz5m;have hz5c:=medianAdjacent_count (lt:=ltInt) d (a+(((b-a)/4)*3):Nat) t'5;rw[hz5] at hz5c;simp only[] at hz5c
   refine A.g [.p] [41,42,43] [(12,c_ m'6)]<|A.s<|A.hp (ps 4) [(9,p_ b1),(11,c_ m'4),(44,vS al d.toList cl),(45,c_ m'2),(46,c_ m'4),(47,c_ m'6)] []<|A.j<|A.I (some 48) [0,0] (fun w s h=>AE al d cl m'2 m'4 m'6 b1 t'7 (by omega) (by omega) (by omega) ‹_› (by omega) w h) ?_
   rintro⟨m'8,t'9⟩ hz6
   have hz6m:=median_mem ltInt d m'2 m'4 m'6 t'7;rw[hz6] at hz6m;simp only[] at hz6m;have hz6c:=median_count (lt:=ltInt) d m'2 m'4 m'6 t'7;rw[hz6] at hz6c;simp only[] at hz6c
   refine A.g [.p] [44,45,46,47,48] [(11,c_ m'8)]<|A.c<|A.gl [.ld 1] [9] [(49,c_ t'9)] [b1]<|A.y<|A.c<|A.g [.p,.p] [] [(51,b_<|(t'9:Int)==0)]<|A.v rfl (fun e7=>?_) (fun e7=>?_)
   ·have p7:=e7;try simp only[dc] at p7
    refine A.c<|A.g (ps 3) [11,49,51] [(6,c_ m'8),(7,i_ 1)]<|A.e<|A.Y [0] [c_ m'8,i_ 1] () ?_ ?_
    ·show((.tuple #[c_ m'8,i_ 1]):Value)=(.tuple #[i_ ((rawPivot ltInt d a b).1:Int),i_<|hintCode<|hintOf (rawPivot ltInt d a b).2])
     have hr_:rawPivot ltInt d a b=(m'8,t'9):=(by unfold rawPivot;(rw[if_pos<|by omega,if_pos<|by omega];simp only[*];done));rw[hr_];have hh_:hintCode (hintOf t'9)=1:=(by unfold hintOf;rw[if_pos<|by omega];rfl);simp only[];rw[hh_]
    trivial
   have p7:=e7;try simp only[dc] at p7
   refine A.c<|A.g [.p,.p] [49,51] [(54,b_<|(t'9:Int)==12)]<|A.v rfl (fun e8=>?_) (fun e8=>?_)
   ·have p8:=e8;try simp only[dc] at p8
    refine A.c<|A.g (ps 3) [11,54] [(6,c_ m'8),(7,i_ 2)]<|A.e<|A.Y [0] [c_ m'8,i_ 2] () ?_ ?_
    ·show((.tuple #[c_ m'8,i_ 2]):Value)=(.tuple #[i_ ((rawPivot ltInt d a b).1:Int),i_<|hintCode<|hintOf (rawPivot ltInt d a b).2])
     have hr_:rawPivot ltInt d a b=(m'8,t'9):=(by unfold rawPivot;(rw[if_pos<|by omega,if_pos<|by omega];simp only[*];done));rw[hr_];have hh_:hintCode (hintOf t'9)=2:=(by unfold hintOf;rw[if_neg<|by omega,if_pos<|by omega];rfl);simp only[];rw[hh_]
    trivial
   have p8:=e8;try simp only[dc] at p8
   refine A.c<|A.g (ps 3) [11,54] [(6,c_ m'8),(7,i_ 0)]<|A.e<|A.Y [0] [c_ m'8,i_ 0] () ?_ ?_
   ·show((.tuple #[c_ m'8,i_ 0]):Value)=(.tuple #[i_ ((rawPivot ltInt d a b).1:Int),i_<|hintCode<|hintOf (rawPivot ltInt d a b).2])
    have hr_:rawPivot ltInt d a b=(m'8,t'9):=(by unfold rawPivot;(rw[if_pos<|by omega,if_pos<|by omega];simp only[*];done));rw[hr_];have hh_:hintCode (hintOf t'9)=0:=(by unfold hintOf;rw[if_neg<|by omega,if_neg<|by omega];rfl);simp only[];rw[hh_]
   trivial
  have p2:=of_decide_eq_false e2
  refine A.p<|A.s<|A.N (ps 4) [0,10,12,34] [(44,vS al d.toList cl),(45,c_ (a+(((b-a)/4)*1):Nat)),(46,c_ (a+(((b-a)/4)*2):Nat)),(47,c_ (a+(((b-a)/4)*3):Nat))]<|A.j<|A.I (some 48) [0,0] (fun w s h=>AE al d cl (a+(((b-a)/4)*1):Nat) (a+(((b-a)/4)*2):Nat) (a+(((b-a)/4)*3):Nat) b1 0 (by omega) (by omega) (by omega) ‹_› (by omega) w h) ?_
  rintro⟨m'10,t'11⟩ hz9
  have hz9m:=median_mem ltInt d (a+(((b-a)/4)*1):Nat) (a+(((b-a)/4)*2):Nat) (a+(((b-a)/4)*3):Nat) 0;rw[hz9] at hz9m;simp only[] at hz9m;have hz9c:=median_count (lt:=ltInt) d (a+(((b-a)/4)*1):Nat) (a+(((b-a)/4)*2):Nat) (a+(((b-a)/4)*3):Nat) 0;rw[hz9] at hz9c;simp only[] at hz9c
  refine A.g [.p] [44,45,46,47,48] [(11,c_ m'10)]<|A.c<|A.gl [.ld 1] [9] [(49,c_ t'11)] [b1]<|A.y<|A.c<|A.g [.p,.p] [] [(51,b_<|(t'11:Int)==0)]<|A.v rfl (fun e10=>?_) (fun e10=>?_)
  ·have p10:=e10;try simp only[dc] at p10
   refine A.c<|A.g (ps 3) [11,49,51] [(6,c_ m'10),(7,i_ 1)]<|A.e<|A.Y [0] [c_ m'10,i_ 1] () ?_ ?_
   ·show((.tuple #[c_ m'10,i_ 1]):Value)=(.tuple #[i_ ((rawPivot ltInt d a b).1:Int),i_<|hintCode<|hintOf (rawPivot ltInt d a b).2])
    have hr_:rawPivot ltInt d a b=(m'10,t'11):=(by unfold rawPivot;(rw[if_pos<|by omega,if_neg<|by omega];simp only[*];done));rw[hr_];have hh_:hintCode (hintOf t'11)=1:=(by unfold hintOf;rw[if_pos<|by omega];rfl);simp only[];rw[hh_]
   trivial
  have p10:=e10;try simp only[dc] at p10
  refine A.c<|A.g [.p,.p] [49,51] [(54,b_<|(t'11:Int)==12)]<|A.v rfl (fun e11=>?_) (fun e11=>?_)
  ·have p11:=e11;try simp only[dc] at p11
   refine A.c<|A.g (ps 3) [11,54] [(6,c_ m'10),(7,i_ 2)]<|A.e<|A.Y [0] [c_ m'10,i_ 2] () ?_ ?_
   ·show((.tuple #[c_ m'10,i_ 2]):Value)=(.tuple #[i_ ((rawPivot ltInt d a b).1:Int),i_<|hintCode<|hintOf (rawPivot ltInt d a b).2])
    have hr_:rawPivot ltInt d a b=(m'10,t'11):=(by unfold rawPivot;(rw[if_pos<|by omega,if_neg<|by omega];simp only[*];done));rw[hr_];have hh_:hintCode (hintOf t'11)=2:=(by unfold hintOf;rw[if_neg<|by omega,if_pos<|by omega];rfl);simp only[];rw[hh_]
   trivial
  have p11:=e11;try simp only[dc] at p11
  refine A.c<|A.g (ps 3) [11,54] [(6,c_ m'10),(7,i_ 0)]<|A.e<|A.Y [0] [c_ m'10,i_ 0] () ?_ ?_
  ·show((.tuple #[c_ m'10,i_ 0]):Value)=(.tuple #[i_ ((rawPivot ltInt d a b).1:Int),i_<|hintCode<|hintOf (rawPivot ltInt d a b).2])
   have hr_:rawPivot ltInt d a b=(m'10,t'11):=(by unfold rawPivot;(rw[if_pos<|by omega,if_neg<|by omega];simp only[*];done));rw[hr_];have hh_:hintCode (hintOf t'11)=0:=(by unfold hintOf;rw[if_neg<|by omega,if_neg<|by omega];rfl);simp only[];rw[hh_]
  trivial
 have p1:=of_decide_eq_false e1
 refine A.p<|A.c<|A.gl [.ld 1] [0,8,9,10,12,32] [(49,i_ 0)] [b1]<|A.y<|A.c<|A.g [.p,.p] [] [(51,b_ true)]<|A.ct<|A.c<|A.g (ps 3) [11,49,51] [(6,c_ (a+(((b-a)/4)*2):Nat)),(7,i_ 1)]<|A.e<|A.Y [0] [c_ (a+(((b-a)/4)*2):Nat),i_ 1] () ?_ ?_
 ·show((.tuple #[c_ (a+(((b-a)/4)*2):Nat),i_ 1]):Value)=(.tuple #[i_ ((rawPivot ltInt d a b).1:Int),i_<|hintCode<|hintOf (rawPivot ltInt d a b).2])
  have hr_:rawPivot ltInt d a b=((a+(((b-a)/4)*2)),0):=(by unfold rawPivot;(rw[if_neg<|by omega];done));rw[hr_];have hh_:hintCode (hintOf 0)=1:=(by unfold hintOf;rw[if_pos<|by omega];rfl);simp only[];rw[hh_]
 trivial
abbrev Az(p0)(p1:Array Int)(p2)(p3)(p4)(p5)(p6):=((vS p0 ((p1.toList.set (p2+p3:Nat) p4).set (p2+(((2*p3)+1)+1):Nat) p5) p6):Value)
abbrev H3(p0)(p1:Array Int)(p2)(p3)(p4)(p5)(p6):=([(57,vS p0 p1.toList p2),(60,c_ (p3+((2*p4)+1):Nat)),(66,u_ p5),(72,u_ p6),(73,.pointer<|some<|(dR p0).add ((p3+p4:Nat)*1))]:dM)
abbrev xE(p0)(p1:Array Int)(p2)(p3)(p4)(p5)(p6):=((vS p0 ((p1.toList.set (p2+p3:Nat) p4).set (p2+((2*p3)+1):Nat) p5) p6):Value)
abbrev na(p0)(p1:Array Int)(p2)(p3)(p4)(p5):=((vS p0 (p1.toList.set (p2+p3:Nat) p4) p5):Value)
theorem Es(al:Option Addr)(d:Array Int)(cl:Nat)(lo hi F:Nat)(hb:F+hi≤d.size)(hS:d.size≤100000∧lo≤100000):
  CS 284 #[vS al d.toList cl,c_ lo,c_ hi,c_ F] [sU al d.toList cl] (fun(d':(Array Int))=>(.tuple #[])) (fun d'=>d'=siftDown ltInt hi F lo d∧d'.size=d.size) fun d'=>[sU al d'.toList cl]:=by
 intro w hs
 refine A.C Tryz.func284 rfl hs (A.c<|A.g [.p,.p] [1] [(8,c_ lo)]<|A.y<|A.lp (σ:=Nat×(Array Int)) [] (fun(r,d2)=>[(8,c_ r),(0,vS al d2.toList cl)]) [0] (fun(r,d2)=>[sU al d2.toList cl]) (fun(r,d2)=>(siftDown ltInt hi F r d2=siftDown ltInt hi F lo d)∧(d2.size=d.size)∧(r≤100000)) (fun(r,d2)=>hi-r) (lo,d) ⟨(by rfl),(by rfl),(by omega)⟩ ?_ ?_)
 ·exact A.J [0]
 rintro⟨r,d2⟩ ⟨he,hz,hr⟩
 refine A.y<|A.c<|A.k [.p,.w ((2*r:Nat):Int),.w (((2*r)+1:Nat):Int),.p] [] [(9,c_ ((2*r)+1:Nat))] [] (oc (wi (2*(r:Int)) ((2*r:Nat):Int)<|by omega)<|o1<|wi (((2*r:Nat):Int)+1) (((2*r)+1:Nat):Int)<|by omega)<|A.d<|A.c<|A.g (ps 3) [] [(16,b_<|decide ((((2*r)+1:Nat):Int)≥(hi:Int)))]<|A.v rfl (fun e1=>?_) (fun e1=>?_)
 ·have p1:=of_decide_eq_true e1
  refine A.aA<|A.te<|A.bm rfl ((A.aN [0] [] (fun _ w r s=>trivial) (d2) ?_ ?_<|by kernel_rfl))
  ·rfl
  (rw[Ls<|by omega] at he;exact⟨he,hz⟩)
 have p1:=of_decide_eq_false e1
 refine A.p<|A.d<|A.d<|A.O [] 20<|A.kd 15 [.p,.w ((((2*r)+1)+1:Nat):Int),.p,.p,.p] (rg 0 5) [16] [(21,b_<|decide (((((2*r)+1)+1:Nat):Int)<(hi:Int)))] [] (o1<|wi ((((2*r)+1:Nat):Int)+1) ((((2*r)+1)+1:Nat):Int)<|by omega)<|A.aP (decide (((((2*r)+1)+1:Nat):Int)<(hi:Int))) (fun e2=>?_)<|fun e2=>?_
 ·have p2:=of_decide_eq_true e2
  refine A.D 21 (b_ true) (gu e2) ?_
  obtain⟨x1,hx1⟩: ∃x,(d2.toList)[(F+((2*r)+1):Nat)]? =some x:=⟨_,List.getElem?_eq_getElem<|by(simp;omega)⟩
  obtain⟨x2,hx2⟩: ∃x,(d2.toList)[((F+((2*r)+1))+1:Nat)]? =some x:=⟨_,List.getElem?_eq_getElem<|by(simp;omega)⟩
  refine A.kd 0 [.p,.p,.p,.w ((F+((2*r)+1):Nat):Int),.ix,.rd [u_ x1],.p,.p,.p,.w ((F+((2*r)+1):Nat):Int),.w (((F+((2*r)+1))+1:Nat):Int),.ix,.rd [u_ x2],.cq<|b_<|decide (x1<x2),.p] (rg 5 15) [21] [(22,vS al d2.toList cl),(23,c_ F),(24,c_ ((2*r)+1:Nat)),(25,c_ (F+((2*r)+1):Nat)),(26,.pointer<|some<|(dR al).add ((F+((2*r)+1):Nat)*1)),(27,u_ x1),(28,vS al d2.toList cl),(29,c_ F),(30,c_ ((2*r)+1:Nat)),(31,c_ (F+((2*r)+1):Nat)),(32,c_ ((F+((2*r)+1))+1:Nat)),(33,.pointer<|some<|(dR al).add (((F+((2*r)+1))+1:Nat)*1)),(34,u_ x2),(35,b_<|decide (x1<x2)),(36,b_<|decide (x1<x2))] [] (oc (wi ((F:Int)+(((2*r)+1:Nat):Int)) ((F+((2*r)+1):Nat):Int)<|by omega)<|oc (dW 0 (F+((2*r)+1):Nat) dI rfl (by(simp;omega)))<|oc (eJ 0 (F+((2*r)+1):Nat) [u_ x1] dI rfl hx1)<|oc (wi ((F:Int)+(((2*r)+1:Nat):Int)) ((F+((2*r)+1):Nat):Int)<|by omega)<|oc (wi (((F+((2*r)+1):Nat):Int)+1) (((F+((2*r)+1))+1:Nat):Int)<|by omega)<|oc (dW 0 ((F+((2*r)+1))+1:Nat) dI rfl (by(simp;omega)))<|oc (eJ 0 ((F+((2*r)+1))+1:Nat) [u_ x2] dI rfl hx2)<|o1<|qo<|fun w s=>js x1 x2 w)<|A.M<|A.v rfl (fun e3=>?_) (fun e3=>?_)
  ·have p3:=of_decide_eq_true e3
   refine A.s<|A.k [.p,.w ((((2*r)+1)+1:Nat):Int),.p] [36] [(9,c_ (((2*r)+1)+1:Nat))] [] (o1<|wi ((((2*r)+1:Nat):Int)+1) ((((2*r)+1)+1:Nat):Int)<|by omega)<|A.d<|A.d ?_
   obtain⟨x3,hx3⟩: ∃x,(d2.toList)[(F+r:Nat)]? =some x:=⟨_,List.getElem?_eq_getElem<|by(simp;omega)⟩
   obtain⟨x4,hx4⟩: ∃x,(d2.toList)[(F+(((2*r)+1)+1):Nat)]? =some x:=⟨_,List.getElem?_eq_getElem<|by(simp;omega)⟩
   refine A.ka [.p,.p,.p,.w ((F+r:Nat):Int),.ix,.rd [u_ x3],.p,.p,.p,.w ((F+(((2*r)+1)+1):Nat):Int),.ix,.rd [u_ x4],.cq<|b_<|decide (x3<x4),.p] (rg 0 14) [] [(52,b_ (!(decide (x3<x4))))] [] (oc (wi ((F:Int)+(r:Int)) ((F+r:Nat):Int)<|by omega)<|oc (dW 0 (F+r:Nat) dI rfl (by(simp;omega)))<|oc (eJ 0 (F+r:Nat) [u_ x3] dI rfl hx3)<|oc (wi ((F:Int)+((((2*r)+1)+1:Nat):Int)) ((F+(((2*r)+1)+1):Nat):Int)<|by omega)<|oc (dW 0 (F+(((2*r)+1)+1):Nat) dI rfl (by(simp;omega)))<|oc (eJ 0 (F+(((2*r)+1)+1):Nat) [u_ x4] dI rfl hx4)<|o1<|qo<|fun w s=>js x3 x4 w)<|A.v rfl (fun e4=>?_) (fun e4=>?_)
   ·have p4:=e4;try simp only[dc] at p4
    refine A.e<|?_
    have hst_:siftDown ltInt hi F r d2=_:=(PX (c:=2*r+2) (by omega) (by omega) hx1 (by omega) hx2 (by omega) (by omega) hx3 (by omega) hx4 (by omega)<|by omega)
    refine A.aG [0] [] (fun _ w r s=>trivial) (d2) ?_ ?_<|by kernel_rfl
    ·rfl
    exact⟨hst_.symm.trans he,hz⟩
   have p4:=e4;try simp only[dc] at p4
   refine A.p<|A.d<|A.O [21,23] 24<|A.kd 3 [.p,.p,.p,.w ((F+r:Nat):Int),.p,.p,.p,.w ((F+(((2*r)+1)+1):Nat):Int),.p,.p,.p,.w ((F+(((2*r)+1)+1):Nat):Int),.ix,.rd [u_ x4],.p,.p,.p,.w ((F+r:Nat):Int),.ix,.rd [u_ x3],.ix] (rg 0 21) [8,52] [(57,vS al d2.toList cl),(60,c_ (F+(((2*r)+1)+1):Nat)),(66,u_ x4),(72,u_ x3),(73,.pointer<|some<|(dR al).add ((F+r:Nat)*1))] [] (oc (wi ((F:Int)+(r:Int)) ((F+r:Nat):Int)<|by omega)<|oc (wi ((F:Int)+((((2*r)+1)+1:Nat):Int)) ((F+(((2*r)+1)+1):Nat):Int)<|by omega)<|oc (wi ((F:Int)+((((2*r)+1)+1:Nat):Int)) ((F+(((2*r)+1)+1):Nat):Int)<|by omega)<|oc (dW 0 (F+(((2*r)+1)+1):Nat) dI rfl (by(simp;omega)))<|oc (eJ 0 (F+(((2*r)+1)+1):Nat) [u_ x4] dI rfl hx4)<|oc (wi ((F:Int)+(r:Int)) ((F+r:Nat):Int)<|by omega)<|oc (dW 0 (F+r:Nat) dI rfl (by(simp;omega)))<|oc (eJ 0 (F+r:Nat) [u_ x3] dI rfl hx3)<|o1<|dW 0 (F+r:Nat) dI rfl (by(simp;omega)))<|A.F 21 rfl (A.sS 0 (F+r:Nat) x4 rfl dI (by(simp;omega)) (A.D 0 (na al d2 F r x4 cl) (dh<|by simp)<|A.D 22 (na al d2 F r x4 cl) (dh<|by simp)<|A.D 28 (na al d2 F r x4 cl) (dh<|by simp)<|A.D 57 (na al d2 F r x4 cl) (dh<|by simp)<|A.E<|A.kd 1 [.ix] [22] [57,60,66,73] [(74,.pointer<|some<|(dR al).add ((F+(((2*r)+1)+1):Nat)*1))] [] (o1<|dW 0 (F+(((2*r)+1)+1):Nat) dI rfl (by(simp;omega)))<|A.F 23 rfl (A.sS 0 (F+(((2*r)+1)+1):Nat) x3 rfl dI (by(simp;omega)) (A.D 0 (Az al d2 F r x4 x3 cl) (dh<|by simp)<|A.D 22 (Az al d2 F r x4 x3 cl) (dh<|by simp)<|A.D 28 (Az al d2 F r x4 x3 cl) (dh<|by simp)<|A.E<|A.M ?_))))
   have hcv5:((d2.toList.set (F+r:Nat) x4).set (F+(((2*r)+1)+1):Nat) x3)=(swp d2 (F+r:Nat) (F+(((2*r)+1)+1):Nat)).toList:=by exact sD hx3 hx4
   refine A.su 0 (sU al ((swp d2 (F+r:Nat) (F+(((2*r)+1)+1):Nat)).toList) cl) rfl (eI hcv5) (A.D 0 (vS al ((swp d2 (F+r:Nat) (F+(((2*r)+1)+1):Nat)).toList) cl) (fN hcv5)<|A.D 22 (vS al ((swp d2 (F+r:Nat) (F+(((2*r)+1)+1):Nat)).toList) cl) (fN hcv5)<|A.D 28 (vS al ((swp d2 (F+r:Nat) (F+(((2*r)+1)+1):Nat)).toList) cl) (fN hcv5)<|A.s<|A.g [.p,.p] [9,72,74] [(8,c_ (((2*r)+1)+1:Nat))] ?_)
   have hst_:siftDown ltInt hi F r d2=_:=(PW (c:=2*r+2) (by omega) (by omega) hx1 (by omega) hx2 (by omega) (by omega) hx3 (by omega) hx4 (by omega)<|by omega)
   refine A.Z ((((2*r)+1)+1:Nat),swp d2 (F+r:Nat) (F+(((2*r)+1)+1):Nat)) ⟨(hst_.symm.trans he),(by(rw[jH];omega)),(by omega)⟩ (by(simp;omega)) ?_
   exact A.J [0]
  have p3:=of_decide_eq_false e3
  refine A.p<|A.d<|A.d ?_
  obtain⟨x6,hx6⟩: ∃x,(d2.toList)[(F+r:Nat)]? =some x:=⟨_,List.getElem?_eq_getElem<|by(simp;omega)⟩
  refine A.ka [.p,.p,.p,.w ((F+r:Nat):Int),.ix,.rd [u_ x6],.p,.p,.p,.w ((F+((2*r)+1):Nat):Int),.ix,.rd [u_ x1],.cq<|b_<|decide (x6<x1),.p] (rg 0 14) [36] [(52,b_ (!(decide (x6<x1))))] [] (oc (wi ((F:Int)+(r:Int)) ((F+r:Nat):Int)<|by omega)<|oc (dW 0 (F+r:Nat) dI rfl (by(simp;omega)))<|oc (eJ 0 (F+r:Nat) [u_ x6] dI rfl hx6)<|oc (wi ((F:Int)+(((2*r)+1:Nat):Int)) ((F+((2*r)+1):Nat):Int)<|by omega)<|oc (dW 0 (F+((2*r)+1):Nat) dI rfl (by(simp;omega)))<|oc (eJ 0 (F+((2*r)+1):Nat) [u_ x1] dI rfl hx1)<|o1<|qo<|fun w s=>js x6 x1 w)<|A.v rfl (fun e5=>?_) (fun e5=>?_)
  ·have p5:=e5;try simp only[dc] at p5
   refine A.e<|?_
   have hst_:siftDown ltInt hi F r d2=_:=(H2 (c:=2*r+1) (by omega) (by omega) (.inr ⟨_,_,_,_,hx1,by omega,hx2,by omega,by omega⟩) hx6 (by omega) hx1 (by omega)<|by omega)
   refine A.aG [0] [] (fun _ w r s=>trivial) (d2) ?_ ?_<|by kernel_rfl
   ·rfl
   exact⟨hst_.symm.trans he,hz⟩
  have p5:=e5;try simp only[dc] at p5
  refine A.p<|A.d<|A.O [21,23] 24<|A.kd 3 [.p,.p,.p,.w ((F+r:Nat):Int),.p,.p,.p,.w ((F+((2*r)+1):Nat):Int),.p,.p,.p,.w ((F+((2*r)+1):Nat):Int),.ix,.rd [u_ x1],.p,.p,.p,.w ((F+r:Nat):Int),.ix,.rd [u_ x6],.ix] (rg 0 21) [8,52] (H3 al d2 cl F r x1 x6) [] (oc (wi ((F:Int)+(r:Int)) ((F+r:Nat):Int)<|by omega)<|oc (wi ((F:Int)+(((2*r)+1:Nat):Int)) ((F+((2*r)+1):Nat):Int)<|by omega)<|oc (wi ((F:Int)+(((2*r)+1:Nat):Int)) ((F+((2*r)+1):Nat):Int)<|by omega)<|oc (dW 0 (F+((2*r)+1):Nat) dI rfl (by(simp;omega)))<|oc (eJ 0 (F+((2*r)+1):Nat) [u_ x1] dI rfl hx1)<|oc (wi ((F:Int)+(r:Int)) ((F+r:Nat):Int)<|by omega)<|oc (dW 0 (F+r:Nat) dI rfl (by(simp;omega)))<|oc (eJ 0 (F+r:Nat) [u_ x6] dI rfl hx6)<|o1<|dW 0 (F+r:Nat) dI rfl (by(simp;omega)))<|A.F 21 rfl (A.sS 0 (F+r:Nat) x1 rfl dI (by(simp;omega)) (A.D 0 (na al d2 F r x1 cl) (dh<|by simp)<|A.D 22 (na al d2 F r x1 cl) (dh<|by simp)<|A.D 28 (na al d2 F r x1 cl) (dh<|by simp)<|A.D 57 (na al d2 F r x1 cl) (dh<|by simp)<|A.E<|A.kd 1 [.ix] [22] [57,60,66,73] [(74,.pointer<|some<|(dR al).add ((F+((2*r)+1):Nat)*1))] [] (o1<|dW 0 (F+((2*r)+1):Nat) dI rfl (by(simp;omega)))<|A.F 23 rfl (A.sS 0 (F+((2*r)+1):Nat) x6 rfl dI (by(simp;omega)) (A.D 0 (xE al d2 F r x1 x6 cl) (dh<|by simp)<|A.D 22 (xE al d2 F r x1 x6 cl) (dh<|by simp)<|A.D 28 (xE al d2 F r x1 x6 cl) (dh<|by simp)<|A.E<|A.M ?_))))
  have hcv7:((d2.toList.set (F+r:Nat) x1).set (F+((2*r)+1):Nat) x6)=(swp d2 (F+r:Nat) (F+((2*r)+1):Nat)).toList:=by exact sD hx6 hx1
  refine A.su 0 (sU al ((swp d2 (F+r:Nat) (F+((2*r)+1):Nat)).toList) cl) rfl (eI hcv7) (A.D 0 (vS al ((swp d2 (F+r:Nat) (F+((2*r)+1):Nat)).toList) cl) (fN hcv7)<|A.D 22 (vS al ((swp d2 (F+r:Nat) (F+((2*r)+1):Nat)).toList) cl) (fN hcv7)<|A.D 28 (vS al ((swp d2 (F+r:Nat) (F+((2*r)+1):Nat)).toList) cl) (fN hcv7)<|A.s<|A.g [.p,.p] [9,72,74] [(8,c_ ((2*r)+1:Nat))] ?_)
  have hst_:siftDown ltInt hi F r d2=_:=(HZ (c:=2*r+1) (by omega) (by omega) (.inr ⟨_,_,_,_,hx1,by omega,hx2,by omega,by omega⟩) hx6 (by omega) hx1 (by omega)<|by omega)
  refine A.Z (((2*r)+1:Nat),swp d2 (F+r:Nat) (F+((2*r)+1):Nat)) ⟨(hst_.symm.trans he),(by(rw[jH];omega)),(by omega)⟩ (by(simp;omega)) ?_
  exact A.J [0]
 have p2:=of_decide_eq_false e2
 refine A.D 21 (b_ false) (gu e2)<|A.dT 0 [.sk,.sk,.sk,.sk,.sk,.sk,.sk,.sk,.sk,.sk,.sk,.sk,.sk,.sk,.p] (rg 5 15) [21] [(36,b_ false)] []<|A.M<|A.cf<|A.p<|A.d<|A.d ?_
 obtain⟨x8,hx8⟩: ∃x,(d2.toList)[(F+r:Nat)]? =some x:=⟨_,List.getElem?_eq_getElem<|by(simp;omega)⟩
 obtain⟨x9,hx9⟩: ∃x,(d2.toList)[(F+((2*r)+1):Nat)]? =some x:=⟨_,List.getElem?_eq_getElem<|by(simp;omega)⟩
 refine A.ka [.p,.p,.p,.w ((F+r:Nat):Int),.ix,.rd [u_ x8],.p,.p,.p,.w ((F+((2*r)+1):Nat):Int),.ix,.rd [u_ x9],.cq<|b_<|decide (x8<x9),.p] (rg 0 14) [36] [(52,b_ (!(decide (x8<x9))))] [] (oc (wi ((F:Int)+(r:Int)) ((F+r:Nat):Int)<|by omega)<|oc (dW 0 (F+r:Nat) dI rfl (by(simp;omega)))<|oc (eJ 0 (F+r:Nat) [u_ x8] dI rfl hx8)<|oc (wi ((F:Int)+(((2*r)+1:Nat):Int)) ((F+((2*r)+1):Nat):Int)<|by omega)<|oc (dW 0 (F+((2*r)+1):Nat) dI rfl (by(simp;omega)))<|oc (eJ 0 (F+((2*r)+1):Nat) [u_ x9] dI rfl hx9)<|o1<|qo<|fun w s=>js x8 x9 w)<|A.v rfl (fun e6=>?_) (fun e6=>?_)
 ·have p6:=e6;try simp only[dc] at p6
  refine A.e<|?_
  have hst_:siftDown ltInt hi F r d2=_:=(H2 (c:=2*r+1) (by omega) (by omega) (.inl<|by omega) hx8 (by omega) hx9 (by omega)<|by omega)
  refine A.aG [0] [] (fun _ w r s=>trivial) (d2) ?_ ?_<|by kernel_rfl
  ·rfl
  exact⟨hst_.symm.trans he,hz⟩
 have p6:=e6;try simp only[dc] at p6
 refine A.p<|A.d<|A.O [21,23] 24<|A.kd 3 [.p,.p,.p,.w ((F+r:Nat):Int),.p,.p,.p,.w ((F+((2*r)+1):Nat):Int),.p,.p,.p,.w ((F+((2*r)+1):Nat):Int),.ix,.rd [u_ x9],.p,.p,.p,.w ((F+r:Nat):Int),.ix,.rd [u_ x8],.ix] (rg 0 21) [8,52] (H3 al d2 cl F r x9 x8) [] (oc (wi ((F:Int)+(r:Int)) ((F+r:Nat):Int)<|by omega)<|oc (wi ((F:Int)+(((2*r)+1:Nat):Int)) ((F+((2*r)+1):Nat):Int)<|by omega)<|oc (wi ((F:Int)+(((2*r)+1:Nat):Int)) ((F+((2*r)+1):Nat):Int)<|by omega)<|oc (dW 0 (F+((2*r)+1):Nat) dI rfl (by(simp;omega)))<|oc (eJ 0 (F+((2*r)+1):Nat) [u_ x9] dI rfl hx9)<|oc (wi ((F:Int)+(r:Int)) ((F+r:Nat):Int)<|by omega)<|oc (dW 0 (F+r:Nat) dI rfl (by(simp;omega)))<|oc (eJ 0 (F+r:Nat) [u_ x8] dI rfl hx8)<|o1<|dW 0 (F+r:Nat) dI rfl (by(simp;omega)))<|A.F 21 rfl (A.sS 0 (F+r:Nat) x9 rfl dI (by(simp;omega)) (A.D 0 (na al d2 F r x9 cl) (dh<|by simp)<|A.D 57 (na al d2 F r x9 cl) (dh<|by simp)<|A.E<|A.kd 1 [.ix] [22] [57,60,66,73] [(74,.pointer<|some<|(dR al).add ((F+((2*r)+1):Nat)*1))] [] (o1<|dW 0 (F+((2*r)+1):Nat) dI rfl (by(simp;omega)))<|A.F 23 rfl (A.sS 0 (F+((2*r)+1):Nat) x8 rfl dI (by(simp;omega)) (A.D 0 (xE al d2 F r x9 x8 cl) (dh<|by simp)<|A.E<|A.M ?_))))
 have hcv10:((d2.toList.set (F+r:Nat) x9).set (F+((2*r)+1):Nat) x8)=(swp d2 (F+r:Nat) (F+((2*r)+1):Nat)).toList:=by exact sD hx8 hx9
 refine A.su 0 (sU al ((swp d2 (F+r:Nat) (F+((2*r)+1):Nat)).toList) cl) rfl (eI hcv10) (A.D 0 (vS al ((swp d2 (F+r:Nat) (F+((2*r)+1):Nat)).toList) cl) (fN hcv10)<|A.s<|A.g [.p,.p] [9,72,74] [(8,c_ ((2*r)+1:Nat))] ?_)
 have hst_:siftDown ltInt hi F r d2=_:=(HZ (c:=2*r+1) (by omega) (by omega) (.inl<|by omega) hx8 (by omega) hx9 (by omega)<|by omega)
 refine A.Z (((2*r)+1:Nat),swp d2 (F+r:Nat) (F+((2*r)+1):Nat)) ⟨(hst_.symm.trans he),(by(rw[jH];omega)),(by omega)⟩ (by(simp;omega)) ?_
 exact A.J [0]
theorem LI(al:Option Addr)(d:Array Int)(cl:Nat)(a b:Nat)(hb:a<b∧b≤d.size)(hS:d.size≤100000):
  CS 273 #[vS al d.toList cl,c_ a,c_ b] [sU al d.toList cl] (fun(d':(Array Int))=>(.tuple #[])) (fun d'=>d'=heapSort ltInt d a b∧d'.size=d.size) fun d'=>[sU al d'.toList cl]:=by
 intro w hs
 refine A.C Tryz.func273 rfl hs (A.c<|A.g [.p,.p] [] [(6,c_ a)]<|A.c<|A.g [.p] [] [(7,i_ 0)]<|A.c<|A.k [.p,.p,.w ((b-a:Nat):Int),.p] [1,2] [(8,c_ (b-a:Nat))] [] (o1<|wi ((b:Int)-(a:Int)) ((b-a:Nat):Int)<|by omega)<|A.d<|A.c<|A.k [.p,.w (((b-a)-1:Nat):Int),.w ((((b-a)-1)/2:Nat):Int),.p] [] [(9,c_ (((b-a)-1)/2:Nat))] [] (oc (wi (((b-a:Nat):Int)-1) (((b-a)-1:Nat):Int)<|by omega)<|o1<|wo<|(km (e:=(((b-a)-1:Nat):Int).tdiv 2)<|by(rw[S8];constructor<;>omega)).trans (by rfl:((((b-a)-1:Nat):Int).tdiv 2:Int)=((((b-a)-1)/2:Nat):Int))) ?_)
 refine A.y<|A.D 9 (i_<|(((b-a-1)/2+1:Nat):Int)-1) (mE<|by omega)<|A.lp (σ:=Nat×(Array Int)) [] (fun(k,d2)=>[(9,i_<|(k:Int)-1),(0,vS al d2.toList cl)]) [0] (fun(k,d2)=>[sU al d2.toList cl]) (fun(k,d2)=>(heapBuild ltInt (b-a) a k d2=heapBuild ltInt (b-a) a ((b-a-1)/2+1) d)∧(d2.size=d.size)∧(k≤(b-a-1)/2+1)) (fun(k,d2)=>k) (((b-a-1)/2+1:Nat),d) ⟨(by rfl),(by rfl),(by omega)⟩ ?_ ?_
 ·exact A.J [0]
 rintro⟨k,d2⟩ ⟨he,hz,hk⟩
 refine A.d<|A.c<|A.g [.p,.p] [] [(19,b_<|decide (((k:Int)-1)≥0))]<|A.v rfl (fun e1=>?_) (fun e1=>?_)
 ·have p1:=of_decide_eq_true e1
  refine A.p<|A.d<|A.y<|A.D 9 (c_ (k-1:Nat)) (mE<|by omega)<|A.s<|A.N (ps 4) [19] [(22,vS al d2.toList cl),(23,c_ (k-1:Nat)),(24,c_ (b-a:Nat)),(25,c_ a)]<|A.j<|A.I (some 26) [0] (fun w s h=>Es al d2 cl (k-1:Nat) (b-a:Nat) a (by omega) (by omega) w h) ?_
  rintro d'1 hz2
  refine A.D 0 (vS al d'1.toList cl) (dh<|by(simp only[Array.length_toList];exact hz2.2.symm))<|A.D 22 (vS al d'1.toList cl) (dh<|by(simp only[Array.length_toList];exact hz2.2.symm))<|A.aB<|A.s<|A.k [.p,.w<|((k-1:Nat):Int)-1,.p] [22,23,24,25,26] [(9,i_<|((k-1:Nat):Int)-1)] [] (o1<|wj (((k-1:Nat):Int)-1)<|by omega)<|A.Z ((k-1:Nat),d'1) ⟨(by(have h_:=(by assumption:_=siftDown ltInt (b-a) a (k-1) d2∧_);rw[PY<|by omega,←h_.1] at he;exact he)),(by(have h_:=(by assumption:_=siftDown ltInt (b-a) a (k-1) d2∧_).2;omega)),(by omega)⟩ (by(simp;omega)) ?_
  exact A.J [0]
 have p1:=of_decide_eq_false e1
 refine A.aA<|A.c<|A.k [.p,.w (((b-a)-1:Nat):Int),.p] [8,9,19] [(10,c_ ((b-a)-1:Nat))] [] (o1<|wi (((b-a:Nat):Int)-1) (((b-a)-1:Nat):Int)<|by omega)<|A.y<|A.D 10 (i_<|((b-a:Nat):Int)-1) (mE<|by omega)<|A.lp (σ:=Nat×(Array Int)) [] (fun(k9,d3)=>[(10,i_<|(k9:Int)-1),(0,vS al d3.toList cl)]) [0] (fun(k9,d3)=>[sU al d3.toList cl]) (fun(k9,d3)=>(heapPop ltInt a k9 d3=heapSort ltInt d a b)∧(d3.size=d.size)∧(k9≤b-a)) (fun(k9,d3)=>k9) ((b-a:Nat),d2) ⟨(by(unfold heapSort;rw[←he];(rw[show k=0 by omega];rfl))),(by omega),(by omega)⟩ ?_ ?_
 ·exact A.J [0]
 rintro⟨k9,d3⟩ ⟨he3,hz3,hk9⟩
 refine A.d<|A.c<|A.g [.p,.p] [] [(30,b_<|decide (((k9:Int)-1)≥0))]<|A.v rfl (fun e3=>?_) (fun e3=>?_)
 ·have p3:=of_decide_eq_true e3
  refine A.p<|A.d<|A.y<|A.d<|A.D 10 (c_ (k9-1:Nat)) (mE<|by omega)<|A.O [17,19] 20 ?_
  obtain⟨x2,hx2⟩: ∃x,(d3.toList)[(a+(k9-1):Nat)]? =some x:=⟨_,List.getElem?_eq_getElem<|by(simp;omega)⟩
  obtain⟨x3,hx3⟩: ∃x,(d3.toList)[a]? =some x:=⟨_,List.getElem?_eq_getElem<|by(simp;omega)⟩
  refine A.kd 3 [.p,.p,.p,.p,.p,.w ((a+(k9-1):Nat):Int),.p,.p,.p,.w ((a+(k9-1):Nat):Int),.ix,.rd [u_ x2],.p,.p,.ix,.rd [u_ x3],.ix] (rg 0 17) [30] [(35,vS al d3.toList cl),(38,c_ (a+(k9-1):Nat)),(44,u_ x2),(48,u_ x3),(49,.pointer<|some<|(dR al).add (a*1))] [] (oc (wi ((a:Int)+((k9-1:Nat):Int)) ((a+(k9-1):Nat):Int)<|by omega)<|oc (wi ((a:Int)+((k9-1:Nat):Int)) ((a+(k9-1):Nat):Int)<|by omega)<|oc (dW 0 (a+(k9-1):Nat) dI rfl (by(simp;omega)))<|oc (eJ 0 (a+(k9-1):Nat) [u_ x2] dI rfl hx2)<|oc (dW 0 a dI rfl (by(simp;omega)))<|oc (eJ 0 a [u_ x3] dI rfl hx3)<|o1<|dW 0 a dI rfl (by(simp;omega)))<|A.F 17 rfl (A.sS 0 a x2 rfl dI (by(simp;omega)) (A.D 0 (vS al (d3.toList.set a x2) cl) (dh<|by simp)<|A.D 35 (vS al (d3.toList.set a x2) cl) (dh<|by simp)<|A.E<|A.kd 1 [.ix] [18] [35,38,44,49] [(50,.pointer<|some<|(dR al).add ((a+(k9-1):Nat)*1))] [] (o1<|dW 0 (a+(k9-1):Nat) dI rfl (by(simp;omega)))<|A.F 19 rfl (A.sS 0 (a+(k9-1):Nat) x3 rfl dI (by(simp;omega)) (A.D 0 (vS al ((d3.toList.set a x2).set (a+(k9-1):Nat) x3) cl) (dh<|by simp)<|A.E<|A.M ?_))))
  have hcv4:((d3.toList.set a x2).set (a+(k9-1):Nat) x3)=(swp d3 a (a+(k9-1):Nat)).toList:=by exact sD hx3 hx2
  refine A.su 0 (sU al ((swp d3 a (a+(k9-1):Nat)).toList) cl) rfl (eI hcv4) (A.D 0 (vS al ((swp d3 a (a+(k9-1):Nat)).toList) cl) (fN hcv4)<|A.s<|A.N (ps 4) [48,50] [(51,vS al ((swp d3 a (a+(k9-1):Nat)).toList) cl),(52,i_ 0),(53,c_ (k9-1:Nat)),(54,c_ a)]<|A.j<|A.I (some 55) [0] (fun w s h=>Es al (swp d3 a (a+(k9-1):Nat)) cl 0 (k9-1:Nat) a (by(rw[jH];omega)) (by(rw[jH];omega)) w h) ?_)
  rintro d'5 hz4
  refine A.D 0 (vS al d'5.toList cl) (dh<|by(simp only[Array.length_toList];exact hz4.2.symm))<|A.D 51 (vS al d'5.toList cl) (dh<|by(simp only[Array.length_toList];exact hz4.2.symm))<|A.aB<|A.s<|A.k [.p,.w<|((k9-1:Nat):Int)-1,.p] [51,52,53,54,55] [(10,i_<|((k9-1:Nat):Int)-1)] [] (o1<|wj (((k9-1:Nat):Int)-1)<|by omega)<|A.Z ((k9-1:Nat),d'5) ⟨(by(have h_:=(by assumption:_=siftDown ltInt (k9-1) a 0 (swp d3 a<|a+(k9-1))∧_);rw[PZ<|by omega,←h_.1] at he3;exact he3)),(by(have h_:=(by assumption:_=siftDown ltInt (k9-1) a 0 (swp d3 a<|a+(k9-1))∧_).2;rw[jH] at h_;omega)),(by omega)⟩ (by(simp;omega)) ?_
  exact A.J [0]
 have p3:=of_decide_eq_false e3
 refine A.aA<|A.aN [0] [] (fun _ w r s=>trivial) (d3) ?_ ?_<|by kernel_rfl
 ·rfl
 (rw[show k9=0 by omega] at he3;exact⟨he3,hz3⟩)
end Go.Proofs.YtobgjpigngoggaaGreat
