/- The functions of the scheduler, layer by layer, proved operation by operation for all arguments, under the conditions that each theorem states: part 2. -/
import Derived.Test.YtobgjpigngoggaaGreatProg
import Derived.Shelf.SortM.Plain
import Derived.Shelf.SortM.SortNone
import Derived.Ground.SlgmProg
import Derived.Test.YtobgjpigngoggaaGreatJ1
set_option linter.unusedVariables false
set_option linter.unusedSimpArgs false
set_option maxHeartbeats 4000000
set_option maxRecDepth 100000
namespace Go.Proofs.YtobgjpigngoggaaGreat
open Go V
abbrev Hr(p0:List Pk)(p1)(p2):=((.tuple #[.agg #[u_ ((p0.getD ((p1+p2)%p0.length) default).qi),i_ ((p0.getD ((p1+p2)%p0.length) default).qn),w_ ((p0.getD ((p1+p2)%p0.length) default).qa),w_ ((p0.getD ((p1+p2)%p0.length) default).qb),w_ ((p0.getD ((p1+p2)%p0.length) default).qc),w_ ((p0.getD ((p1+p2)%p0.length) default).qd)],i_ 0]):Value)
theorem Ih(br:Nat)(ar:Option Addr)(sx:List Pk)(cp f n:Nat)(i:Nat)(hf:f<sx.length)(hn:n≤sx.length)(hl:sx.length≤64)(hi:i<n)(w:World)(r0:(cz br [.slice ar sx.length cp,i_ (f:Int),i_ (n:Int)] 315).holds w)(r1:ez w ar (V.dJ fR sx)):
  CW 253 #[p_ br,i_ (i:Int)] w (Hr sx f i):=by
 have hm_:=Nat.mod_lt (f+i) (show 0<sx.length by omega)
 refine A.C Tryz.func253 rfl (HS.nil w) (A.c (A.n1 [.al,.p] [] (fun b1=>[(4,p_ b1)]) (fun b1=>cz b1 [u_ 0,i_ 0,w_ 0,w_ 0,w_ 0,w_ 0] 45) ?_))
 intro b1
 refine A.c (A.n1 [.al] [] (fun b2=>[(6,p_ b2)]) (fun b2=>cz b2 [u_ 0,i_ 0,w_ 0,w_ 0,w_ 0,w_ 0] 45) ?_)
 intro b2
 refine A.d (A.y (A.c (A.g [.p,.p,.p] [] [(7,b_ false)] (A.Z (A.c (A.k [.p,.p,.p,.o,.p,.p,.p,.p,.rd [i_ (n:Int)],.p,.cl,.p] [7] [(11,b_ ((decide ((i:Int)<0))||(decide ((i:Int)≥(n:Int)))))] [] (o1 (go (true&&((decide ((i:Int)<0))==false)) fun h_=>(ro ⟨br,2,none⟩ (vs:=[i_ (n:Int)]) (dj r0 rfl)))) (A.v rfl (fun e1=> ?_) (fun e1=> ?_))))))))
 ·exact absurd e1 (by(intro h_;simp at h_;omega))
 refine A.p (A.d (A.W [9] 11 ?_))
 obtain⟨x3,hx3⟩: ∃x,(sx)[((f+i)%sx.length:Nat)]? =some x:=⟨_,List.getElem?_eq_getElem (by omega)⟩
 refine A.kd 2 [.p,.p,.p,.rd [.slice ar sx.length cp],.p,.p,.cq (i_ (((f+i)%sx.length:Nat):Int)),.ix,.rd [u_ x3.qi,i_ x3.qn,w_ x3.qa,w_ x3.qb,w_ x3.qc,w_ x3.qd]] [0,1,2,3,4,5,6,7,8] [0,1,6,11] [(31,.agg #[u_ x3.qi,i_ x3.qn,w_ x3.qa,w_ x3.qb,w_ x3.qc,w_ x3.qd])] [] (oc (ro ⟨br,0,none⟩ (vs:=[.slice ar sx.length cp]) (dj r0 rfl)) (oc (qo (fun ww ss=>zL br ar sx cp f n i ‹_› ‹_› ‹_› (by omega) ww (da ss r0))) (oc (io (((f+i)%sx.length:Nat):Int) (gi kS (by decide) (ef r1 (by simp[dG])) (by omega))) (o1 (ro ((dV ar).add (((f+i)%sx.length:Nat)*6)) (fY (vs:=[u_ x3.qi,i_ x3.qn,w_ x3.qa,w_ x3.qb,w_ x3.qc,w_ x3.qd]) kS (ef r1 (by simp[dG])) hx3 (Nat.le_of_ble_eq_true rfl) rfl)))))) ?_
 refine A.F 9 rfl (A.sT 0 [u_ x3.qi,i_ x3.qn,w_ x3.qa,w_ x3.qb,w_ x3.qc,w_ x3.qd] rfl ?_)
 refine A.E ?_
 refine A.pT 0 [.p] [10] [(4,p_ b1),(5,i_ 0)] [] ?_
 refine A.M ?_
 refine A.e ?_
 refine A.au 0 [u_ x3.qi,i_ x3.qn,w_ x3.qa,w_ x3.qb,w_ x3.qc,w_ x3.qd] (i_ 0) ?_
 show((.tuple #[.agg #[u_ x3.qi,i_ x3.qn,w_ x3.qa,w_ x3.qb,w_ x3.qc,w_ x3.qd],i_ 0]):Value)=(Hr sx f i)
 simp_all[List.getD]
theorem Qi(br:Nat)(ar:Option Addr)(sx:List Pk)(cp f n:Nat)(hf:f<sx.length)(hn:n≤sx.length)(hl:sx.length≤64)(h0:0<n):
  CS 211 #[p_ br] [cz br [.slice ar sx.length cp,i_ (f:Int),i_ (n:Int)] 315,sl ar (sx.length) cp 45 6 (V.dJ fR sx)] (fun(x:Pk)=>(.tuple #[.agg #[u_ x.qi,i_ x.qn,w_ x.qa,w_ x.qb,w_ x.qc,w_ x.qd],i_ 0])) (fun x=>sx[f]? =some x) fun _=>[cz br [.slice ar ((sx.set f default).length) cp,i_ (((f+1)%sx.length:Nat):Int),i_ ((n-1:Nat):Int)] 315,sl ar ((sx.set f default).length) cp 45 6 (V.dJ fR (sx.set f default))]:=by
 intro w hs
 refine A.C Tryz.func211 rfl hs (A.c (A.n1 [.al,.p] [] (fun b1=>[(2,p_ b1)]) (fun b1=>cz b1 [u_ 0,i_ 0,w_ 0,w_ 0,w_ 0,w_ 0] 45) ?_))
 intro b1
 refine A.c (A.no [.p,.cq (.tuple #[.agg #[u_ ((sx.getD ((f+0)%sx.length) default).qi),i_ ((sx.getD ((f+0)%sx.length) default).qn),w_ ((sx.getD ((f+0)%sx.length) default).qa),w_ ((sx.getD ((f+0)%sx.length) default).qb),w_ ((sx.getD ((f+0)%sx.length) default).qc),w_ ((sx.getD ((f+0)%sx.length) default).qd)],i_ 0]),.p,.p,.p,.al,.st 3,.p] [] (fun b2=>[(4,p_ b2),(5,i_ 0)]) (fun b2=>[]) (fun b2=>cz b2 [u_ ((sx.getD ((f+0)%sx.length) default).qi),i_ ((sx.getD ((f+0)%sx.length) default).qn),w_ ((sx.getD ((f+0)%sx.length) default).qa),w_ ((sx.getD ((f+0)%sx.length) default).qb),w_ ((sx.getD ((f+0)%sx.length) default).qc),w_ ((sx.getD ((f+0)%sx.length) default).qd)] 45) (fun b2=>[b2]) (fun b2=>o1 (qo (fun ww ss=>Ih br ar sx cp f n 0 ‹_› ‹_› ‹_› ‹_› ww (ss.mem (i:=0) rfl) ((fa (i:=1) rfl) ww ss)))) ?_)
 intro b2
 refine A.d (A.c (A.g [.p,.p] [] [(13,b_ false)] (A.Z (A.p (A.c (A.n1 [.al] [5,13] (fun b3=>[(6,p_ b3)]) (fun b3=>cz b3 [u_ 0,i_ 0,w_ 0,w_ 0,w_ 0,w_ 0] 45) ?_))))))
 intro b3
 refine A.d (A.W [10] 11 (A.kd 1 [.p,.p,.p,.ld 0,.p,.p,.p,.ld 0,.ld 4,.ix] [0,1,2,3,4,5,6,7,8,9] [6] [(24,.agg #[u_ 0,i_ 0,w_ 0,w_ 0,w_ 0,w_ 0]),(25,.pointer (some ((dV ar).add (f*6))))] [br,br,b3] (o1 (dY 1 f kS rfl (by omega))) (A.F 10 rfl (A.sS 1 f (⟨0,0,0,0,0,0⟩:Pk) rfl kS (by omega) (A.E (A.M (A.c (A.ks [.p,.p,.cq (i_ (((f+1)%sx.length:Nat):Int)),.p,.p,.st 0] [24,25] [] [(0,cz br [.slice ar sx.length cp,i_ (((f+1)%sx.length:Nat):Int),i_ (n:Int)] 315)] [br] (o1 (qo (fun ww ss=>zL br ar sx cp f n 1 ‹_› ‹_› ‹_› (by omega) ww (ss.mem (i:=0) rfl)))) (A.c (A.ks [.p,.p,.p,.ld 0,.w ((n:Int)-1),.p,.p,.st 0] [0] [] [(0,cz br [.slice ar sx.length cp,i_ (((f+1)%sx.length:Nat):Int),i_ ((n:Int)-1)] 315)] [br,br] (o1 (wj ((n:Int)-1) (by omega))) (A.c (A.gs [.ld 3,.st 2,.p] [4] [(3,i_ 0)] [(2,cz b1 [u_ ((sx.getD ((f+0)%sx.length) default).qi),i_ ((sx.getD ((f+0)%sx.length) default).qn),w_ ((sx.getD ((f+0)%sx.length) default).qa),w_ ((sx.getD ((f+0)%sx.length) default).qb),w_ ((sx.getD ((f+0)%sx.length) default).qc),w_ ((sx.getD ((f+0)%sx.length) default).qd)] 45)] [b2,b1] (A.e (A.su 0 (cz br [.slice ar ((sx.set f default).length) cp,i_ (((f+1)%sx.length:Nat):Int),i_ ((n-1:Nat):Int)] 315) rfl (iI (cc (congrArg (fun z_:Nat=>Value.slice ar z_ cp) (by simp:sx.length=(sx.set f default).length)) (cc rfl (cc (congrArg i_ (by omega:(n:Int)-1=((n-1:Nat):Int))) rfl)))) (A.su 1 (sl ar ((sx.set f default).length) cp 45 6 (V.dJ fR (sx.set f default))) rfl (eI (by rfl:(sx.set f (⟨0,0,0,0,0,0⟩:Pk))=(sx.set f default))) (A.aG [0,0] [.agg #[u_ ((sx.getD ((f+0)%sx.length) default).qi),i_ ((sx.getD ((f+0)%sx.length) default).qn),w_ ((sx.getD ((f+0)%sx.length) default).qa),w_ ((sx.getD ((f+0)%sx.length) default).qb),w_ ((sx.getD ((f+0)%sx.length) default).qc),w_ ((sx.getD ((f+0)%sx.length) default).qd)],i_ 0] (fun aa ww rr ss=>⟨iG 2 rr ss,fQ rr rfl,trivial⟩) ((sx.getD ((f+0)%sx.length) default)) ?_ ?_ (by kernel_rfl)))))))))))))))))
 ·rfl
 (simp[List.getD,Nat.mod_eq_of_lt hf,List.getElem?_eq_getElem hf];done)
theorem D9(w:World):
  CW 107 #[n_] w (i_ 0):=by
 refine A.C Tryz.func107 rfl (HS.nil w) (A.c (A.g [.p] [] [] (A.d (A.c (A.g [.p,.p] [] [(4,b_ true)] (A.ct (A.c (A.g [.p] [0,4] [(2,i_ 0)] (A.e (A.N [i_ 0] ?_))))))))))
 rfl
theorem BR(bq br:Nat)(ar:Option Addr)(sx:List Pk)(cp f n:Nat)(rm bs k1 k2 k3 k4 k5 k6:Int)(w:World)(r0:(cz bq [p_ br,i_ rm,i_ bs,u_ k1,u_ k2,u_ k3,u_ k4,u_ k5,u_ k6] 269).holds w)(r1:(cz br [.slice ar sx.length cp,i_ (f:Int),i_ (n:Int)] 315).holds w):
  CW 107 #[p_ bq] w (i_ (n:Int)):=by
 refine A.C Tryz.func107 rfl (HS.nil w) (A.c (A.g [.p] [] [] (A.d (A.c (A.g [.p,.p] [] [(4,b_ false)] (A.Z (A.p (A.c (A.k [.p,.p,.p,.rd [p_ br],.cq (i_ (n:Int)),.p] [0,4] [(2,i_ (n:Int))] [] (oc (ro ⟨bq,0,none⟩ (vs:=[p_ br]) (dj r0 rfl)) (o1 (qo (fun ww ss=>Qg br ar sx cp f n ww (da ss r1))))) (A.e (A.N [i_ (n:Int)] ?_)))))))))))
 rfl
theorem Qj(m:Nat)(rm:Int)(h1:1≤m)(h2:m≤64)(h3:1≤rm∧rm≤1048576):
  CS 108 #[i_ (m:Int),i_ rm] [] (fun((bq,br,al'):Nat×Nat×(Option Addr))=>(.tuple #[p_ bq,i_ 0])) (fun _=>True) fun(bq,br,al')=>[cz bq [p_ br,i_ rm,i_ 0,u_ 0,u_ 0,u_ 0,u_ 0,u_ 0,u_ 0] 269,cz br [.slice al' ((List.replicate m (default:Pk)).length) m,i_ 0,i_ 0] 315,sl al' ((List.replicate m (default:Pk)).length) m 45 6 (V.dJ fR (List.replicate m (default:Pk)))]:=by
 intro w hs
 refine A.C Tryz.func108 rfl hs (A.c (A.g [.p,.p] [] [] (A.c (A.O [.p] [0] [(9,i_ (m:Int))] (A.j (A.J (some 10) [] (fun ww ss hh=>Qh m ‹_› ‹_› ww hh) ?_))))))
 rintro⟨br1,al'2⟩-
 refine A.g [.p,.p,.p,.p,.p] [9,10] [(6,p_ br1),(7,i_ 0)] (A.d (A.c (A.g [.p,.p,.p,.p,.p,.p,.p,.o,.p,.p,.cl] [7] [(22,b_ ((decide (rm<1))||(decide (rm>1048576))))] (A.v rfl (fun e2=> ?_) (fun e2=> ?_)))))
 ·exact absurd e2 (by(intro h_;simp at h_;omega))
 refine A.p (A.c (A.n1 [.p,.p,.p,.al,.p,.p] [1,6,22] (fun b4=>[(4,p_ b4),(5,i_ 0)]) (fun b4=>cz b4 [p_ br1,i_ rm,i_ 0,u_ 0,u_ 0,u_ 0,u_ 0,u_ 0,u_ 0] 269) ?_))
 intro b4
 refine A.e (A.Y [2,0,0] [p_ b4,i_ 0] (b4,br1,al'2) ?_ ?_)
 ·rfl
 trivial
abbrev BS(p0)(p1:Pk):=(u_ (IntKind.u64.wrap (p0+(IntKind.u64.wrap (p1.qn)))):Value)
abbrev uV(p0)(p1:Pk):=(i_ (IntKind.i64.wrap (p0-p1.qn)):Value)
abbrev BU(p0)(p1:List Pk)(p2)(p3):=(sl p0 ((p1.set p2 default).length) p3 45 6 (V.dJ fR (p1.set p2 default)):V.dC)
abbrev BV(p0)(p1:Pk):=(cz p0 [u_ p1.qi,i_ p1.qn,w_ p1.qa,w_ p1.qb,w_ p1.qc,w_ p1.qd] 45:V.dC)
abbrev BW(p0)(p1)(p2:List Pk)(p3)(p4)(p5):=(cz p0 [.slice p1 ((p2.set p3 default).length) p4,i_ (((p3+1)%p2.length:Nat):Int),i_ ((p5-1:Nat):Int)] 315:V.dC)
theorem Qk(bq br:Nat)(ar:Option Addr)(sx:List Pk)(cp f n:Nat)(rm bs k1 k2 k3 k4 k5 k6:Int)(hf:f<sx.length)(hn:n≤sx.length)(hl:sx.length≤64)(h0:0<n):
  CS 153 #[p_ bq] [cz bq [p_ br,i_ rm,i_ bs,u_ k1,u_ k2,u_ k3,u_ k4,u_ k5,u_ k6] 269,cz br [.slice ar sx.length cp,i_ (f:Int),i_ (n:Int)] 315,sl ar (sx.length) cp 45 6 (V.dJ fR sx)] (fun((x,z2,z5):Pk×Int×Int)=>(.tuple #[.agg #[u_ x.qi,i_ x.qn,w_ x.qa,w_ x.qb,w_ x.qc,w_ x.qd],i_ 0])) (fun(x,z2,z5)=>sx[f]? =some x) fun(x,z2,z5)=>[cz bq [p_ br,i_ rm,uV bs x,u_ k1,u_ z2,u_ k3,u_ k4,u_ z5,u_ k6] 269,BW br ar sx f cp n,BU ar sx f cp]:=by
 intro w hs
 refine A.C Tryz.func153 rfl hs (A.c (A.n1 [.al,.p] [] (fun b1=>[(2,p_ b1)]) (fun b1=>cz b1 [u_ 0,i_ 0,w_ 0,w_ 0,w_ 0,w_ 0] 45) ?_))
 intro b1
 refine A.d (A.c (A.g [.p,.p] [] [(7,b_ false)] (A.Z (A.p (A.c (A.gm [.p,.p,.p,.ld 0] [7] [(13,p_ br)] [bq] (A.j (A.J (some 14) [1,1] (fun ww ss hh=>Qi br ar sx cp f n ‹_› ‹_› ‹_› ‹_› ww hh) ?_))))))))
 rintro x2 hz1
 refine A.g1 [.p,.p,.p,.al,.st 4,.p] [13,14] (fun b3=>[(4,p_ b3),(5,i_ 0)]) (fun b3=>[]) (fun b3=>cz b3 [u_ x2.qi,i_ x2.qn,w_ x2.qa,w_ x2.qb,w_ x2.qc,w_ x2.qd] 45) (fun b3=>[b3]) ?_
 intro b3
 refine A.d (A.c (A.g [.p,.p] [] [(18,b_ false)] (A.Z (A.p (A.d (A.W [9] 10 (A.dT 1 [.p,.p,.p,.ld 2,.p,.ld 4,.p,.p,.p] [0,1,2,3,4,5,6,7,8] [5,18] [(27,uV bs x2),(29,q_ bq 2)] [bq,b3] (A.F 9 rfl (A.sT 2 [uV bs x2] rfl (A.E (A.M (A.c (A.gO [.p,.p,.p,.p,.ld 2,.p,.p,.p,.p,.st 2] [(0,p_ bq),(2,p_ b1),(4,p_ b3)] [BW br ar sx f cp n,BU ar sx f cp,cz bq [p_ br,i_ rm,uV bs x2,u_ k1,u_ (IntKind.u64.wrap (k2+1)),u_ k3,u_ k4,u_ k5,u_ k6] 269,cz b1 [u_ 0,i_ 0,w_ 0,w_ 0,w_ 0,w_ 0] 45,BV b3 x2] [bq,bq] (A.d (A.W [12] 13 (A.dT 1 [.p,.p,.p,.p,.ld 2,.p,.ld 4,.p,.p,.p,.p,.p] [0,1,2,3,4,5,6,7,8,9,10,11] [0] [(47,BS k5 x2),(50,q_ bq 7)] [bq,b3] (A.F 12 rfl (A.sT 2 [BS k5 x2] rfl (A.E (A.M (A.c (A.gO [.ld 4,.st 3,.p] [(2,p_ b1),(3,i_ 0)] [BW br ar sx f cp n,BU ar sx f cp,cz bq [p_ br,i_ rm,uV bs x2,u_ k1,u_ (IntKind.u64.wrap (k2+1)),u_ k3,u_ k4,BS k5 x2,u_ k6] 269,BV b1 x2,BV b3 x2] [b3,b1] (A.e (A.aG [2,0,0] [.agg #[u_ x2.qi,i_ x2.qn,w_ x2.qa,w_ x2.qb,w_ x2.qc,w_ x2.qd],i_ 0] (fun aa ww rr ss=>⟨iG 3 rr ss,fQ rr rfl,trivial⟩) (x2,IntKind.u64.wrap (k2+1),IntKind.u64.wrap (k5+(IntKind.u64.wrap (x2.qn)))) ?_ ?_ (by kernel_rfl)))))))))))))))))))))))))
 ·rfl
 assumption
theorem Jf(w:World):
  CW 214 #[n_] w (i_ 0):=by
 refine A.C Tryz.func214 rfl (HS.nil w) (A.c (A.g [.p] [] [] (A.d (A.c (A.k [.p,.cq (i_ 0),.p] [] [(7,b_ true)] [] (o1 (qo (fun ww ss=>D9 ww))) (A.ct (A.c (A.g [.p] [0,7] [(2,i_ 0)] (A.e (A.N [i_ 0] ?_))))))))))
 rfl
theorem J3(bq br:Nat)(ar:Option Addr)(sx:List Pk)(cp f n:Nat)(rm bs k1 k2 k3 k4 k5 k6:Int)(hn:n=0)(w:World)(r0:(cz bq [p_ br,i_ rm,i_ bs,u_ k1,u_ k2,u_ k3,u_ k4,u_ k5,u_ k6] 269).holds w)(r1:(cz br [.slice ar sx.length cp,i_ (f:Int),i_ (n:Int)] 315).holds w)(r2:(sl ar (sx.length) cp 45 6 (V.dJ fR sx)).holds w):
  CW 214 #[p_ bq] w (i_ 0):=by
 refine A.C Tryz.func214 rfl (HS.nil w) (A.c (A.g [.p] [] [] (A.d (A.c (A.k [.p,.cq (i_ (n:Int)),.p] [] [(7,b_ ((n:Int)==0))] [] (o1 (qo (fun ww ss=>BR bq br ar sx cp f n rm bs k1 k2 k3 k4 k5 k6 ww (da ss r0) (da ss r1)))) (A.v rfl (fun e1=> ?_) (fun e1=> ?_)))))))
 ·refine A.c (A.g [.p] [0,7] [(2,i_ 0)] (A.e (A.N [i_ 0] ?_)))
  rfl
 exact absurd e1 (by(intro h_;simp at h_;omega))
theorem OS(bq br:Nat)(ar:Option Addr)(sx:List Pk)(cp f n:Nat)(rm bs k1 k2 k3 k4 k5 k6:Int)(hf:f<sx.length)(hn:n≤sx.length)(hl:sx.length≤64)(h0:0<n)(w:World)(r0:(cz bq [p_ br,i_ rm,i_ bs,u_ k1,u_ k2,u_ k3,u_ k4,u_ k5,u_ k6] 269).holds w)(r1:(cz br [.slice ar sx.length cp,i_ (f:Int),i_ (n:Int)] 315).holds w)(r2:ez w ar (V.dJ fR sx)):
  CW 214 #[p_ bq] w (i_ ((sx.getD f default).qn)):=by
 refine A.C Tryz.func214 rfl (HS.nil w) (A.c (A.g [.p] [] [] (A.d (A.c (A.k [.p,.cq (i_ (n:Int)),.p] [] [(7,b_ ((n:Int)==0))] [] (o1 (qo (fun ww ss=>BR bq br ar sx cp f n rm bs k1 k2 k3 k4 k5 k6 ww (da ss r0) (da ss r1)))) (A.v rfl (fun e1=> ?_) (fun e1=> ?_)))))))
 ·exact absurd e1 (by(intro h_;simp at h_;omega))
 refine A.p (A.d (A.s (A.no [.p,.p,.p,.rd [p_ br],.cq (.tuple #[.agg #[u_ ((sx.getD ((f+0)%sx.length) default).qi),i_ ((sx.getD ((f+0)%sx.length) default).qn),w_ ((sx.getD ((f+0)%sx.length) default).qa),w_ ((sx.getD ((f+0)%sx.length) default).qb),w_ ((sx.getD ((f+0)%sx.length) default).qc),w_ ((sx.getD ((f+0)%sx.length) default).qd)],i_ 0]),.p,.p,.p,.al,.st 0,.p] [0,7] (fun b1=>[(3,p_ b1)]) (fun b1=>[]) (fun b1=>cz b1 [u_ ((sx.getD ((f+0)%sx.length) default).qi),i_ ((sx.getD ((f+0)%sx.length) default).qn),w_ ((sx.getD ((f+0)%sx.length) default).qa),w_ ((sx.getD ((f+0)%sx.length) default).qb),w_ ((sx.getD ((f+0)%sx.length) default).qc),w_ ((sx.getD ((f+0)%sx.length) default).qd)] 45) (fun b1=>[b1]) (fun b1=>oc (ro ⟨bq,0,none⟩ (vs:=[p_ br]) (dj r0 rfl)) (o1 (qo (fun ww ss=>Ih br ar sx cp f n 0 (by assumption) (by assumption) (by assumption) (by assumption) ww (da ss r1) ((ef r2 (by simp[dG])) ww ss))))) ?_)))
 intro b1
 refine A.c (A.gl [.p,.ld 0,.p] [3] [(2,i_ ((sx.getD ((f+0)%sx.length) default).qn))] [b1] (A.e (A.N [i_ ((sx.getD ((f+0)%sx.length) default).qn)] ?_)))
 show((i_ ((sx.getD ((f+0)%sx.length) default).qn)):Value)=(i_ ((sx.getD f default).qn))
 rw[Nat.add_zero,Nat.mod_eq_of_lt hf]
abbrev BX(p0:Pk):=([(8,b_ ((decide (p0.qn<1))||(decide (p0.qn>16384))))]:dQ)
abbrev BY(p0):=(u_ (IntKind.u64.wrap (p0+1)):Value)
abbrev Ql(p0)(p1:Pk):=(cz p0 [u_ p1.qi,i_ p1.qn,w_ p1.qa,w_ p1.qb,w_ p1.qc,w_ p1.qd] 45:V.dC)
abbrev xc(p0:Pk):=(.agg #[u_ p0.qi,i_ p0.qn,w_ p0.qa,w_ p0.qb,w_ p0.qc,w_ p0.qd]:Value)
abbrev sP(p0)(p1:Pk):=(u_ (IntKind.u64.wrap (p0+(IntKind.u64.wrap (p1.qn)))):Value)
abbrev pS(p0)(p1)(p2)(p3)(p4)(p5)(p6)(p7)(p8)(p9)(p10)(p11:List Pk)(p12)(p13)(p14):=([cz p0 [p_ p1,i_ p2,i_ p3,u_ p4,u_ p5,u_ p6,u_ p7,u_ p8,u_ p9] 269,cz p1 [.slice p10 p11.length p12,i_ (p13:Int),i_ (p14:Int)] 315,sl p10 (p11.length) p12 45 6 (V.dJ fR p11)]:List V.dC)
theorem J4(bq br:Nat)(ar:Option Addr)(sx:List Pk)(cp f n:Nat)(rm bs k1 k2 k3 k4 k5 k6:Int)(p:Pk)(hp:1≤p.qn∧p.qn≤16384)(hd:IntKind.i64.wrap (rm-bs)<p.qn)(w:World)(hs:HI w (pS bq br rm bs k1 k2 k3 k4 k5 k6 ar sx cp f n)):
  CV 112 #[p_ bq,xc p] w (pS bq br rm bs k1 k2 k3 k4 k5 k6 ar sx cp f n) (fun((z3,z6):Int×Int)=>(i_ 30)) (fun _=>True) fun(z3,z6)=>(pS bq br rm bs k1 k2 z3 k4 k5 z6 ar sx cp f n):=by
 refine A.C Tryz.func112 rfl hs (A.c (A.n1 [.al,.p] [1] (fun b1=>[(3,p_ b1)]) (fun b1=>cz b1 [u_ p.qi,i_ p.qn,w_ p.qa,w_ p.qb,w_ p.qc,w_ p.qd] 45) ?_))
 intro b1
 refine A.d (A.y (A.c (A.g [.p,.p,.p] [] [(5,b_ false)] (A.Z (A.c (A.gl [.p,.ld 3,.p,.p,.o,.p,.ld 3,.p,.cl,.p] [5] (BX p) [b1,b1] (A.v rfl (fun e1=> ?_) (fun e1=> ?_))))))))
 ·exact absurd e1 (by(intro h_;simp at h_;omega))
 refine A.d (A.W [] 22 (A.dT 9 [.p,.ld 3,.p,.p,.p,.ld 0,.p,.p,.p,.ld 0,.p,.p,.p] [0,1,2,3,4,5,6,7,8,9,10,11,12] [8] [(30,b_ (decide (p.qn>(IntKind.i64.wrap (rm-bs)))))] [b1,bq,bq] (A.aR (decide (p.qn>(IntKind.i64.wrap (rm-bs)))) (fun e2=> ?_) (fun e2=> ?_))))
 ·refine A.D 30 (b_ true) (gw e2) (A.dT 0 [.sk,.sk,.sk,.sk,.sk,.sk,.sk,.p,.p] [13,14,15,16,17,18,19,20,21] [30] [(17,b_ true)] [] (A.M (A.ct (A.c (A.gs [.p,.p,.p,.p,.ld 0,.p,.p,.p,.p,.st 0] [17] [] [(0,cz bq [p_ br,i_ rm,i_ bs,u_ k1,u_ k2,BY k3,u_ k4,u_ k5,u_ k6] 269)] [bq,bq] (A.d (A.W [12] 13 (A.dT 1 [.p,.p,.p,.p,.ld 0,.p,.ld 3,.p,.p,.p,.p,.p] [0,1,2,3,4,5,6,7,8,9,10,11] [0,3] [(56,sP k6 p),(59,q_ bq 8)] [bq,b1] (A.F 12 rfl (A.sT 0 [sP k6 p] rfl (A.E (A.M (A.c (A.h [.p] [(4,i_ 30)] [] (A.e (A.Y [0,0,0] [i_ 30] (IntKind.u64.wrap (k3+1),IntKind.u64.wrap (k6+(IntKind.u64.wrap (p.qn)))) ?_ ?_))))))))))))))))
  ·rfl
  trivial
 exact absurd e2 (by(intro h_;simp at h_;omega))
theorem J5(bq br:Nat)(ar:Option Addr)(sx:List Pk)(cp f n:Nat)(rm bs k1 k2 k3 k4 k5 k6:Int)(p:Pk)(hp:1≤p.qn∧p.qn≤16384)(hd:p.qn≤IntKind.i64.wrap (rm-bs))(hn:n=sx.length)(w:World)(hs:HI w (pS bq br rm bs k1 k2 k3 k4 k5 k6 ar sx cp f n)):
  CV 112 #[p_ bq,xc p] w (pS bq br rm bs k1 k2 k3 k4 k5 k6 ar sx cp f n) (fun((z3,z6):Int×Int)=>(i_ 30)) (fun _=>True) fun(z3,z6)=>(pS bq br rm bs k1 k2 z3 k4 k5 z6 ar sx cp f n):=by
 refine A.C Tryz.func112 rfl hs (A.c (A.n1 [.al,.p] [1] (fun b1=>[(3,p_ b1)]) (fun b1=>cz b1 [u_ p.qi,i_ p.qn,w_ p.qa,w_ p.qb,w_ p.qc,w_ p.qd] 45) ?_))
 intro b1
 refine A.d (A.y (A.c (A.g [.p,.p,.p] [] [(5,b_ false)] (A.Z (A.c (A.gl [.p,.ld 3,.p,.p,.o,.p,.ld 3,.p,.cl,.p] [5] (BX p) [b1,b1] (A.v rfl (fun e1=> ?_) (fun e1=> ?_))))))))
 ·exact absurd e1 (by(intro h_;simp at h_;omega))
 refine A.d (A.ka [.p,.ld 3,.p,.p,.p,.ld 0,.p,.p,.p,.ld 0,.p,.p,.p,.o,.p,.p,.p,.ld 0,.ld 3,.cq (i_ 5),.p,.cl,.p] [0,1,2,3,4,5,6,7,8,9,10,11,12,13,14,15,16,17,18,19,20,21] [8] [(17,b_ ((decide (p.qn>(IntKind.i64.wrap (rm-bs))))||true))] [b1,bq,bq,bq,b1] (o1 (go (true&&((decide (p.qn>(IntKind.i64.wrap (rm-bs))))==false)) fun h_=>(qo (fun ww ss=>OQ br ar sx cp f n p ‹_› ww (ss.mem (i:=1) rfl) (ss.mem (i:=2) rfl))))) (A.v rfl (fun e2=> ?_) (fun e2=> ?_)))
 ·refine A.c (A.gs [.p,.p,.p,.p,.ld 0,.p,.p,.p,.p,.st 0] [17] [] [(0,cz bq [p_ br,i_ rm,i_ bs,u_ k1,u_ k2,BY k3,u_ k4,u_ k5,u_ k6] 269)] [bq,bq] (A.d (A.W [12] 13 (A.dT 1 [.p,.p,.p,.p,.ld 0,.p,.ld 3,.p,.p,.p,.p,.p] [0,1,2,3,4,5,6,7,8,9,10,11] [0,3] [(56,sP k6 p),(59,q_ bq 8)] [bq,b1] (A.F 12 rfl (A.sT 0 [sP k6 p] rfl (A.E (A.M (A.c (A.h [.p] [(4,i_ 30)] [] (A.e (A.Y [0,0,0] [i_ 30] (IntKind.u64.wrap (k3+1),IntKind.u64.wrap (k6+(IntKind.u64.wrap (p.qn)))) ?_ ?_))))))))))))
  ·rfl
  trivial
 exact absurd e2 (by(intro h_;simp at h_))
abbrev xd(p0)(p1:Pk):=(i_ (IntKind.i64.wrap (p0+p1.qn)):Value)
abbrev Ht(p0)(p1)(p2:List Pk)(p3)(p4)(p5)(p6):=(cz p0 [.slice p1 ((p2.set ((p3+p4)%p2.length) p5).length) p6,i_ (p3:Int),i_ ((p4+1:Nat):Int)] 315:V.dC)
abbrev Hu(p0)(p1:List Pk)(p2)(p3)(p4)(p5):=(sl p0 ((p1.set ((p2+p3)%p1.length) p4).length) p5 45 6 (V.dJ fR (p1.set ((p2+p3)%p1.length) p4)):V.dC)
theorem OT(bq br:Nat)(ar:Option Addr)(sx:List Pk)(cp f n:Nat)(rm bs k1 k2 k3 k4 k5 k6:Int)(p:Pk)(hp:1≤p.qn∧p.qn≤16384)(hd:p.qn≤IntKind.i64.wrap (rm-bs))(hf:f<sx.length)(hn:n<sx.length)(hl:sx.length≤64)(w:World)(hs:HI w (pS bq br rm bs k1 k2 k3 k4 k5 k6 ar sx cp f n)):
  CV 112 #[p_ bq,xc p] w (pS bq br rm bs k1 k2 k3 k4 k5 k6 ar sx cp f n) (fun((z1,z4):Int×Int)=>(i_ 0)) (fun _=>True) fun(z1,z4)=>[cz bq [p_ br,i_ rm,xd bs p,u_ z1,u_ k2,u_ k3,u_ z4,u_ k5,u_ k6] 269,Ht br ar sx f n p cp,Hu ar sx f n p cp]:=by
 refine A.C Tryz.func112 rfl hs (A.c (A.n1 [.al,.p] [1] (fun b1=>[(3,p_ b1)]) (fun b1=>cz b1 [u_ p.qi,i_ p.qn,w_ p.qa,w_ p.qb,w_ p.qc,w_ p.qd] 45) ?_))
 intro b1
 refine A.d (A.y (A.c (A.g [.p,.p,.p] [] [(5,b_ false)] (A.Z (A.c (A.gl [.p,.ld 3,.p,.p,.o,.p,.ld 3,.p,.cl,.p] [5] (BX p) [b1,b1] (A.v rfl (fun e1=> ?_) (fun e1=> ?_))))))))
 ·exact absurd e1 (by(intro h_;simp at h_;omega))
 refine A.d (A.W [18] 22 (A.dT 9 [.p,.ld 3,.p,.p,.p,.ld 0,.p,.p,.p,.ld 0,.p,.p,.p] [0,1,2,3,4,5,6,7,8,9,10,11,12] [8] [(30,b_ (decide (p.qn>(IntKind.i64.wrap (rm-bs)))))] [b1,bq,bq] (A.aR (decide (p.qn>(IntKind.i64.wrap (rm-bs)))) (fun e2=> ?_) (fun e2=> ?_))))
 ·exact absurd e2 (by(intro h_;simp at h_;omega))
 refine A.D 30 (b_ false) (gw e2) (A.dT 4 [.p,.p,.p,.ld 0,.ld 3] [13,14,15,16,17] [] [(34,p_ br),(35,xc p)] [bq,b1] (A.F 18 rfl (A.J (some 36) [1,1] (fun ww ss hh=>OR br ar sx cp f n p ‹_› ‹_› ‹_› ww hh) ?_)))
 rintro⟨⟩-
 refine A.E (A.dT 0 [.p,.p,.p] [19,20,21] [30,34,35,36] [(17,b_ false)] [] (A.M (A.Z (A.p (A.d (A.W [9] 10 (A.dT 1 [.p,.p,.p,.ld 2,.p,.ld 3,.p,.p,.p] [0,1,2,3,4,5,6,7,8] [17] [(66,xd bs p),(68,q_ bq 2)] [bq,b1] (A.F 9 rfl (A.sT 2 [xd bs p] rfl (A.E (A.M (A.c (A.gO [.p,.p,.p,.p,.ld 2,.p,.p,.p,.p,.st 2] [(0,p_ bq),(3,p_ b1)] [Ht br ar sx f n p cp,Hu ar sx f n p cp,cz bq [p_ br,i_ rm,xd bs p,BY k1,u_ k2,u_ k3,u_ k4,u_ k5,u_ k6] 269,Ql b1 p] [bq,bq] (A.d (A.W [12] 13 (A.dT 1 [.p,.p,.p,.p,.ld 2,.p,.ld 3,.p,.p,.p,.p,.p] [0,1,2,3,4,5,6,7,8,9,10,11] [0,3] [(86,sP k4 p),(89,q_ bq 6)] [bq,b1] (A.F 12 rfl (A.sT 2 [sP k4 p] rfl (A.E (A.M (A.c (A.h [.p] [(4,i_ 0)] [] (A.e (A.Y [2,0,0] [i_ 0] (IntKind.u64.wrap (k1+1),IntKind.u64.wrap (k4+(IntKind.u64.wrap (p.qn)))) ?_ ?_))))))))))))))))))))))))
 ·rfl
 trivial
structure Cv where
 ka:Int
 kb:Int
 kc:Int
 deriving Inhabited,DecidableEq
def eo(x:Cv):List Value:=[(u_ x.ka),(u_ x.kb),(u_ x.kc)]
theorem nr(x:Cv):(eo x).length=3:=rfl
theorem KX(x:Cv):(eo x).all Value.oneCell'=true:=rfl
abbrev tC(A:Option Addr)(xs:List Cv)(c:Nat):V.dC:=sl A xs.length c 60 3 (V.dJ eo xs)
def dM(a b c:Int):Int:=if a=0∧b=0∧c=0 then 1 else if(a>4294967295∨c>4294967295)∨b>1048576 then 0 else if b=0∧a=c then 2 else if b>0∧a>c then 3 else if(b>0∧a=0)∧c>0 then 4 else 0
def fP(a b c:Int):Int:=if(a>4294967295∨c>4294967295)∨b>1048576 then 0 else if(a=0∧c=0)∧b=0 then 1 else if b=0∧a=c then 2 else if b=0 then 0 else if a>c then 3 else if a=0∧c>0 then 4 else 0
theorem tw(a b c:Int):0≤dM a b c∧dM a b c≤4:=by unfold dM;grind
theorem wA{a b c:Int}(ha:0≤a)(hb:0≤b)(hc:0≤c):dM a b c=fP a b c:=by unfold dM fP;grind
set_option maxHeartbeats 4000000 in
set_option maxRecDepth 100000 in
theorem ow(a b c:Int)(w:World):
  CW 167 #[.agg #[u_ a,u_ b,u_ c]] w (i_ (dM a b c)):=by
 refine A.C Tryz.func167 rfl (HS.nil w) (A.aO [(0,.agg #[u_ a,u_ b,u_ c])] [] ⟨rfl,trivial⟩ rfl (A.c (A.aH [.al,.p] [1] (fun b1=>[(1,p_ b1)]) (fun b1=>[cz b1 [u_ a,u_ b,u_ c] 60]) (fun b1=>[]) (fun _=>T0) (fun _=>by kernel_rfl) (fun b1=>trivial) ?_)))
 intro b1
 refine A.d (A.y (A.c (A.h [.ld 0,.p,.eq,.p] [(1,p_ b1),(3,b_ ((a==0)&&((b==0)&&(c==0))))] [b1] (A.v (E:=(a==0)&&((b==0)&&(c==0))) rfl (fun e1=> ?_) (fun e1=> ?_)))))
 ·skip
  refine A.c (A.h [.p] [(2,i_ 1)] [] ?_)
  refine A.e (A.aK [i_ 1] (fun aa ww rr ss=>⟨fQ rr rfl,trivial⟩) ?_)
  refine congrArg (Value.int .i64) ?_;unfold dM;grind[eC]
 ·skip
  refine A.c (A.h [.p,.ld 0,.p,.ld 0,.p,.p,.p,.o,.p,.ld 0,.p,.cl,.p] [(1,p_ b1),(7,b_ ((decide ((eC a c)>4294967295))||(decide (b>1048576))))] [b1,b1,b1] (A.v (E:=(decide ((eC a c)>4294967295))||(decide (b>1048576))) rfl (fun e2=> ?_) (fun e2=> ?_)))
  ·skip
   refine A.c (A.h [.p] [(2,i_ 0)] [] ?_)
   refine A.e (A.aK [i_ 0] (fun aa ww rr ss=>⟨fQ rr rfl,trivial⟩) ?_)
   refine congrArg (Value.int .i64) ?_;unfold dM;grind[eC]
  ·skip
   refine A.c (A.h [.p,.ld 0,.p,.p,.o,.p,.ld 0,.p,.ld 0,.p,.cl,.p] [(1,p_ b1),(19,b_ ((b==0)&&(a==c)))] [b1,b1,b1] (A.v (E:=(b==0)&&(a==c)) rfl (fun e3=> ?_) (fun e3=> ?_)))
   ·skip
    refine A.c (A.h [.p] [(2,i_ 2)] [] ?_)
    refine A.e (A.aK [i_ 2] (fun aa ww rr ss=>⟨fQ rr rfl,trivial⟩) ?_)
    refine congrArg (Value.int .i64) ?_;unfold dM;grind[eC]
   ·skip
    refine A.c (A.h [.p,.ld 0,.p,.p,.o,.p,.ld 0,.p,.ld 0,.p,.cl,.p] [(1,p_ b1),(30,b_ ((decide (b>0))&&(decide (a>c))))] [b1,b1,b1] (A.v (E:=(decide (b>0))&&(decide (a>c))) rfl (fun e4=> ?_) (fun e4=> ?_)))
    ·skip
     refine A.c (A.h [.p] [(2,i_ 3)] [] ?_)
     refine A.e (A.aK [i_ 3] (fun aa ww rr ss=>⟨fQ rr rfl,trivial⟩) ?_)
     refine congrArg (Value.int .i64) ?_;unfold dM;grind[eC]
    ·skip
     refine A.c (A.h [.p,.ld 0,.p,.p,.o,.p,.ld 0,.p,.cl,.p,.o,.p,.ld 0,.p,.cl,.p] [(41,b_ (((decide (b>0))&&(a==0))&&(decide (c>0))))] [b1,b1,b1] (A.v (E:=((decide (b>0))&&(a==0))&&(decide (c>0))) rfl (fun e5=> ?_) (fun e5=> ?_)))
     ·skip
      refine A.c (A.h [.p] [(2,i_ 4)] [] ?_)
      refine A.e (A.aK [i_ 4] (fun aa ww rr ss=>⟨fQ rr rfl,trivial⟩) ?_)
      refine congrArg (Value.int .i64) ?_;unfold dM;grind[eC]
     ·skip
      refine A.p (A.c (A.h [.p] [(2,i_ 0)] [] ?_))
      refine A.e (A.aK [i_ 0] (fun aa ww rr ss=>⟨fQ rr rfl,trivial⟩) ?_)
      refine congrArg (Value.int .i64) ?_;unfold dM;grind[eC]
set_option maxHeartbeats 4000000 in
set_option maxRecDepth 100000 in
theorem yv(a b c:Int)(w:World):
  CW 15 #[.agg #[u_ a,u_ b,u_ c]] w (i_ (fP a b c)):=by
 refine A.C Tryz.func15 rfl (HS.nil w) (A.aO [(0,.agg #[u_ a,u_ b,u_ c])] [] ⟨rfl,trivial⟩ rfl (A.c (A.aH [.al,.p] [1] (fun b1=>[(1,p_ b1)]) (fun b1=>[cz b1 [u_ a,u_ b,u_ c] 60]) (fun b1=>[]) (fun _=>T0) (fun _=>by kernel_rfl) (fun b1=>trivial) ?_)))
 intro b1
 refine A.c (A.h [.p] [(1,p_ b1),(3,u_ 4294967295)] [] (A.d (A.c (A.h [.p,.ld 0,.p,.p,.p,.o,.p,.ld 0,.p,.p,.cl,.p,.o,.p,.ld 0,.p,.cl] [(1,p_ b1),(18,b_ (((decide (a>4294967295))||(decide (c>4294967295)))||(decide (b>1048576))))] [b1,b1,b1] (A.v (E:=((decide (a>4294967295))||(decide (c>4294967295)))||(decide (b>1048576))) rfl (fun e1=> ?_) (fun e1=> ?_))))))
 ·skip
  refine A.c (A.h [.p] [(2,i_ 0)] [] ?_)
  refine A.e (A.aK [i_ 0] (fun aa ww rr ss=>⟨fQ rr rfl,trivial⟩) ?_)
  refine congrArg (Value.int .i64) ?_;unfold fP;grind[eC]
 ·skip
  refine A.p (A.d (A.c (A.h [.p,.ld 0,.p,.p,.o,.p,.ld 0,.p,.cl,.p,.o,.p,.ld 0,.p,.cl] [(1,p_ b1),(31,b_ (((a==0)&&(c==0))&&(b==0)))] [b1,b1,b1] (A.v (E:=((a==0)&&(c==0))&&(b==0)) rfl (fun e2=> ?_) (fun e2=> ?_)))))
  ·skip
   refine A.c (A.h [.p] [(2,i_ 1)] [] ?_)
   refine A.e (A.aK [i_ 1] (fun aa ww rr ss=>⟨fQ rr rfl,trivial⟩) ?_)
   refine congrArg (Value.int .i64) ?_;unfold fP;grind[eC]
  ·skip
   refine A.p (A.d (A.c (A.h [.p,.ld 0,.p,.p,.o,.p,.ld 0,.p,.ld 0,.p,.cl] [(1,p_ b1),(41,b_ ((b==0)&&(a==c)))] [b1,b1,b1] (A.v (E:=(b==0)&&(a==c)) rfl (fun e3=> ?_) (fun e3=> ?_)))))
   ·skip
    refine A.c (A.h [.p] [(2,i_ 2)] [] ?_)
    refine A.e (A.aK [i_ 2] (fun aa ww rr ss=>⟨fQ rr rfl,trivial⟩) ?_)
    refine congrArg (Value.int .i64) ?_;unfold fP;grind[eC]
   ·skip
    refine A.p (A.d (A.c (A.h [.p,.ld 0,.p] [(1,p_ b1),(44,b_ (b==0))] [b1] (A.v (E:=b==0) rfl (fun e4=> ?_) (fun e4=> ?_)))))
    ·skip
     refine A.c (A.h [.p] [(2,i_ 0)] [] ?_)
     refine A.e (A.aK [i_ 0] (fun aa ww rr ss=>⟨fQ rr rfl,trivial⟩) ?_)
     refine congrArg (Value.int .i64) ?_;unfold fP;grind[eC]
    ·skip
     refine A.p (A.d (A.c (A.h [.p,.ld 0,.p,.ld 0,.p] [(1,p_ b1),(49,b_ (decide (a>c)))] [b1,b1] (A.v (E:=decide (a>c)) rfl (fun e5=> ?_) (fun e5=> ?_)))))
     ·skip
      have p5:=of_decide_eq_true e5
      refine A.c (A.h [.p] [(2,i_ 3)] [] ?_)
      refine A.e (A.aK [i_ 3] (fun aa ww rr ss=>⟨fQ rr rfl,trivial⟩) ?_)
      refine congrArg (Value.int .i64) ?_;unfold fP;grind[eC]
     ·skip
      have p5:=of_decide_eq_false e5
      refine A.p (A.d (A.c (A.h [.p,.ld 0,.p,.p,.o,.p,.ld 0,.p,.cl] [(57,b_ ((a==0)&&(decide (c>0))))] [b1,b1] (A.v (E:=(a==0)&&(decide (c>0))) rfl (fun e6=> ?_) (fun e6=> ?_)))))
      ·skip
       refine A.c (A.h [.p] [(2,i_ 4)] [] ?_)
       refine A.e (A.aK [i_ 4] (fun aa ww rr ss=>⟨fQ rr rfl,trivial⟩) ?_)
       refine congrArg (Value.int .i64) ?_;unfold fP;grind[eC]
      ·skip
       refine A.p (A.c (A.h [.p] [(2,i_ 0)] [] ?_))
       refine A.e (A.aK [i_ 0] (fun aa ww rr ss=>⟨fQ rr rfl,trivial⟩) ?_)
       refine congrArg (Value.int .i64) ?_;unfold fP;grind[eC]
set_option maxHeartbeats 4000000 in
set_option maxRecDepth 100000 in
theorem qF(a b c:Int)(w:World):
  CW 176 #[.agg #[u_ a,u_ b,u_ c]] w (b_ (dM a b c !=0)):=by
 refine A.C Tryz.func176 rfl (HS.nil w) (A.aO [(0,.agg #[u_ a,u_ b,u_ c])] [] ⟨rfl,trivial⟩ rfl (A.c (A.aH [.al,.p] [1] (fun b1=>[(1,p_ b1)]) (fun b1=>[cz b1 [u_ a,u_ b,u_ c] 60]) (fun b1=>[]) (fun _=>T0) (fun _=>by kernel_rfl) (fun b1=>trivial) ?_)))
 intro b1
 refine A.c (A.hk [.ld 0,.cq (i_ (dM a b c)),.p,.p] [(2,b_ ((dM a b c)!=0))] [b1] (o1 (qo (fun ww ss=>ow a b c ww))) (A.e (A.aK [b_ ((dM a b c)!=0)] (fun aa ww rr ss=>⟨fQ rr rfl,trivial⟩) ?_)))
 first|rfl|simp_all
structure Nm where
 nq1:Int
 nq2:Int
 deriving Inhabited,DecidableEq
def eB(x:Nm):List Value:=[(u_ x.nq1),(u_ x.nq2)]
structure Ln where
 lq1:Int
 lq2:Int
 lq3:Int
 lq4:Int
 deriving Inhabited,DecidableEq
def jB(x:Ln):List Value:=[(u_ x.lq1),(u_ x.lq2),(u_ x.lq3),(u_ x.lq4)]
structure Rn where
 rq1:Int
 rq2:Int
 rq3:Int
 rq4:Int
 rq5:Int
 rq6:Int
 rq7:Int
 rq8:Int
 rq9:Bool
 deriving Inhabited,DecidableEq
def dw(x:Rn):List Value:=[(u_ x.rq1),(u_ x.rq2),(u_ x.rq3),(u_ x.rq4),(u_ x.rq5),(u_ x.rq6),(u_ x.rq7),(u_ x.rq8),(b_ x.rq9)]
structure Du where
 dq1:Bool
 dq2:Int
 dq3:Int
 dq4:Int
 dq5:Int
 dq6:Int
 dq7:Int
 dq8:Int
 dq9:Int
 dq10:Bool
 dq11:Int
 dq12:Int
 dq13:Int
 dq14:Int
 dq15:Int
 dq16:Int
 dq17:Int
 dq18:Int
 dq19:Bool
 dq20:Int
 dq21:Int
 dq22:Int
 deriving Inhabited,DecidableEq
def fi(x:Du):List Value:=[(b_ x.dq1),(u_ x.dq2),(u_ x.dq3),(u_ x.dq4),(u_ x.dq5),(u_ x.dq6),(u_ x.dq7),(u_ x.dq8),(u_ x.dq9),(b_ x.dq10),(u_ x.dq11),(u_ x.dq12),(u_ x.dq13),(u_ x.dq14),(u_ x.dq15),(u_ x.dq16),(u_ x.dq17),(u_ x.dq18),(b_ x.dq19),(u_ x.dq20),(u_ x.dq21),(u_ x.dq22)]
structure Sh where
 sq1:Bool
 sq2:Int
 sq3:Int
 sq4:Int
 sq5:Int
 sq6:Int
 sq7:Int
 sq8:Int
 sq9:Int
 sq10:Bool
 sq11:Int
 deriving Inhabited,DecidableEq
def gy(x:Sh):List Value:=[(b_ x.sq1),(u_ x.sq2),(u_ x.sq3),(u_ x.sq4),(u_ x.sq5),(u_ x.sq6),(u_ x.sq7),(u_ x.sq8),(u_ x.sq9),(b_ x.sq10),(u_ x.sq11)]
structure Li where
 uq1:Bool
 uq2:Int
 uq3:Int
 uq4:Int
 uq5:Int
 uq6:Int
 uq7:Int
 uq8:Int
 uq9:Int
 uq10:Bool
 uq11:Int
 deriving Inhabited,DecidableEq
def gY(x:Li):List Value:=[(b_ x.uq1),(u_ x.uq2),(u_ x.uq3),(u_ x.uq4),(u_ x.uq5),(u_ x.uq6),(u_ x.uq7),(u_ x.uq8),(u_ x.uq9),(b_ x.uq10),(u_ x.uq11)]
def mS(a b c:Int):Int:=IntKind.u64.wrap ((IntKind.u64.wrap (a+b))+c)
def jZ(a b c:Int):Int:=(dE .or .u64 (dE .and .u64 a b) (dE .andNot .u64 (dE .or .u64 a b) (mS a b c)))/9223372036854775808
def mT(a b c:Int):Int:=IntKind.u64.wrap ((IntKind.u64.wrap (a-b))-c)
def ja(a b c:Int):Int:=(dE .or .u64 (dE .and .u64 (dE .xor .u64 18446744073709551615 a) b) (dE .and .u64 (dE .xor .u64 18446744073709551615 (dE .xor .u64 a b)) (mT a b c)))/9223372036854775808
def gj(a b:Nm):Nm:=⟨mS a.nq1 b.nq1 (jZ a.nq2 b.nq2 0),mS a.nq2 b.nq2 0⟩
def sq(a b:Nm):Bool:=jZ a.nq1 b.nq1 (jZ a.nq2 b.nq2 0)!=0
def lL(a b:Nm):Nm:=⟨mT a.nq1 b.nq1 (ja a.nq2 b.nq2 0),mT a.nq2 b.nq2 0⟩
def Iq(a b:Nm):Bool:=ja a.nq1 b.nq1 (ja a.nq2 b.nq2 0)!=0
def nf(a b:Nm):Int:=if a.nq1<b.nq1∨a.nq1=b.nq1∧a.nq2<b.nq2 then-1 else if a.nq1=b.nq1∧a.nq2=b.nq2 then 0 else 1
def Ir(a b:Int):Int:=IntKind.u64.wrap ((dE .and .u64 a 4294967295)*(dE .and .u64 b 4294967295))
def Iu(a b:Int):Int:=IntKind.u64.wrap ((IntKind.u64.wrap ((a/4294967296)*(dE .and .u64 b 4294967295)))+((Ir a b)/4294967296))
def Iw(a b:Int):Int:=IntKind.u64.wrap ((IntKind.u64.wrap ((dE .and .u64 a 4294967295)*(b/4294967296)))+(dE .and .u64 (Iu a b) 4294967295))
def dB(a b:Int):Nm:=⟨IntKind.u64.wrap ((IntKind.u64.wrap ((IntKind.u64.wrap ((a/4294967296)*(b/4294967296)))+((Iu a b)/4294967296)))+((Iw a b)/4294967296)),dE .or .u64 (IntKind.u64.wrap ((Iw a b)*4294967296)) (dE .and .u64 (Ir a b) 4294967295)⟩
abbrev xR(p0)(p1)(p2):=(u_ (IntKind.u64.wrap ((IntKind.u64.wrap (p0+p1))+p2)):Value)
abbrev BB(p0)(p1)(p2):=(u_ ((dE .or .u64 (dE .and .u64 p0 p1) (dE .andNot .u64 (dE .or .u64 p0 p1) (IntKind.u64.wrap ((IntKind.u64.wrap (p0+p1))+p2))))/9223372036854775808):Value)
theorem H9(a b c:Int)(w:World):
  CW 262 #[u_ a,u_ b,u_ c] w (.tuple #[u_ (mS a b c),u_ (jZ a b c)]):=by
 refine A.C Tryz.func262 rfl (HS.nil w) (A.c (A.g [.p,.p] [] [] (A.c (A.g [.p,.p,.p,.p,.p,.p] [2] [(8,xR a b c)] (A.c (A.O [.p,.p,.p,.p,.p,.p,.p,.p,.p,.p] [0,1,8] [(14,xR a b c),(23,u_ (dE .or .u64 (dE .and .u64 a b) (dE .andNot .u64 (dE .or .u64 a b) (IntKind.u64.wrap ((IntKind.u64.wrap (a+b))+c)))))] (A.j (A.u (some 24) (BB a b c) (gx (congrArg (Value.int .u64) (Int.fdiv_eq_ediv_of_nonneg (dE .or .u64 (dE .and .u64 a b) (dE .andNot .u64 (dE .or .u64 a b) (IntKind.u64.wrap ((IntKind.u64.wrap (a+b))+c)))) (by decide))) (ia (v:= .int .u64 ((dE .or .u64 (dE .and .u64 a b) (dE .andNot .u64 (dE .or .u64 a b) (IntKind.u64.wrap ((IntKind.u64.wrap (a+b))+c)))).fdiv 9223372036854775808)) (by kernel_rfl) fun _=>by kernel_rfl)) (A.g [.p,.p] [14,23,24] [(6,xR a b c),(7,BB a b c)] (A.e (A.N [xR a b c,BB a b c] ?_)))))))))))
 rfl
abbrev xT(p0)(p1)(p2):=(u_ (IntKind.u64.wrap ((IntKind.u64.wrap (p0-p1))-p2)):Value)
abbrev BC(p0)(p1)(p2):=(u_ ((dE .or .u64 (dE .and .u64 (dE .xor .u64 18446744073709551615 p0) p1) (dE .and .u64 (dE .xor .u64 18446744073709551615 (dE .xor .u64 p0 p1)) (IntKind.u64.wrap ((IntKind.u64.wrap (p0-p1))-p2))))/9223372036854775808):Value)
theorem Ha(a b c:Int)(w:World):
  CW 281 #[u_ a,u_ b,u_ c] w (.tuple #[u_ (mT a b c),u_ (ja a b c)]):=by
 refine A.C Tryz.func281 rfl (HS.nil w) (A.c (A.g [.p,.p] [] [] (A.c (A.g [.p,.p,.p,.p,.p,.p] [2] [(8,xT a b c)] (A.c (A.O [.p,.p,.p,.p,.p,.p,.p,.p,.p,.p,.p,.p] [0,1,8] [(14,xT a b c),(25,u_ (dE .or .u64 (dE .and .u64 (dE .xor .u64 18446744073709551615 a) b) (dE .and .u64 (dE .xor .u64 18446744073709551615 (dE .xor .u64 a b)) (IntKind.u64.wrap ((IntKind.u64.wrap (a-b))-c)))))] (A.j (A.u (some 26) (BC a b c) (gx (congrArg (Value.int .u64) (Int.fdiv_eq_ediv_of_nonneg (dE .or .u64 (dE .and .u64 (dE .xor .u64 18446744073709551615 a) b) (dE .and .u64 (dE .xor .u64 18446744073709551615 (dE .xor .u64 a b)) (IntKind.u64.wrap ((IntKind.u64.wrap (a-b))-c)))) (by decide))) (ia (v:= .int .u64 ((dE .or .u64 (dE .and .u64 (dE .xor .u64 18446744073709551615 a) b) (dE .and .u64 (dE .xor .u64 18446744073709551615 (dE .xor .u64 a b)) (IntKind.u64.wrap ((IntKind.u64.wrap (a-b))-c)))).fdiv 9223372036854775808)) (by kernel_rfl) fun _=>by kernel_rfl)) (A.g [.p,.p] [14,25,26] [(6,xT a b c),(7,BC a b c)] (A.e (A.N [xT a b c,BC a b c] ?_)))))))))))
 rfl
theorem xr(a b:Nm)(w:World):
  CW 243 #[.agg (eB a).toArray,.agg (eB b).toArray] w (.tuple #[.agg (eB (gj a b)).toArray,b_ (sq a b)]):=by
 refine A.C Tryz.func243 rfl (HS.nil w) (A.c (A.an [.al,.al,.al,.p] [2,3,4] (fun b1 b2 b3=>[(2,p_ b1),(3,p_ b2),(4,p_ b3)]) (fun b1 b2 b3=>[cz b1 (eB a) 213,cz b2 (eB b) 213,cz b3 [u_ 0,u_ 0] 213]) (fun b1 b2 b3=>[]) (fun _ _ _=>T0) (fun _ _ _=>by kernel_rfl) (fun b1 b2 b3=>trivial) ?_))
 intro b1 b2 b3
 refine A.c (A.k [.p,.ld 0,.p,.ld 1,.cq (.tuple #[u_ (mS a.nq2 b.nq2 0),u_ (jZ a.nq2 b.nq2 0)]),.p,.p,.p,.p,.p] [] [(6,u_ (mS a.nq2 b.nq2 0)),(7,u_ (jZ a.nq2 b.nq2 0))] [b1,b2] (o1 (qo (fun ww ss=>H9 a.nq2 b.nq2 0 ww))) (A.c (A.k [.p,.ld 0,.p,.ld 1,.p,.cq (.tuple #[u_ (mS a.nq1 b.nq1 (jZ a.nq2 b.nq2 0)),u_ (jZ a.nq1 b.nq1 (jZ a.nq2 b.nq2 0))]),.p,.p,.p,.p,.p] [2,3,7] [(8,u_ (mS a.nq1 b.nq1 (jZ a.nq2 b.nq2 0))),(9,u_ (jZ a.nq1 b.nq1 (jZ a.nq2 b.nq2 0)))] [b1,b2] (o1 (qo (fun ww ss=>H9 a.nq1 b.nq1 (jZ a.nq2 b.nq2 0) ww))) (A.c (A.gs [.p,.p,.p,.p,.p,.st 2,.p] [6,8,9] [(5,b_ ((jZ a.nq1 b.nq1 (jZ a.nq2 b.nq2 0))!=0))] [(2,cz b3 [u_ (mS a.nq1 b.nq1 (jZ a.nq2 b.nq2 0)),u_ (mS a.nq2 b.nq2 0)] 213)] [b3] (A.e (A.au 2 [u_ (mS a.nq1 b.nq1 (jZ a.nq2 b.nq2 0)),u_ (mS a.nq2 b.nq2 0)] (b_ ((jZ a.nq1 b.nq1 (jZ a.nq2 b.nq2 0))!=0)) ?_)))))))
 rfl
theorem SY(a b:Nm)(w:World):
  CW 269 #[.agg (eB a).toArray,.agg (eB b).toArray] w (.tuple #[.agg (eB (lL a b)).toArray,b_ (Iq a b)]):=by
 refine A.C Tryz.func269 rfl (HS.nil w) (A.c (A.an [.al,.al,.al,.p] [2,3,4] (fun b1 b2 b3=>[(2,p_ b1),(3,p_ b2),(4,p_ b3)]) (fun b1 b2 b3=>[cz b1 (eB a) 213,cz b2 (eB b) 213,cz b3 [u_ 0,u_ 0] 213]) (fun b1 b2 b3=>[]) (fun _ _ _=>T0) (fun _ _ _=>by kernel_rfl) (fun b1 b2 b3=>trivial) ?_))
 intro b1 b2 b3
 refine A.c (A.k [.p,.ld 0,.p,.ld 1,.cq (.tuple #[u_ (mT a.nq2 b.nq2 0),u_ (ja a.nq2 b.nq2 0)]),.p,.p,.p,.p,.p] [] [(6,u_ (mT a.nq2 b.nq2 0)),(7,u_ (ja a.nq2 b.nq2 0))] [b1,b2] (o1 (qo (fun ww ss=>Ha a.nq2 b.nq2 0 ww))) (A.c (A.k [.p,.ld 0,.p,.ld 1,.p,.cq (.tuple #[u_ (mT a.nq1 b.nq1 (ja a.nq2 b.nq2 0)),u_ (ja a.nq1 b.nq1 (ja a.nq2 b.nq2 0))]),.p,.p,.p,.p,.p] [2,3,7] [(8,u_ (mT a.nq1 b.nq1 (ja a.nq2 b.nq2 0))),(9,u_ (ja a.nq1 b.nq1 (ja a.nq2 b.nq2 0)))] [b1,b2] (o1 (qo (fun ww ss=>Ha a.nq1 b.nq1 (ja a.nq2 b.nq2 0) ww))) (A.c (A.gs [.p,.p,.p,.p,.p,.st 2,.p] [6,8,9] [(5,b_ ((ja a.nq1 b.nq1 (ja a.nq2 b.nq2 0))!=0))] [(2,cz b3 [u_ (mT a.nq1 b.nq1 (ja a.nq2 b.nq2 0)),u_ (mT a.nq2 b.nq2 0)] 213)] [b3] (A.e (A.au 2 [u_ (mT a.nq1 b.nq1 (ja a.nq2 b.nq2 0)),u_ (mT a.nq2 b.nq2 0)] (b_ ((ja a.nq1 b.nq1 (ja a.nq2 b.nq2 0))!=0)) ?_)))))))
 rfl
theorem Ig(a b:Nm)(w:World):
  CW 229 #[.agg (eB a).toArray,.agg (eB b).toArray] w (i_ (nf a b)):=by
 refine A.C Tryz.func229 rfl (HS.nil w) (A.c (A.n2 [.al,.al,.p] [0,1] (fun b1 b2=>[(2,p_ b1),(3,p_ b2)]) (fun b1 b2=>[cz b1 (eB a) 213,cz b2 (eB b) 213]) ?_))
 intro b1 b2
 refine A.d (A.y (A.c (A.gl [.p,.ld 0,.p,.ld 1,.p,.p,.o,.p,.ld 0,.p,.ld 1,.p,.p,.o,.p,.ld 0,.p,.ld 1,.p,.cl,.cl,.p] [] [(5,b_ ((decide (a.nq1<b.nq1))||((a.nq1==b.nq1)&&(decide (a.nq2<b.nq2)))))] [b1,b2,b1,b2,b1,b2] (A.v rfl (fun e1=> ?_) (fun e1=> ?_)))))
 ·refine A.c (A.g [.p] [2,3,5] [(4,i_ (-1))] (A.e (A.N [i_ (-1)] ?_)))
  refine congrArg (Value.int .i64) ?_;unfold nf;grind
 refine A.c (A.gl [.ld 0,.ld 1,.eq,.p] [2,3,5] [(25,b_ ((a.nq1==b.nq1)&&(a.nq2==b.nq2)))] [b1,b2] (A.v rfl (fun e2=> ?_) (fun e2=> ?_)))
 ·refine A.c (A.g [.p] [25] [(4,i_ 0)] (A.e (A.N [i_ 0] ?_)))
  refine congrArg (Value.int .i64) ?_;unfold nf;grind
 have p2:=e2
 refine A.p (A.c (A.g [.p] [25] [(4,i_ 1)] (A.e (A.N [i_ 1] ?_))))
 refine congrArg (Value.int .i64) ?_;unfold nf;grind
theorem qt(a b:Int)(w:World):
  CW 205 #[u_ a,u_ b] w (.agg (eB (dB a b)).toArray):=by
 refine A.C Tryz.func205 rfl (HS.nil w) (A.c (A.n1 [.al] [] (fun b1=>[(4,p_ b1)]) (fun b1=>cz b1 [u_ 0,u_ 0] 213) ?_))
 intro b1
 refine A.c (A.O [.p] [] [(12,u_ a)] (A.j (A.u (some 13) (u_ (a/4294967296)) (gx (congrArg (Value.int .u64) (Int.fdiv_eq_ediv_of_nonneg a (by decide))) (ia (v:= .int .u64 (a.fdiv 4294967296)) (by kernel_rfl) fun _=>by kernel_rfl)) (A.g [.p,.p,.p,.p] [0,12,13] [(5,u_ (a/4294967296)),(6,u_ (dE .and .u64 a 4294967295))] (A.c (A.O [.p] [] [(16,u_ b)] (A.j (A.u (some 17) (u_ (b/4294967296)) (gx (congrArg (Value.int .u64) (Int.fdiv_eq_ediv_of_nonneg b (by decide))) (ia (v:= .int .u64 (b.fdiv 4294967296)) (by kernel_rfl) fun _=>by kernel_rfl)) (A.g [.p,.p,.p,.p] [1,16,17] [(7,u_ (b/4294967296)),(8,u_ (dE .and .u64 b 4294967295))] (A.c (A.g [.p,.p,.p,.p] [] [(9,u_ (IntKind.u64.wrap ((dE .and .u64 a 4294967295)*(dE .and .u64 b 4294967295))))] (A.c (A.O [.p,.p,.p,.p] [8] [(25,u_ (IntKind.u64.wrap ((a/4294967296)*(dE .and .u64 b 4294967295)))),(26,u_ (IntKind.u64.wrap ((dE .and .u64 a 4294967295)*(dE .and .u64 b 4294967295))))] (A.j (A.u (some 27) (u_ ((IntKind.u64.wrap ((dE .and .u64 a 4294967295)*(dE .and .u64 b 4294967295)))/4294967296)) (gx (congrArg (Value.int .u64) (Int.fdiv_eq_ediv_of_nonneg (IntKind.u64.wrap ((dE .and .u64 a 4294967295)*(dE .and .u64 b 4294967295))) (by decide))) (ia (v:= .int .u64 ((IntKind.u64.wrap ((dE .and .u64 a 4294967295)*(dE .and .u64 b 4294967295))).fdiv 4294967296)) (by kernel_rfl) fun _=>by kernel_rfl)) (A.g [.p,.p] [25,26,27] [(10,u_ (IntKind.u64.wrap ((IntKind.u64.wrap ((a/4294967296)*(dE .and .u64 b 4294967295)))+((IntKind.u64.wrap ((dE .and .u64 a 4294967295)*(dE .and .u64 b 4294967295)))/4294967296))))] (A.c (A.g [.p,.p,.p,.p,.p,.p,.p] [6] [(11,u_ (IntKind.u64.wrap ((IntKind.u64.wrap ((dE .and .u64 a 4294967295)*(b/4294967296)))+(dE .and .u64 (IntKind.u64.wrap ((IntKind.u64.wrap ((a/4294967296)*(dE .and .u64 b 4294967295)))+((IntKind.u64.wrap ((dE .and .u64 a 4294967295)*(dE .and .u64 b 4294967295)))/4294967296))) 4294967295))))] (A.c (A.O [.p,.p,.p,.p] [5,7,10] [(37,u_ (IntKind.u64.wrap ((a/4294967296)*(b/4294967296)))),(38,u_ (IntKind.u64.wrap ((IntKind.u64.wrap ((a/4294967296)*(dE .and .u64 b 4294967295)))+((IntKind.u64.wrap ((dE .and .u64 a 4294967295)*(dE .and .u64 b 4294967295)))/4294967296))))] (A.j (A.u (some 39) (u_ ((IntKind.u64.wrap ((IntKind.u64.wrap ((a/4294967296)*(dE .and .u64 b 4294967295)))+((IntKind.u64.wrap ((dE .and .u64 a 4294967295)*(dE .and .u64 b 4294967295)))/4294967296)))/4294967296)) (gx (congrArg (Value.int .u64) (Int.fdiv_eq_ediv_of_nonneg (IntKind.u64.wrap ((IntKind.u64.wrap ((a/4294967296)*(dE .and .u64 b 4294967295)))+((IntKind.u64.wrap ((dE .and .u64 a 4294967295)*(dE .and .u64 b 4294967295)))/4294967296))) (by decide))) (ia (v:= .int .u64 ((IntKind.u64.wrap ((IntKind.u64.wrap ((a/4294967296)*(dE .and .u64 b 4294967295)))+((IntKind.u64.wrap ((dE .and .u64 a 4294967295)*(dE .and .u64 b 4294967295)))/4294967296))).fdiv 4294967296)) (by kernel_rfl) fun _=>by kernel_rfl)) (A.O [.p,.p] [37,38,39] [(40,u_ (IntKind.u64.wrap ((IntKind.u64.wrap ((a/4294967296)*(b/4294967296)))+((IntKind.u64.wrap ((IntKind.u64.wrap ((a/4294967296)*(dE .and .u64 b 4294967295)))+((IntKind.u64.wrap ((dE .and .u64 a 4294967295)*(dE .and .u64 b 4294967295)))/4294967296)))/4294967296)))),(41,u_ (IntKind.u64.wrap ((IntKind.u64.wrap ((dE .and .u64 a 4294967295)*(b/4294967296)))+(dE .and .u64 (IntKind.u64.wrap ((IntKind.u64.wrap ((a/4294967296)*(dE .and .u64 b 4294967295)))+((IntKind.u64.wrap ((dE .and .u64 a 4294967295)*(dE .and .u64 b 4294967295)))/4294967296))) 4294967295))))] (A.j (A.u (some 42) (u_ ((IntKind.u64.wrap ((IntKind.u64.wrap ((dE .and .u64 a 4294967295)*(b/4294967296)))+(dE .and .u64 (IntKind.u64.wrap ((IntKind.u64.wrap ((a/4294967296)*(dE .and .u64 b 4294967295)))+((IntKind.u64.wrap ((dE .and .u64 a 4294967295)*(dE .and .u64 b 4294967295)))/4294967296))) 4294967295)))/4294967296)) (gx (congrArg (Value.int .u64) (Int.fdiv_eq_ediv_of_nonneg (IntKind.u64.wrap ((IntKind.u64.wrap ((dE .and .u64 a 4294967295)*(b/4294967296)))+(dE .and .u64 (IntKind.u64.wrap ((IntKind.u64.wrap ((a/4294967296)*(dE .and .u64 b 4294967295)))+((IntKind.u64.wrap ((dE .and .u64 a 4294967295)*(dE .and .u64 b 4294967295)))/4294967296))) 4294967295))) (by decide))) (ia (v:= .int .u64 ((IntKind.u64.wrap ((IntKind.u64.wrap ((dE .and .u64 a 4294967295)*(b/4294967296)))+(dE .and .u64 (IntKind.u64.wrap ((IntKind.u64.wrap ((a/4294967296)*(dE .and .u64 b 4294967295)))+((IntKind.u64.wrap ((dE .and .u64 a 4294967295)*(dE .and .u64 b 4294967295)))/4294967296))) 4294967295))).fdiv 4294967296)) (by kernel_rfl) fun _=>by kernel_rfl)) (A.gs [.p,.p,.p,.p,.p,.p,.p,.st 0] [9,11,40,41,42] [] [(0,cz b1 [u_ (IntKind.u64.wrap ((IntKind.u64.wrap ((IntKind.u64.wrap ((a/4294967296)*(b/4294967296)))+((IntKind.u64.wrap ((IntKind.u64.wrap ((a/4294967296)*(dE .and .u64 b 4294967295)))+((IntKind.u64.wrap ((dE .and .u64 a 4294967295)*(dE .and .u64 b 4294967295)))/4294967296)))/4294967296)))+((IntKind.u64.wrap ((IntKind.u64.wrap ((dE .and .u64 a 4294967295)*(b/4294967296)))+(dE .and .u64 (IntKind.u64.wrap ((IntKind.u64.wrap ((a/4294967296)*(dE .and .u64 b 4294967295)))+((IntKind.u64.wrap ((dE .and .u64 a 4294967295)*(dE .and .u64 b 4294967295)))/4294967296))) 4294967295)))/4294967296))),u_ (dE .or .u64 (IntKind.u64.wrap ((IntKind.u64.wrap ((IntKind.u64.wrap ((dE .and .u64 a 4294967295)*(b/4294967296)))+(dE .and .u64 (IntKind.u64.wrap ((IntKind.u64.wrap ((a/4294967296)*(dE .and .u64 b 4294967295)))+((IntKind.u64.wrap ((dE .and .u64 a 4294967295)*(dE .and .u64 b 4294967295)))/4294967296))) 4294967295)))*4294967296)) (dE .and .u64 (IntKind.u64.wrap ((dE .and .u64 a 4294967295)*(dE .and .u64 b 4294967295))) 4294967295))] 213)] [b1] (A.e (A.pc 0 [u_ (IntKind.u64.wrap ((IntKind.u64.wrap ((IntKind.u64.wrap ((a/4294967296)*(b/4294967296)))+((IntKind.u64.wrap ((IntKind.u64.wrap ((a/4294967296)*(dE .and .u64 b 4294967295)))+((IntKind.u64.wrap ((dE .and .u64 a 4294967295)*(dE .and .u64 b 4294967295)))/4294967296)))/4294967296)))+((IntKind.u64.wrap ((IntKind.u64.wrap ((dE .and .u64 a 4294967295)*(b/4294967296)))+(dE .and .u64 (IntKind.u64.wrap ((IntKind.u64.wrap ((a/4294967296)*(dE .and .u64 b 4294967295)))+((IntKind.u64.wrap ((dE .and .u64 a 4294967295)*(dE .and .u64 b 4294967295)))/4294967296))) 4294967295)))/4294967296))),u_ (dE .or .u64 (IntKind.u64.wrap ((IntKind.u64.wrap ((IntKind.u64.wrap ((dE .and .u64 a 4294967295)*(b/4294967296)))+(dE .and .u64 (IntKind.u64.wrap ((IntKind.u64.wrap ((a/4294967296)*(dE .and .u64 b 4294967295)))+((IntKind.u64.wrap ((dE .and .u64 a 4294967295)*(dE .and .u64 b 4294967295)))/4294967296))) 4294967295)))*4294967296)) (dE .and .u64 (IntKind.u64.wrap ((dE .and .u64 a 4294967295)*(dE .and .u64 b 4294967295))) 4294967295))] ?_))))))))))))))))))))))))))))
 rfl
structure Dv where
 av:Nm
 qv:Nm
 rv:Int
def tI(b:Int)(s:Dv):Bool:=(s.rv/9223372036854775808 !=0)||decide (dE .or .u64 (IntKind.u64.wrap (s.rv*2)) (s.av.nq1/9223372036854775808)≥b)
def tJ(b:Int)(s:Dv):Dv:=
 ⟨⟨dE .or .u64 (IntKind.u64.wrap (s.av.nq1*2)) (s.av.nq2/9223372036854775808),IntKind.u64.wrap (s.av.nq2*2)⟩,
  ⟨dE .or .u64 (IntKind.u64.wrap (s.qv.nq1*2)) (s.qv.nq2/9223372036854775808),if tI b s then dE .or .u64 (IntKind.u64.wrap (s.qv.nq2*2)) 1 else IntKind.u64.wrap (s.qv.nq2*2)⟩,
  if tI b s then IntKind.u64.wrap ((dE .or .u64 (IntKind.u64.wrap (s.rv*2)) (s.av.nq1/9223372036854775808))-b) else dE .or .u64 (IntKind.u64.wrap (s.rv*2)) (s.av.nq1/9223372036854775808)⟩
def dx(a:Nm)(b:Int):Nat→Dv
 |0=>⟨a,⟨0,0⟩,0⟩
 |k+1=>tJ b (dx a b k)
theorem vo(a:Nm)(b:Int)(k:Nat):dx a b (k+1)=tJ b (dx a b k):=rfl
def fb(a:Nm)(b:Int):Nm:=if b=0 then⟨0,0⟩ else(dx a b 128).qv
def o6(a:Nm)(b:Int):Int:=if b=0 then 0 else(dx a b 128).rv
def kM(b:Int):Int:=if b=0 then 1 else 0
def pY(a:Nm)(b:Int):Nm:=if o6 a b=0 then fb a b else gj (fb a b) ⟨0,1⟩
def kZ(a:Nm)(b:Int):Int:=if b=0 then 1 else if(pY a b).nq1=0 then 0 else 20
def js(a:Nm)(b:Int):Int:=if b=0 then 0 else if(pY a b).nq1=0 then(pY a b).nq2 else 0
theorem SZ(a:Nm)(b:Int)(w:World):
  CW 282 #[.agg (eB a).toArray,u_ b] w (.tuple #[.agg (eB (fb a b)).toArray,u_ (o6 a b),i_ (kM b)]):=by
 refine A.C Tryz.func282 rfl (HS.nil w) (A.c (A.n2 [.al,.al,.p,.p] [0] (fun b1 b2=>[(2,p_ b1),(4,p_ b2)]) (fun b1 b2=>[cz b1 (eB a) 213,cz b2 [u_ 0,u_ 0] 213]) ?_))
 intro b1 b2
 refine A.d (A.c (A.g [.p,.p] [] [(11,b_ (b==0))] (A.cn (b==0) (fun e1=> ?_) (fun e1=> ?_))))
 ·refine A.c (A.gs [.p,.st 1,.p,.p] [1,2,11] [(5,u_ 0),(6,i_ 1)] [] [b2] (A.e (A.aK [.agg #[u_ 0,u_ 0],u_ 0,i_ 1] (fun aa ww rr ss=>⟨iG 1 rr ss,fQ rr rfl,fQ rr rfl,trivial⟩) ?_)))
  show((.tuple #[.agg #[u_ 0,u_ 0],u_ 0,i_ 1]):Value)=(.tuple #[.agg (eB (fb a b)).toArray,u_ (o6 a b),i_ (kM b)])
  (unfold fb o6 kM;simp_all[eB];done)
 refine A.p (A.c (A.n1 [.al] [11] (fun b3=>[(7,p_ b3)]) (fun b3=>cz b3 [u_ 0,u_ 0] 213) ?_))
 intro b3
 refine A.c (A.g [.p] [] [(8,u_ 0)] (A.d (A.c (A.g [.p] [] [(13,i_ 0)] (A.y (A.D 8 (u_ ((dx a b 0).rv)) (l0 (by rfl)) (A.su 0 (cz b1 [u_ ((dx a b 0).av.nq1),u_ ((dx a b 0).av.nq2)] 213) rfl (iI (cc (congrArg u_ (by rfl:a.nq1=(dx a b 0).av.nq1)) (cc (congrArg u_ (by rfl:a.nq2=(dx a b 0).av.nq2)) rfl))) (A.su 2 (cz b3 [u_ ((dx a b 0).qv.nq1),u_ ((dx a b 0).qv.nq2)] 213) rfl (iI (cc (congrArg u_ (by rfl:0=(dx a b 0).qv.nq1)) (cc (congrArg u_ (by rfl:0=(dx a b 0).qv.nq2)) rfl))) (A.lp (σ:=Nat) [] (fun k=>[(13,c_ k),(8,u_ ((dx a b k).rv))]) [0,1] (fun k=>[cz b1 [u_ ((dx a b k).av.nq1),u_ ((dx a b k).av.nq2)] 213,cz b3 [u_ ((dx a b k).qv.nq1),u_ ((dx a b k).qv.nq2)] 213]) (fun k=>(k≤128)) (fun k=>128-k) (0:Nat) (by omega) ?_ ?_)))))))))
 ·exact A.I [0,1,0]
 rintro k hk
 have hk:k≤128:=hk
 refine A.c (A.g [.p] [] [(14,b_ (decide ((k:Int)<128)))] (A.d (A.v rfl (fun e2=> ?_) (fun e2=> ?_))))
 ·have p2:=of_decide_eq_true e2
  refine A.p (A.d (A.y (A.c (A.O [.p] [14] [(15,u_ ((dx a b k).rv))] (A.j (A.u (some 16) (u_ (((dx a b k).rv)/9223372036854775808)) (gx (congrArg (Value.int .u64) (Int.fdiv_eq_ediv_of_nonneg ((dx a b k).rv) (by decide))) (ia (v:= .int .u64 (((dx a b k).rv).fdiv 9223372036854775808)) (by kernel_rfl) fun _=>by kernel_rfl)) (A.g [.p] [15,16] [(9,u_ (((dx a b k).rv)/9223372036854775808))] (A.c (A.gm [.p,.p,.p,.ld 0] [] [(18,u_ (IntKind.u64.wrap (((dx a b k).rv)*2))),(20,u_ ((dx a b k).av.nq1))] [b1] (A.j (A.u (some 21) (u_ (((dx a b k).av.nq1)/9223372036854775808)) (gx (congrArg (Value.int .u64) (Int.fdiv_eq_ediv_of_nonneg ((dx a b k).av.nq1) (by decide))) (ia (v:= .int .u64 (((dx a b k).av.nq1).fdiv 9223372036854775808)) (by kernel_rfl) fun _=>by kernel_rfl)) (A.g [.p,.p] [18,20,21] [(8,u_ (dE .or .u64 (IntKind.u64.wrap (((dx a b k).rv)*2)) (((dx a b k).av.nq1)/9223372036854775808)))] (A.c (A.gm [.p,.ld 0,.p,.p,.ld 0] [] [(25,u_ (IntKind.u64.wrap (((dx a b k).av.nq1)*2))),(27,u_ ((dx a b k).av.nq2))] [b1,b1] (A.j (A.u (some 28) (u_ (((dx a b k).av.nq2)/9223372036854775808)) (gx (congrArg (Value.int .u64) (Int.fdiv_eq_ediv_of_nonneg ((dx a b k).av.nq2) (by decide))) (ia (v:= .int .u64 (((dx a b k).av.nq2).fdiv 9223372036854775808)) (by kernel_rfl) fun _=>by kernel_rfl)) (A.gs [.p,.p,.ld 0,.p,.p,.st 0] [25,27,28] [] [(0,cz b1 [u_ (dE .or .u64 (IntKind.u64.wrap (((dx a b k).av.nq1)*2)) (((dx a b k).av.nq2)/9223372036854775808)),u_ (IntKind.u64.wrap (((dx a b k).av.nq2)*2))] 213)] [b1,b1] (A.c (A.gm [.p,.ld 1,.p,.p,.ld 1] [] [(36,u_ (IntKind.u64.wrap (((dx a b k).qv.nq1)*2))),(38,u_ ((dx a b k).qv.nq2))] [b3,b3] (A.j (A.u (some 39) (u_ (((dx a b k).qv.nq2)/9223372036854775808)) (gx (congrArg (Value.int .u64) (Int.fdiv_eq_ediv_of_nonneg ((dx a b k).qv.nq2) (by decide))) (ia (v:= .int .u64 (((dx a b k).qv.nq2).fdiv 9223372036854775808)) (by kernel_rfl) fun _=>by kernel_rfl)) (A.gs [.p,.p,.ld 1,.p,.p,.st 1] [36,38,39] [] [(1,cz b3 [u_ (dE .or .u64 (IntKind.u64.wrap (((dx a b k).qv.nq1)*2)) (((dx a b k).qv.nq2)/9223372036854775808)),u_ (IntKind.u64.wrap (((dx a b k).qv.nq2)*2))] 213)] [b3,b3] (A.c (A.h [.p,.p,.p,.o,.p,.p,.p,.cl] [(1,u_ b),(2,p_ b1),(4,p_ b2),(7,p_ b3),(13,c_ k),(8,u_ (dE .or .u64 (IntKind.u64.wrap (((dx a b k).rv)*2)) (((dx a b k).av.nq1)/9223372036854775808))),(51,b_ (((((dx a b k).rv)/9223372036854775808)!=0)||(decide ((dE .or .u64 (IntKind.u64.wrap (((dx a b k).rv)*2)) (((dx a b k).av.nq1)/9223372036854775808))≥b))))] [] (A.v rfl (fun e3=> ?_) (fun e3=> ?_))))))))))))))))))))))))))
  ·have p3:=e3
   refine A.c (A.g [.p,.p,.p,.p] [51] [(8,u_ (IntKind.u64.wrap ((dE .or .u64 (IntKind.u64.wrap (((dx a b k).rv)*2)) (((dx a b k).av.nq1)/9223372036854775808))-b)))] (A.s (A.gs [.p,.ld 1,.p,.p,.st 1] [] [] [(1,cz b3 [u_ (dE .or .u64 (IntKind.u64.wrap (((dx a b k).qv.nq1)*2)) (((dx a b k).qv.nq2)/9223372036854775808)),u_ (dE .or .u64 (IntKind.u64.wrap (((dx a b k).qv.nq2)*2)) 1)] 213)] [b3,b3] (A.s (A.k [.w ((k:Int)+1),.p] [] [(13,i_ ((k:Int)+1))] [] (o1 (wj ((k:Int)+1) (by omega))) (A.D 8 (u_ ((dx a b (k+1)).rv)) (l0 (by(rw[vo];unfold tJ tI;simp_all;done))) (A.su 0 (cz b1 [u_ ((dx a b (k+1)).av.nq1),u_ ((dx a b (k+1)).av.nq2)] 213) rfl (iI (cc (congrArg u_ (by rfl:dE .or .u64 (IntKind.u64.wrap (((dx a b k).av.nq1)*2)) (((dx a b k).av.nq2)/9223372036854775808)=(dx a b (k+1)).av.nq1)) (cc (congrArg u_ (by rfl:IntKind.u64.wrap (((dx a b k).av.nq2)*2)=(dx a b (k+1)).av.nq2)) rfl))) (A.su 1 (cz b3 [u_ ((dx a b (k+1)).qv.nq1),u_ ((dx a b (k+1)).qv.nq2)] 213) rfl (iI (cc (congrArg u_ (by rfl:dE .or .u64 (IntKind.u64.wrap (((dx a b k).qv.nq1)*2)) (((dx a b k).qv.nq2)/9223372036854775808)=(dx a b (k+1)).qv.nq1)) (cc (congrArg u_ (by(rw[vo];unfold tJ tI;simp_all;done):dE .or .u64 (IntKind.u64.wrap (((dx a b k).qv.nq2)*2)) 1=(dx a b (k+1)).qv.nq2)) rfl))) (A.aA ((k+1)) (by omega) (by omega) ?_)))))))))
   exact A.I [0,0,0]
  have p3:=e3
  refine A.p (A.s (A.k [.w ((k:Int)+1),.p] [51] [(13,i_ ((k:Int)+1))] [] (o1 (wj ((k:Int)+1) (by omega))) (A.D 8 (u_ ((dx a b (k+1)).rv)) (l0 (by(rw[vo];unfold tJ tI;simp_all;intro h_;omega))) (A.su 0 (cz b1 [u_ ((dx a b (k+1)).av.nq1),u_ ((dx a b (k+1)).av.nq2)] 213) rfl (iI (cc (congrArg u_ (by rfl:dE .or .u64 (IntKind.u64.wrap (((dx a b k).av.nq1)*2)) (((dx a b k).av.nq2)/9223372036854775808)=(dx a b (k+1)).av.nq1)) (cc (congrArg u_ (by rfl:IntKind.u64.wrap (((dx a b k).av.nq2)*2)=(dx a b (k+1)).av.nq2)) rfl))) (A.su 1 (cz b3 [u_ ((dx a b (k+1)).qv.nq1),u_ ((dx a b (k+1)).qv.nq2)] 213) rfl (iI (cc (congrArg u_ (by rfl:dE .or .u64 (IntKind.u64.wrap (((dx a b k).qv.nq1)*2)) (((dx a b k).qv.nq2)/9223372036854775808)=(dx a b (k+1)).qv.nq1)) (cc (congrArg u_ (by(rw[vo];unfold tJ tI;simp_all;intro h_;omega):IntKind.u64.wrap (((dx a b k).qv.nq2)*2)=(dx a b (k+1)).qv.nq2)) rfl))) (A.aA ((k+1)) (by omega) (by omega) ?_))))))
  exact A.I [0,0,0]
 have p2:=of_decide_eq_false e2
 refine A.aB (A.c (A.gs [.ld 1,.p,.st 2,.p,.p] [1,2,7,13,8,14] [(5,u_ ((dx a b k).rv)),(6,i_ 0)] [(2,cz b2 [u_ ((dx a b k).qv.nq1),u_ ((dx a b k).qv.nq2)] 213)] [b3,b2] (A.e (A.aK [.agg #[u_ ((dx a b k).qv.nq1),u_ ((dx a b k).qv.nq2)],u_ ((dx a b k).rv),i_ 0] (fun aa ww rr ss=>⟨iG 2 rr ss,fQ rr rfl,fQ rr rfl,trivial⟩) ?_))))
 show((.tuple #[.agg #[u_ ((dx a b k).qv.nq1),u_ ((dx a b k).qv.nq2)],u_ ((dx a b k).rv),i_ 0]):Value)=(.tuple #[.agg (eB (fb a b)).toArray,u_ (o6 a b),i_ (kM b)])
 (have hk_:k=128:=(by omega);subst hk_;unfold fb o6 kM;simp_all[eB];done)
theorem QQ(a:Nm)(b:Int)(w:World):
  CW 270 #[.agg (eB a).toArray,u_ b] w (.tuple #[u_ (js a b),i_ (kZ a b)]):=by
 refine A.C Tryz.func270 rfl (HS.nil w) (A.c (A.n1 [.al,.p,.p] [0] (fun b1=>[(2,p_ b1)]) (fun b1=>cz b1 (eB a) 213) ?_))
 intro b1
 refine A.c (A.no [.ld 0,.p,.cq (.tuple #[.agg (eB (fb a b)).toArray,u_ (o6 a b),i_ (kM b)]),.p,.p,.p,.p,.al,.st 1,.p,.p] [1,2] (fun b2=>[(6,p_ b2),(7,u_ (o6 a b)),(8,i_ (kM b))]) (fun b2=>[]) (fun b2=>cz b2 (eB (fb a b)) 213) (fun b2=>[b1,b2]) (fun b2=>o1 (qo (fun ww ss=>SZ a b ww))) ?_)
 intro b2
 refine A.d (A.c (A.g [.p,.p] [] [(17,b_ ((kM b)!=0))] (A.v rfl (fun e1=> ?_) (fun e1=> ?_))))
 ·refine A.c (A.g [.p,.p,.p] [6,7,8,17] [(4,u_ 0),(5,i_ (kM b))] (A.e (A.N [u_ 0,i_ (kM b)] ?_)))
  show((.tuple #[u_ 0,i_ (kM b)]):Value)=(.tuple #[u_ (js a b),i_ (kZ a b)])
  (try unfold kM at*);unfold kZ js pY;simp_all[eB]
 refine A.p (A.d (A.c (A.g [.p,.p] [7,8,17] [(20,b_ ((o6 a b)!=0))] (A.v rfl (fun e2=> ?_) (fun e2=> ?_)))))
 ·refine A.bg (fun _:Unit=>[(6,p_ b2)]) (fun _:Unit=>[cz b2 (eB (gj (fb a b) (⟨0,1⟩:Nm))) 213]) (fun _=>True) ?_ (fun zz_ _=> ?_)
  ·refine A.W [1,6] 7 (A.bA 0 1 rfl rfl (by kernel_rfl) ?_ ?_)
   ·refine A.u (some 22) (.agg (eB (fb a b)).toArray) (ve (vs:=(eB (fb a b))) rfl rfl (by kernel_rfl) (kz (i:=1) rfl rfl)) (A.aE (.refl _) (A.F 1 rfl (A.iX (some 23) [u_ 1] Tryz.func235 rfl (A.c (A.n1 [.al] [] (fun b3=>[(2,p_ b3)]) (fun b3=>cz b3 [u_ 0,u_ 0] 213) ?_)))))
    intro b3
    refine A.c (A.gs [.p,.p,.st 2] [0] [] [(2,cz b3 [u_ 0,u_ 1] 213)] [b3] (A.e (A.az [.agg #[u_ 0,u_ 1]] (fun aa ww rr ss=>⟨iG 2 rr ss,trivial⟩) (A.aj (by kernel_rfl) (A.aM [cz b2 (eB (fb a b)) 213] (sd [2,0]) (A.E (A.pO 1 [.cq (.tuple #[.agg (eB (gj (fb a b) (⟨0,1⟩:Nm))).toArray,b_ (sq (fb a b) (⟨0,1⟩:Nm))]),.p,.p,.p] [2,3,4,5] [(6,p_ b2),(25,.agg (eB (gj (fb a b) (⟨0,1⟩:Nm))).toArray)] [] (o1 (qo (fun ww ss=>xr (fb a b) (⟨0,1⟩:Nm) ww))) (A.F 6 rfl (A.sT 0 (eB (gj (fb a b) (⟨0,1⟩:Nm))) rfl (A.E (A.M ?_)))))))))))
    exact A.aN () trivial (A.af (by exact⟨rfl,trivial⟩) (.refl _))
   refine A.iX (some 23) [u_ 1] Tryz.func235 rfl (A.c (A.n1 [.al] [] (fun b4=>[(2,p_ b4)]) (fun b4=>cz b4 [u_ 0,u_ 0] 213) ?_))
   intro b4
   refine A.c (A.gs [.p,.p,.st 2] [0] [] [(2,cz b4 [u_ 0,u_ 1] 213)] [b4] (A.e (A.az [.agg #[u_ 0,u_ 1]] (fun aa ww rr ss=>⟨iG 2 rr ss,trivial⟩) (A.aj (by kernel_rfl) (A.aM [cz b2 (eB (fb a b)) 213] (sd [2,0]) (A.E (A.pO 1 [.ld 0,.cq (.tuple #[.agg (eB (gj (fb a b) (⟨0,1⟩:Nm))).toArray,b_ (sq (fb a b) (⟨0,1⟩:Nm))]),.p,.p,.p] [0,2,3,4,5] [(6,p_ b2),(25,.agg (eB (gj (fb a b) (⟨0,1⟩:Nm))).toArray)] [b2] (o1 (qo (fun ww ss=>xr (fb a b) (⟨0,1⟩:Nm) ww))) (A.F 6 rfl (A.sT 0 (eB (gj (fb a b) (⟨0,1⟩:Nm))) rfl (A.E (A.M ?_)))))))))))
   exact A.aN () trivial (A.af (by exact⟨rfl,trivial⟩) (.refl _))
  refine A.c (A.gm [.ld 0] [6,20] [(27,.agg (eB (gj (fb a b) (⟨0,1⟩:Nm))).toArray)] [b2] (A.j (A.iX (some 28) [.agg (eB (gj (fb a b) (⟨0,1⟩:Nm))).toArray] Tryz.func283 rfl (A.c (A.aH [.al,.p,.p] [1] (fun b5=>[(1,p_ b5)]) (fun b5=>[cz b2 (eB (gj (fb a b) (⟨0,1⟩:Nm))) 213,cz b5 (eB (gj (fb a b) (⟨0,1⟩:Nm))) 213]) (fun b5=>[]) (fun _=>T0) (fun _=>by kernel_rfl) (fun b5=>trivial) ?_)))))
  intro b5
  refine A.d (A.c (A.gl [.p,.ld 1,.p] [] [(6,b_ (((gj (fb a b) (⟨0,1⟩:Nm)).nq1)!=0))] [b5] (A.v rfl (fun e3=> ?_) (fun e3=> ?_))))
  ·refine A.c (A.g [.p,.p] [1,6] [(2,u_ 0),(3,i_ 20)] (A.e (A.pb [u_ 0,i_ 20] (A.aM [] (sd [1,0]) (A.h [.p,.p,.p,.p] [(4,u_ 0),(5,i_ 20)] [] (A.e (A.N [u_ 0,i_ 20] ?_)))))))
   show((.tuple #[u_ 0,i_ 20]):Value)=(.tuple #[u_ (js a b),i_ (kZ a b)])
   (try unfold kM at*);unfold kZ js pY;simp_all[eB]
  refine A.p (A.c (A.gl [.p,.ld 1,.p,.p] [1,6] [(2,u_ ((gj (fb a b) (⟨0,1⟩:Nm)).nq2)),(3,i_ 0)] [b5] (A.e (A.pb [u_ ((gj (fb a b) (⟨0,1⟩:Nm)).nq2),i_ 0] (A.aM [] (sd [1,0]) (A.h [.p,.p,.p,.p] [(4,u_ ((gj (fb a b) (⟨0,1⟩:Nm)).nq2)),(5,i_ 0)] [] (A.e (A.N [u_ ((gj (fb a b) (⟨0,1⟩:Nm)).nq2),i_ 0] ?_))))))))
  show((.tuple #[u_ ((gj (fb a b) (⟨0,1⟩:Nm)).nq2),i_ 0]):Value)=(.tuple #[u_ (js a b),i_ (kZ a b)])
  (try unfold kM at*);unfold kZ js pY;simp_all[eB]
 have p2:=e2
 refine A.p (A.c (A.gm [.ld 1] [6,20] [(27,.agg (eB (fb a b)).toArray)] [b2] (A.j (A.iX (some 28) [.agg (eB (fb a b)).toArray] Tryz.func283 rfl (A.c (A.n1 [.al,.p,.p] [0] (fun b6=>[(1,p_ b6)]) (fun b6=>cz b6 (eB (fb a b)) 213) ?_))))))
 intro b6
 refine A.d (A.c (A.gl [.p,.ld 2,.p] [] [(6,b_ (((fb a b).nq1)!=0))] [b6] (A.v rfl (fun e4=> ?_) (fun e4=> ?_))))
 ·refine A.c (A.g [.p,.p] [1,6] [(2,u_ 0),(3,i_ 20)] (A.e (A.pb [u_ 0,i_ 20] (A.aM [] (sd [2,1,0]) (A.h [.p,.p,.p,.p] [(4,u_ 0),(5,i_ 20)] [] (A.e (A.N [u_ 0,i_ 20] ?_)))))))
  show((.tuple #[u_ 0,i_ 20]):Value)=(.tuple #[u_ (js a b),i_ (kZ a b)])
  (try unfold kM at*);unfold kZ js pY;simp_all[eB]
 refine A.p (A.c (A.gl [.p,.ld 2,.p,.p] [1,6] [(2,u_ ((fb a b).nq2)),(3,i_ 0)] [b6] (A.e (A.pb [u_ ((fb a b).nq2),i_ 0] (A.aM [] (sd [2,1,0]) (A.h [.p,.p,.p,.p] [(4,u_ ((fb a b).nq2)),(5,i_ 0)] [] (A.e (A.N [u_ ((fb a b).nq2),i_ 0] ?_))))))))
 show((.tuple #[u_ ((fb a b).nq2),i_ 0]):Value)=(.tuple #[u_ (js a b),i_ (kZ a b)])
 (try unfold kM at*);unfold kZ js pY;simp_all[eB]
def yL(l:Ln):Nm:=⟨l.lq2,l.lq3⟩
def lg(l:Ln)(x:Int):Nm:=if x≤l.lq1 then yL l else gj (yL l) (dB l.lq4 (IntKind.u64.wrap (x-l.lq1)))
def ir(l:Ln)(a:Nm):Int:=if nf a (yL l)≤0 then 0 else if(kZ (lL a (yL l)) l.lq4≠0∨l.lq1≥9223372036854775808)∨js (lL a (yL l)) l.lq4≥IntKind.u64.wrap (9223372036854775808-l.lq1) then 9223372036854775808 else IntKind.u64.wrap (l.lq1+js (lL a (yL l)) l.lq4)
def eO(l m:Ln):Ln:=if nf (lg m (eC l.lq1 m.lq1)) (lg l (eC l.lq1 m.lq1))<0 then m else l
abbrev He(p0:Ln)(p1):=(b_ (sq (yL p0) (dB p0.lq4 (IntKind.u64.wrap (p1-p0.lq1)))):Value)
abbrev QR(p0:Ln)(p1):=(.agg (eB (dB p0.lq4 (IntKind.u64.wrap (p1-p0.lq1)))).toArray:Value)
abbrev sM(p0:Ln)(p1):=(eB (gj (yL p0) (dB p0.lq4 (IntKind.u64.wrap (p1-p0.lq1)))))
theorem Ix(l:Ln)(x:Int)(w:World):
  CW 261 #[.agg (jB l).toArray,u_ x] w (.agg (eB (lg l x)).toArray):=by
 refine A.C Tryz.func261 rfl (HS.nil w) (A.c (A.n2 [.al,.al] [0] (fun b1 b2=>[(2,p_ b1),(4,p_ b2)]) (fun b1 b2=>[cz b1 (jB l) 215,cz b2 [u_ 0,u_ 0] 213]) ?_))
 intro b1 b2
 refine A.d (A.c (A.gl [.p,.p,.ld 0,.p] [] [(10,b_ (decide (x≤l.lq1)))] [b1] (A.v rfl (fun e1=> ?_) (fun e1=> ?_))))
 ·have p1:=of_decide_eq_true e1
  refine A.c (A.gs [.p,.ld 0,.st 1] [1,2,10] [] [(1,cz b2 [u_ l.lq2,u_ l.lq3] 213)] [b1,b2] (A.e (A.pc 1 [u_ l.lq2,u_ l.lq3] ?_)))
  unfold lg;split<;>rfl
 have p1:=of_decide_eq_false e1
 refine A.p (A.d (A.d3 [13,14] 16 [cz b1 (jB l) 215,cz b2 [u_ 0,u_ 0] 213] (A.bO 3 [.p,.ld 0,.p,.ld 0,.p,.p,.ld 0,.p,.cq (QR l x),.cq (.tuple #[.agg (sM l x).toArray,He l x]),.p,.p,.p] [0,1,2,3,4,5,6,7,8,9,10,11,12] [(4,p_ b2),(24,.agg (sM l x).toArray),(25,He l x)] [b1,b1,b1] (.refl _) (oc (qo (fun ww ss=>qt l.lq4 (IntKind.u64.wrap (x-l.lq1)) ww)) (o1 (qo (fun ww ss=>xr (yL l) (dB l.lq4 (IntKind.u64.wrap (x-l.lq1))) ww)))) (A.o3 13 rfl (A.ai 5 [u_ 0,u_ 0] (by kernel_rfl) rfl (by kernel_rfl) (fun b3=>[cz b1 (jB l) 215,cz b2 [u_ 0,u_ 0] 213,cz b3 [u_ 0,u_ 0] 213]) (fun _=>rfl) ?_)))))
 intro b3
 refine A.aI (sd [2]) (A.o3 14 rfl (A.sT 2 (sM l x) rfl (A.aI (sd [2]) (A.bT 0 [.p] [15] [(4,p_ b2),(5,p_ b3)] [] (sd [2]) (A.f3 (A.c (A.gO [.ld 2,.st 1] [(4,p_ b2)] [cz b1 (jB l) 215,cz b2 (sM l x) 213,cz b3 (sM l x) 213] [b3,b2] (A.e (A.pc 1 (sM l x) ?_)))))))))
 unfold lg;split<;>first|rfl|(simp_all;done)
abbrev BD(p0:Ln)(p1):=(u_ (IntKind.u64.wrap (p0.lq1+(js (lL p1 (yL p0)) p0.lq4))):Value)
theorem wM(l:Ln)(a:Nm)(w:World):
  CW 255 #[.agg (jB l).toArray,.agg (eB a).toArray] w (u_ (ir l a)):=by
 refine A.C Tryz.func255 rfl (HS.nil w) (A.c (A.n2 [.al,.al,.p] [0,1] (fun b1 b2=>[(2,p_ b1),(3,p_ b2)]) (fun b1 b2=>[cz b1 (jB l) 215,cz b2 (eB a) 213]) ?_))
 intro b1 b2
 refine A.d (A.c (A.k [.ld 1,.p,.ld 0,.cq (i_ (nf a (yL l))),.p] [] [(13,b_ (decide ((nf a (yL l))≤0)))] [b2,b1] (o1 (qo (fun ww ss=>Ig a (yL l) ww))) (A.v rfl (fun e1=> ?_) (fun e1=> ?_))))
 ·have p1:=of_decide_eq_true e1
  refine A.c (A.g [.p] [2,3,13] [(4,u_ 0)] (A.e (A.N [u_ 0] ?_)))
  show((u_ 0):Value)=(u_ (ir l a))
  unfold ir;simp_all;(try(intros;omega))
 have p1:=of_decide_eq_false e1
 refine A.p (A.c (A.no [.ld 1,.p,.ld 0,.cq (.tuple #[.agg (eB (lL a (yL l))).toArray,b_ (Iq a (yL l))]),.p,.p,.p,.al,.st 2,.p] [3,13] (fun b3=>[(5,p_ b3)]) (fun b3=>[]) (fun b3=>cz b3 (eB (lL a (yL l))) 213) (fun b3=>[b2,b1,b3]) (fun b3=>o1 (qo (fun ww ss=>SY a (yL l) ww))) ?_))
 intro b3
 refine A.c (A.k [.ld 2,.p,.ld 0,.cq (.tuple #[u_ (js (lL a (yL l)) l.lq4),i_ (kZ (lL a (yL l)) l.lq4)]),.p,.p,.p,.p,.p] [5] [(7,u_ (js (lL a (yL l)) l.lq4)),(8,i_ (kZ (lL a (yL l)) l.lq4))] [b3,b1] (o1 (qo (fun ww ss=>QQ (lL a (yL l)) l.lq4 ww))) (A.d (A.c (A.gl [.p,.p,.p,.o,.p,.ld 0,.p,.cl,.p,.o,.p,.p,.ld 0,.p,.p,.cl] [8] [(41,b_ ((((kZ (lL a (yL l)) l.lq4)!=0)||(decide (l.lq1≥9223372036854775808)))||(decide ((js (lL a (yL l)) l.lq4)≥(IntKind.u64.wrap (9223372036854775808-l.lq1))))))] [b1,b1] (A.v rfl (fun e2=> ?_) (fun e2=> ?_))))))
 ·refine A.c (A.g [.p] [2,7,41] [(4,u_ 9223372036854775808)] (A.e (A.N [u_ 9223372036854775808] ?_)))
  show((u_ 9223372036854775808):Value)=(u_ (ir l a))
  unfold ir;simp_all;(try(intros;omega))
 refine A.p (A.c (A.gl [.p,.ld 0,.p,.p,.p] [2,7,41] [(4,BD l a)] [b1] (A.e (A.N [BD l a] ?_))))
 show((BD l a):Value)=(u_ (ir l a))
 unfold ir;simp_all;(try(intros;omega))
theorem G7(l m:Ln)(w:World):
  CW 242 #[.agg (jB l).toArray,.agg (jB m).toArray] w (.agg (jB (eO l m)).toArray):=by
 refine A.C Tryz.func242 rfl (HS.nil w) (A.c (A.an [.al,.al,.al] [2,3,4] (fun b1 b2 b3=>[(2,p_ b1),(3,p_ b2),(4,p_ b3)]) (fun b1 b2 b3=>[cz b1 (jB l) 215,cz b2 (jB m) 215,cz b3 [u_ 0,u_ 0,u_ 0,u_ 0] 215]) (fun b1 b2 b3=>[]) (fun _ _ _=>T0) (fun _ _ _=>by kernel_rfl) (fun b1 b2 b3=>trivial) ?_))
 intro b1 b2 b3
 refine A.c (A.gl [.p,.ld 0,.p,.ld 1,.p,.p] [] [(5,u_ (eC l.lq1 m.lq1))] [b1,b2] (A.d (A.d (A.ka [.ld 1,.p,.cq (.agg (eB (lg m (eC l.lq1 m.lq1))).toArray),.ld 0,.p,.cq (.agg (eB (lg l (eC l.lq1 m.lq1))).toArray),.cq (i_ (nf (lg m (eC l.lq1 m.lq1)) (lg l (eC l.lq1 m.lq1)))),.p] [0,1,2,3,4,5,6,7] [5] [(18,b_ (decide ((nf (lg m (eC l.lq1 m.lq1)) (lg l (eC l.lq1 m.lq1)))<0)))] [b2,b1] (oc (qo (fun ww ss=>Ix m (eC l.lq1 m.lq1) ww)) (oc (qo (fun ww ss=>Ix l (eC l.lq1 m.lq1) ww)) (o1 (qo (fun ww ss=>Ig (lg m (eC l.lq1 m.lq1)) (lg l (eC l.lq1 m.lq1)) ww))))) (A.v rfl (fun e1=> ?_) (fun e1=> ?_))))))
 ·have p1:=of_decide_eq_true e1
  refine A.c (A.gs [.ld 1,.st 2] [2,3,18] [] [(2,cz b3 (jB m) 215)] [b2,b3] (A.e (A.pc 2 (jB m) ?_)))
  show((.agg (jB m).toArray):Value)=(.agg (jB (eO l m)).toArray)
  (rw[show eO l m=m by unfold eO;rw[if_pos (by simp_all)]];done)
 have p1:=of_decide_eq_false e1
 refine A.p (A.c (A.gs [.ld 0,.st 2] [2,3,18] [] [(2,cz b3 (jB l) 215)] [b1,b3] (A.e (A.pc 2 (jB l) ?_))))
 show((.agg (jB l).toArray):Value)=(.agg (jB (eO l m)).toArray)
 (rw[show eO l m=l by unfold eO;rw[if_neg (by simp_all)]];done)
def px(x:Int)(y:Nm)(m:Int):Ln:=⟨x,y.nq1,y.nq2,m⟩
def ng(f t:Ln)(b:Bool):Rn:=⟨f.lq1,f.lq2,f.lq3,f.lq4,t.lq1,t.lq2,t.lq3,t.lq4,b⟩
def fO(r:Rn):Ln:=⟨r.rq1,r.rq2,r.rq3,r.rq4⟩
def dp(r:Rn):Ln:=⟨r.rq5,r.rq6,r.rq7,r.rq8⟩
def nq:Ln:=⟨0,0,0,0⟩
def kC(c:Cv):Int:=dM c.ka c.kb c.kc
def d6(c:Cv)(x:Int)(y:Nm):Rn:=
 if kC c=2∨kC c=4 then ng nq (px x y c.kc) false
 else if kC c=3 then ng (px x y c.ka) (px x (gj y (dB (IntKind.u64.wrap (c.ka-c.kc)) c.kb)) c.kc) true
 else ng nq (px x y 0) false
def dH(c:Cv)(x:Int)(y:Nm):Rn:=if kC c=4 then{d6 c x y with rq5:=IntKind.u64.wrap ((d6 c x y).rq5+c.kb)} else d6 c x y
def dy(a b:Rn):Rn:=ng (if a.rq9 then eO (fO a) (fO b) else nq) (eO (dp a) (dp b)) a.rq9
def iV(r:Rn)(a:Nm):Int:=if r.rq9 then eC (eC 0 (ir (fO r) a)) (ir (dp r) a) else eC (eC 0 (ir (dp r) a)) (ir (dp r) a)
theorem G8(c:Cv)(x:Int)(a:Nm)(w:World):
  CW 200 #[.agg (eo c).toArray,u_ x,.agg (eB a).toArray] w (.agg (dw (d6 c x a)).toArray):=by
 refine A.C Tryz.func200 rfl (HS.nil w) (A.c (A.an [.al,.al,.al] [1,3,5,6] (fun b1 b2 b3=>[(1,u_ x),(3,p_ b1),(5,p_ b2),(6,p_ b3)]) (fun b1 b2 b3=>[cz b1 (eo c) 60,cz b2 (eB a) 213,cz b3 [u_ 0,u_ 0,u_ 0,u_ 0,u_ 0,u_ 0,u_ 0,u_ 0,b_ false] 217]) (fun b1 b2 b3=>[]) (fun _ _ _=>T0) (fun _ _ _=>by kernel_rfl) (fun b1 b2 b3=>trivial) ?_))
 intro b1 b2 b3
 refine A.d (A.c (A.k [.ld 0,.cq (i_ (dM c.ka c.kb c.kc))] [] [(10,i_ (dM c.ka c.kb c.kc))] [b1] (o1 (qo (fun ww ss=>ow c.ka c.kb c.kc ww))) (A.y (A.d (A.c (A.g [.p,.p] [] [(11,b_ ((dM c.ka c.kb c.kc)==2))] (A.v rfl (fun e1=> ?_) (fun e1=> ?_))))))))
 ·refine A.p (A.v rfl (fun e2=> ?_) (fun e2=> ?_))
  ·refine A.c (A.gs [.p,.ld 1,.p,.ld 0,.p,.p,.st 2] [1,3,5,10,11] [] [(2,cz b3 [u_ 0,u_ 0,u_ 0,u_ 0,u_ x,u_ a.nq1,u_ a.nq2,u_ c.kc,b_ false] 217)] [b2,b1,b3] (A.e (A.pc 2 [u_ 0,u_ 0,u_ 0,u_ 0,u_ x,u_ a.nq1,u_ a.nq2,u_ c.kc,b_ false] ?_)))
   show((.agg #[u_ 0,u_ 0,u_ 0,u_ 0,u_ x,u_ a.nq1,u_ a.nq2,u_ c.kc,b_ false]):Value)=(.agg (dw (d6 c x a)).toArray)
   unfold d6 kC ng px nq;simp_all[dw]
  exact absurd e2 (by rw[e1];decide)
 refine A.s (A.g [.p,.p] [] [(11,b_ ((dM c.ka c.kb c.kc)==4))] (A.v rfl (fun e3=> ?_) (fun e3=> ?_)))
 ·refine A.c (A.gs [.p,.ld 1,.p,.ld 0,.p,.p,.st 2] [1,3,5,10,11] [] [(2,cz b3 [u_ 0,u_ 0,u_ 0,u_ 0,u_ x,u_ a.nq1,u_ a.nq2,u_ c.kc,b_ false] 217)] [b2,b1,b3] (A.e (A.pc 2 [u_ 0,u_ 0,u_ 0,u_ 0,u_ x,u_ a.nq1,u_ a.nq2,u_ c.kc,b_ false] ?_)))
  show((.agg #[u_ 0,u_ 0,u_ 0,u_ 0,u_ x,u_ a.nq1,u_ a.nq2,u_ c.kc,b_ false]):Value)=(.agg (dw (d6 c x a)).toArray)
  unfold d6 kC ng px nq;simp_all[dw]
 refine A.c (A.g [.p,.p] [10,11] [(20,b_ ((dM c.ka c.kb c.kc)==3))] (A.v rfl (fun e4=> ?_) (fun e4=> ?_)))
 ·refine A.d (A.d3 [13,14] 16 [cz b1 (eo c) 60,cz b2 (eB a) 213,cz b3 [u_ 0,u_ 0,u_ 0,u_ 0,u_ 0,u_ 0,u_ 0,u_ 0,b_ false] 217] (A.bO 3 [.ld 1,.p,.ld 0,.p,.ld 0,.p,.p,.ld 0,.cq (.agg (eB (dB (IntKind.u64.wrap (c.ka-c.kc)) c.kb)).toArray),.cq (.tuple #[.agg (eB (gj a (dB (IntKind.u64.wrap (c.ka-c.kc)) c.kb))).toArray,b_ (sq a (dB (IntKind.u64.wrap (c.ka-c.kc)) c.kb))]),.p,.p,.p] [0,1,2,3,4,5,6,7,8,9,10,11,12] [(1,u_ x),(3,p_ b1),(5,p_ b2),(6,p_ b3),(33,.agg (eB (gj a (dB (IntKind.u64.wrap (c.ka-c.kc)) c.kb))).toArray),(34,b_ (sq a (dB (IntKind.u64.wrap (c.ka-c.kc)) c.kb)))] [b2,b1,b1,b1] (.refl _) (oc (qo (fun ww ss=>qt (IntKind.u64.wrap (c.ka-c.kc)) c.kb ww)) (o1 (qo (fun ww ss=>xr a (dB (IntKind.u64.wrap (c.ka-c.kc)) c.kb) ww)))) (A.o3 13 rfl (A.ai 7 [u_ 0,u_ 0] (by kernel_rfl) rfl (by kernel_rfl) (fun b4=>[cz b1 (eo c) 60,cz b2 (eB a) 213,cz b3 [u_ 0,u_ 0,u_ 0,u_ 0,u_ 0,u_ 0,u_ 0,u_ 0,b_ false] 217,cz b4 [u_ 0,u_ 0] 213]) (fun _=>rfl) ?_))))
  intro b4
  refine A.aI (sd [3]) (A.o3 14 rfl (A.sT 3 (eB (gj a (dB (IntKind.u64.wrap (c.ka-c.kc)) c.kb))) rfl (A.aI (sd [3]) (A.bT 0 [.p] [15] [(1,u_ x),(3,p_ b1),(5,p_ b2),(6,p_ b3),(7,p_ b4)] [] (sd [3]) (A.f3 (A.c (A.gO [.p,.ld 1,.p,.ld 0,.p,.p,.ld 3,.p,.ld 0,.p,.p,.st 2] [(6,p_ b3)] [cz b1 (eo c) 60,cz b2 (eB a) 213,cz b3 [u_ x,u_ a.nq1,u_ a.nq2,u_ c.ka,u_ x,u_ ((gj a (dB (IntKind.u64.wrap (c.ka-c.kc)) c.kb)).nq1),u_ ((gj a (dB (IntKind.u64.wrap (c.ka-c.kc)) c.kb)).nq2),u_ c.kc,b_ true] 217,cz b4 (eB (gj a (dB (IntKind.u64.wrap (c.ka-c.kc)) c.kb))) 213] [b2,b1,b4,b1,b3] (A.e (A.pc 2 [u_ x,u_ a.nq1,u_ a.nq2,u_ c.ka,u_ x,u_ ((gj a (dB (IntKind.u64.wrap (c.ka-c.kc)) c.kb)).nq1),u_ ((gj a (dB (IntKind.u64.wrap (c.ka-c.kc)) c.kb)).nq2),u_ c.kc,b_ true] ?_)))))))))
  show((.agg #[u_ x,u_ a.nq1,u_ a.nq2,u_ c.ka,u_ x,u_ ((gj a (dB (IntKind.u64.wrap (c.ka-c.kc)) c.kb)).nq1),u_ ((gj a (dB (IntKind.u64.wrap (c.ka-c.kc)) c.kb)).nq2),u_ c.kc,b_ true]):Value)=(.agg (dw (d6 c x a)).toArray)
  unfold d6 kC ng px nq;simp_all[dw]
 have p4:=e4
 refine A.p (A.c (A.gs [.p,.ld 1,.p,.p,.st 2] [1,3,5,20] [] [(2,cz b3 [u_ 0,u_ 0,u_ 0,u_ 0,u_ x,u_ a.nq1,u_ a.nq2,u_ 0,b_ false] 217)] [b2,b3] (A.e (A.aK [.agg #[u_ 0,u_ 0,u_ 0,u_ 0,u_ x,u_ a.nq1,u_ a.nq2,u_ 0,b_ false]] (fun aa ww rr ss=>⟨iG 2 rr ss,trivial⟩) ?_))))
 show((.agg #[u_ 0,u_ 0,u_ 0,u_ 0,u_ x,u_ a.nq1,u_ a.nq2,u_ 0,b_ false]):Value)=(.agg (dw (d6 c x a)).toArray)
 unfold d6 kC ng px nq;simp_all[dw]
theorem AI(c:Cv)(x:Int)(a:Nm)(w:World):
  CW 199 #[.agg (eo c).toArray,u_ x,.agg (eB a).toArray] w (.agg (dw (dH c x a)).toArray):=by
 refine A.C Tryz.func199 rfl (HS.nil w) (A.c (A.an [.al,.al,.al] [1,3,5,6] (fun b1 b2 b3=>[(1,u_ x),(3,p_ b1),(5,p_ b2),(6,p_ b3)]) (fun b1 b2 b3=>[cz b1 (eo c) 60,cz b2 (eB a) 213,cz b3 [u_ 0,u_ 0,u_ 0,u_ 0,u_ 0,u_ 0,u_ 0,u_ 0,b_ false] 217]) (fun b1 b2 b3=>[]) (fun _ _ _=>T0) (fun _ _ _=>by kernel_rfl) (fun b1 b2 b3=>trivial) ?_))
 intro b1 b2 b3
 refine A.c (A.no [.ld 0,.p,.ld 1,.cq (.agg (dw (d6 c x a)).toArray),.al,.st 3] [1,5] (fun b4=>[(7,p_ b4)]) (fun b4=>[]) (fun b4=>cz b4 (dw (d6 c x a)) 217) (fun b4=>[b1,b2,b4]) (fun b4=>o1 (qo (fun ww ss=>G8 c x a ww))) ?_)
 intro b4
 refine A.d (A.c (A.k [.ld 0,.cq (i_ (dM c.ka c.kb c.kc)),.p] [] [(14,b_ ((dM c.ka c.kb c.kc)==4))] [b1] (o1 (qo (fun ww ss=>ow c.ka c.kb c.kc ww))) (A.v rfl (fun e1=> ?_) (fun e1=> ?_))))
 ·refine A.s (A.gs [.p,.p,.ld 3,.p,.ld 0,.p,.p,.p,.st 3] [3,14] [] [(3,cz b4 [u_ ((d6 c x a).rq1),u_ ((d6 c x a).rq2),u_ ((d6 c x a).rq3),u_ ((d6 c x a).rq4),u_ (IntKind.u64.wrap (((d6 c x a).rq5)+c.kb)),u_ ((d6 c x a).rq6),u_ ((d6 c x a).rq7),u_ ((d6 c x a).rq8),b_ ((d6 c x a).rq9)] 217)] [b4,b1,b4] (A.c (A.gs [.ld 3,.st 2] [7] [] [(2,cz b3 [u_ ((d6 c x a).rq1),u_ ((d6 c x a).rq2),u_ ((d6 c x a).rq3),u_ ((d6 c x a).rq4),u_ (IntKind.u64.wrap (((d6 c x a).rq5)+c.kb)),u_ ((d6 c x a).rq6),u_ ((d6 c x a).rq7),u_ ((d6 c x a).rq8),b_ ((d6 c x a).rq9)] 217)] [b4,b3] (A.e (A.pc 2 [u_ ((d6 c x a).rq1),u_ ((d6 c x a).rq2),u_ ((d6 c x a).rq3),u_ ((d6 c x a).rq4),u_ (IntKind.u64.wrap (((d6 c x a).rq5)+c.kb)),u_ ((d6 c x a).rq6),u_ ((d6 c x a).rq7),u_ ((d6 c x a).rq8),b_ ((d6 c x a).rq9)] ?_)))))
  show((.agg #[u_ ((d6 c x a).rq1),u_ ((d6 c x a).rq2),u_ ((d6 c x a).rq3),u_ ((d6 c x a).rq4),u_ (IntKind.u64.wrap (((d6 c x a).rq5)+c.kb)),u_ ((d6 c x a).rq6),u_ ((d6 c x a).rq7),u_ ((d6 c x a).rq8),b_ ((d6 c x a).rq9)]):Value)=(.agg (dw (dH c x a)).toArray)
  unfold dH kC;simp_all[dw]
 refine A.p (A.c (A.gs [.ld 3,.st 2] [3,7,14] [] [(2,cz b3 (dw (d6 c x a)) 217)] [b4,b3] (A.e (A.pc 2 (dw (d6 c x a)) ?_))))
 show((.agg (dw (d6 c x a)).toArray):Value)=(.agg (dw (dH c x a)).toArray)
 unfold dH kC;simp_all[dw]
theorem xU(a b:Rn)(w:World):
  CW 198 #[.agg (dw a).toArray,.agg (dw b).toArray] w (.agg (dw (dy a b)).toArray):=by
 refine A.C Tryz.func198 rfl (HS.nil w) (A.c (A.an [.al,.al,.al] [2,3,4] (fun b1 b2 b3=>[(2,p_ b1),(3,p_ b2),(4,p_ b3)]) (fun b1 b2 b3=>[cz b1 (dw a) 217,cz b2 (dw b) 217,cz b3 [u_ 0,u_ 0,u_ 0,u_ 0,u_ 0,u_ 0,u_ 0,u_ 0,b_ false] 217]) (fun b1 b2 b3=>[]) (fun _ _ _=>T0) (fun _ _ _=>by kernel_rfl) (fun b1 b2 b3=>trivial) ?_))
 intro b1 b2 b3
 refine A.d (A.d3 [8,9] 10 [cz b1 (dw a) 217,cz b2 (dw b) 217,cz b3 [u_ 0,u_ 0,u_ 0,u_ 0,u_ 0,u_ 0,u_ 0,u_ 0,b_ false] 217] (A.bO 2 [.p,.ld 0,.p,.ld 1,.cq (.agg (jB (eO (dp a) (dp b))).toArray),.p,.ld 0,.p] [0,1,2,3,4,5,6,7] [(2,p_ b1),(3,p_ b2),(4,p_ b3),(13,.agg #[u_ 0,u_ 0,u_ 0,u_ 0,u_ ((eO (dp a) (dp b)).lq1),u_ ((eO (dp a) (dp b)).lq2),u_ ((eO (dp a) (dp b)).lq3),u_ ((eO (dp a) (dp b)).lq4),b_ a.rq9])] [b1,b2,b1] (.refl _) (o1 (qo (fun ww ss=>G7 (dp a) (dp b) ww))) (A.o3 8 rfl (A.ai 5 [u_ 0,u_ 0,u_ 0,u_ 0,u_ 0,u_ 0,u_ 0,u_ 0,b_ false] (by kernel_rfl) rfl (by kernel_rfl) (fun b4=>[cz b1 (dw a) 217,cz b2 (dw b) 217,cz b3 [u_ 0,u_ 0,u_ 0,u_ 0,u_ 0,u_ 0,u_ 0,u_ 0,b_ false] 217,cz b4 [u_ 0,u_ 0,u_ 0,u_ 0,u_ 0,u_ 0,u_ 0,u_ 0,b_ false] 217]) (fun _=>rfl) ?_))))
 intro b4
 refine A.aI (sd [3]) (A.o3 9 rfl (A.sT 3 [u_ 0,u_ 0,u_ 0,u_ 0,u_ ((eO (dp a) (dp b)).lq1),u_ ((eO (dp a) (dp b)).lq2),u_ ((eO (dp a) (dp b)).lq3),u_ ((eO (dp a) (dp b)).lq4),b_ a.rq9] rfl (A.aI (sd [3]) (A.f3 (A.d (A.c (A.h [.p,.ld 0] [(2,p_ b1),(3,p_ b2),(4,p_ b3),(5,p_ b4),(15,b_ a.rq9)] [b1] (A.cn a.rq9 (fun e1=> ?_) (fun e1=> ?_)))))))))
 ·refine A.s (A.gQ [.p,.ld 0,.p,.ld 1,.cq (.agg (jB (eO (fO a) (fO b))).toArray),.p,.st 3] [(4,p_ b3),(5,p_ b4)] [cz b1 (dw a) 217,cz b2 (dw b) 217,cz b3 [u_ 0,u_ 0,u_ 0,u_ 0,u_ 0,u_ 0,u_ 0,u_ 0,b_ false] 217,cz b4 [u_ ((eO (fO a) (fO b)).lq1),u_ ((eO (fO a) (fO b)).lq2),u_ ((eO (fO a) (fO b)).lq3),u_ ((eO (fO a) (fO b)).lq4),u_ ((eO (dp a) (dp b)).lq1),u_ ((eO (dp a) (dp b)).lq2),u_ ((eO (dp a) (dp b)).lq3),u_ ((eO (dp a) (dp b)).lq4),b_ a.rq9] 217] [b1,b2,b4] (o1 (qo (fun ww ss=>G7 (fO a) (fO b) ww))) (A.c (A.gs [.ld 3,.st 2] [5] [] [(2,cz b3 [u_ ((eO (fO a) (fO b)).lq1),u_ ((eO (fO a) (fO b)).lq2),u_ ((eO (fO a) (fO b)).lq3),u_ ((eO (fO a) (fO b)).lq4),u_ ((eO (dp a) (dp b)).lq1),u_ ((eO (dp a) (dp b)).lq2),u_ ((eO (dp a) (dp b)).lq3),u_ ((eO (dp a) (dp b)).lq4),b_ a.rq9] 217)] [b4,b3] (A.e (A.pc 2 [u_ ((eO (fO a) (fO b)).lq1),u_ ((eO (fO a) (fO b)).lq2),u_ ((eO (fO a) (fO b)).lq3),u_ ((eO (fO a) (fO b)).lq4),u_ ((eO (dp a) (dp b)).lq1),u_ ((eO (dp a) (dp b)).lq2),u_ ((eO (dp a) (dp b)).lq3),u_ ((eO (dp a) (dp b)).lq4),b_ a.rq9] ?_)))))
  show((.agg #[u_ ((eO (fO a) (fO b)).lq1),u_ ((eO (fO a) (fO b)).lq2),u_ ((eO (fO a) (fO b)).lq3),u_ ((eO (fO a) (fO b)).lq4),u_ ((eO (dp a) (dp b)).lq1),u_ ((eO (dp a) (dp b)).lq2),u_ ((eO (dp a) (dp b)).lq3),u_ ((eO (dp a) (dp b)).lq4),b_ a.rq9]):Value)=(.agg (dw (dy a b)).toArray)
  unfold dy ng nq;simp_all[dw]
 refine A.p (A.c (A.gO [.ld 3,.st 2] [(4,p_ b3)] [cz b1 (dw a) 217,cz b2 (dw b) 217,cz b3 [u_ 0,u_ 0,u_ 0,u_ 0,u_ ((eO (dp a) (dp b)).lq1),u_ ((eO (dp a) (dp b)).lq2),u_ ((eO (dp a) (dp b)).lq3),u_ ((eO (dp a) (dp b)).lq4),b_ a.rq9] 217,cz b4 [u_ 0,u_ 0,u_ 0,u_ 0,u_ ((eO (dp a) (dp b)).lq1),u_ ((eO (dp a) (dp b)).lq2),u_ ((eO (dp a) (dp b)).lq3),u_ ((eO (dp a) (dp b)).lq4),b_ a.rq9] 217] [b4,b3] (A.e (A.pc 2 [u_ 0,u_ 0,u_ 0,u_ 0,u_ ((eO (dp a) (dp b)).lq1),u_ ((eO (dp a) (dp b)).lq2),u_ ((eO (dp a) (dp b)).lq3),u_ ((eO (dp a) (dp b)).lq4),b_ a.rq9] ?_))))
 show((.agg #[u_ 0,u_ 0,u_ 0,u_ 0,u_ ((eO (dp a) (dp b)).lq1),u_ ((eO (dp a) (dp b)).lq2),u_ ((eO (dp a) (dp b)).lq3),u_ ((eO (dp a) (dp b)).lq4),b_ a.rq9]):Value)=(.agg (dw (dy a b)).toArray)
 unfold dy ng nq;simp_all[dw]
abbrev xW(p0)(p1):=(u_ (eC (eC 0 (ir (fO p0) p1)) (ir (dp p0) p1)):Value)
abbrev xX(p0)(p1):=(u_ (eC (eC 0 (ir (dp p0) p1)) (ir (dp p0) p1)):Value)
abbrev BE(p0:Rn):=(.agg #[u_ p0.rq5,u_ p0.rq6,u_ p0.rq7,u_ p0.rq8,u_ p0.rq5,u_ p0.rq6,u_ p0.rq7,u_ p0.rq8]:Value)
abbrev BF(p0:Rn):=(.agg #[u_ p0.rq1,u_ p0.rq2,u_ p0.rq3,u_ p0.rq4,u_ p0.rq5,u_ p0.rq6,u_ p0.rq7,u_ p0.rq8]:Value)
theorem wN(r:Rn)(a:Nm)(w:World):
  CW 212 #[.agg (dw r).toArray,.agg (eB a).toArray] w (u_ (iV r a)):=by
 refine A.C Tryz.func212 rfl (HS.nil w) (A.c (A.n2 [.al,.al,.p] [0,1] (fun b1 b2=>[(2,p_ b1),(3,p_ b2)]) (fun b1 b2=>[cz b1 (dw r) 217,cz b2 (eB a) 213]) ?_))
 intro b1 b2
 refine A.c (A.g [.p] [] [(5,u_ 0)] (A.d (A.c (A.gm [.ld 0] [2] [(8,.agg (dw r).toArray)] [b1] (A.j (A.iX (some 9) [.agg (dw r).toArray] Tryz.func254 rfl (A.c (A.n2 [.al,.al] [0] (fun b3 b4=>[(1,p_ b3),(2,p_ b4)]) (fun b3 b4=>[cz b3 (dw r) 217,cz b4 [u_ 0,u_ 0,u_ 0,u_ 0,u_ 0,u_ 0,u_ 0,u_ 0] 365]) ?_))))))))
 intro b3 b4
 refine A.d (A.c (A.gl [.p,.ld 2] [] [(4,b_ r.rq9)] [b3] (A.cn r.rq9 (fun e1=> ?_) (fun e1=> ?_))))
 ·refine A.c (A.gs [.p,.ld 2,.p,.ld 2,.p,.st 3] [1,4] [] [(3,cz b4 [u_ r.rq1,u_ r.rq2,u_ r.rq3,u_ r.rq4,u_ r.rq5,u_ r.rq6,u_ r.rq7,u_ r.rq8] 365)] [b3,b3,b4] (A.e (A.az [BF r] (fun aa ww rr ss=>⟨iG 3 rr ss,trivial⟩) (A.aj (by kernel_rfl) (A.aM [cz b2 (eB a) 213] (sd [3,2,0]) (A.h [.p] [(3,p_ b2),(5,u_ 0),(9,BF r),(10,i_ 0)] [] (A.y (A.aY 400 (A.aD (m:=399) (A.c (A.g [.p] [] [(11,b_ true)] (A.d (A.ct (A.p (A.d (A.y (A.c (A.aH [.p,.al,.st 1] [3,5,9,10,7] (fun b5=>[(3,p_ b2),(5,u_ 0),(9,BF r),(10,i_ 0),(7,p_ b5)]) (fun b5=>[cz b2 (eB a) 213,cz b5 [u_ r.rq1,u_ r.rq2,u_ r.rq3,u_ r.rq4] 215]) (fun b5=>[b5]) (fun _=>T0) (fun _=>by kernel_rfl) (fun b5=>trivial) ?_))))))))))))))))))
  intro b5
  refine A.s (A.k [.p,.ld 1,.ld 0,.cq (u_ (ir (fO r) a)),.p,.p] [7] [(5,u_ (eC 0 (ir (fO r) a)))] [b5,b2] (o1 (qo (fun ww ss=>wM (fO r) a ww))) (A.s (A.g [.p,.p] [] [(10,i_ 1)] (A.aD (m:=398) (A.c (A.g [.p] [] [(11,b_ true)] (A.d (A.ct (A.p (A.d (A.y (A.c (A.g1 [.p,.al,.st 2] [11] (fun b6=>[(7,p_ b6)]) (fun b6=>[]) (fun b6=>cz b6 [u_ r.rq5,u_ r.rq6,u_ r.rq7,u_ r.rq8] 215) (fun b6=>[b6]) ?_)))))))))))))
  intro b6
  refine A.s (A.k [.p,.ld 2,.ld 0,.cq (u_ (ir (dp r) a)),.p,.p] [7] [(5,xW r a)] [b6,b2] (o1 (qo (fun ww ss=>wM (dp r) a ww))) (A.s (A.g [.p,.p] [] [(10,i_ 2)] (A.aD (m:=397) (A.c (A.g [.p] [] [(11,b_ false)] (A.d (A.Z (A.aB (A.c (A.g [.p,.p] [3,5,9,10,11] [(4,xW r a)] (A.e (A.N [xW r a] ?_)))))))))))))
  show((xW r a):Value)=(u_ (iV r a))
  unfold iV;simp_all
 refine A.p (A.c (A.gs [.p,.ld 2,.p,.ld 2,.p,.st 3] [1,4] [] [(3,cz b4 [u_ r.rq5,u_ r.rq6,u_ r.rq7,u_ r.rq8,u_ r.rq5,u_ r.rq6,u_ r.rq7,u_ r.rq8] 365)] [b3,b3,b4] (A.e (A.az [BE r] (fun aa ww rr ss=>⟨iG 3 rr ss,trivial⟩) (A.aj (by kernel_rfl) (A.aM [cz b2 (eB a) 213] (sd [3,2,0]) (A.h [.p] [(3,p_ b2),(5,u_ 0),(9,BE r),(10,i_ 0)] [] (A.y (A.aY 400 (A.aD (m:=399) (A.c (A.g [.p] [] [(11,b_ true)] (A.d (A.ct (A.p (A.d (A.y (A.c (A.aH [.p,.al,.st 1] [3,5,9,10,7] (fun b7=>[(3,p_ b2),(5,u_ 0),(9,BE r),(10,i_ 0),(7,p_ b7)]) (fun b7=>[cz b2 (eB a) 213,cz b7 [u_ r.rq5,u_ r.rq6,u_ r.rq7,u_ r.rq8] 215]) (fun b7=>[b7]) (fun _=>T0) (fun _=>by kernel_rfl) (fun b7=>trivial) ?_)))))))))))))))))))
 intro b7
 refine A.s (A.k [.p,.ld 1,.ld 0,.cq (u_ (ir (dp r) a)),.p,.p] [7] [(5,u_ (eC 0 (ir (dp r) a)))] [b7,b2] (o1 (qo (fun ww ss=>wM (dp r) a ww))) (A.s (A.g [.p,.p] [] [(10,i_ 1)] (A.aD (m:=398) (A.c (A.g [.p] [] [(11,b_ true)] (A.d (A.ct (A.p (A.d (A.y (A.c (A.g1 [.p,.al,.st 2] [11] (fun b8=>[(7,p_ b8)]) (fun b8=>[]) (fun b8=>cz b8 [u_ r.rq5,u_ r.rq6,u_ r.rq7,u_ r.rq8] 215) (fun b8=>[b8]) ?_)))))))))))))
 intro b8
 refine A.s (A.k [.p,.ld 2,.ld 0,.cq (u_ (ir (dp r) a)),.p,.p] [7] [(5,xX r a)] [b8,b2] (o1 (qo (fun ww ss=>wM (dp r) a ww))) (A.s (A.g [.p,.p] [] [(10,i_ 2)] (A.aD (m:=397) (A.c (A.g [.p] [] [(11,b_ false)] (A.d (A.Z (A.aB (A.c (A.g [.p,.p] [3,5,9,10,11] [(4,xX r a)] (A.e (A.N [xX r a] ?_)))))))))))))
 show((xX r a):Value)=(u_ (iV r a))
 unfold iV;simp_all
def eZ(l:Du):Rn:=⟨l.dq2,l.dq3,l.dq4,l.dq5,l.dq6,l.dq7,l.dq8,l.dq9,l.dq10⟩
def ed(l:Du):Rn:=⟨l.dq11,l.dq12,l.dq13,l.dq14,l.dq15,l.dq16,l.dq17,l.dq18,l.dq19⟩
def headD(l:Du)(h:Int):Du:=if h>0 then{l with dq21:=iV (ed l) (dB l.dq20 65536),dq22:=iV (eZ l) (dB (IntKind.u64.wrap (l.dq20+IntKind.u64.wrap h)) 65536)} else{l with dq21:=9223372036854775808,dq22:=9223372036854775808}
def dZ(b:Bool)(was r:Rn):Rn:=if b then dy was r else r
def TU(b:Bool)(d r:Rn)(x y z:Int):Du:=⟨b,d.rq1,d.rq2,d.rq3,d.rq4,d.rq5,d.rq6,d.rq7,d.rq8,d.rq9,r.rq1,r.rq2,r.rq3,r.rq4,r.rq5,r.rq6,r.rq7,r.rq8,r.rq9,x,y,z⟩
def fp(l:Du)(c:Cv)(x h:Int):Du:=headD (TU true (dZ l.dq1 (eZ l) (dH c x (dB l.dq20 65536))) (dZ l.dq1 (ed l) (d6 c x (dB l.dq20 65536))) l.dq20 l.dq21 l.dq22) h
def iM(l:Du)(s h:Int):Du:=headD {l with dq20:=IntKind.u64.wrap (l.dq20+IntKind.u64.wrap (eC s 0))} h
theorem wO(n:Int)(w:World):
  CW 197 #[u_ n] w (.agg (eB (dB n 65536)).toArray):=by
 refine A.C Tryz.func197 rfl (HS.nil w) (A.c (A.n1 [.al] [] (fun b1=>[(2,p_ b1)]) (fun b1=>cz b1 [u_ 0,u_ 0] 213) ?_))
 intro b1
 refine A.c (A.ks [.p,.cq (.agg (eB (dB n 65536)).toArray),.st 0] [0] [] [(0,cz b1 (eB (dB n 65536)) 213)] [b1] (o1 (qo (fun ww ss=>qt n 65536 ww))) (A.e (A.pc 0 (eB (dB n 65536)) ?_)))
 rfl
abbrev QS(p0:Du)(p1):=(.agg (eB (dB (IntKind.u64.wrap (p0.dq20+(IntKind.u64.wrap (p1)))) 65536)).toArray:Value)
abbrev Hg(p0)(p1:Du):=(cz p0 [b_ p1.dq1,u_ p1.dq2,u_ p1.dq3,u_ p1.dq4,u_ p1.dq5,u_ p1.dq6,u_ p1.dq7,u_ p1.dq8,u_ p1.dq9,b_ p1.dq10,u_ p1.dq11,u_ p1.dq12,u_ p1.dq13,u_ p1.dq14,u_ p1.dq15,u_ p1.dq16,u_ p1.dq17,u_ p1.dq18,b_ p1.dq19,u_ p1.dq20,u_ 9223372036854775808,u_ 9223372036854775808] 219:V.dC)
abbrev QT(p0:Du):=(.agg #[b_ p0.dq1,u_ p0.dq2,u_ p0.dq3,u_ p0.dq4,u_ p0.dq5,u_ p0.dq6,u_ p0.dq7,u_ p0.dq8,u_ p0.dq9,b_ p0.dq10,u_ p0.dq11,u_ p0.dq12,u_ p0.dq13,u_ p0.dq14,u_ p0.dq15,u_ p0.dq16,u_ p0.dq17,u_ p0.dq18,b_ p0.dq19,u_ p0.dq20,u_ 9223372036854775808,u_ 9223372036854775808]:Value)
abbrev qh(p0:Du):=(u_ (iV (ed p0) (dB p0.dq20 65536)):Value)
abbrev qj(p0:Du)(p1):=(u_ (iV (eZ p0) (dB (IntKind.u64.wrap (p0.dq20+(IntKind.u64.wrap (p1)))) 65536)):Value)
abbrev uQ(p0):=(cz p0 [b_ false,u_ 0,u_ 0,u_ 0,u_ 0,u_ 0,u_ 0,u_ 0,u_ 0,b_ false,u_ 0,u_ 0,u_ 0,u_ 0,u_ 0,u_ 0,u_ 0,u_ 0,b_ false,u_ 0,u_ 0,u_ 0] 219:V.dC)
theorem BG(l:Du)(h:Int)(w:World):
  CW 201 #[.agg (fi l).toArray,i_ h] w (.agg (fi (headD l h)).toArray):=by
 refine A.C Tryz.func201 rfl (HS.nil w) (A.c (A.n2 [.al,.al] [0] (fun b1 b2=>[(2,p_ b1),(4,p_ b2)]) (fun b1 b2=>[cz b1 (fi l) 219,uQ b2]) ?_))
 intro b1 b2
 refine A.c (A.gs [.p,.st 0,.p,.st 0] [] [] [(0,Hg b1 l)] [b1,b1] (A.d (A.c (A.g [.p,.p] [] [(8,b_ (decide (h>0)))] (A.v rfl (fun e1=> ?_) (fun e1=> ?_))))))
 ·have p1:=of_decide_eq_true e1
  refine A.d (A.W [7] 8 (A.kd 1 [.p,.ld 0,.p,.ld 0,.cq (.agg (eB (dB l.dq20 65536)).toArray),.cq (qh l),.p] [0,1,2,3,4,5,6] [8] [(14,qh l),(15,q_ b1 20)] [b1,b1] (oc (qo (fun ww ss=>wO l.dq20 ww)) (o1 (qo (fun ww ss=>wN (ed l) (dB l.dq20 65536) ww)))) (A.F 7 rfl (A.sT 0 [qh l] rfl (A.E (A.M (A.W [10] 11 ?_)))))))
  refine A.pO 1 [.p,.ld 0,.p,.ld 0,.p,.p,.p,.cq (QS l h),.cq (qj l h),.p] [0,1,2,3,4,5,6,7,8,9] [(2,p_ b1),(4,p_ b2),(24,qj l h),(25,q_ b1 21)] [b1,b1] (oc (qo (fun ww ss=>wO (IntKind.u64.wrap (l.dq20+(IntKind.u64.wrap (h)))) ww)) (o1 (qo (fun ww ss=>wN (eZ l) (dB (IntKind.u64.wrap (l.dq20+(IntKind.u64.wrap (h)))) 65536) ww)))) ?_
  refine A.F 10 rfl (A.sT 0 [qj l h] rfl (A.E (A.M ?_)))
  refine A.c (A.gO [.ld 0,.st 1] [(4,p_ b2)] [cz b1 [b_ l.dq1,u_ l.dq2,u_ l.dq3,u_ l.dq4,u_ l.dq5,u_ l.dq6,u_ l.dq7,u_ l.dq8,u_ l.dq9,b_ l.dq10,u_ l.dq11,u_ l.dq12,u_ l.dq13,u_ l.dq14,u_ l.dq15,u_ l.dq16,u_ l.dq17,u_ l.dq18,b_ l.dq19,u_ l.dq20,qh l,qj l h] 219,cz b2 [b_ l.dq1,u_ l.dq2,u_ l.dq3,u_ l.dq4,u_ l.dq5,u_ l.dq6,u_ l.dq7,u_ l.dq8,u_ l.dq9,b_ l.dq10,u_ l.dq11,u_ l.dq12,u_ l.dq13,u_ l.dq14,u_ l.dq15,u_ l.dq16,u_ l.dq17,u_ l.dq18,b_ l.dq19,u_ l.dq20,qh l,qj l h] 219] [b1,b2] ?_)
  refine A.e (A.pc 1 [b_ l.dq1,u_ l.dq2,u_ l.dq3,u_ l.dq4,u_ l.dq5,u_ l.dq6,u_ l.dq7,u_ l.dq8,u_ l.dq9,b_ l.dq10,u_ l.dq11,u_ l.dq12,u_ l.dq13,u_ l.dq14,u_ l.dq15,u_ l.dq16,u_ l.dq17,u_ l.dq18,b_ l.dq19,u_ l.dq20,qh l,qj l h] ?_)
  show((.agg #[b_ l.dq1,u_ l.dq2,u_ l.dq3,u_ l.dq4,u_ l.dq5,u_ l.dq6,u_ l.dq7,u_ l.dq8,u_ l.dq9,b_ l.dq10,u_ l.dq11,u_ l.dq12,u_ l.dq13,u_ l.dq14,u_ l.dq15,u_ l.dq16,u_ l.dq17,u_ l.dq18,b_ l.dq19,u_ l.dq20,qh l,qj l h]):Value)=(.agg (fi (headD l h)).toArray)
  (rw[show headD l h=_ from if_pos (by simp_all)];rfl)
 have p1:=of_decide_eq_false e1
 refine A.p (A.c (A.gs [.ld 0,.st 1] [1,2,8] [] [(1,Hg b2 l)] [b1,b2] (A.e (A.pc 1 [b_ l.dq1,u_ l.dq2,u_ l.dq3,u_ l.dq4,u_ l.dq5,u_ l.dq6,u_ l.dq7,u_ l.dq8,u_ l.dq9,b_ l.dq10,u_ l.dq11,u_ l.dq12,u_ l.dq13,u_ l.dq14,u_ l.dq15,u_ l.dq16,u_ l.dq17,u_ l.dq18,b_ l.dq19,u_ l.dq20,u_ 9223372036854775808,u_ 9223372036854775808] ?_))))
 show((QT l):Value)=(.agg (fi (headD l h)).toArray)
 (rw[show headD l h=_ from if_neg (by simp_all)];rfl)
theorem S0(r:Rn)(bc bx bl:Nat)(c:Cv)(x:Int)(l:Du)(w:World)(r0:(cz bc (eo c) 60).holds w)(r1:(cz bx [u_ x] 40).holds w)(r2:(cz bl (fi l) 219).holds w):
  CW 196 #[.agg (dw r).toArray,.func (.func 199) #[] #[],p_ bc,p_ bx,p_ bl] w (.agg (dw (dZ l.dq1 r (dH c x (dB l.dq20 65536)))).toArray):=by
 refine A.C Tryz.func196 rfl (HS.nil w) (A.c (A.n2 [.al,.al] [0] (fun b1 b2=>[(5,p_ b1),(7,p_ b2)]) (fun b1 b2=>[cz b1 (dw r) 217,cz b2 [u_ 0,u_ 0,u_ 0,u_ 0,u_ 0,u_ 0,u_ 0,u_ 0,b_ false] 217]) ?_))
 intro b1 b2
 refine A.d (A.d3 [7,8] 9 [cz b1 (dw r) 217,cz b2 [u_ 0,u_ 0,u_ 0,u_ 0,u_ 0,u_ 0,u_ 0,u_ 0,b_ false] 217] (A.bO 2 [.p,.rd (eo c),.rd [u_ x],.p,.rd [u_ l.dq20],.cq (.agg (eB (dB l.dq20 65536)).toArray),.cq (.agg (dw (dH c x (dB l.dq20 65536))).toArray)] [0,1,2,3,4,5,6] [(4,p_ bl),(5,p_ b1),(7,p_ b2),(15,.agg (dw (dH c x (dB l.dq20 65536))).toArray)] [] (.refl _) (oc (ro ⟨bc,0,none⟩ (vs:=(eo c)) (dj r0 rfl)) (oc (ro ⟨bx,0,none⟩ (vs:=[u_ x]) (dj r1 rfl)) (oc (ro ⟨bl,19,none⟩ (vs:=[u_ l.dq20]) (dj r2 rfl)) (oc (qo (fun ww ss=>wO l.dq20 ww)) (o1 (qo (fun ww ss=>AI c x (dB l.dq20 65536) ww))))))) (A.o3 7 rfl (A.ai 8 [u_ 0,u_ 0,u_ 0,u_ 0,u_ 0,u_ 0,u_ 0,u_ 0,b_ false] (by kernel_rfl) rfl (by kernel_rfl) (fun b3=>[cz b1 (dw r) 217,cz b2 [u_ 0,u_ 0,u_ 0,u_ 0,u_ 0,u_ 0,u_ 0,u_ 0,b_ false] 217,cz b3 [u_ 0,u_ 0,u_ 0,u_ 0,u_ 0,u_ 0,u_ 0,u_ 0,b_ false] 217]) (fun _=>rfl) ?_))))
 intro b3
 refine A.aI (sd [2]) (A.o3 8 rfl (A.sT 2 (dw (dH c x (dB l.dq20 65536))) rfl (A.aI (sd [2]) (A.f3 (A.d (A.c (A.hk [.p,.rd [b_ l.dq1]] [(5,p_ b1),(7,p_ b2),(8,p_ b3),(17,b_ l.dq1)] [] (o1 (ro ⟨bl,0,none⟩ (vs:=[b_ l.dq1]) (dj r2 rfl))) (A.cn l.dq1 (fun e1=> ?_) (fun e1=> ?_)))))))))
 ·refine A.s (A.gQ [.ld 0,.ld 2,.cq (.agg (dw (dy r (dH c x (dB l.dq20 65536)))).toArray),.st 2] [(7,p_ b2),(8,p_ b3)] [cz b1 (dw r) 217,cz b2 [u_ 0,u_ 0,u_ 0,u_ 0,u_ 0,u_ 0,u_ 0,u_ 0,b_ false] 217,cz b3 (dw (dy r (dH c x (dB l.dq20 65536)))) 217] [b1,b3,b3] (o1 (qo (fun ww ss=>xU r (dH c x (dB l.dq20 65536)) ww))) (A.c (A.gs [.ld 2,.st 1] [8] [] [(1,cz b2 (dw (dy r (dH c x (dB l.dq20 65536)))) 217)] [b3,b2] (A.e (A.pc 1 (dw (dy r (dH c x (dB l.dq20 65536)))) ?_)))))
  show((.agg (dw (dy r (dH c x (dB l.dq20 65536)))).toArray):Value)=(.agg (dw (dZ l.dq1 r (dH c x (dB l.dq20 65536)))).toArray)
  unfold dZ;simp_all
 refine A.p (A.c (A.gO [.ld 2,.st 1] [(7,p_ b2)] [cz b1 (dw r) 217,cz b2 (dw (dH c x (dB l.dq20 65536))) 217,cz b3 (dw (dH c x (dB l.dq20 65536))) 217] [b3,b2] (A.e (A.pc 1 (dw (dH c x (dB l.dq20 65536))) ?_))))
 show((.agg (dw (dH c x (dB l.dq20 65536))).toArray):Value)=(.agg (dw (dZ l.dq1 r (dH c x (dB l.dq20 65536)))).toArray)
 unfold dZ;simp_all
theorem S1(r:Rn)(bc bx bl:Nat)(c:Cv)(x:Int)(l:Du)(w:World)(r0:(cz bc (eo c) 60).holds w)(r1:(cz bx [u_ x] 40).holds w)(r2:(cz bl (fi l) 219).holds w):
  CW 196 #[.agg (dw r).toArray,.func (.func 200) #[] #[],p_ bc,p_ bx,p_ bl] w (.agg (dw (dZ l.dq1 r (d6 c x (dB l.dq20 65536)))).toArray):=by
 refine A.C Tryz.func196 rfl (HS.nil w) (A.c (A.n2 [.al,.al] [0] (fun b1 b2=>[(5,p_ b1),(7,p_ b2)]) (fun b1 b2=>[cz b1 (dw r) 217,cz b2 [u_ 0,u_ 0,u_ 0,u_ 0,u_ 0,u_ 0,u_ 0,u_ 0,b_ false] 217]) ?_))
 intro b1 b2
 refine A.d (A.d3 [7,8] 9 [cz b1 (dw r) 217,cz b2 [u_ 0,u_ 0,u_ 0,u_ 0,u_ 0,u_ 0,u_ 0,u_ 0,b_ false] 217] (A.bO 2 [.p,.rd (eo c),.rd [u_ x],.p,.rd [u_ l.dq20],.cq (.agg (eB (dB l.dq20 65536)).toArray),.cq (.agg (dw (d6 c x (dB l.dq20 65536))).toArray)] [0,1,2,3,4,5,6] [(4,p_ bl),(5,p_ b1),(7,p_ b2),(15,.agg (dw (d6 c x (dB l.dq20 65536))).toArray)] [] (.refl _) (oc (ro ⟨bc,0,none⟩ (vs:=(eo c)) (dj r0 rfl)) (oc (ro ⟨bx,0,none⟩ (vs:=[u_ x]) (dj r1 rfl)) (oc (ro ⟨bl,19,none⟩ (vs:=[u_ l.dq20]) (dj r2 rfl)) (oc (qo (fun ww ss=>wO l.dq20 ww)) (o1 (qo (fun ww ss=>G8 c x (dB l.dq20 65536) ww))))))) (A.o3 7 rfl (A.ai 8 [u_ 0,u_ 0,u_ 0,u_ 0,u_ 0,u_ 0,u_ 0,u_ 0,b_ false] (by kernel_rfl) rfl (by kernel_rfl) (fun b3=>[cz b1 (dw r) 217,cz b2 [u_ 0,u_ 0,u_ 0,u_ 0,u_ 0,u_ 0,u_ 0,u_ 0,b_ false] 217,cz b3 [u_ 0,u_ 0,u_ 0,u_ 0,u_ 0,u_ 0,u_ 0,u_ 0,b_ false] 217]) (fun _=>rfl) ?_))))
 intro b3
 refine A.aI (sd [2]) (A.o3 8 rfl (A.sT 2 (dw (d6 c x (dB l.dq20 65536))) rfl (A.aI (sd [2]) (A.f3 (A.d (A.c (A.hk [.p,.rd [b_ l.dq1]] [(5,p_ b1),(7,p_ b2),(8,p_ b3),(17,b_ l.dq1)] [] (o1 (ro ⟨bl,0,none⟩ (vs:=[b_ l.dq1]) (dj r2 rfl))) (A.cn l.dq1 (fun e1=> ?_) (fun e1=> ?_)))))))))
 ·refine A.s (A.gQ [.ld 0,.ld 2,.cq (.agg (dw (dy r (d6 c x (dB l.dq20 65536)))).toArray),.st 2] [(7,p_ b2),(8,p_ b3)] [cz b1 (dw r) 217,cz b2 [u_ 0,u_ 0,u_ 0,u_ 0,u_ 0,u_ 0,u_ 0,u_ 0,b_ false] 217,cz b3 (dw (dy r (d6 c x (dB l.dq20 65536)))) 217] [b1,b3,b3] (o1 (qo (fun ww ss=>xU r (d6 c x (dB l.dq20 65536)) ww))) (A.c (A.gs [.ld 2,.st 1] [8] [] [(1,cz b2 (dw (dy r (d6 c x (dB l.dq20 65536)))) 217)] [b3,b2] (A.e (A.pc 1 (dw (dy r (d6 c x (dB l.dq20 65536)))) ?_)))))
  show((.agg (dw (dy r (d6 c x (dB l.dq20 65536)))).toArray):Value)=(.agg (dw (dZ l.dq1 r (d6 c x (dB l.dq20 65536)))).toArray)
  unfold dZ;simp_all
 refine A.p (A.c (A.gO [.ld 2,.st 1] [(7,p_ b2)] [cz b1 (dw r) 217,cz b2 (dw (d6 c x (dB l.dq20 65536))) 217,cz b3 (dw (d6 c x (dB l.dq20 65536))) 217] [b3,b2] (A.e (A.pc 1 (dw (d6 c x (dB l.dq20 65536))) ?_))))
 show((.agg (dw (d6 c x (dB l.dq20 65536))).toArray):Value)=(.agg (dw (dZ l.dq1 r (d6 c x (dB l.dq20 65536)))).toArray)
 unfold dZ;simp_all
abbrev BH(p0:Du)(p1)(p2):=(dw (dZ p0.dq1 (eZ p0) (dH p1 p2 (dB p0.dq20 65536))))
abbrev QU(p0:Du)(p1)(p2):=(b_ ((dZ p0.dq1 (eZ p0) (dH p1 p2 (dB p0.dq20 65536))).rq9):Value)
abbrev QW(p0:Du)(p1)(p2):=(u_ ((dZ p0.dq1 (eZ p0) (dH p1 p2 (dB p0.dq20 65536))).rq8):Value)
abbrev QX(p0:Du)(p1)(p2):=(u_ ((dZ p0.dq1 (eZ p0) (dH p1 p2 (dB p0.dq20 65536))).rq7):Value)
abbrev QY(p0:Du)(p1)(p2):=(u_ ((dZ p0.dq1 (eZ p0) (dH p1 p2 (dB p0.dq20 65536))).rq6):Value)
abbrev QZ(p0:Du)(p1)(p2):=(u_ ((dZ p0.dq1 (eZ p0) (dH p1 p2 (dB p0.dq20 65536))).rq5):Value)
abbrev Q0(p0:Du)(p1)(p2):=(u_ ((dZ p0.dq1 (eZ p0) (dH p1 p2 (dB p0.dq20 65536))).rq4):Value)
abbrev Q1(p0:Du)(p1)(p2):=(u_ ((dZ p0.dq1 (eZ p0) (dH p1 p2 (dB p0.dq20 65536))).rq3):Value)
abbrev Q2(p0:Du)(p1)(p2):=(u_ ((dZ p0.dq1 (eZ p0) (dH p1 p2 (dB p0.dq20 65536))).rq2):Value)
abbrev Q3(p0:Du)(p1)(p2):=(u_ ((dZ p0.dq1 (eZ p0) (dH p1 p2 (dB p0.dq20 65536))).rq1):Value)
abbrev xY(p0:Du)(p1)(p2):=(dw (dZ p0.dq1 (ed p0) (d6 p1 p2 (dB p0.dq20 65536))))
theorem Q4(l:Du)(c:Cv)(x h:Int)(w:World):
  CW 146 #[.agg (fi l).toArray,.agg (eo c).toArray,u_ x,i_ h] w (.agg (fi (fp l c x h)).toArray):=by
 refine A.C Tryz.func146 rfl (HS.nil w) (A.c (A.cL [.al,.al,.al] [3,4,5,6] (fun b1 b2 b3=>[(3,i_ h),(4,p_ b1),(5,p_ b2),(6,p_ b3)]) (fun b1 b2 b3=>[cz b1 (fi l) 219,cz b2 (eo c) 60,cz b3 [u_ x] 40]) (fun b1 b2 b3=>[]) (fun _ _ _=>T0) (fun _ _ _=>by kernel_rfl) (fun b1 b2 b3=>trivial) ?_))
 intro b1 b2 b3
 refine A.j (A.ai 8 [b_ false,u_ 0,u_ 0,u_ 0,u_ 0,u_ 0,u_ 0,u_ 0,u_ 0,b_ false,u_ 0,u_ 0,u_ 0,u_ 0,u_ 0,u_ 0,u_ 0,u_ 0,b_ false,u_ 0,u_ 0,u_ 0] (by kernel_rfl) rfl (by kernel_rfl) (fun b4=>[cz b1 (fi l) 219,cz b2 (eo c) 60,cz b3 [u_ x] 40,uQ b4]) (fun _=>rfl) ?_)
 intro b4
 refine A.aC (A.c (A.h [.p,.p] [(3,i_ h),(4,p_ b1),(8,p_ b4),(9,.func (.func 196) #[] #[p_ b2,p_ b3,p_ b1])] [] (A.d (A.W [9,11] 12 (A.kd 3 [.p,.p,.ld 0,.cq (.agg (BH l c x).toArray),.p,.p,.ld 0,.cq (.agg (xY l c x).toArray),.p] [0,1,2,3,4,5,6,7,8] [9] [(14,.agg (BH l c x).toArray),(18,.agg (xY l c x).toArray),(19,q_ b1 1)] [b1,b1] (oc (qo (fun ww ss=>S0 (eZ l) b2 b3 b1 c x l ww (ss.mem (i:=1) rfl) (ss.mem (i:=2) rfl) (ss.mem (i:=0) rfl))) (o1 (qo (fun ww ss=>S1 (ed l) b2 b3 b1 c x l ww (ss.mem (i:=1) rfl) (ss.mem (i:=2) rfl) (ss.mem (i:=0) rfl))))) ?_)))))
 refine A.F 9 rfl (A.sT 0 (BH l c x) rfl (A.E (A.pT 1 [.p] [10] [(3,i_ h),(4,p_ b1),(8,p_ b4),(18,.agg (xY l c x).toArray),(20,q_ b1 10)] [] ?_)))
 refine A.F 11 rfl (A.sT 0 (xY l c x) rfl ?_)
 refine A.E (A.M ?_)
 refine A.c (A.gO [.p,.st 0] [(3,i_ h),(4,p_ b1),(8,p_ b4)] [cz b1 [b_ true,Q3 l c x,Q2 l c x,Q1 l c x,Q0 l c x,QZ l c x,QY l c x,QX l c x,QW l c x,QU l c x,u_ ((dZ l.dq1 (ed l) (d6 c x (dB l.dq20 65536))).rq1),u_ ((dZ l.dq1 (ed l) (d6 c x (dB l.dq20 65536))).rq2),u_ ((dZ l.dq1 (ed l) (d6 c x (dB l.dq20 65536))).rq3),u_ ((dZ l.dq1 (ed l) (d6 c x (dB l.dq20 65536))).rq4),u_ ((dZ l.dq1 (ed l) (d6 c x (dB l.dq20 65536))).rq5),u_ ((dZ l.dq1 (ed l) (d6 c x (dB l.dq20 65536))).rq6),u_ ((dZ l.dq1 (ed l) (d6 c x (dB l.dq20 65536))).rq7),u_ ((dZ l.dq1 (ed l) (d6 c x (dB l.dq20 65536))).rq8),b_ ((dZ l.dq1 (ed l) (d6 c x (dB l.dq20 65536))).rq9),u_ l.dq20,u_ l.dq21,u_ l.dq22] 219,cz b2 (eo c) 60,cz b3 [u_ x] 40,uQ b4] [b1] ?_)
 refine A.c (A.ks [.ld 0,.p,.cq (.agg (fi (headD (⟨true,(dZ l.dq1 (eZ l) (dH c x (dB l.dq20 65536))).rq1,(dZ l.dq1 (eZ l) (dH c x (dB l.dq20 65536))).rq2,(dZ l.dq1 (eZ l) (dH c x (dB l.dq20 65536))).rq3,(dZ l.dq1 (eZ l) (dH c x (dB l.dq20 65536))).rq4,(dZ l.dq1 (eZ l) (dH c x (dB l.dq20 65536))).rq5,(dZ l.dq1 (eZ l) (dH c x (dB l.dq20 65536))).rq6,(dZ l.dq1 (eZ l) (dH c x (dB l.dq20 65536))).rq7,(dZ l.dq1 (eZ l) (dH c x (dB l.dq20 65536))).rq8,(dZ l.dq1 (eZ l) (dH c x (dB l.dq20 65536))).rq9,(dZ l.dq1 (ed l) (d6 c x (dB l.dq20 65536))).rq1,(dZ l.dq1 (ed l) (d6 c x (dB l.dq20 65536))).rq2,(dZ l.dq1 (ed l) (d6 c x (dB l.dq20 65536))).rq3,(dZ l.dq1 (ed l) (d6 c x (dB l.dq20 65536))).rq4,(dZ l.dq1 (ed l) (d6 c x (dB l.dq20 65536))).rq5,(dZ l.dq1 (ed l) (d6 c x (dB l.dq20 65536))).rq6,(dZ l.dq1 (ed l) (d6 c x (dB l.dq20 65536))).rq7,(dZ l.dq1 (ed l) (d6 c x (dB l.dq20 65536))).rq8,(dZ l.dq1 (ed l) (d6 c x (dB l.dq20 65536))).rq9,l.dq20,l.dq21,l.dq22⟩:Du) h)).toArray),.st 3] [3,4] [] [(3,cz b4 (fi (headD (⟨true,(dZ l.dq1 (eZ l) (dH c x (dB l.dq20 65536))).rq1,(dZ l.dq1 (eZ l) (dH c x (dB l.dq20 65536))).rq2,(dZ l.dq1 (eZ l) (dH c x (dB l.dq20 65536))).rq3,(dZ l.dq1 (eZ l) (dH c x (dB l.dq20 65536))).rq4,(dZ l.dq1 (eZ l) (dH c x (dB l.dq20 65536))).rq5,(dZ l.dq1 (eZ l) (dH c x (dB l.dq20 65536))).rq6,(dZ l.dq1 (eZ l) (dH c x (dB l.dq20 65536))).rq7,(dZ l.dq1 (eZ l) (dH c x (dB l.dq20 65536))).rq8,(dZ l.dq1 (eZ l) (dH c x (dB l.dq20 65536))).rq9,(dZ l.dq1 (ed l) (d6 c x (dB l.dq20 65536))).rq1,(dZ l.dq1 (ed l) (d6 c x (dB l.dq20 65536))).rq2,(dZ l.dq1 (ed l) (d6 c x (dB l.dq20 65536))).rq3,(dZ l.dq1 (ed l) (d6 c x (dB l.dq20 65536))).rq4,(dZ l.dq1 (ed l) (d6 c x (dB l.dq20 65536))).rq5,(dZ l.dq1 (ed l) (d6 c x (dB l.dq20 65536))).rq6,(dZ l.dq1 (ed l) (d6 c x (dB l.dq20 65536))).rq7,(dZ l.dq1 (ed l) (d6 c x (dB l.dq20 65536))).rq8,(dZ l.dq1 (ed l) (d6 c x (dB l.dq20 65536))).rq9,l.dq20,l.dq21,l.dq22⟩:Du) h)) 219)] [b1,b4] (o1 (qo (fun ww ss=>BG (⟨true,(dZ l.dq1 (eZ l) (dH c x (dB l.dq20 65536))).rq1,(dZ l.dq1 (eZ l) (dH c x (dB l.dq20 65536))).rq2,(dZ l.dq1 (eZ l) (dH c x (dB l.dq20 65536))).rq3,(dZ l.dq1 (eZ l) (dH c x (dB l.dq20 65536))).rq4,(dZ l.dq1 (eZ l) (dH c x (dB l.dq20 65536))).rq5,(dZ l.dq1 (eZ l) (dH c x (dB l.dq20 65536))).rq6,(dZ l.dq1 (eZ l) (dH c x (dB l.dq20 65536))).rq7,(dZ l.dq1 (eZ l) (dH c x (dB l.dq20 65536))).rq8,(dZ l.dq1 (eZ l) (dH c x (dB l.dq20 65536))).rq9,(dZ l.dq1 (ed l) (d6 c x (dB l.dq20 65536))).rq1,(dZ l.dq1 (ed l) (d6 c x (dB l.dq20 65536))).rq2,(dZ l.dq1 (ed l) (d6 c x (dB l.dq20 65536))).rq3,(dZ l.dq1 (ed l) (d6 c x (dB l.dq20 65536))).rq4,(dZ l.dq1 (ed l) (d6 c x (dB l.dq20 65536))).rq5,(dZ l.dq1 (ed l) (d6 c x (dB l.dq20 65536))).rq6,(dZ l.dq1 (ed l) (d6 c x (dB l.dq20 65536))).rq7,(dZ l.dq1 (ed l) (d6 c x (dB l.dq20 65536))).rq8,(dZ l.dq1 (ed l) (d6 c x (dB l.dq20 65536))).rq9,l.dq20,l.dq21,l.dq22⟩:Du) h ww))) ?_)
 refine A.e (A.pc 3 (fi (headD (⟨true,(dZ l.dq1 (eZ l) (dH c x (dB l.dq20 65536))).rq1,(dZ l.dq1 (eZ l) (dH c x (dB l.dq20 65536))).rq2,(dZ l.dq1 (eZ l) (dH c x (dB l.dq20 65536))).rq3,(dZ l.dq1 (eZ l) (dH c x (dB l.dq20 65536))).rq4,(dZ l.dq1 (eZ l) (dH c x (dB l.dq20 65536))).rq5,(dZ l.dq1 (eZ l) (dH c x (dB l.dq20 65536))).rq6,(dZ l.dq1 (eZ l) (dH c x (dB l.dq20 65536))).rq7,(dZ l.dq1 (eZ l) (dH c x (dB l.dq20 65536))).rq8,(dZ l.dq1 (eZ l) (dH c x (dB l.dq20 65536))).rq9,(dZ l.dq1 (ed l) (d6 c x (dB l.dq20 65536))).rq1,(dZ l.dq1 (ed l) (d6 c x (dB l.dq20 65536))).rq2,(dZ l.dq1 (ed l) (d6 c x (dB l.dq20 65536))).rq3,(dZ l.dq1 (ed l) (d6 c x (dB l.dq20 65536))).rq4,(dZ l.dq1 (ed l) (d6 c x (dB l.dq20 65536))).rq5,(dZ l.dq1 (ed l) (d6 c x (dB l.dq20 65536))).rq6,(dZ l.dq1 (ed l) (d6 c x (dB l.dq20 65536))).rq7,(dZ l.dq1 (ed l) (d6 c x (dB l.dq20 65536))).rq8,(dZ l.dq1 (ed l) (d6 c x (dB l.dq20 65536))).rq9,l.dq20,l.dq21,l.dq22⟩:Du) h)) ?_)
 show((.agg (fi (headD (⟨true,(dZ l.dq1 (eZ l) (dH c x (dB l.dq20 65536))).rq1,(dZ l.dq1 (eZ l) (dH c x (dB l.dq20 65536))).rq2,(dZ l.dq1 (eZ l) (dH c x (dB l.dq20 65536))).rq3,(dZ l.dq1 (eZ l) (dH c x (dB l.dq20 65536))).rq4,(dZ l.dq1 (eZ l) (dH c x (dB l.dq20 65536))).rq5,(dZ l.dq1 (eZ l) (dH c x (dB l.dq20 65536))).rq6,(dZ l.dq1 (eZ l) (dH c x (dB l.dq20 65536))).rq7,(dZ l.dq1 (eZ l) (dH c x (dB l.dq20 65536))).rq8,(dZ l.dq1 (eZ l) (dH c x (dB l.dq20 65536))).rq9,(dZ l.dq1 (ed l) (d6 c x (dB l.dq20 65536))).rq1,(dZ l.dq1 (ed l) (d6 c x (dB l.dq20 65536))).rq2,(dZ l.dq1 (ed l) (d6 c x (dB l.dq20 65536))).rq3,(dZ l.dq1 (ed l) (d6 c x (dB l.dq20 65536))).rq4,(dZ l.dq1 (ed l) (d6 c x (dB l.dq20 65536))).rq5,(dZ l.dq1 (ed l) (d6 c x (dB l.dq20 65536))).rq6,(dZ l.dq1 (ed l) (d6 c x (dB l.dq20 65536))).rq7,(dZ l.dq1 (ed l) (d6 c x (dB l.dq20 65536))).rq8,(dZ l.dq1 (ed l) (d6 c x (dB l.dq20 65536))).rq9,l.dq20,l.dq21,l.dq22⟩:Du) h)).toArray):Value)=(.agg (fi (fp l c x h)).toArray)
 rfl
theorem Q5(l:Du)(s h:Int)(w:World):
  CW 213 #[.agg (fi l).toArray,i_ s,i_ h] w (.agg (fi (iM l s h)).toArray):=by
 refine A.C Tryz.func213 rfl (HS.nil w) (A.c (A.n2 [.al,.al] [0] (fun b1 b2=>[(3,p_ b1),(6,p_ b2)]) (fun b1 b2=>[cz b1 (fi l) 219,uQ b2]) ?_))
 intro b1 b2
 refine A.c (A.gs [.p,.ld 0,.p,.p,.p,.p,.p,.st 0] [1] [] [(0,cz b1 [b_ l.dq1,u_ l.dq2,u_ l.dq3,u_ l.dq4,u_ l.dq5,u_ l.dq6,u_ l.dq7,u_ l.dq8,u_ l.dq9,b_ l.dq10,u_ l.dq11,u_ l.dq12,u_ l.dq13,u_ l.dq14,u_ l.dq15,u_ l.dq16,u_ l.dq17,u_ l.dq18,b_ l.dq19,u_ (IntKind.u64.wrap (l.dq20+(IntKind.u64.wrap (eC s 0)))),u_ l.dq21,u_ l.dq22] 219)] [b1,b1] (A.c (A.ks [.ld 0,.p,.cq (.agg (fi (headD (⟨l.dq1,l.dq2,l.dq3,l.dq4,l.dq5,l.dq6,l.dq7,l.dq8,l.dq9,l.dq10,l.dq11,l.dq12,l.dq13,l.dq14,l.dq15,l.dq16,l.dq17,l.dq18,l.dq19,IntKind.u64.wrap (l.dq20+(IntKind.u64.wrap (eC s 0))),l.dq21,l.dq22⟩:Du) h)).toArray),.st 1] [2,3] [] [(1,cz b2 (fi (headD (⟨l.dq1,l.dq2,l.dq3,l.dq4,l.dq5,l.dq6,l.dq7,l.dq8,l.dq9,l.dq10,l.dq11,l.dq12,l.dq13,l.dq14,l.dq15,l.dq16,l.dq17,l.dq18,l.dq19,IntKind.u64.wrap (l.dq20+(IntKind.u64.wrap (eC s 0))),l.dq21,l.dq22⟩:Du) h)) 219)] [b1,b2] (o1 (qo (fun ww ss=>BG (⟨l.dq1,l.dq2,l.dq3,l.dq4,l.dq5,l.dq6,l.dq7,l.dq8,l.dq9,l.dq10,l.dq11,l.dq12,l.dq13,l.dq14,l.dq15,l.dq16,l.dq17,l.dq18,l.dq19,IntKind.u64.wrap (l.dq20+(IntKind.u64.wrap (eC s 0))),l.dq21,l.dq22⟩:Du) h ww))) (A.e (A.pc 1 (fi (headD (⟨l.dq1,l.dq2,l.dq3,l.dq4,l.dq5,l.dq6,l.dq7,l.dq8,l.dq9,l.dq10,l.dq11,l.dq12,l.dq13,l.dq14,l.dq15,l.dq16,l.dq17,l.dq18,l.dq19,IntKind.u64.wrap (l.dq20+(IntKind.u64.wrap (eC s 0))),l.dq21,l.dq22⟩:Du) h)) ?_)))))
 show((.agg (fi (headD (⟨l.dq1,l.dq2,l.dq3,l.dq4,l.dq5,l.dq6,l.dq7,l.dq8,l.dq9,l.dq10,l.dq11,l.dq12,l.dq13,l.dq14,l.dq15,l.dq16,l.dq17,l.dq18,l.dq19,IntKind.u64.wrap (l.dq20+(IntKind.u64.wrap (eC s 0))),l.dq21,l.dq22⟩:Du) h)).toArray):Value)=(.agg (fi (iM l s h)).toArray)
 rfl
theorem Q6(l:Du)(h:Int)(w:World):
  CW 215 #[.agg (fi l).toArray,i_ h] w (.agg (fi (headD l h)).toArray):=by
 refine A.C Tryz.func215 rfl (HS.nil w) (A.c (A.n2 [.al,.al] [0] (fun b1 b2=>[(2,p_ b1),(4,p_ b2)]) (fun b1 b2=>[cz b1 (fi l) 219,uQ b2]) ?_))
 intro b1 b2
 refine A.c (A.ks [.ld 0,.p,.cq (.agg (fi (headD l h)).toArray),.st 1] [1,2] [] [(1,cz b2 (fi (headD l h)) 219)] [b1,b2] (o1 (qo (fun ww ss=>BG l h ww))) (A.e (A.pc 1 (fi (headD l h)) ?_)))
 rfl
def fg(l:Sh):Rn:=⟨l.sq2,l.sq3,l.sq4,l.sq5,l.sq6,l.sq7,l.sq8,l.sq9,l.sq10⟩
def j0(r:Rn)(x:Int):Int:=if r.rq9 then eC (eC (eC 0 (iV r (dB x 65536))) r.rq5) r.rq1 else eC (eC 0 (iV r (dB x 65536))) r.rq5
def C4(b:Bool)(r:Rn)(x:Int):Sh:=⟨b,r.rq1,r.rq2,r.rq3,r.rq4,r.rq5,r.rq6,r.rq7,r.rq8,r.rq9,x⟩
def j6(l:Sh)(c:Cv)(x y:Int):Sh:=C4 true (dZ l.sq1 (fg l) (dH c x (dB y 65536))) (j0 (dZ l.sq1 (fg l) (dH c x (dB y 65536))) y)
def lH(l:Sh)(x:Int):Sh:=if l.sq1 then{l with sq11:=j0 (fg l) x} else l
abbrev nU(p0)(p1):=(u_ (iV p0 (dB p1 65536)):Value)
abbrev sN(p0:Rn)(p1):=(u_ (eC (eC (eC 0 (iV p0 (dB p1 65536))) p0.rq5) p0.rq1):Value)
abbrev oO(p0:Rn)(p1):=(u_ (eC (eC 0 (iV p0 (dB p1 65536))) p0.rq5):Value)
theorem BI(r:Rn)(x:Int)(w:World):
  CW 206 #[.agg (dw r).toArray,u_ x] w (u_ (j0 r x)):=by
 refine A.C Tryz.func206 rfl (HS.nil w) (A.c (A.n1 [.al,.p] [0] (fun b1=>[(2,p_ b1)]) (fun b1=>cz b1 (dw r) 217) ?_))
 intro b1
 refine A.d (A.ka [.ld 0,.p,.cq (.agg (eB (dB x 65536)).toArray),.cq (nU r x),.p] [0,1,2,3,4] [1] [(5,nU r x)] [b1] (oc (qo (fun ww ss=>qt x 65536 ww)) (o1 (qo (fun ww ss=>wN r (dB x 65536) ww)))) (A.d (A.c (A.gl [.p,.ld 0] [] [(11,b_ r.rq9)] [b1] (A.cn r.rq9 (fun e1=> ?_) (fun e1=> ?_))))))
 ·refine A.c (A.gm [.p,.p,.p,.ld 0,.p,.p,.ld 0] [2,5,11] [(12,nU r x),(15,u_ r.rq5),(18,u_ r.rq1)] [b1,b1] (A.j (A.aF 19 (e:=40) [nU r x,u_ r.rq5,u_ r.rq1] (by kernel_rfl) rfl (fun _=>by kernel_rfl) _ (fun _=>rfl) ?_)))
  intro b2
  refine A.j (A.iX (some 20) [.slice (some ⟨b2,0,none⟩) 3 3] Tryz.func250 rfl (A.c (A.g [.p] [] [] (A.c (A.g [.p] [] [(3,u_ 0)] (A.d (A.c (A.g [.p,.p,.p] [0] [(6,.slice (some ⟨b2,0,none⟩) 3 3),(7,i_ 3),(8,i_ 0)] (A.y (A.aY 400 (A.aD (m:=399) (A.c (A.g [.p] [] [(9,b_ true)] (A.d (A.ct (A.p (A.d (A.y (A.c (A.j (A.u (some 10) (p_ b2) (kB (off:=0) (sz:=1) (el:=40) (e:=0) (len:=3) rfl rfl rfl (by kernel_rfl) (by kernel_rfl) (by omega)) (A.gl [.ld 1,.p] [9,10] [(5,nU r x)] [b2] (A.s (A.g [.p,.p,.p,.p] [5] [(3,u_ (eC 0 (iV r (dB x 65536))))] (A.s (A.g [.p,.p] [] [(8,i_ 1)] (A.aD (m:=398) (A.c (A.g [.p] [] [(9,b_ true)] (A.d (A.ct (A.p (A.d (A.y (A.c (A.j (A.u (some 10) (q_ b2 1) (kB (off:=0) (sz:=1) (el:=40) (e:=1) (len:=3) rfl rfl rfl (by kernel_rfl) (by kernel_rfl) (by omega)) (A.gl [.ld 1,.p] [9,10] [(5,u_ r.rq5)] [b2] (A.s (A.g [.p,.p,.p,.p] [5] [(3,oO r x)] (A.s (A.g [.p,.p] [] [(8,i_ 2)] (A.aD (m:=397) (A.c (A.h [.p] [(3,oO r x),(6,.slice (some ⟨b2,0,none⟩) 3 3),(7,i_ 3),(8,i_ 2),(9,b_ true)] [] (A.d (A.ct (A.p (A.d (A.y (A.c (A.j (A.u (some 10) (q_ b2 2) (kB (off:=0) (sz:=1) (el:=40) (e:=2) (len:=3) rfl rfl rfl (by kernel_rfl) (by kernel_rfl) (by omega)) (A.gl [.ld 1,.p] [9,10] [(5,u_ r.rq1)] [b2] (A.s (A.g [.p,.p,.p,.p] [5] [(3,sN r x)] (A.s (A.g [.p,.p] [] [(8,i_ 3)] (A.aD (m:=396) (A.c (A.g [.p] [] [(9,b_ false)] (A.d (A.Z (A.aB (A.c (A.g [.p,.p] [3,6,7,8,9] [(2,sN r x)] (A.e (A.pb [sN r x] (A.aM [cz b2 [nU r x,u_ r.rq5,u_ r.rq1] 40] (sd [0]) (A.h [.p] [(4,sN r x)] [] (A.e (A.N [sN r x] ?_))))))))))))))))))))))))))))))))))))))))))))))))))))))))))))))))))))))))
  show((sN r x):Value)=(u_ (j0 r x))
  unfold j0;simp_all
 refine A.p (A.c (A.gm [.p,.p,.p,.ld 0] [2,5,11] [(21,nU r x),(24,u_ r.rq5)] [b1] (A.j (A.aF 25 (e:=40) [nU r x,u_ r.rq5] (by kernel_rfl) rfl (fun _=>by kernel_rfl) _ (fun _=>rfl) ?_))))
 intro b3
 refine A.j (A.iX (some 26) [.slice (some ⟨b3,0,none⟩) 2 2] Tryz.func250 rfl (A.c (A.g [.p] [] [] (A.c (A.g [.p] [] [(3,u_ 0)] (A.d (A.c (A.g [.p,.p,.p] [0] [(6,.slice (some ⟨b3,0,none⟩) 2 2),(7,i_ 2),(8,i_ 0)] (A.y (A.aY 400 (A.aD (m:=399) (A.c (A.g [.p] [] [(9,b_ true)] (A.d (A.ct (A.p (A.d (A.y (A.c (A.j (A.u (some 10) (p_ b3) (kB (off:=0) (sz:=1) (el:=40) (e:=0) (len:=2) rfl rfl rfl (by kernel_rfl) (by kernel_rfl) (by omega)) (A.gl [.ld 1,.p] [9,10] [(5,nU r x)] [b3] (A.s (A.g [.p,.p,.p,.p] [5] [(3,u_ (eC 0 (iV r (dB x 65536))))] (A.s (A.g [.p,.p] [] [(8,i_ 1)] (A.aD (m:=398) (A.c (A.g [.p] [] [(9,b_ true)] (A.d (A.ct (A.p (A.d (A.y (A.c (A.j (A.u (some 10) (q_ b3 1) (kB (off:=0) (sz:=1) (el:=40) (e:=1) (len:=2) rfl rfl rfl (by kernel_rfl) (by kernel_rfl) (by omega)) (A.gl [.ld 1,.p] [9,10] [(5,u_ r.rq5)] [b3] (A.s (A.g [.p,.p,.p,.p] [5] [(3,oO r x)] (A.s (A.g [.p,.p] [] [(8,i_ 2)] (A.aD (m:=397) (A.c (A.h [.p] [(3,oO r x),(6,.slice (some ⟨b3,0,none⟩) 2 2),(7,i_ 2),(8,i_ 2),(9,b_ false)] [] (A.d (A.Z (A.aB (A.c (A.g [.p,.p] [3,6,7,8,9] [(2,oO r x)] (A.e (A.pb [oO r x] (A.aM [cz b3 [nU r x,u_ r.rq5] 40] (sd [0]) (A.h [.p] [(4,oO r x)] [] (A.e (A.N [oO r x] ?_))))))))))))))))))))))))))))))))))))))))))))))))))))))))
 show((oO r x):Value)=(u_ (j0 r x))
 unfold j0;simp_all
abbrev Hh(p0)(p1)(p2)(p3):=(dw (dy (fg p0) (dH p1 p2 (dB p3 65536))))
abbrev BJ(p0)(p1)(p2)(p3):=(u_ (j0 (dy (fg p0) (dH p1 p2 (dB p3 65536))) p3):Value)
abbrev BK(p0)(p1)(p2):=(dw (dH p0 p1 (dB p2 65536)))
abbrev uR(p0):=(cz p0 [b_ false,u_ 0,u_ 0,u_ 0,u_ 0,u_ 0,u_ 0,u_ 0,u_ 0,b_ false,u_ 0] 221:V.dC)
abbrev Hi(p0)(p1)(p2):=(.agg #[b_ true,u_ ((dH p0 p1 (dB p2 65536)).rq1),u_ ((dH p0 p1 (dB p2 65536)).rq2),u_ ((dH p0 p1 (dB p2 65536)).rq3),u_ ((dH p0 p1 (dB p2 65536)).rq4),u_ ((dH p0 p1 (dB p2 65536)).rq5),u_ ((dH p0 p1 (dB p2 65536)).rq6),u_ ((dH p0 p1 (dB p2 65536)).rq7),u_ ((dH p0 p1 (dB p2 65536)).rq8),b_ ((dH p0 p1 (dB p2 65536)).rq9),u_ (j0 (dH p0 p1 (dB p2 65536)) p2)]:Value)
abbrev Hj(p0)(p1)(p2)(p3):=(.agg #[b_ true,u_ ((dy (fg p0) (dH p1 p2 (dB p3 65536))).rq1),u_ ((dy (fg p0) (dH p1 p2 (dB p3 65536))).rq2),u_ ((dy (fg p0) (dH p1 p2 (dB p3 65536))).rq3),u_ ((dy (fg p0) (dH p1 p2 (dB p3 65536))).rq4),u_ ((dy (fg p0) (dH p1 p2 (dB p3 65536))).rq5),u_ ((dy (fg p0) (dH p1 p2 (dB p3 65536))).rq6),u_ ((dy (fg p0) (dH p1 p2 (dB p3 65536))).rq7),u_ ((dy (fg p0) (dH p1 p2 (dB p3 65536))).rq8),b_ ((dy (fg p0) (dH p1 p2 (dB p3 65536))).rq9),u_ (j0 (dy (fg p0) (dH p1 p2 (dB p3 65536))) p3)]:Value)
theorem Hk(l:Sh)(c:Cv)(x y:Int)(w:World):
  CW 149 #[.agg (gy l).toArray,.agg (eo c).toArray,u_ x,u_ y] w (.agg (gy (j6 l c x y)).toArray):=by
 refine A.C Tryz.func149 rfl (HS.nil w) (A.c (A.an [.al,.al,.al] [2,3,4,5,8] (fun b1 b2 b3=>[(2,u_ x),(3,u_ y),(4,p_ b1),(5,p_ b2),(8,p_ b3)]) (fun b1 b2 b3=>[cz b1 (gy l) 221,cz b2 (eo c) 60,uR b3]) (fun b1 b2 b3=>[]) (fun _ _ _=>T0) (fun _ _ _=>by kernel_rfl) (fun b1 b2 b3=>trivial) ?_))
 intro b1 b2 b3
 refine A.d (A.d3 [5,6] 7 [cz b1 (gy l) 221,cz b2 (eo c) 60,uR b3] (A.bO 2 [.ld 1,.p,.p,.cq (.agg (eB (dB y 65536)).toArray),.cq (.agg (BK c x y).toArray)] [0,1,2,3,4] [(3,u_ y),(4,p_ b1),(8,p_ b3),(14,.agg (BK c x y).toArray)] [b2] (.refl _) (oc (qo (fun ww ss=>qt y 65536 ww)) (o1 (qo (fun ww ss=>AI c x (dB y 65536) ww)))) (A.o3 5 rfl (A.ai 9 [u_ 0,u_ 0,u_ 0,u_ 0,u_ 0,u_ 0,u_ 0,u_ 0,b_ false] (by kernel_rfl) rfl (by kernel_rfl) (fun b4=>[cz b1 (gy l) 221,cz b2 (eo c) 60,uR b3,cz b4 [u_ 0,u_ 0,u_ 0,u_ 0,u_ 0,u_ 0,u_ 0,u_ 0,b_ false] 217]) (fun _=>rfl) ?_))))
 intro b4
 refine A.aI (sd [3]) (A.o3 6 rfl (A.sT 3 (BK c x y) rfl (A.aI (sd [3]) (A.f3 (A.d (A.c (A.h [.p,.ld 0] [(3,u_ y),(4,p_ b1),(8,p_ b3),(9,p_ b4),(16,b_ l.sq1)] [b1] (A.cn l.sq1 (fun e1=> ?_) (fun e1=> ?_)))))))))
 ·refine A.s (A.gQ [.p,.ld 0,.ld 3,.cq (.agg (Hh l c x y).toArray),.st 3] [(3,u_ y),(8,p_ b3),(9,p_ b4)] [cz b1 (gy l) 221,cz b2 (eo c) 60,uR b3,cz b4 (Hh l c x y) 217] [b1,b4,b4] (o1 (qo (fun ww ss=>xU (fg l) (dH c x (dB y 65536)) ww))) (A.d (A.W [5] 6 ?_)))
  refine A.kd 1 [.ld 3,.ld 3,.p,.cq (BJ l c x y),.p] [0,1,2,3,4] [3,9] [(25,Hj l c x y)] [b4,b4] (o1 (qo (fun ww ss=>BI (dy (fg l) (dH c x (dB y 65536))) y ww))) ?_
  refine A.F 5 rfl (A.sT 2 [b_ true,u_ ((dy (fg l) (dH c x (dB y 65536))).rq1),u_ ((dy (fg l) (dH c x (dB y 65536))).rq2),u_ ((dy (fg l) (dH c x (dB y 65536))).rq3),u_ ((dy (fg l) (dH c x (dB y 65536))).rq4),u_ ((dy (fg l) (dH c x (dB y 65536))).rq5),u_ ((dy (fg l) (dH c x (dB y 65536))).rq6),u_ ((dy (fg l) (dH c x (dB y 65536))).rq7),u_ ((dy (fg l) (dH c x (dB y 65536))).rq8),b_ ((dy (fg l) (dH c x (dB y 65536))).rq9),BJ l c x y] rfl (A.E (A.M ?_)))
  refine A.e (A.pc 2 [b_ true,u_ ((dy (fg l) (dH c x (dB y 65536))).rq1),u_ ((dy (fg l) (dH c x (dB y 65536))).rq2),u_ ((dy (fg l) (dH c x (dB y 65536))).rq3),u_ ((dy (fg l) (dH c x (dB y 65536))).rq4),u_ ((dy (fg l) (dH c x (dB y 65536))).rq5),u_ ((dy (fg l) (dH c x (dB y 65536))).rq6),u_ ((dy (fg l) (dH c x (dB y 65536))).rq7),u_ ((dy (fg l) (dH c x (dB y 65536))).rq8),b_ ((dy (fg l) (dH c x (dB y 65536))).rq9),BJ l c x y] ?_)
  show((Hj l c x y):Value)=(.agg (gy (j6 l c x y)).toArray)
  unfold j6 C4 dZ;simp_all[gy]
 refine A.p (A.d (A.W [5] 6 (A.kd 1 [.ld 3,.ld 3,.p,.cq (u_ (j0 (dH c x (dB y 65536)) y)),.p] [0,1,2,3,4] [3,4,9,16] [(25,Hi c x y)] [b4,b4] (o1 (qo (fun ww ss=>BI (dH c x (dB y 65536)) y ww))) ?_)))
 refine A.F 5 rfl (A.sT 2 [b_ true,u_ ((dH c x (dB y 65536)).rq1),u_ ((dH c x (dB y 65536)).rq2),u_ ((dH c x (dB y 65536)).rq3),u_ ((dH c x (dB y 65536)).rq4),u_ ((dH c x (dB y 65536)).rq5),u_ ((dH c x (dB y 65536)).rq6),u_ ((dH c x (dB y 65536)).rq7),u_ ((dH c x (dB y 65536)).rq8),b_ ((dH c x (dB y 65536)).rq9),u_ (j0 (dH c x (dB y 65536)) y)] rfl (A.E (A.M ?_)))
 refine A.e (A.pc 2 [b_ true,u_ ((dH c x (dB y 65536)).rq1),u_ ((dH c x (dB y 65536)).rq2),u_ ((dH c x (dB y 65536)).rq3),u_ ((dH c x (dB y 65536)).rq4),u_ ((dH c x (dB y 65536)).rq5),u_ ((dH c x (dB y 65536)).rq6),u_ ((dH c x (dB y 65536)).rq7),u_ ((dH c x (dB y 65536)).rq8),b_ ((dH c x (dB y 65536)).rq9),u_ (j0 (dH c x (dB y 65536)) y)] ?_)
 show((Hi c x y):Value)=(.agg (gy (j6 l c x y)).toArray)
 unfold j6 C4 dZ;simp_all[gy]
abbrev Hl(p0)(p1:Sh)(p2):=(cz p0 [b_ p1.sq1,u_ p1.sq2,u_ p1.sq3,u_ p1.sq4,u_ p1.sq5,u_ p1.sq6,u_ p1.sq7,u_ p1.sq8,u_ p1.sq9,b_ p1.sq10,u_ (j0 (fg p1) p2)] 221:V.dC)
abbrev Q7(p0:Sh)(p1):=(.agg #[b_ p0.sq1,u_ p0.sq2,u_ p0.sq3,u_ p0.sq4,u_ p0.sq5,u_ p0.sq6,u_ p0.sq7,u_ p0.sq8,u_ p0.sq9,b_ p0.sq10,u_ (j0 (fg p0) p1)]:Value)
theorem Q8(l:Sh)(x:Int)(w:World):
  CW 154 #[.agg (gy l).toArray,u_ x] w (.agg (gy (lH l x)).toArray):=by
 refine A.C Tryz.func154 rfl (HS.nil w) (A.c (A.n2 [.al,.al] [0] (fun b1 b2=>[(2,p_ b1),(4,p_ b2)]) (fun b1 b2=>[cz b1 (gy l) 221,uR b2]) ?_))
 intro b1 b2
 refine A.d (A.c (A.gl [.p,.ld 0] [] [(6,b_ l.sq1)] [b1] (A.cn l.sq1 (fun e1=> ?_) (fun e1=> ?_))))
 ·refine A.s (A.ks [.p,.ld 0,.p,.cq (u_ (j0 (fg l) x)),.p,.st 0] [1,6] [] [(0,Hl b1 l x)] [b1,b1] (o1 (qo (fun ww ss=>BI (fg l) x ww))) (A.c (A.gs [.ld 0,.st 1] [2] [] [(1,Hl b2 l x)] [b1,b2] (A.e (A.pc 1 [b_ l.sq1,u_ l.sq2,u_ l.sq3,u_ l.sq4,u_ l.sq5,u_ l.sq6,u_ l.sq7,u_ l.sq8,u_ l.sq9,b_ l.sq10,u_ (j0 (fg l) x)] ?_)))))
  show((Q7 l x):Value)=(.agg (gy (lH l x)).toArray)
  unfold lH;simp_all[gy]
 refine A.p (A.c (A.gs [.ld 0,.st 1] [1,2,6] [] [(1,cz b2 (gy l) 221)] [b1,b2] (A.e (A.pc 1 (gy l) ?_))))
 show((.agg (gy l).toArray):Value)=(.agg (gy (lH l x)).toArray)
 unfold lH;simp_all[gy]
def py:Li:=⟨false,0,0,0,0,0,0,0,0,false,0⟩
def ep(l:Li):Rn:=⟨l.uq2,l.uq3,l.uq4,l.uq5,l.uq6,l.uq7,l.uq8,l.uq9,l.uq10⟩
def jC(l:Li)(x:Int):Li:=if l.uq1 then{l with uq11:=iV (ep l) (dB x 65536)} else l
def C5(b:Bool)(r:Rn)(x:Int):Li:=⟨b,r.rq1,r.rq2,r.rq3,r.rq4,r.rq5,r.rq6,r.rq7,r.rq8,r.rq9,x⟩
def k7(l:Li)(c:Cv)(x y:Int):Li:=if kC c≤1 then py else jC (C5 true (dZ l.uq1 (ep l) (dH c x (dB y 65536))) 0) y
abbrev Q9(p0:Li)(p1):=(.agg #[b_ p0.uq1,u_ p0.uq2,u_ p0.uq3,u_ p0.uq4,u_ p0.uq5,u_ p0.uq6,u_ p0.uq7,u_ p0.uq8,u_ p0.uq9,b_ p0.uq10,u_ (iV (ep p0) (dB p1 65536))]:Value)
abbrev Hm(p0)(p1:Li)(p2):=(cz p0 [b_ p1.uq1,u_ p1.uq2,u_ p1.uq3,u_ p1.uq4,u_ p1.uq5,u_ p1.uq6,u_ p1.uq7,u_ p1.uq8,u_ p1.uq9,b_ p1.uq10,u_ (iV (ep p1) (dB p2 65536))] 223:V.dC)
theorem BL(l:Li)(x:Int)(w:World):
  CW 155 #[.agg (gY l).toArray,u_ x] w (.agg (gY (jC l x)).toArray):=by
 refine A.C Tryz.func155 rfl (HS.nil w) (A.c (A.n2 [.al,.al] [0] (fun b1 b2=>[(2,p_ b1),(4,p_ b2)]) (fun b1 b2=>[cz b1 (gY l) 223,cz b2 [b_ false,u_ 0,u_ 0,u_ 0,u_ 0,u_ 0,u_ 0,u_ 0,u_ 0,b_ false,u_ 0] 223]) ?_))
 intro b1 b2
 refine A.d (A.c (A.gl [.p,.ld 0] [] [(6,b_ l.uq1)] [b1] (A.cn l.uq1 (fun e1=> ?_) (fun e1=> ?_))))
 ·refine A.W [6] 7 (A.kd 1 [.p,.ld 0,.p,.cq (.agg (eB (dB x 65536)).toArray),.cq (u_ (iV (ep l) (dB x 65536))),.p] [0,1,2,3,4,5] [1,6] [(11,u_ (iV (ep l) (dB x 65536))),(12,q_ b1 10)] [b1] (oc (qo (fun ww ss=>qt x 65536 ww)) (o1 (qo (fun ww ss=>wN (ep l) (dB x 65536) ww)))) (A.F 6 rfl (A.sT 0 [u_ (iV (ep l) (dB x 65536))] rfl (A.E (A.M (A.c (A.gO [.ld 0,.st 1] [(4,p_ b2)] [Hm b1 l x,Hm b2 l x] [b1,b2] (A.e (A.pc 1 [b_ l.uq1,u_ l.uq2,u_ l.uq3,u_ l.uq4,u_ l.uq5,u_ l.uq6,u_ l.uq7,u_ l.uq8,u_ l.uq9,b_ l.uq10,u_ (iV (ep l) (dB x 65536))] ?_)))))))))
  show((Q9 l x):Value)=(.agg (gY (jC l x)).toArray)
  unfold jC;simp_all[gY]
 refine A.p (A.c (A.gs [.ld 0,.st 1] [1,2,6] [] [(1,cz b2 (gY l) 223)] [b1,b2] (A.e (A.pc 1 (gY l) ?_))))
 show((.agg (gY l).toArray):Value)=(.agg (gY (jC l x)).toArray)
 unfold jC;simp_all[gY]
theorem Ho(l:Li)(c:Cv)(x y:Int)(w:World):
  CW 150 #[.agg (gY l).toArray,.agg (eo c).toArray,u_ x,u_ y] w (.agg (gY (k7 l c x y)).toArray):=by
 refine A.C Tryz.func150 rfl (HS.nil w) (A.c (A.an [.al,.al,.al] [2,3,4,5,8] (fun b1 b2 b3=>[(2,u_ x),(3,u_ y),(4,p_ b1),(5,p_ b2),(8,p_ b3)]) (fun b1 b2 b3=>[cz b1 (gY l) 223,cz b2 (eo c) 60,cz b3 [b_ false,u_ 0,u_ 0,u_ 0,u_ 0,u_ 0,u_ 0,u_ 0,u_ 0,b_ false,u_ 0] 223]) (fun b1 b2 b3=>[]) (fun _ _ _=>T0) (fun _ _ _=>by kernel_rfl) (fun b1 b2 b3=>trivial) ?_))
 intro b1 b2 b3
 refine A.d (A.d3 [5,6] 7 [cz b1 (gY l) 223,cz b2 (eo c) 60,cz b3 [b_ false,u_ 0,u_ 0,u_ 0,u_ 0,u_ 0,u_ 0,u_ 0,u_ 0,b_ false,u_ 0] 223] (A.bO 2 [.ld 1,.p,.p,.cq (.agg (eB (dB y 65536)).toArray),.cq (.agg (dw (dH c x (dB y 65536))).toArray)] [0,1,2,3,4] [(3,u_ y),(4,p_ b1),(5,p_ b2),(8,p_ b3),(14,.agg (dw (dH c x (dB y 65536))).toArray)] [b2] (.refl _) (oc (qo (fun ww ss=>qt y 65536 ww)) (o1 (qo (fun ww ss=>AI c x (dB y 65536) ww)))) (A.o3 5 rfl (A.ai 9 [u_ 0,u_ 0,u_ 0,u_ 0,u_ 0,u_ 0,u_ 0,u_ 0,b_ false] (by kernel_rfl) rfl (by kernel_rfl) (fun b4=>[cz b1 (gY l) 223,cz b2 (eo c) 60,cz b3 [b_ false,u_ 0,u_ 0,u_ 0,u_ 0,u_ 0,u_ 0,u_ 0,u_ 0,b_ false,u_ 0] 223,cz b4 [u_ 0,u_ 0,u_ 0,u_ 0,u_ 0,u_ 0,u_ 0,u_ 0,b_ false] 217]) (fun _=>rfl) ?_))))
 intro b4
 refine A.aI (sd [3]) (A.o3 6 rfl (A.sT 3 (dw (dH c x (dB y 65536))) rfl (A.aI (sd [3]) (A.f3 (A.d (A.c (A.hk [.ld 1,.cq (i_ (dM c.ka c.kb c.kc))] [(3,u_ y),(4,p_ b1),(8,p_ b3),(9,p_ b4),(16,i_ (dM c.ka c.kb c.kc))] [b2] (o1 (qo (fun ww ss=>ow c.ka c.kb c.kc ww))) (A.y (A.d (A.y (A.y (A.d (A.d (A.c (A.g [.p,.p] [] [(17,b_ ((dM c.ka c.kb c.kc)==0))] (A.v rfl (fun e1=> ?_) (fun e1=> ?_)))))))))))))))))
 ·refine A.aB (A.d (A.c (A.gO [.p,.st 2] [(8,p_ b3)] [cz b1 (gY l) 223,cz b2 (eo c) 60,cz b3 [b_ false,u_ 0,u_ 0,u_ 0,u_ 0,u_ 0,u_ 0,u_ 0,u_ 0,b_ false,u_ 0] 223,cz b4 (dw (dH c x (dB y 65536))) 217] [b3] (A.e (A.pc 2 [b_ false,u_ 0,u_ 0,u_ 0,u_ 0,u_ 0,u_ 0,u_ 0,u_ 0,b_ false,u_ 0] ?_)))))
  (rw[show k7 l c x y=_ from if_pos (by unfold kC;simp_all)];rfl)
 refine A.p (A.c (A.g [.p,.p] [16,17] [(19,b_ ((dM c.ka c.kb c.kc)==1))] (A.v rfl (fun e2=> ?_) (fun e2=> ?_))))
 ·have p2:=e2
  refine A.aB (A.te (A.bm rfl (A.bh (A.tn (A.d (A.c (A.gO [.p,.st 2] [(8,p_ b3)] [cz b1 (gY l) 223,cz b2 (eo c) 60,cz b3 [b_ false,u_ 0,u_ 0,u_ 0,u_ 0,u_ 0,u_ 0,u_ 0,u_ 0,b_ false,u_ 0] 223,cz b4 (dw (dH c x (dB y 65536))) 217] [b3] (A.tn (A.e (A.tr (A.br (A.tr (A.aK [.agg #[b_ false,u_ 0,u_ 0,u_ 0,u_ 0,u_ 0,u_ 0,u_ 0,u_ 0,b_ false,u_ 0]] (fun aa ww rr ss=>⟨iG 2 rr ss,trivial⟩) ?_)))))))))))))
  (rw[show k7 l c x y=_ from if_pos (by unfold kC;simp_all)];rfl)
 refine A.p (A.aB (A.bm rfl (A.bm rfl (A.d (A.c (A.gl [.p,.ld 0] [19] [(23,b_ l.uq1)] [b1] (A.cn l.uq1 (fun e3=> ?_) (fun e3=> ?_))))))))
 ·refine A.s (A.gQ [.p,.ld 0,.ld 3,.cq (.agg (dw (dy (ep l) (dH c x (dB y 65536)))).toArray),.st 3] [(3,u_ y),(8,p_ b3),(9,p_ b4)] [cz b1 (gY l) 223,cz b2 (eo c) 60,cz b3 [b_ false,u_ 0,u_ 0,u_ 0,u_ 0,u_ 0,u_ 0,u_ 0,u_ 0,b_ false,u_ 0] 223,cz b4 (dw (dy (ep l) (dH c x (dB y 65536)))) 217] [b1,b4,b4] (o1 (qo (fun ww ss=>xU (ep l) (dH c x (dB y 65536)) ww))) (A.c (A.ks [.ld 3,.p,.p,.cq (.agg (gY (jC (⟨true,(dy (ep l) (dH c x (dB y 65536))).rq1,(dy (ep l) (dH c x (dB y 65536))).rq2,(dy (ep l) (dH c x (dB y 65536))).rq3,(dy (ep l) (dH c x (dB y 65536))).rq4,(dy (ep l) (dH c x (dB y 65536))).rq5,(dy (ep l) (dH c x (dB y 65536))).rq6,(dy (ep l) (dH c x (dB y 65536))).rq7,(dy (ep l) (dH c x (dB y 65536))).rq8,(dy (ep l) (dH c x (dB y 65536))).rq9,0⟩:Li) y)).toArray),.st 2] [3,9] [] [(2,cz b3 (gY (jC (⟨true,(dy (ep l) (dH c x (dB y 65536))).rq1,(dy (ep l) (dH c x (dB y 65536))).rq2,(dy (ep l) (dH c x (dB y 65536))).rq3,(dy (ep l) (dH c x (dB y 65536))).rq4,(dy (ep l) (dH c x (dB y 65536))).rq5,(dy (ep l) (dH c x (dB y 65536))).rq6,(dy (ep l) (dH c x (dB y 65536))).rq7,(dy (ep l) (dH c x (dB y 65536))).rq8,(dy (ep l) (dH c x (dB y 65536))).rq9,0⟩:Li) y)) 223)] [b4,b3] (o1 (qo (fun ww ss=>BL (⟨true,(dy (ep l) (dH c x (dB y 65536))).rq1,(dy (ep l) (dH c x (dB y 65536))).rq2,(dy (ep l) (dH c x (dB y 65536))).rq3,(dy (ep l) (dH c x (dB y 65536))).rq4,(dy (ep l) (dH c x (dB y 65536))).rq5,(dy (ep l) (dH c x (dB y 65536))).rq6,(dy (ep l) (dH c x (dB y 65536))).rq7,(dy (ep l) (dH c x (dB y 65536))).rq8,(dy (ep l) (dH c x (dB y 65536))).rq9,0⟩:Li) y ww))) (A.e (A.pc 2 (gY (jC (⟨true,(dy (ep l) (dH c x (dB y 65536))).rq1,(dy (ep l) (dH c x (dB y 65536))).rq2,(dy (ep l) (dH c x (dB y 65536))).rq3,(dy (ep l) (dH c x (dB y 65536))).rq4,(dy (ep l) (dH c x (dB y 65536))).rq5,(dy (ep l) (dH c x (dB y 65536))).rq6,(dy (ep l) (dH c x (dB y 65536))).rq7,(dy (ep l) (dH c x (dB y 65536))).rq8,(dy (ep l) (dH c x (dB y 65536))).rq9,0⟩:Li) y)) ?_)))))
  show((.agg (gY (jC (⟨true,(dy (ep l) (dH c x (dB y 65536))).rq1,(dy (ep l) (dH c x (dB y 65536))).rq2,(dy (ep l) (dH c x (dB y 65536))).rq3,(dy (ep l) (dH c x (dB y 65536))).rq4,(dy (ep l) (dH c x (dB y 65536))).rq5,(dy (ep l) (dH c x (dB y 65536))).rq6,(dy (ep l) (dH c x (dB y 65536))).rq7,(dy (ep l) (dH c x (dB y 65536))).rq8,(dy (ep l) (dH c x (dB y 65536))).rq9,0⟩:Li) y)).toArray):Value)=(.agg (gY (k7 l c x y)).toArray)
  (rw[show k7 l c x y=_ from if_neg (by unfold kC;have hr_:=tw c.ka c.kb c.kc;simp_all;omega)];unfold C5 dZ;simp_all;done)
 refine A.p (A.c (A.gQ [.ld 3,.p,.p,.cq (.agg (gY (jC (⟨true,(dH c x (dB y 65536)).rq1,(dH c x (dB y 65536)).rq2,(dH c x (dB y 65536)).rq3,(dH c x (dB y 65536)).rq4,(dH c x (dB y 65536)).rq5,(dH c x (dB y 65536)).rq6,(dH c x (dB y 65536)).rq7,(dH c x (dB y 65536)).rq8,(dH c x (dB y 65536)).rq9,0⟩:Li) y)).toArray),.st 2] [(8,p_ b3)] [cz b1 (gY l) 223,cz b2 (eo c) 60,cz b3 (gY (jC (⟨true,(dH c x (dB y 65536)).rq1,(dH c x (dB y 65536)).rq2,(dH c x (dB y 65536)).rq3,(dH c x (dB y 65536)).rq4,(dH c x (dB y 65536)).rq5,(dH c x (dB y 65536)).rq6,(dH c x (dB y 65536)).rq7,(dH c x (dB y 65536)).rq8,(dH c x (dB y 65536)).rq9,0⟩:Li) y)) 223,cz b4 (dw (dH c x (dB y 65536))) 217] [b4,b3] (o1 (qo (fun ww ss=>BL (⟨true,(dH c x (dB y 65536)).rq1,(dH c x (dB y 65536)).rq2,(dH c x (dB y 65536)).rq3,(dH c x (dB y 65536)).rq4,(dH c x (dB y 65536)).rq5,(dH c x (dB y 65536)).rq6,(dH c x (dB y 65536)).rq7,(dH c x (dB y 65536)).rq8,(dH c x (dB y 65536)).rq9,0⟩:Li) y ww))) (A.e (A.pc 2 (gY (jC (⟨true,(dH c x (dB y 65536)).rq1,(dH c x (dB y 65536)).rq2,(dH c x (dB y 65536)).rq3,(dH c x (dB y 65536)).rq4,(dH c x (dB y 65536)).rq5,(dH c x (dB y 65536)).rq6,(dH c x (dB y 65536)).rq7,(dH c x (dB y 65536)).rq8,(dH c x (dB y 65536)).rq9,0⟩:Li) y)) ?_))))
 show((.agg (gY (jC (⟨true,(dH c x (dB y 65536)).rq1,(dH c x (dB y 65536)).rq2,(dH c x (dB y 65536)).rq3,(dH c x (dB y 65536)).rq4,(dH c x (dB y 65536)).rq5,(dH c x (dB y 65536)).rq6,(dH c x (dB y 65536)).rq7,(dH c x (dB y 65536)).rq8,(dH c x (dB y 65536)).rq9,0⟩:Li) y)).toArray):Value)=(.agg (gY (k7 l c x y)).toArray)
 (rw[show k7 l c x y=_ from if_neg (by unfold kC;have hr_:=tw c.ka c.kb c.kc;simp_all;omega)];unfold C5 dZ;simp_all;done)
abbrev xP(p0:Pk):=(b_ ((decide (p0.qn≥1))&&(decide (p0.qn≤16384))):Value)
theorem QM(p:Pk)(hp:1≤p.qn∧p.qn≤16384)(w:World):
  CW 158 #[.agg #[u_ p.qi,i_ p.qn,w_ p.qa,w_ p.qb,w_ p.qc,w_ p.qd],i_ 16384] w (i_ 0):=by
 refine A.C Tryz.func158 rfl (HS.nil w) (A.c (A.n1 [.al,.p] [0] (fun b1=>[(2,p_ b1)]) (fun b1=>cz b1 [u_ p.qi,i_ p.qn,w_ p.qa,w_ p.qb,w_ p.qc,w_ p.qd] 45) ?_))
 intro b1
 refine A.d (A.y (A.c (A.O [.p] [] [(6,i_ 16384)] (A.j (A.iX (some 7) [i_ 16384,i_ 16384] Tryz.func219 rfl (A.c (A.g [.p] [] [] ((A.c (A.g [.p,.p,.p,.p,.p,.p,.p,.p] [0,1] [(4,b_ true)] (A.e (A.pb [b_ true] (A.h [.p,.p] [(1,i_ 16384),(2,p_ b1),(5,b_ false)] [] (A.Z (A.c (A.gm [.p,.ld 0,.p] [1,2,5] [(11,i_ p.qn),(12,i_ 16384)] [b1] (A.j (A.iX (some 13) [i_ p.qn,i_ 16384] Tryz.func219 rfl (A.c (A.g [.p] [] [] (A.c (A.g [.p,.p,.p,.o,.p,.p,.p,.cl,.p] [0,1] [(4,xP p)] (A.e (A.pb [xP p] (A.aM [] (sd [0]) (A.h [.p,.p] [(9,b_ (!((decide (p.qn≥1))&&(decide (p.qn≤16384)))))] [] (A.v rfl (fun e1=> ?_) (fun e1=> ?_))))))))))))))))))))))))))))
 ·exact absurd e1 (by(intro h_;simp at h_;omega))
 refine A.p (A.c (A.g [.p] [9] [(4,i_ 0)] (A.e (A.N [i_ 0] ?_))))
 rfl
theorem MJ(p:Pk)(t:Int)(hp:1≤p.qn∧p.qn≤16384)(ht:1≤t∧t≤65536)(w:World):
  CW 159 #[.agg #[u_ p.qi,i_ p.qn,w_ p.qa,w_ p.qb,w_ p.qc,w_ p.qd],i_ t] w (.tuple #[u_ (p.qn*t),i_ 0]):=by
 have h1_:p.qn*t≤16384*65536:=Int.mul_le_mul (by omega) (by omega) (by omega) (by omega)
 have h2_:0≤p.qn*t:=Int.mul_nonneg (by omega) (by omega)
 refine A.C Tryz.func159 rfl (HS.nil w) (A.c (A.n1 [.al,.p,.p] [0] (fun b1=>[(2,p_ b1)]) (fun b1=>cz b1 [u_ p.qi,i_ p.qn,w_ p.qa,w_ p.qb,w_ p.qc,w_ p.qd] 45) ?_))
 intro b1
 refine A.d (A.c (A.O [.p] [] [(6,i_ t)] (A.j (A.iX (some 7) [i_ t,i_ 65536] Tryz.func219 rfl (A.c (A.g [.p] [] [] (A.c (A.g [.p,.p,.p,.o,.p,.p,.p,.cl,.p] [0,1] [(4,b_ ((decide (t≥1))&&(decide (t≤65536))))] (A.e (A.pb [b_ ((decide (t≥1))&&(decide (t≤65536)))] (A.hp [.p,.p] [(1,i_ t),(2,p_ b1),(9,b_ (!((decide (t≥1))&&(decide (t≤65536)))))] [] (A.aR (!((decide (t≥1))&&(decide (t≤65536)))) (fun e1=> ?_) (fun e1=> ?_)))))))))))))
 ·refine A.D 9 (b_ true) (gw e1) (A.g [.sk,.sk,.sk,.sk,.p] [9] [(14,b_ true)] (A.ct (A.c (A.g [.p,.p] [1,2,14] [(4,u_ 0),(5,i_ 1)] (A.e (A.N [u_ 0,i_ 1] ?_))))))
  simp_all
 refine A.D 9 (b_ false) (gw e1) (A.gm [.p,.ld 0] [] [(11,i_ p.qn)] [b1] (A.j (A.iX (some 12) [i_ p.qn,i_ 16384] Tryz.func219 rfl (A.c (A.g [.p] [] [] (A.c (A.g [.p,.p,.p,.o,.p,.p,.p,.cl,.p] [0,1] [(4,xP p)] ((A.e (A.pb [xP p] (A.h [.p,.p] [(1,i_ t),(2,p_ b1),(14,b_ (!((decide (p.qn≥1))&&(decide (p.qn≤16384)))))] [] (A.v rfl (fun e2=> ?_) (fun e2=> ?_)))))))))))))
 ·refine A.c (A.g [.p,.p] [1,2,14] [(4,u_ 0),(5,i_ 1)] (A.e (A.N [u_ 0,i_ 1] ?_)))
  simp_all
 refine A.p (A.c (A.k [.p,.ld 0,.w p.qn,.p,.w t,.w (p.qn*t),.p,.p] [1,2,14] [(4,u_ (p.qn*t)),(5,i_ 0)] [b1] (oc (wv p.qn (by omega)) (oc (wv t (by omega)) (o1 (wv (p.qn*t) (by omega))))) (A.e (A.N [u_ (p.qn*t),i_ 0] ?_))))
 rfl
theorem QN(t:Int)(ht:1≤t∧t≤65536):
  CS 42 #[i_ t] [] (fun(bl:Nat)=>(.tuple #[p_ bl,i_ 0])) (fun _=>True) fun bl=>[cz bl [u_ 0,u_ 0,u_ 0,i_ t,u_ 0] 146]:=by
 intro w hs
 refine A.C Tryz.func42 rfl hs (A.c (A.g [.p,.p] [] [] (A.d (A.c (A.g [.p,.p,.p,.o,.p,.p,.cl] [] [(9,b_ ((decide (t<1))||(decide (t>65536))))] (A.v rfl (fun e1=> ?_) (fun e1=> ?_)))))))
 ·exact absurd e1 (by(intro h_;simp at h_;omega))
 refine A.p (A.c (A.n1 [.p,.p,.al,.p,.p] [0,9] (fun b1=>[(2,p_ b1),(3,i_ 0)]) (fun b1=>cz b1 [u_ 0,u_ 0,u_ 0,i_ t,u_ 0] 146) ?_))
 intro b1
 refine A.e (A.Y [0] [p_ b1,i_ 0] (b1) ?_ ?_)
 ·rfl
 trivial
theorem AB(bl:Nat)(c1 c2 c3 t un:Int)(nw:Int)(w:World)(r0:(cz bl [u_ c1,u_ c2,u_ c3,i_ t,u_ un] 146).holds w):
  CW 47 #[p_ bl,u_ nw] w (b_ (decide (nw≥un))):=by
 refine A.C Tryz.func47 rfl (HS.nil w) (A.d ?_)
 refine A.s (A.g [.p] [] [] (A.c (A.k [.p,.p,.p,.p,.p,.p,.p,.rd [u_ un],.p,.p,.p] [0,1] [(4,b_ (decide (nw≥un)))] [] (o1 (ro ⟨bl,4,none⟩ (vs:=[u_ un]) (dj r0 rfl))) (A.e (A.N [b_ (decide (nw≥un))] ?_)))))
 rfl
theorem MK(bl:Nat)(c1 c2 c3 t un:Int)(w:World)(r0:(cz bl [u_ c1,u_ c2,u_ c3,i_ t,u_ un] 146).holds w):
  CW 118 #[p_ bl] w (u_ un):=by
 refine A.C Tryz.func118 rfl (HS.nil w) (A.c (A.g [.p] [] [] (A.d (A.c (A.g [.p,.p] [] [(4,b_ false)] (A.Z (A.p (A.c (A.k [.p,.p,.p,.rd [u_ un],.p] [0,4] [(2,u_ un)] [] (o1 (ro ⟨bl,4,none⟩ (vs:=[u_ un]) (dj r0 rfl))) (A.e (A.N [u_ un] ?_)))))))))))
 rfl
theorem OC(bl:Nat)(c1 c2 c3 t un:Int)(nw:Int)(p:Pk)(hw:0≤nw∧nw≤4611686018427387904)(hp:1≤p.qn∧p.qn≤16384)(ht:1≤t∧t≤65536)(hu:un≤nw):
  CS 115 #[p_ bl,u_ nw,.agg #[u_ p.qi,i_ p.qn,w_ p.qa,w_ p.qb,w_ p.qc,w_ p.qd]] [cz bl [u_ c1,u_ c2,u_ c3,i_ t,u_ un] 146] (fun((z1,z2,z3):Int×Int×Int)=>(.tuple #[u_ (nw+p.qn*t),i_ 0])) (fun _=>True) fun(z1,z2,z3)=>[cz bl [u_ z1,u_ z2,u_ z3,i_ t,u_ (nw+p.qn*t)] 146]:=by
 intro w hs
 have h1_:p.qn*t≤16384*65536:=Int.mul_le_mul (by omega) (by omega) (by omega) (by omega)
 have h2_:1≤p.qn*t:=Int.le_trans (by omega) (Int.mul_le_mul hp.1 ht.1 (by omega) (by omega))
 refine A.C Tryz.func115 rfl hs (A.c (A.n1 [.al,.p,.p] [2] (fun b1=>[(5,p_ b1)]) (fun b1=>cz b1 [u_ p.qi,i_ p.qn,w_ p.qa,w_ p.qb,w_ p.qc,w_ p.qd] 45) ?_))
 intro b1
 refine A.d (A.y (A.c (A.g [.p,.p,.p] [] [(10,b_ false)] (A.Z (A.c (A.g [.p,.p,.p] [10] [(13,b_ (decide (nw>4611686018427387904)))] (A.v rfl (fun e1=> ?_) (fun e1=> ?_))))))))
 ·exact absurd e1 (by(intro h_;simp at h_;omega))
 have p1:=of_decide_eq_false e1
 refine A.c (A.k [.ld 1,.cq (i_ 0),.p,.p] [13] [(16,b_ false)] [b1] (o1 (qo (fun ww ss=>QM p ‹_› ww))) (A.Z (A.c (A.k [.p,.p,.cq (b_ (decide (nw≥un))),.p,.p] [16] [(20,b_ (!(decide (nw≥un))))] [] (o1 (qo (fun ww ss=>AB bl c1 c2 c3 t un nw ww (ss.mem (i:=0) rfl)))) (A.v rfl (fun e2=> ?_) (fun e2=> ?_))))))
 ·exact absurd e2 (by(intro h_;simp at h_;omega))
 refine A.p (A.d (A.ka [.ld 1,.p,.p,.p,.ld 0,.cq (.tuple #[u_ (p.qn*t),i_ 0]),.p,.p,.p,.p,.p] [0,1,2,3,4,5,6,7,8,9,10] [20] [(8,u_ (p.qn*t))] [b1,bl] (o1 (qo (fun ww ss=>MJ p t ‹_› ‹_› ww))) (A.c (A.gs [.p,.p,.p,.p,.p,.p,.st 0] [1] [] [(0,cz bl [u_ c1,u_ c2,u_ c3,i_ t,u_ (IntKind.u64.wrap (nw+(p.qn*t)))] 146)] [bl] (A.d (A.W [6] 7 (A.dT 1 [.p,.p,.p,.p,.ld 1,.p] [0,1,2,3,4,5] [5,8] [(42,p_ bl),(44,i_ p.qn),(45,u_ (p.qn*t))] [b1] (A.F 6 rfl (A.iX (some 46) [p_ bl,i_ p.qn,u_ (p.qn*t)] Tryz.func160 rfl (A.c (A.gs [.p,.p,.p,.ld 0,.p,.p,.p,.st 0] [] [] [(0,cz bl [u_ (IntKind.u64.wrap (c1+1)),u_ c2,u_ c3,i_ t,u_ (IntKind.u64.wrap (nw+(p.qn*t)))] 146)] [bl,bl] (A.c (A.gs [.p,.p,.p,.ld 0,.p,.p,.p,.p,.p,.st 0] [1] [] [(0,cz bl [u_ (IntKind.u64.wrap (c1+1)),u_ (IntKind.u64.wrap (c2+(IntKind.u64.wrap (p.qn)))),u_ c3,i_ t,u_ (IntKind.u64.wrap (nw+(p.qn*t)))] 146)] [bl,bl] (A.s (A.gs [.p,.p,.p,.ld 0,.p,.p,.p,.p,.st 0] [0,2] [] [(0,cz bl [u_ (IntKind.u64.wrap (c1+1)),u_ (IntKind.u64.wrap (c2+(IntKind.u64.wrap (p.qn)))),u_ (IntKind.u64.wrap (c3+(p.qn*t))),i_ t,u_ (IntKind.u64.wrap (nw+(p.qn*t)))] 146)] [bl,bl] (A.bE [] (fun aa ww rr ss=>trivial) (A.aj (by kernel_rfl) (A.aM [cz bl [u_ (IntKind.u64.wrap (c1+1)),u_ (IntKind.u64.wrap (c2+(IntKind.u64.wrap (p.qn)))),u_ (IntKind.u64.wrap (c3+(p.qn*t))),i_ t,u_ (IntKind.u64.wrap (nw+(p.qn*t)))] 146] (sd [1]) (A.E (A.M (A.c (A.h [.p,.p,.p,.ld 0,.p,.p] [(6,u_ (IntKind.u64.wrap (nw+(p.qn*t)))),(7,i_ 0)] [bl] (A.e (A.su 0 (cz bl [u_ (IntKind.u64.wrap (c1+1)),u_ (IntKind.u64.wrap (c2+(IntKind.u64.wrap (p.qn)))),u_ (IntKind.u64.wrap (c3+(p.qn*t))),i_ t,u_ (nw+p.qn*t)] 146) rfl (iI (cc rfl (cc rfl (cc rfl (cc rfl (cc (congrArg u_ (by exact wrap_u64 (by constructor<;>omega):IntKind.u64.wrap (nw+(p.qn*t))=(nw+p.qn*t))) rfl)))))) ?_))))))))))))))))))))))))
 refine A.Y [0] [u_ (IntKind.u64.wrap (nw+(p.qn*t))),i_ 0] (IntKind.u64.wrap (c1+1),IntKind.u64.wrap (c2+(IntKind.u64.wrap (p.qn))),IntKind.u64.wrap (c3+(p.qn*t))) ?_ ?_
 ·show((.tuple #[u_ (IntKind.u64.wrap (nw+(p.qn*t))),i_ 0]):Value)=(.tuple #[u_ (nw+p.qn*t),i_ 0])
  (rw[wrap_u64 (by constructor<;>omega)])
 trivial
def qB(a b:Int):Int:=if a<b then b else a
def nZ(a b c:Int):Int:=dU 9223372036854775808 (qB (qB a b) c)
abbrev pU(p0):=(.slice (some ⟨p0,0,none⟩) 2 2:Value)
abbrev pV(p0):=(.slice (some ⟨p0,0,none⟩) 1 1:Value)
abbrev jP(p0):=(u_ (dU 9223372036854775808 p0):Value)
theorem O9(a b c:Int):
  CS 117 #[u_ a,u_ b,u_ c] [] (fun(zz:Unit)=>(u_ (nZ a b c))) (fun _=>True) fun _=>[]:=by
 intro w hs
 refine A.C Tryz.func117 rfl hs (A.c (A.g [.p] [] [] (A.c (A.O [.p,.p,.p] [0,1,2] [(7,u_ a),(8,u_ b),(9,u_ c)] (A.j (A.aF 10 (e:=40) [u_ b,u_ c] (by kernel_rfl) rfl (fun _=>by kernel_rfl) _ (fun _=>rfl) ?_))))))
 intro b1
 refine A.j (A.iX (some 11) [u_ a,pU b1] Tryz.func162 rfl (A.c (A.g [.p] [] [] (A.d (A.c (A.g [.p,.p,.p] [1] [(7,pU b1),(8,i_ 2),(9,i_ 0)] (A.y (A.aY 400 (A.aD (m:=399) (A.c (A.g [.p] [] [(10,b_ true)] (A.d (A.ct (A.p (A.d (A.y (A.c (A.j (A.u (some 11) (p_ b1) (kB (off:=0) (sz:=1) (el:=40) (e:=0) (len:=2) rfl rfl rfl (by kernel_rfl) (by kernel_rfl) (by omega)) (A.gl [.ld 0,.p] [10,11] [(6,u_ b)] [b1] (A.c (A.O [.p,.p] [] [(13,u_ a),(14,u_ b)] (A.j (A.iX (some 15) [u_ a,u_ b] Tryz.func220 rfl (A.c (A.g [.p] [] [] (A.c (A.O [.p] [] [(5,u_ a)] (A.j (A.iX (some 6) [u_ a] Tryz.func256 rfl (A.c (A.g [.p] [] [] ((A.c (A.g [.p,.p,.p,.p] [0] [(2,b_ (a !=a))] (A.e (A.pb [b_ (a !=a)] (A.hp [.p] [(0,u_ a),(1,u_ b),(7,b_ (a !=a))] [] (A.aR (a !=a) (fun e1=> ?_) (fun e1=> ?_))))))))))))))))))))))))))))))))))))))))
 ·exact absurd e1 (by simp)
 refine A.D 7 (b_ false) (gw e1) (A.g [.sk,.sk,.sk,.p,.p,.p,.p,.p,.p,.p] [0,1,7] [(4,b_ (decide (a<b)))] (A.e (A.pb [b_ (decide (a<b))] (A.aC (A.v rfl (fun e2=> ?_) (fun e2=> ?_))))))
 ·have p2:=of_decide_eq_true e2
  refine A.s (A.h [.p,.p] [(0,u_ b),(7,pU b1),(8,i_ 2),(9,i_ 0)] [] (A.s (A.g [.p,.p] [] [(9,i_ 1)] (A.aD (m:=398) (A.c (A.g [.p] [] [(10,b_ true)] ((A.d (A.ct (A.p (A.d (A.y (A.c (A.j (A.u (some 11) (q_ b1 1) (kB (off:=0) (sz:=1) (el:=40) (e:=1) (len:=2) rfl rfl rfl (by kernel_rfl) (by kernel_rfl) (by omega)) (A.gl [.ld 0,.p] [10,11] [(6,u_ c)] [b1] ((A.c (A.O [.p,.p] [] [(13,u_ b),(14,u_ c)] (A.j (A.iX (some 15) [u_ b,u_ c] Tryz.func220 rfl (A.c (A.g [.p] [] [] (A.c (A.O [.p] [] [(5,u_ b)] (A.j (A.iX (some 6) [u_ b] Tryz.func256 rfl (A.c (A.g [.p] [] [] (A.c (A.g [.p,.p,.p,.p] [0] [(2,b_ (b !=b))] (A.e (A.pb [b_ (b !=b)] (A.hp [.p] [(0,u_ b),(1,u_ c),(7,b_ (b !=b))] [] (A.aR (b !=b) (fun e3=> ?_) (fun e3=> ?_))))))))))))))))))))))))))))))))))))
  ·exact absurd e3 (by simp)
  refine A.D 7 (b_ false) (gw e3) (A.g [.sk,.sk,.sk,.p,.p,.p,.p,.p,.p,.p] [0,1,7] [(4,b_ (decide (b<c)))] (A.e (A.pb [b_ (decide (b<c))] (A.aC (A.v rfl (fun e4=> ?_) (fun e4=> ?_))))))
  ·have p4:=of_decide_eq_true e4
   refine A.s (A.h [.p,.p] [(0,u_ c),(7,pU b1),(8,i_ 2),(9,i_ 1)] [] (A.s (A.g [.p,.p] [] [(9,i_ 2)] (A.aD (m:=397) (A.c (A.g [.p] [] [(10,b_ false)] ((A.d (A.Z (A.aB (A.c (A.g [.p,.p] [0,7,8,9,10] [(4,u_ c)] (A.e (A.pb [u_ c] (A.j (A.aF 12 (e:=40) [u_ c] (by kernel_rfl) rfl (fun _=>by kernel_rfl) _ (fun _=>rfl) ?_))))))))))))))))
   intro b2
   refine A.j (A.iX (some 13) [pV b2] Tryz.func161 rfl (A.c (A.g [.p] [] [] (A.c (A.g [.p] [] [(3,u_ 9223372036854775808)] (A.d (A.c (A.g [.p,.p,.p] [0] [(6,pV b2),(7,i_ 1),(8,i_ 0)] (A.y (A.aY 400 (A.aD (m:=399) (A.c (A.g [.p] [] [(9,b_ true)] (A.d (A.ct (A.p (A.d (A.y (A.c (A.j (A.u (some 10) (p_ b2) (kB (off:=0) (sz:=1) (el:=40) (e:=0) (len:=1) rfl rfl rfl (by kernel_rfl) (by kernel_rfl) (by omega)) (A.gl [.ld 1,.p] [9,10] [(5,u_ c)] [b2] (A.s (A.g [.p,.p,.p,.p] [5] [(3,jP c)] ((A.s (A.g [.p,.p] [] [(8,i_ 1)] (A.aD (m:=398) (A.c (A.g [.p] [] [(9,b_ false)] (A.d (A.Z (A.aB (A.c (A.g [.p,.p] [3,6,7,8,9] [(2,jP c)] (A.e (A.pb [jP c] (A.h [.p] [(6,jP c)] [] (A.e (A.Y [] [jP c] () ?_ ?_))))))))))))))))))))))))))))))))))))))))
   ·unfold nZ qB;(repeat(rw[if_pos (by omega)]));(try rfl)
   trivial
  have p4:=of_decide_eq_false e4
  refine A.p (A.s (A.h [.p,.p] [(0,u_ b),(7,pU b1),(8,i_ 2),(9,i_ 2)] [] (A.aD (m:=397) (A.c (A.g [.p] [] [(10,b_ false)] (A.d (A.Z (A.aB (A.c (A.g [.p,.p] [0,7,8,9,10] [(4,u_ b)] (A.e (A.pb [u_ b] (A.j (A.aF 12 (e:=40) [u_ b] (by kernel_rfl) rfl (fun _=>by kernel_rfl) _ (fun _=>rfl) ?_))))))))))))))
  intro b3
  refine A.j (A.iX (some 13) [pV b3] Tryz.func161 rfl (A.c (A.g [.p] [] [] (A.c (A.g [.p] [] [(3,u_ 9223372036854775808)] (A.d (A.c (A.g [.p,.p,.p] [0] [(6,pV b3),(7,i_ 1),(8,i_ 0)] (A.y (A.aY 400 (A.aD (m:=399) (A.c (A.g [.p] [] [(9,b_ true)] (A.d (A.ct (A.p (A.d (A.y (A.c (A.j (A.u (some 10) (p_ b3) (kB (off:=0) (sz:=1) (el:=40) (e:=0) (len:=1) rfl rfl rfl (by kernel_rfl) (by kernel_rfl) (by omega)) (A.gl [.ld 1,.p] [9,10] [(5,u_ b)] [b3] (A.s (A.g [.p,.p,.p,.p] [5] [(3,jP b)] ((A.s (A.g [.p,.p] [] [(8,i_ 1)] (A.aD (m:=398) (A.c (A.g [.p] [] [(9,b_ false)] (A.d (A.Z (A.aB (A.c (A.g [.p,.p] [3,6,7,8,9] [(2,jP b)] (A.e (A.pb [jP b] (A.h [.p] [(6,jP b)] [] (A.e (A.Y [] [jP b] () ?_ ?_))))))))))))))))))))))))))))))))))))))))
  ·unfold nZ qB;(repeat(first|rw[if_pos ‹_›]|rw[if_neg (by omega)]));(try rfl)
  trivial
 have p2:=of_decide_eq_false e2
 refine A.p (A.s (A.h [.p,.p] [(0,u_ a),(7,pU b1),(8,i_ 2),(9,i_ 1)] [] (A.aD (m:=398) (A.c (A.g [.p] [] [(10,b_ true)] (A.d (A.ct (A.p (A.d (A.y (A.c (A.j (A.u (some 11) (q_ b1 1) (kB (off:=0) (sz:=1) (el:=40) (e:=1) (len:=2) rfl rfl rfl (by kernel_rfl) (by kernel_rfl) (by omega)) (A.gl [.ld 0,.p] [10,11] [(6,u_ c)] [b1] (A.c (A.O [.p,.p] [] [(13,u_ a),(14,u_ c)] (A.j (A.iX (some 15) [u_ a,u_ c] Tryz.func220 rfl (A.c (A.g [.p] [] [] (A.c (A.O [.p] [] [(5,u_ a)] (A.j (A.iX (some 6) [u_ a] Tryz.func256 rfl (A.c (A.g [.p] [] [] (A.c (A.g [.p,.p,.p,.p] [0] [(2,b_ (a !=a))] (A.e (A.pb [b_ (a !=a)] (A.hp [.p] [(0,u_ a),(1,u_ c),(7,b_ (a !=a))] [] (A.aR (a !=a) (fun e5=> ?_) (fun e5=> ?_)))))))))))))))))))))))))))))))))
 ·exact absurd e5 (by simp)
 refine A.D 7 (b_ false) (gw e5) (A.g [.sk,.sk,.sk,.p,.p,.p,.p,.p,.p,.p] [0,1,7] [(4,b_ (decide (a<c)))] (A.e (A.pb [b_ (decide (a<c))] (A.aC (A.v rfl (fun e6=> ?_) (fun e6=> ?_))))))
 ·have p6:=of_decide_eq_true e6
  refine A.s (A.h [.p,.p] [(0,u_ c),(7,pU b1),(8,i_ 2),(9,i_ 1)] [] (A.s (A.g [.p,.p] [] [(9,i_ 2)] (A.aD (m:=397) (A.c (A.g [.p] [] [(10,b_ false)] ((A.d (A.Z (A.aB (A.c (A.g [.p,.p] [0,7,8,9,10] [(4,u_ c)] (A.e (A.pb [u_ c] (A.j (A.aF 12 (e:=40) [u_ c] (by kernel_rfl) rfl (fun _=>by kernel_rfl) _ (fun _=>rfl) ?_))))))))))))))))
  intro b4
  refine A.j (A.iX (some 13) [pV b4] Tryz.func161 rfl (A.c (A.g [.p] [] [] (A.c (A.g [.p] [] [(3,u_ 9223372036854775808)] (A.d (A.c (A.g [.p,.p,.p] [0] [(6,pV b4),(7,i_ 1),(8,i_ 0)] (A.y (A.aY 400 (A.aD (m:=399) (A.c (A.g [.p] [] [(9,b_ true)] (A.d (A.ct (A.p (A.d (A.y (A.c (A.j (A.u (some 10) (p_ b4) (kB (off:=0) (sz:=1) (el:=40) (e:=0) (len:=1) rfl rfl rfl (by kernel_rfl) (by kernel_rfl) (by omega)) (A.gl [.ld 1,.p] [9,10] [(5,u_ c)] [b4] (A.s (A.g [.p,.p,.p,.p] [5] [(3,jP c)] ((A.s (A.g [.p,.p] [] [(8,i_ 1)] (A.aD (m:=398) (A.c (A.g [.p] [] [(9,b_ false)] (A.d (A.Z (A.aB (A.c (A.g [.p,.p] [3,6,7,8,9] [(2,jP c)] (A.e (A.pb [jP c] (A.h [.p] [(6,jP c)] [] (A.e (A.Y [] [jP c] () ?_ ?_))))))))))))))))))))))))))))))))))))))))
  ·unfold nZ qB;(repeat(rw[if_pos (by omega)]));(try rfl)
  trivial
 have p6:=of_decide_eq_false e6
 refine A.p (A.s (A.h [.p,.p] [(0,u_ a),(7,pU b1),(8,i_ 2),(9,i_ 2)] [] (A.aD (m:=397) (A.c (A.g [.p] [] [(10,b_ false)] (A.d (A.Z (A.aB (A.c (A.g [.p,.p] [0,7,8,9,10] [(4,u_ a)] (A.e (A.pb [u_ a] (A.j (A.aF 12 (e:=40) [u_ a] (by kernel_rfl) rfl (fun _=>by kernel_rfl) _ (fun _=>rfl) ?_))))))))))))))
 intro b5
 refine A.j (A.iX (some 13) [pV b5] Tryz.func161 rfl (A.c (A.g [.p] [] [] (A.c (A.g [.p] [] [(3,u_ 9223372036854775808)] (A.d (A.c (A.g [.p,.p,.p] [0] [(6,pV b5),(7,i_ 1),(8,i_ 0)] (A.y (A.aY 400 (A.aD (m:=399) (A.c (A.g [.p] [] [(9,b_ true)] (A.d (A.ct (A.p (A.d (A.y (A.c (A.j (A.u (some 10) (p_ b5) (kB (off:=0) (sz:=1) (el:=40) (e:=0) (len:=1) rfl rfl rfl (by kernel_rfl) (by kernel_rfl) (by omega)) (A.gl [.ld 1,.p] [9,10] [(5,u_ a)] [b5] (A.s (A.g [.p,.p,.p,.p] [5] [(3,jP a)] ((A.s (A.g [.p,.p] [] [(8,i_ 1)] (A.aD (m:=398) (A.c (A.g [.p] [] [(9,b_ false)] (A.d (A.Z (A.aB (A.c (A.g [.p,.p] [3,6,7,8,9] [(2,jP a)] (A.e (A.pb [jP a] (A.h [.p] [(6,jP a)] [] (A.e (A.Y [] [jP a] () ?_ ?_))))))))))))))))))))))))))))))))))))))))
 ·unfold nZ qB;(repeat(rw[if_neg (by omega)]));(try rfl)
 trivial
end Go.Proofs.YtobgjpigngoggaaGreat
namespace Go.Proofs.YtobgjpigngoggaaGreat
open Go V
def j9(x:Int):List Value:=[(i_ x)]
theorem fE(x:Int):(j9 x).length=1:=rfl
theorem lO(x:Int):(j9 x).all Value.oneCell'=true:=rfl
abbrev sI(A:Option Addr)(xs:List Int)(c:Nat):V.dC:=sl A xs.length c 3 1 (V.dJ j9 xs)
structure Cl where
 hi:Int
 hp:Int
 hl:Bool
 ra:Int
 rb:Int
 rc:Int
 la:Int
 lb:Int
 lc:Int
 ua:Int
 ub:Int
 uc:Int
 hk:Int
 hq:Int
 deriving Inhabited,DecidableEq
def dt(x:Cl):List Value:=[(i_ x.hi),(i_ x.hp),(b_ x.hl),(u_ x.ra),(u_ x.rb),(u_ x.rc),(u_ x.la),(u_ x.lb),(u_ x.lc),(u_ x.ua),(u_ x.ub),(u_ x.uc),(i_ x.hk),(i_ x.hq)]
def dr:Cl:=⟨0,0,false,0,0,0,0,0,0,0,0,0,0,0⟩
theorem lP:jY Tryz.prog 3 (fun k:Int=>i_ k):=ee (by kernel_rfl)
def gg(l:List Int):List Int:=l.mergeSort fun x y=>decide (x≤y)
def df(kv:List (Int×Cl))(f:Cl→Bool)(seen:List Nat):List Int:=seen.filterMap fun j=>match kv[j]? with|some p=>if f p.2 then some p.1 else none|none=>none
variable{kv:List (Int×Cl)}{f:Cl→Bool}{seen:List Nat}{j:Nat}
theorem pN{k:Int}{v:Cl}(h:kv[j]? =some (k,v))(hf:f v=true):df kv f seen++[k]=df kv f (seen++[j]):=by unfold df;rw[List.filterMap_append];simp[h,hf]
theorem sJ{k:Int}{v:Cl}(h:kv[j]? =some (k,v))(hf:f v=false):df kv f seen=df kv f (seen++[j]):=by unfold df;rw[List.filterMap_append];simp[h,hf]
theorem vd(kv:List (Int×Cl))(f:Cl→Bool)(seen:List Nat):(df kv f seen).length≤seen.length:=List.length_filterMap_le _ _
theorem rQ: ∀{n:Nat}{l:List Nat},l.Nodup→(∀j∈l,j<n)→l.length≤n
 |0,l,_,h=>by
  cases l with
  |nil=>simp
  |cons a l=>exact absurd (h a (by simp)) (by omega)
 |n+1,l,hn,h=>by
  have h1:=rQ (n:=n) (l:=l.erase n) (hn.erase n) (fun j hj=>by have h2:=(hn.mem_erase_iff).1 hj;have:=h j h2.2;have:=h2.1;omega)
  rw[List.length_erase] at h1;split at h1<;>omega
def dI(kv:List (Int×Cl))(f:Cl→Bool):List Int:=gg ((kv.filter fun p=>f p.2).map (·.1))
theorem DZ{a b:List Int}(h:a.Perm b):gg a=gg b:=by
 have tr: ∀a b c:Int,decide (a≤b)=true→decide (b≤c)=true→decide (a≤c)=true:=fun a b c h1 h2=>by simp only[decide_eq_true_eq] at*;omega
 have to: ∀a b:Int,(decide (a≤b)||decide (b≤a))=true:=fun a b=>by simp only[Bool.or_eq_true,decide_eq_true_eq];omega
 unfold gg
 refine List.Perm.eq_of_pairwise (le:=fun a b:Int=>decide (a≤b)=true) (fun a b _ _ h1 h2=> ?_) (List.pairwise_mergeSort tr to _) (List.pairwise_mergeSort tr to _) (((List.mergeSort_perm _ _).trans h).trans (List.mergeSort_perm _ _).symm)
 simp only[decide_eq_true_eq] at h1 h2;omega
theorem D1(f:Cl→Bool): ∀(kv:List (Int×Cl)),df kv f (List.range kv.length)=(kv.filter fun p=>f p.2).map (·.1)
 |[]=>rfl
 |p::kv=>by
  have ih:=D1 f kv
  unfold df at ih⊢
  rw[List.length_cons,List.range_succ_eq_map,List.filterMap_cons,List.filterMap_map]
  have e:((fun j=>match(p::kv)[j]? with|some p=>if f p.2 then some p.1 else none|none=>none)∘Nat.succ)=fun j=>match kv[j]? with|some p=>if f p.2 then some p.1 else none|none=>none:=by
   funext j;simp
  rw[e,ih];simp only[List.getElem?_cons_zero,List.filter_cons]
  cases f p.2<;>simp
theorem qS(hn:seen.Nodup)(hb: ∀j∈seen,j<kv.length)(ha: ∀j,j<kv.length→j∈seen):gg (df kv f seen)=dI kv f:=by
 unfold dI;rw[←D1];refine DZ ?_
 have hp:seen.Perm (List.range kv.length):=(List.perm_ext_iff_of_nodup hn List.nodup_range).2 fun j=>by rw[List.mem_range];exact⟨hb j,ha j⟩
 exact hp.filterMap _
theorem nE(l:List Int):(gg l).length=l.length:=by unfold gg;simp
theorem jI{p:Int×Cl}(hn:seen.Nodup)(hb: ∀j∈seen,j<kv.length)(hj:kv[j]? =some p)(hs:j∉seen):(seen++[j]).Nodup∧(∀i∈seen++[j],i<kv.length)∧seen.length<kv.length:=by
 have hl:=(List.getElem?_eq_some_iff.1 hj).1
 have h1:(seen++[j]).Nodup:=List.nodup_append.2 ⟨hn,by simp,fun a ha b hb e=>by simp at hb;subst hb;subst e;exact hs ha⟩
 have h2: ∀i∈seen++[j],i<kv.length:=fun i hi=>by
  rcases List.mem_append.1 hi with hi|hi
  ·exact hb i hi
  ·simp at hi;omega
 have:=rQ h1 h2
 exact⟨h1,h2,by simp at this;omega⟩
theorem Lo:gg []=[]:=by simp[gg]
abbrev di(b:Nat)(kv:List (Int×Cl)):V.dC:=dX (fun k:Int=>i_ k) (fun v_:Cl=>(.agg (dt v_).toArray)) b kv
open Go.RowKit Go.Maps Go.Sort Go.Shelf
def Tryz.sortA_ren:Go.Shelf.Ren:=⟨fun|5=>96|8=>140|7=>139|19=>192|20=>193|10=>183|11=>184|12=>185|13=>186|14=>187|15=>188|16=>189|17=>190|18=>191|30=>236|31=>237|32=>238|33=>239|34=>240|35=>241|40=>260|n=>n,fun|23=>65|25=>3|3=>3|32=>263|22=>65|0=>0|44=>312|46=>40|4=>4|36=>305|35=>304|41=>152|5=>5|9=>9|53=>348|57=>351|63=>371|64=>372|n=>n,fun|n=>n⟩
theorem Tryz.sortA:Go.Proofs.SlLaysM.n5 Tryz.prog Tryz.sortA_ren:={
 mixed:=by kernel_rfl,
 f5:=⟨Tryz.f96.name,by decide,Tryz.func96.trans (congrArg some (by kernel_rfl))⟩,
 f7:=⟨Tryz.f139.name,by decide,Tryz.func139.trans (congrArg some (by kernel_rfl))⟩,
 f8:=Tryz.func140.trans (congrArg some (by kernel_rfl)),
 f10:=⟨Tryz.f183.name,by decide,Tryz.func183.trans (congrArg some (by kernel_rfl))⟩,
 f11:=⟨Tryz.f184.name,by decide,Tryz.func184.trans (congrArg some (by kernel_rfl))⟩,
 f12:=⟨Tryz.f185.name,by decide,Tryz.func185.trans (congrArg some (by kernel_rfl))⟩,
 f13:=⟨Tryz.f186.name,by decide,Tryz.func186.trans (congrArg some (by kernel_rfl))⟩,
 f14:=⟨Tryz.f187.name,by decide,Tryz.func187.trans (congrArg some (by kernel_rfl))⟩,
 f15:=⟨Tryz.f188.name,by decide,Tryz.func188.trans (congrArg some (by kernel_rfl))⟩,
 f16:=⟨Tryz.f189.name,by decide,Tryz.func189.trans (congrArg some (by kernel_rfl))⟩,
 f17:=⟨Tryz.f190.name,by decide,Tryz.func190.trans (congrArg some (by kernel_rfl))⟩,
 f18:=⟨Tryz.f191.name,by decide,Tryz.func191.trans (congrArg some (by kernel_rfl))⟩,
 f19:=Tryz.func192.trans (congrArg some (by kernel_rfl)),
 f20:=Tryz.func193.trans (congrArg some (by kernel_rfl)),
 f30:=⟨Tryz.f236.name,by decide,Tryz.func236.trans (congrArg some (by kernel_rfl))⟩,
 f31:=Tryz.func237.trans (congrArg some (by kernel_rfl)),
 f32:=Tryz.func238.trans (congrArg some (by kernel_rfl)),
 f33:=⟨Tryz.f239.name,by decide,Tryz.func239.trans (congrArg some (by kernel_rfl))⟩,
 f34:=⟨Tryz.f240.name,by decide,Tryz.func240.trans (congrArg some (by kernel_rfl))⟩,
 f35:=⟨Tryz.f241.name,by decide,Tryz.func241.trans (congrArg some (by kernel_rfl))⟩,
 f40:=⟨Tryz.f260.name,by decide,Tryz.func260.trans (congrArg some (by kernel_rfl))⟩,
 t0:=Tryz.underlying0,
 a0:=Tryz.isAgg0,
 z0:=Tryz.sizeOf0,
 v0:=Tryz.zeroValue0,
 t3:=Tryz.underlying3,
 a3:=Tryz.isAgg3,
 z3:=Tryz.sizeOf3,
 v3:=Tryz.zeroValue3,
 t4:=Tryz.underlying4,
 a4:=Tryz.isAgg4,
 z4:=Tryz.sizeOf4,
 v4:=Tryz.zeroValue4,
 t5:=Tryz.underlying5,
 a5:=Tryz.isAgg5,
 z5:=Tryz.sizeOf5,
 v5:=Tryz.zeroValue5,
 t9:=Tryz.underlying9,
 a9:=Tryz.isAgg9,
 z9:=Tryz.sizeOf9,
 v9:=Tryz.zeroValue9,
 t22:=Tryz.underlying65,
 a22:=Tryz.isAgg65,
 z22:=Tryz.sizeOf65,
 v22:=Tryz.zeroValue65,
 t23:=Tryz.underlying65,
 a23:=Tryz.isAgg65,
 z23:=Tryz.sizeOf65,
 v23:=Tryz.zeroValue65,
 t25:=Tryz.underlying3,
 a25:=Tryz.isAgg3,
 z25:=Tryz.sizeOf3,
 v25:=Tryz.zeroValue3,
 t32:=Tryz.underlying263,
 a32:=Tryz.isAgg263,
 z32:=Tryz.sizeOf263,
 v32:=Tryz.zeroValue263,
 t35:=Tryz.underlying304,
 a35:=Tryz.isAgg304,
 z35:=Tryz.sizeOf304,
 v35:=Tryz.zeroValue304,
 t36:=Tryz.underlying305,
 a36:=Tryz.isAgg305,
 z36:=Tryz.sizeOf305,
 v36:=Tryz.zeroValue305,
 t41:=Tryz.underlying152,
 a41:=Tryz.isAgg152,
 z41:=Tryz.sizeOf152,
 v41:=Tryz.zeroValue152,
 t44:=Tryz.underlying312,
 a44:=Tryz.isAgg312,
 z44:=Tryz.sizeOf312,
 v44:=Tryz.zeroValue312,
 t46:=Tryz.underlying40,
 a46:=Tryz.isAgg40,
 z46:=Tryz.sizeOf40,
 v46:=Tryz.zeroValue40,
 t53:=Tryz.underlying348,
 a53:=Tryz.isAgg348,
 z53:=Tryz.sizeOf348,
 v53:=Tryz.zeroValue348,
 t57:=Tryz.underlying351,
 a57:=Tryz.isAgg351,
 z57:=Tryz.sizeOf351,
 v57:=Tryz.zeroValue351,
 t63:=Tryz.underlying371,
 a63:=Tryz.isAgg371,
 z63:=Tryz.sizeOf371,
 v63:=Tryz.zeroValue371,
 t64:=Tryz.underlying372,
 a64:=Tryz.isAgg372,
 z64:=Tryz.sizeOf372,
 v64:=Tryz.zeroValue372}
theorem tU(A:Option Addr)(l:List Int)(c:Nat)(hl:l.length≤100000):
  CS 96 #[vS A l c] [sI A l c] (fun(zz:Unit)=>(.tuple #[])) (fun _=>True) fun _=>[sI A (gg l) c]:=by
 intro w hs
 have h0:(sI A l c).holds w:=hs.all _ (by simp)
 cases A with
 |none=>
  have hl0:l=[]:=by
   obtain⟨_,h2,_,⟨_,h4⟩|⟨_,_,_,h4,_⟩⟩:=h0
   ·exact List.eq_nil_of_length_eq_zero (by omega)
   ·cases h4
  subst hl0
  refine(AnyM.slices_Sort_int_none Tryz.sortA none c w).mono ?_
  rintro e w' ⟨rfl,rfl⟩
  refine⟨(),rfl,trivial,?_⟩
  rw[Lo];exact Turn.of hs (.refl _)
 |some a=>
  obtain⟨g,off,rfl⟩: ∃g off,a=⟨g,off,none⟩:=by
   obtain⟨_,_,_,⟨h4,_⟩|⟨g,off,_,h4,_⟩⟩:=id h0
   ·cases h4
   ·cases h4;exact⟨g,off,rfl⟩
  obtain⟨hH,hlt⟩:=Ly (fun _=>rfl) h0
  refine(AnyM.slices_Sort_int Tryz.sortA g off c l w hH hlt (by omega)).mono ?_
  rintro e w' ⟨rfl,k,os,rfl⟩
  exact⟨(),rfl,trivial,K9 (fun _=>rfl) (by simp[gg]) h0⟩
end Go.Proofs.YtobgjpigngoggaaGreat
namespace Go.Proofs.YtobgjpigngoggaaGreat
open Go V
def iC(n a b:Int):Bool:=decide (n≥a)&&decide (n≤b)
def fe(y:Cl):Int:=
 if y.hi<1∨y.hi>65536∨y.hp<0∨y.hp>65536∨y.hi=y.hp then 1
 else if(dM y.ra y.rb y.rc)=0∨(dM y.la y.lb y.lc)=0∨(dM y.ua y.ub y.uc)=0∨(dM y.la y.lb y.lc)=4∨(dM y.ua y.ub y.uc)=4 then 21
 else if(dM y.ua y.ub y.uc)>1∧(dM y.la y.lb y.lc)=1 then 29
 else if y.hl=true then(if y.hk<1∨y.hk>64∨y.hq<1∨y.hq>1048576∨((dM y.ra y.rb y.rc)=1∧(dM y.la y.lb y.lc)=1) then 29 else 0)
 else if y.hk≠0∨y.hq≠0∨(dM y.ra y.rb y.rc)≠1 then 29 else 0
def kG(y:Cl):Int:=
 if y.hi<1∨y.hi>65536∨y.hp<0∨y.hp>65536∨y.hi=y.hp then 1
 else if(fP y.ra y.rb y.rc)=0∨(fP y.la y.lb y.lc)=0∨(fP y.ua y.ub y.uc)=0∨(fP y.la y.lb y.lc)=4∨(fP y.ua y.ub y.uc)=4 then 21
 else if(fP y.ua y.ub y.uc)>1∧(fP y.la y.lb y.lc)=1 then 29
 else if y.hl=true then(if y.hk<1∨y.hk>64∨y.hq<1∨y.hq>1048576∨((fP y.ra y.rb y.rc)=1∧(fP y.la y.lb y.lc)=1) then 29 else 0)
 else if y.hk≠0∨y.hq≠0∨(fP y.ra y.rb y.rc)≠1 then 29 else 0
theorem yz(a b c:Int)(w:World):
  CW 130 #[.agg #[u_ a,u_ b,u_ c]] w (b_ (decide (dM a b c>1))):=by
 refine A.C Tryz.func130 rfl (HS.nil w) (A.c (A.n1 [.al,.p] [0] (fun b1=>[(1,p_ b1)]) (fun b1=>cz b1 [u_ a,u_ b,u_ c] 60) ?_))
 intro b1
 refine A.c (A.k [.ld 0,.cq (i_ (dM a b c)),.p,.p] [1] [(2,b_ (decide ((dM a b c)>1)))] [b1] (o1 (qo (fun ww ss=>ow a b c ww))) (A.e (A.N [b_ (decide ((dM a b c)>1))] ?_)))
 rfl
abbrev zV(p0:Cl):=(b_ (decide (dM p0.ra p0.rb p0.rc>1)):Value)
theorem qI(y:Cl)(w:World):
  CW 103 #[.agg (dt y).toArray] w (b_ (decide ((dM y.ra y.rb y.rc)>1))):=by
 refine A.C Tryz.func103 rfl (HS.nil w) (A.c (A.n1 [.al,.p] [0] (fun b1=>[(1,p_ b1)]) (fun b1=>cz b1 (dt y) 62) ?_))
 intro b1
 refine A.c (A.k [.p,.ld 0,.cq (zV y),.p] [1] [(2,zV y)] [b1] (o1 (qo (fun ww ss=>yz y.ra y.rb y.rc ww))) (A.e (A.N [zV y] ?_)))
 rfl
abbrev zW(p0:Cl):=(b_ (decide (dM p0.la p0.lb p0.lc>1)):Value)
theorem nA(y:Cl)(w:World):
  CW 90 #[.agg (dt y).toArray] w (b_ (decide ((dM y.la y.lb y.lc)>1))):=by
 refine A.C Tryz.func90 rfl (HS.nil w) (A.c (A.n1 [.al,.p] [0] (fun b1=>[(1,p_ b1)]) (fun b1=>cz b1 (dt y) 62) ?_))
 intro b1
 refine A.c (A.k [.p,.ld 0,.cq (zW y),.p] [1] [(2,zW y)] [b1] (o1 (qo (fun ww ss=>yz y.la y.lb y.lc ww))) (A.e (A.N [zW y] ?_)))
 rfl
abbrev zX(p0:Cl):=(b_ (decide (dM p0.ua p0.ub p0.uc>1)):Value)
theorem J7(y:Cl)(w:World):
  CW 224 #[.agg (dt y).toArray] w (b_ (decide ((dM y.ua y.ub y.uc)>1))):=by
 refine A.C Tryz.func224 rfl (HS.nil w) (A.c (A.n1 [.al,.p] [0] (fun b1=>[(1,p_ b1)]) (fun b1=>cz b1 (dt y) 62) ?_))
 intro b1
 refine A.c (A.k [.p,.ld 0,.cq (zX y),.p] [1] [(2,zX y)] [b1] (o1 (qo (fun ww ss=>yz y.ua y.ub y.uc ww))) (A.e (A.N [zX y] ?_)))
 rfl
theorem vD(n a b:Int)(w:World):
  CW 223 #[i_ n,i_ a,i_ b] w (b_ (iC n a b)):=by
 refine A.C Tryz.func223 rfl (HS.nil w) (A.c (A.g [.p] [] [] (A.c (A.g [.p,.p,.p,.p,.o,.p,.p,.p,.cl,.p] [0,1,2] [(6,b_ ((decide (n≥a))&&(decide (n≤b))))] (A.e (A.N [b_ ((decide (n≥a))&&(decide (n≤b)))] ?_))))))
 rfl
def dF(kv:List (Int×Cl))(k:Int):Cl:=(cw kv k).getD dr
def fZ(kv:List (Int×Cl))(k:Int):Int:=if(cw kv k).isSome=true then 0 else 6
variable{kv:List (Int×Cl)}
theorem Bh{k:Int}(h:fZ kv k=0):cw kv k≠none:=by unfold fZ at h;cases hm:cw kv k with|none=>simp[hm] at h|some v=>simp
theorem I1{k:Int}(h:fZ kv k≠0):cw kv k=none:=by unfold fZ at h;cases hm:cw kv k with|none=>rfl|some v=>simp[hm] at h
def iP(kv:List (Int×Cl))(k:Int):Bool:=k==0||decide ((dM (dF kv k).la (dF kv k).lb (dF kv k).lc)>1)
def fq(kv:List (Int×Cl))(ci:Int):Nat→Int
 |0=>ci
 |k+1=>(dF kv (fq kv ci k)).hp
def gG(kv:List (Int×Cl))(ci:Int)(k:Nat):List Int:=(List.range k).map (fq kv ci)
theorem E7(kv:List (Int×Cl))(ci:Int)(k:Nat):gG kv ci k++[fq kv ci k]=gG kv ci (k+1):=by unfold gG;rw[List.range_succ];simp
variable{k:Nat}
theorem HQ{ci:Int}{d:Nat}(hd: ∀j,j<d→cw kv (fq kv ci j)≠none)(hk:k≤d)(h: ¬fZ kv (fq kv ci k)=0):k=d:=by
 rcases Nat.lt_or_ge k d with h1|h1
 ·exact absurd (I1 h) (hd k h1)
 ·omega
theorem SG{ci:Int}{d:Nat}(he:cw kv (fq kv ci d)=none)(hk:k≤d)(h:fZ kv (fq kv ci k)=0):k<d:=by
 rcases Nat.lt_or_ge k d with h1|h1
 ·exact h1
 ·have:k=d:=by omega
  subst this;exact absurd he (Bh h)
theorem zY(kv:List (Int×Cl))(ci:Int)(k:Nat):(gG kv ci k).length=k:=by simp[gG]
theorem q8(bt mb:Nat)(kv:List (Int×Cl))(ci:Int)(w:World)(r0:(cz bt [.map (some mb)] 185).holds w)(r1:(di mb kv).holds w):
  CW 72 #[p_ bt,i_ ci] w (.tuple #[.agg (dt (dF kv ci)).toArray,i_ (fZ kv ci)]):=by
 refine A.C Tryz.func72 rfl (HS.nil w) (A.c (A.n1 [.al,.p] [] (fun b1=>[(4,p_ b1)]) (fun b1=>cz b1 [i_ 0,i_ 0,b_ false,u_ 0,u_ 0,u_ 0,u_ 0,u_ 0,u_ 0,u_ 0,u_ 0,u_ 0,i_ 0,i_ 0] 62) ?_))
 intro b1
 refine A.d (A.c (A.g [.p,.p] [] [(9,b_ false)] (A.Z (A.p (A.c (A.kp [.p,.p,.p,.rd [.map (some mb)],.p] [0,1,9] [(15,.map (some mb)),(16,i_ ci)] [] (o1 (ro ⟨bt,0,none⟩ (vs:=[.map (some mb)]) (dj r0 rfl))) (A.j (A.u (some 17) _ (tG 3 62 ci dr (fun ww ss=>da ss r1) lP) (A.g1 [.p,.p,.p,.al,.st 1,.p] [15,16,17] (fun b2=>[(6,p_ b2),(7,b_ ((cw kv ci).isSome))]) (fun b2=>[]) (fun b2=>cz b2 (dt ((cw kv ci).getD dr)) 62) (fun b2=>[b2]) ?_)))))))))
 intro b2
 refine A.d (A.c (A.g [.p,.p] [7] [(21,b_ (!((cw kv ci).isSome)))] (A.v rfl (fun e1=> ?_) (fun e1=> ?_))))
 ·refine A.c (A.gs [.p,.st 0,.p] [6,21] [(5,i_ 6)] [] [b1] (A.e (A.au 0 [i_ 0,i_ 0,b_ false,u_ 0,u_ 0,u_ 0,u_ 0,u_ 0,u_ 0,u_ 0,u_ 0,u_ 0,i_ 0,i_ 0] (i_ 6) ?_)))
  ((have hn_:cw kv ci=none:=by simp_all);simp[dF,fZ,hn_];rfl)
 refine A.p (A.c (A.gs [.ld 1,.st 0,.p] [6,21] [(5,i_ 0)] [(0,cz b1 (dt ((cw kv ci).getD dr)) 62)] [b2,b1] (A.e (A.au 0 (dt ((cw kv ci).getD dr)) (i_ 0) ?_))))
 show((.tuple #[.agg (dt ((cw kv ci).getD dr)).toArray,i_ 0]):Value)=(.tuple #[.agg (dt (dF kv ci)).toArray,i_ (fZ kv ci)])
 ((simp_all[dF,fZ];done))
theorem Cd(bt mb:Nat)(kv:List (Int×Cl))(ci:Int)(w:World)(r0:(cz bt [.map (some mb)] 185).holds w)(r1:(di mb kv).holds w):
  CW 170 #[p_ bt,i_ ci] w (b_ (iP kv ci)):=by
 refine A.C Tryz.func170 rfl (HS.nil w) (A.c (A.g [.p] [] [] (A.c (A.O [.p,.p,.p] [] [(7,b_ (ci==0))] (A.aR (ci==0) (fun e1=> ?_) (fun e1=> ?_))))))
 ·refine A.D 7 (b_ true) (gw e1) (A.g [.sk,.sk,.sk,.sk,.sk,.sk,.sk,.p,.p] [0,1,7] [(4,b_ true)] (A.e (A.N [b_ true] ?_)))
  show((b_ true):Value)=(b_ (iP kv ci))
  simp_all[iP,dF]
 refine A.D 7 (b_ false) (gw e1) (A.kp [.p,.p,.p,.rd [.map (some mb)],.p] [0,1] [(11,.map (some mb)),(12,i_ ci)] [] (o1 (ro ⟨bt,0,none⟩ (vs:=[.map (some mb)]) (dj r0 rfl))) (A.j (A.u (some 13) _ (qL 3 62 ci dr (fun ww ss=>da ss r1) lP) (A.k [.cq (b_ (decide ((dM ((cw kv ci).getD dr).la ((cw kv ci).getD dr).lb ((cw kv ci).getD dr).lc)>1))),.p,.p] [7,11,12,13] [(4,b_ (decide ((dM ((cw kv ci).getD dr).la ((cw kv ci).getD dr).lb ((cw kv ci).getD dr).lc)>1)))] [] (o1 (qo (fun ww ss=>nA ((cw kv ci).getD dr) ww))) (A.e (A.N [b_ (decide ((dM ((cw kv ci).getD dr).la ((cw kv ci).getD dr).lb ((cw kv ci).getD dr).lc)>1))] ?_))))))
 show((b_ (decide ((dM ((cw kv ci).getD dr).la ((cw kv ci).getD dr).lb ((cw kv ci).getD dr).lc)>1))):Value)=(b_ (iP kv ci))
 simp_all[iP,dF]
theorem I2(bt mb:Nat)(kv:List (Int×Cl))(ci:Int)(d:Nat)(hd: ∀j,j<d→cw kv (fq kv ci j)≠none)(he:cw kv (fq kv ci d)=none)(hd7:d≤1000)(w:World)(r0:(cz bt [.map (some mb)] 185).holds w)(r1:(di mb kv).holds w)(hs:HI w []):
  CV 101 #[p_ bt,i_ ci] w [] (fun((al',cl'):(Option Addr)×Nat)=>(vS al' (gG kv ci d) cl')) (fun _=>True) fun(al',cl')=>[sI al' (gG kv ci d) cl']:=by
 refine A.C Tryz.func101 rfl hs (A.c (A.g [.p] [] [] (A.c (A.g [.p] [] [(5,e_)] (A.y (A.aP 3 1 [sI none ([]:List Int) 0] rfl (A.D 1 (i_ (fq kv ci 0)) (l0 (by rfl)) (A.su 0 (sI none (gG kv ci 0) 0) rfl (eI (by rfl:([]:List Int)=(gG kv ci 0))) (A.D 5 (vS none (gG kv ci 0) 0) (congrArg (fun z_:List Int=>some (Value.slice none z_.length 0)) (by rfl:([]:List Int)=(gG kv ci 0))) (A.lp (σ:=Nat×(Option Addr)×Nat) [] (fun(k,ao,co)=>[(5,vS ao (gG kv ci k) co),(1,i_ (fq kv ci k))]) [0] (fun(k,ao,co)=>[sI ao (gG kv ci k) co]) (fun(k,ao,co)=>(k≤d)) (fun(k,ao,co)=>d+1-k) (0,none,0) (by omega) ?_ ?_))))))))))
 ·exact A.I [0]
 rintro⟨k,ao,co⟩ hk
 have hk:k≤d:=hk
 refine A.y (A.c (A.no [.p,.p,.cq (.tuple #[.agg (dt (dF kv (fq kv ci k))).toArray,i_ (fZ kv (fq kv ci k))]),.p,.p,.p,.al,.st 1,.p] [] (fun b2=>[(6,p_ b2),(7,i_ (fZ kv (fq kv ci k)))]) (fun b2=>[]) (fun b2=>cz b2 (dt (dF kv (fq kv ci k))) 62) (fun b2=>[b2]) (fun b2=>o1 (qo (fun ww ss=>q8 bt mb kv (fq kv ci k) ww (da ss r0) (da ss r1)))) ?_))
 intro b2
 refine A.d (A.c (A.g [.p,.p] [7] [(15,b_ ((fZ kv (fq kv ci k))!=0))] (A.v rfl (fun e1=> ?_) (fun e1=> ?_))))
 ·have p1:=e1;try simp only[de] at p1
  refine A.c (A.g [.p,.p] [0,5,1,6,15] [(4,vS ao (gG kv ci k) co)] (A.e (A.su 0 (sI ao (gG kv ci d) co) rfl (eI (by rw[HQ hd hk ‹_›]:(gG kv ci k)=(gG kv ci d))) (A.Y [0] [vS ao (gG kv ci k) co] (ao,co) ?_ ?_))))
  ·show((vS ao (gG kv ci k) co):Value)=(vS ao (gG kv ci d) co)
   rw[HQ hd hk ‹_›]
  trivial
 have p1:=e1;try simp only[de] at p1
 refine A.p (A.c (A.O [.p,.p] [1,15] [(17,vS ao (gG kv ci k) co),(18,i_ (fq kv ci k))] (A.j (A.aF 19 (e:=3) [i_ (fq kv ci k)] (by kernel_rfl) rfl (fun _=>by kernel_rfl) _ (fun _=>rfl) ?_))))
 intro b3
 refine A.j (A.ap j9 (gG kv ci k) ([fq kv ci k]) 0 20 (i_ 0) 8 fE lO (gZ (i:=2) rfl) (by simp[zY];omega) ?_)
 intro A4 c4
 refine A.g [.p] [17,18,19,20] [(5,vS A4 ((gG kv ci k)++([fq kv ci k])) c4)] (A.s (A.gl [.p,.ld 1,.p] [6] [(1,i_ ((dF kv (fq kv ci k)).hp))] [b2] (A.D 1 (i_ (fq kv ci (k+1))) (l0 (by rfl)) (A.su 0 (sI A4 (gG kv ci (k+1)) c4) rfl (eI (E7 _ _ _:(gG kv ci k)++([fq kv ci k])=(gG kv ci (k+1)))) (A.D 5 (vS A4 (gG kv ci (k+1)) c4) (fJ (E7 _ _ _)) (A.aA (k+1,A4,c4) (SG he hk ‹_›) (by(show d+1-(k+1)<d+1-k;omega)) ?_))))))
 exact A.I [0]
theorem Lc(bt mb:Nat)(kv:List (Int×Cl))(ci:Int)(d:Nat)(hd: ∀j,j<d→cw kv (fq kv ci j)≠none)(he:cw kv (fq kv ci d)=none)(hd7:d≤1000)(w:World)(r0:(cz bt [.map (some mb)] 185).holds w)(r1:(di mb kv).holds w):
  CW 171 #[p_ bt,i_ ci] w (c_ d):=by
 refine A.C Tryz.func171 rfl (HS.nil w) (A.c (A.g [.p] [] [] (A.c (A.O [.p,.p] [0,1] [(5,p_ bt),(6,i_ ci)] (A.j (A.J (some 7) [] (fun ww ss hh=>I2 bt mb kv ci d ‹_› ‹_› ‹_› ww (da ss r0) (da ss r1) hh) ?_))))))
 rintro⟨al'1,cl'2⟩-
 refine A.g [.p,.p] [5,6,7] [(4,i_ ((gG kv ci d).length:Int))] (A.e (A.N [i_ ((gG kv ci d).length:Int)] ?_))
 show((i_ ((gG kv ci d).length:Int)):Value)=(c_ d)
 rw[zY]
theorem TW(y:Cl)(w:World):
  CW 120 #[.agg (dt y).toArray] w (i_ (kG y)):=by
 refine A.C Tryz.func120 rfl (HS.nil w) (A.c (A.n1 [.al,.p] [0] (fun b1=>[(1,p_ b1)]) (fun b1=>cz b1 (dt y) 62) ?_))
 intro b1
 refine A.d (A.c (A.gl [.p,.ld 0,.p,.p,.o,.p,.ld 0,.p,.cl,.p,.o,.p,.ld 0,.p,.cl,.p,.o,.p,.ld 0,.p,.cl,.p,.o,.p,.ld 0,.p,.ld 0,.p,.cl] [] [(30,b_ (((((decide (y.hi<1))||(decide (y.hi>65536)))||(decide (y.hp<0)))||(decide (y.hp>65536)))||(y.hi==y.hp)))] [b1,b1,b1,b1,b1,b1] (A.v rfl (fun e1=> ?_) (fun e1=> ?_))))
 ·refine A.c (A.g [.p] [1,30] [(2,i_ 1)] (A.e (A.N [i_ 1] ?_)))
  refine congrArg (Value.int .i64) ?_;unfold kG;grind
 refine A.p (A.c (A.k [.p,.ld 0,.cq (i_ (fP y.ra y.rb y.rc)),.p] [30] [(3,i_ (fP y.ra y.rb y.rc))] [b1] (o1 (qo (fun ww ss=>yv y.ra y.rb y.rc ww))) (A.c (A.k [.p,.ld 0,.cq (i_ (fP y.la y.lb y.lc)),.p] [] [(4,i_ (fP y.la y.lb y.lc))] [b1] (o1 (qo (fun ww ss=>yv y.la y.lb y.lc ww))) (A.c (A.k [.p,.ld 0,.cq (i_ (fP y.ua y.ub y.uc)),.p] [] [(5,i_ (fP y.ua y.ub y.uc))] [b1] (o1 (qo (fun ww ss=>yv y.ua y.ub y.uc ww))) (A.d (A.c (A.g [.p,.p,.p,.o,.p,.p,.cl,.p,.o,.p,.p,.cl,.p,.o,.p,.p,.cl,.p,.o,.p,.p,.cl] [] [(57,b_ ((((((fP y.ra y.rb y.rc)==0)||((fP y.la y.lb y.lc)==0))||((fP y.ua y.ub y.uc)==0))||((fP y.la y.lb y.lc)==4))||((fP y.ua y.ub y.uc)==4)))] (A.v rfl (fun e2=> ?_) (fun e2=> ?_)))))))))))
 ·refine A.c (A.g [.p] [1,3,4,5,57] [(2,i_ 21)] (A.e (A.N [i_ 21] ?_)))
  refine congrArg (Value.int .i64) ?_;unfold kG;grind
 refine A.p (A.d (A.c (A.g [.p,.p,.p,.o,.p,.p,.cl] [5,57] [(63,b_ ((decide ((fP y.ua y.ub y.uc)>1))&&((fP y.la y.lb y.lc)==1)))] (A.v rfl (fun e3=> ?_) (fun e3=> ?_)))))
 ·refine A.c (A.g [.p] [1,3,4,63] [(2,i_ 29)] (A.e (A.N [i_ 29] ?_)))
  refine congrArg (Value.int .i64) ?_;unfold kG;grind
 refine A.p (A.d (A.c (A.gl [.p,.ld 0] [63] [(65,b_ y.hl)] [b1] (A.cn y.hl (fun e4=> ?_) (fun e4=> ?_)))))
 ·refine A.d (A.c (A.gl [.p,.ld 0,.p,.p,.o,.p,.ld 0,.p,.cl,.p,.o,.p,.ld 0,.p,.cl,.p,.o,.p,.ld 0,.p,.cl,.p,.o,.p,.p,.p,.o,.p,.p,.cl,.cl] [1,3,4,65] [(91,b_ (((((decide (y.hk<1))||(decide (y.hk>64)))||(decide (y.hq<1)))||(decide (y.hq>1048576)))||(((fP y.ra y.rb y.rc)==1)&&((fP y.la y.lb y.lc)==1))))] [b1,b1,b1,b1] (A.v rfl (fun e5=> ?_) (fun e5=> ?_))))
  ·refine A.c (A.g [.p] [91] [(2,i_ 29)] (A.e (A.N [i_ 29] ?_)))
   refine congrArg (Value.int .i64) ?_;unfold kG;grind
  refine A.p (A.c (A.g [.p] [91] [(2,i_ 0)] (A.e (A.N [i_ 0] ?_))))
  refine congrArg (Value.int .i64) ?_;unfold kG;grind
 refine A.p (A.d (A.c (A.gl [.p,.ld 0,.p,.p,.o,.p,.ld 0,.p,.cl,.p,.o,.p,.p,.cl] [1,3,4,65] [(103,b_ (((y.hk !=0)||(y.hq !=0))||((fP y.ra y.rb y.rc)!=1)))] [b1,b1] (A.v rfl (fun e6=> ?_) (fun e6=> ?_)))))
 ·refine A.c (A.g [.p] [103] [(2,i_ 29)] (A.e (A.N [i_ 29] ?_)))
  refine congrArg (Value.int .i64) ?_;unfold kG;grind
 refine A.p (A.c (A.g [.p] [103] [(2,i_ 0)] (A.e (A.N [i_ 0] ?_))))
 refine congrArg (Value.int .i64) ?_;unfold kG;grind
abbrev Fz(p0:Cl):=((30,.agg #[u_ p0.ra,u_ p0.rb,u_ p0.rc,u_ p0.la,u_ p0.lb,u_ p0.lc,u_ p0.ua,u_ p0.ub,u_ p0.uc]):Nat×Value)
abbrev tz(p0:Cl):=(b_ ((dM p0.la p0.lb p0.lc)==4):Value)
theorem DW(y:Cl)(w:World):
  CW 169 #[.agg (dt y).toArray] w (i_ (fe y)):=by
 have q1:=tw y.ra y.rb y.rc;have q2:=tw y.la y.lb y.lc;have q3:=tw y.ua y.ub y.uc
 refine A.C Tryz.func169 rfl (HS.nil w) (A.c (A.n1 [.al,.p] [0] (fun b1=>[(1,p_ b1)]) (fun b1=>cz b1 (dt y) 62) ?_))
 intro b1
 refine A.d (A.c (A.k [.p,.ld 0,.cq (b_ (iC y.hi 1 65536)),.p,.p,.o,.p,.ld 0,.cq (b_ (iC y.hp 0 65536)),.p,.cl,.p,.o,.p,.ld 0,.p,.ld 0,.p,.cl] [] [(23,b_ (((!(iC y.hi 1 65536))||(!(iC y.hp 0 65536)))||(y.hp==y.hi)))] [b1,b1,b1,b1] (oc (qo (fun ww ss=>vD y.hi 1 65536 ww)) (o1 (go (true&&((!(iC y.hi 1 65536))==false)) fun h_=>(qo (fun ww ss=>vD y.hp 0 65536 ww))))) (A.v rfl (fun e1=> ?_) (fun e1=> ?_))))
 ·refine A.c (A.g [.p] [1,23] [(2,i_ 1)] (A.e (A.N [i_ 1] ?_)))
  refine congrArg (Value.int .i64) ?_;unfold fe;unfold iC at*;grind
 refine A.p (A.d (A.c (A.gl [.p,.ld 0,.p,.ld 0,.p,.ld 0,.p,.p] [23] [(Fz y),(31,i_ 0)] [b1,b1,b1] (A.y (A.aY 400 (A.aD (m:=399) (A.c (A.g [.p] [] [(32,b_ true)] (A.d (A.ct (A.p (A.d (A.y (A.c (A.g1 [.p,.p,.al,.p,.st 1] [32] (fun b2=>[(4,p_ b2),(3,i_ 0)]) (fun b2=>[]) (fun b2=>cz b2 [u_ y.ra,u_ y.rb,u_ y.rc] 60) (fun b2=>[b2]) ?_)))))))))))))))
 intro b2
 refine A.c (A.kp [.ld 1,.cq (b_ (dM y.ra y.rb y.rc !=0)),.p,.p] [] [(38,b_ (!(dM y.ra y.rb y.rc !=0)))] [b2] (o1 (qo (fun ww ss=>qF y.ra y.rb y.rc ww))) (A.aR (!(dM y.ra y.rb y.rc !=0)) (fun e2=> ?_) (fun e2=> ?_)))
 ·refine A.D 38 (b_ true) (gw e2) (A.g [.sk,.sk,.sk,.sk,.sk,.sk,.sk,.p] [4,3,38] [(46,b_ true)] (A.ct (A.c (A.g [.p] [1,30,31,46] [(2,i_ 21)] (A.e (A.N [i_ 21] ?_))))))
  refine congrArg (Value.int .i64) ?_;unfold fe;unfold iC at*;grind
 refine A.D 38 (b_ false) (gw e2) (A.g [.p,.p,.p,.sk,.sk,.sk,.p,.p] [4,3,38] [(39,i_ 0),(40,b_ false),(41,b_ false),(45,b_ false),(46,b_ false)] (A.Z (A.p (A.s (A.g [.p,.p] [46] [(31,i_ 1)] (A.aD (m:=398) (A.c (A.g [.p] [] [(32,b_ true)] (A.d (A.ct (A.p (A.d (A.y (A.c (A.g1 [.p,.p,.al,.p,.st 2] [32] (fun b3=>[(4,p_ b3),(3,i_ 1)]) (fun b3=>[]) (fun b3=>cz b3 [u_ y.la,u_ y.lb,u_ y.lc] 60) (fun b3=>[b3]) ?_)))))))))))))))
 intro b3
 refine A.c (A.kp [.ld 2,.cq (b_ (dM y.la y.lb y.lc !=0)),.p,.p] [] [(38,b_ (!(dM y.la y.lb y.lc !=0)))] [b3] (o1 (qo (fun ww ss=>qF y.la y.lb y.lc ww))) (A.aR (!(dM y.la y.lb y.lc !=0)) (fun e3=> ?_) (fun e3=> ?_)))
 ·refine A.D 38 (b_ true) (gw e3) (A.g [.sk,.sk,.sk,.sk,.sk,.sk,.sk,.p] [39,40,41,45,4,3,38] [(46,b_ true)] (A.ct (A.c (A.g [.p] [1,30,31,46] [(2,i_ 21)] (A.e (A.N [i_ 21] ?_))))))
  refine congrArg (Value.int .i64) ?_;unfold fe;unfold iC at*;grind
 refine A.D 38 (b_ false) (gw e3) (A.k [.p,.p,.p,.ld 2,.cq (i_ (dM y.la y.lb y.lc)),.p,.p,.p] [4,3,38] [(39,i_ 1),(40,b_ true),(41,b_ true),(45,tz y),(42,.agg #[u_ y.la,u_ y.lb,u_ y.lc]),(43,i_ (dM y.la y.lb y.lc)),(44,tz y),(46,tz y)] [b3] (o1 (qo (fun ww ss=>ow y.la y.lb y.lc ww))) (A.v rfl (fun e4=> ?_) (fun e4=> ?_)))
 ·refine A.c (A.g [.p] [1,30,31,39,40,41,45,42,43,44,46] [(2,i_ 21)] (A.e (A.N [i_ 21] ?_)))
  refine congrArg (Value.int .i64) ?_;unfold fe;unfold iC at*;grind
 have p4:=e4
 refine A.p (A.s (A.g [.p,.p] [46] [(31,i_ 2)] (A.aD (m:=397) (A.c (A.g [.p] [] [(32,b_ true)] (A.d (A.ct (A.p (A.d (A.y (A.c (A.aH [.p,.p,.al,.p,.st 3] [1,30,31,39,40,41,45,42,43,44,4,3] (fun b4=>[(1,p_ b1),(Fz y),(31,i_ 2),(39,i_ 1),(40,b_ true),(41,b_ true),(45,tz y),(42,.agg #[u_ y.la,u_ y.lb,u_ y.lc]),(43,i_ (dM y.la y.lb y.lc)),(44,tz y),(4,p_ b4),(3,i_ 2)]) (fun b4=>[cz b1 (dt y) 62,cz b2 [u_ y.ra,u_ y.rb,u_ y.rc] 60,cz b3 [u_ y.la,u_ y.lb,u_ y.lc] 60,cz b4 [u_ y.ua,u_ y.ub,u_ y.uc] 60]) (fun b4=>[b4]) (fun _=>T0) (fun _=>by kernel_rfl) (fun b4=>trivial) ?_))))))))))))
 intro b4
 refine A.c (A.kp [.ld 3,.cq (b_ (dM y.ua y.ub y.uc !=0)),.p,.p] [] [(38,b_ (!(dM y.ua y.ub y.uc !=0)))] [b4] (o1 (qo (fun ww ss=>qF y.ua y.ub y.uc ww))) (A.aR (!(dM y.ua y.ub y.uc !=0)) (fun e5=> ?_) (fun e5=> ?_)))
 ·refine A.D 38 (b_ true) (gw e5) (A.g [.sk,.sk,.sk,.sk,.sk,.sk,.sk,.p] [39,40,41,45,42,43,44,4,3,38] [(46,b_ true)] (A.ct (A.c (A.g [.p] [1,30,31,46] [(2,i_ 21)] (A.e (A.N [i_ 21] ?_))))))
  refine congrArg (Value.int .i64) ?_;unfold fe;unfold iC at*;grind
 refine A.D 38 (b_ false) (gw e5) (A.k [.p,.p,.p,.ld 3,.cq (i_ (dM y.ua y.ub y.uc)),.p,.p,.p] [4,3,38] [(39,i_ 2),(45,b_ ((dM y.ua y.ub y.uc)==4)),(42,.agg #[u_ y.ua,u_ y.ub,u_ y.uc]),(43,i_ (dM y.ua y.ub y.uc)),(44,b_ ((dM y.ua y.ub y.uc)==4)),(46,b_ ((dM y.ua y.ub y.uc)==4))] [b4] (o1 (qo (fun ww ss=>ow y.ua y.ub y.uc ww))) (A.v rfl (fun e6=> ?_) (fun e6=> ?_)))
 ·refine A.c (A.g [.p] [1,30,31,39,40,41,45,42,43,44,46] [(2,i_ 21)] (A.e (A.N [i_ 21] ?_)))
  refine congrArg (Value.int .i64) ?_;unfold fe;unfold iC at*;grind
 have p6:=e6
 refine A.p (A.s (A.g [.p,.p] [46] [(31,i_ 3)] (A.aD (m:=396) (A.c (A.g [.p] [] [(32,b_ false)] (A.d (A.Z (A.aB (A.c (A.k [.p,.ld 0,.cq (b_ (iC y.hk 1 64)),.p,.o,.p,.ld 0,.cq (b_ (iC y.hq 1 1048576)),.cl,.p,.o,.ld 0,.cq (b_ (decide ((dM y.ra y.rb y.rc)>1))),.p,.o,.ld 0,.cq (b_ (decide ((dM y.la y.lb y.lc)>1))),.cl,.cl,.p] [30,31,39,40,41,45,42,43,44,32] [(5,b_ (((iC y.hk 1 64)&&(iC y.hq 1 1048576))&&((decide ((dM y.ra y.rb y.rc)>1))||(decide ((dM y.la y.lb y.lc)>1)))))] [b1,b1,b1,b1] (oc (qo (fun ww ss=>vD y.hk 1 64 ww)) (oc (go (true&&((iC y.hk 1 64)==true)) fun h_=>(qo (fun ww ss=>vD y.hq 1 1048576 ww))) (oc (go (true&&(((iC y.hk 1 64)&&(iC y.hq 1 1048576))==true)) fun h_=>(qo (fun ww ss=>qI y ww))) (o1 (go ((true&&(((iC y.hk 1 64)&&(iC y.hq 1 1048576))==true))&&((decide ((dM y.ra y.rb y.rc)>1))==false)) fun h_=>(qo (fun ww ss=>nA y ww))))))) (A.c (A.k [.p,.ld 0,.p,.p,.o,.p,.ld 0,.p,.cl,.p,.o,.ld 0,.cq (b_ (decide ((dM y.ra y.rb y.rc)>1))),.p,.cl,.p] [] [(6,b_ (((y.hk==0)&&(y.hq==0))&&(!(decide ((dM y.ra y.rb y.rc)>1)))))] [b1,b1,b1] (o1 (go (true&&(((y.hk==0)&&(y.hq==0))==true)) fun h_=>(qo (fun ww ss=>qI y ww)))) (A.d (A.c (A.k [.p,.ld 0,.p,.o,.p,.p,.cl,.p,.o,.p,.ld 0,.p,.p,.o,.p,.p,.cl,.cl,.p,.o,.ld 0,.cq (b_ (decide ((dM y.ua y.ub y.uc)>1))),.p,.o,.ld 0,.cq (b_ (decide ((dM y.la y.lb y.lc)>1))),.p,.cl,.cl] [1,5,6] [(100,b_ (((y.hl&&(!(((iC y.hk 1 64)&&(iC y.hq 1 1048576))&&((decide ((dM y.ra y.rb y.rc)>1))||(decide ((dM y.la y.lb y.lc)>1))))))||((!y.hl)&&(!(((y.hk==0)&&(y.hq==0))&&(!(decide ((dM y.ra y.rb y.rc)>1)))))))||((decide ((dM y.ua y.ub y.uc)>1))&&(!(decide ((dM y.la y.lb y.lc)>1))))))] [b1,b1,b1,b1] (oc (go (true&&(((y.hl&&(!(((iC y.hk 1 64)&&(iC y.hq 1 1048576))&&((decide ((dM y.ra y.rb y.rc)>1))||(decide ((dM y.la y.lb y.lc)>1))))))||((!y.hl)&&(!(((y.hk==0)&&(y.hq==0))&&(!(decide ((dM y.ra y.rb y.rc)>1)))))))==false)) fun h_=>(qo (fun ww ss=>J7 y ww))) (o1 (go ((true&&(((y.hl&&(!(((iC y.hk 1 64)&&(iC y.hq 1 1048576))&&((decide ((dM y.ra y.rb y.rc)>1))||(decide ((dM y.la y.lb y.lc)>1))))))||((!y.hl)&&(!(((y.hk==0)&&(y.hq==0))&&(!(decide ((dM y.ra y.rb y.rc)>1)))))))==false))&&((decide ((dM y.ua y.ub y.uc)>1))==true)) fun h_=>(qo (fun ww ss=>nA y ww))))) (A.v rfl (fun e7=> ?_) (fun e7=> ?_)))))))))))))))))
 ·refine A.c (A.g [.p] [100] [(2,i_ 29)] (A.e (A.N [i_ 29] ?_)))
  refine congrArg (Value.int .i64) ?_;unfold fe;unfold iC at*;grind
 refine A.p (A.c (A.g [.p] [100] [(2,i_ 0)] (A.e (A.N [i_ 0] ?_))))
 refine congrArg (Value.int .i64) ?_;unfold fe;unfold iC at*;grind
def fW(kv:List (Int×Cl)):Nat→Int→Nat
 |0,_=>0
 |n+1,k=>if(cw kv k).isSome then fW kv n (dF kv k).hp+1 else 0
def dep(kv:List (Int×Cl))(k:Int):Nat:=fW kv 17 k
theorem rO(kv:List (Int×Cl))(k:Int): ∀j,fq kv k (j+1)=fq kv (dF kv k).hp j
 |0=>rfl
 |j+1=>by show(dF kv (fq kv k (j+1))).hp=(dF kv (fq kv (dF kv k).hp j)).hp;rw[rO kv k j]
theorem GA(kv:List (Int×Cl)): ∀(n:Nat)(k:Int)(j:Nat),j<fW kv n k→cw kv (fq kv k j)≠none
 |0,k,j,h=>by simp[fW] at h
 |n+1,k,j,h=>by
  unfold fW at h
  split at h
  ·rename_i hs
   cases j with
   |zero=>intro e;simp only[fq] at e;rw[e] at hs;cases hs
   |succ j=>rw[rO];exact GA kv n _ j (by omega)
  ·omega
theorem E9(kv:List (Int×Cl)): ∀(n:Nat)(k:Int),fW kv n k<n→cw kv (fq kv k (fW kv n k))=none
 |0,k,h=>by omega
 |n+1,k,h=>by
  unfold fW at h⊢
  split
  ·rename_i hs;rw[if_pos hs] at h;rw[rO];exact E9 kv n _ (by omega)
  ·rename_i hs;simpa[fq] using hs
def HOk(kv:List (Int×Cl)):Prop:= ∀k,dep kv k≤16
theorem HOk.lt(h:HOk kv)(k:Int):(∀j,j<dep kv k→cw kv (fq kv k j)≠none)∧cw kv (fq kv k (dep kv k))=none∧dep kv k≤1000:=
 ⟨fun j=>GA kv 17 k j,E9 kv 17 k (by have:=h k;unfold dep at this;omega),by have:=h k;omega⟩
def iY(kv:List (Int×Cl))(y:Cl):Int:=
 if fe y≠0 then fe y else if(cw kv y.hi).isSome=true then 8 else if(kv.length:Int)=64 then 5
 else if(y.hp≠0∧(cw kv y.hp).isSome=false)∨(dF kv y.hp).hl=true then 23
 else if(dM y.la y.lb y.lc)>1∧iP kv y.hp=false then 29 else if(dep kv y.hp:Int)=16 then 25 else 0
def lV(kv:List (Int×Cl))(y:Cl):List (Int×Cl):=if iY kv y=0 then dD kv y.hi y else kv
abbrev pB(p0)(p1):=(cz p0 [.map (some p1)] 185:V.dC)
theorem vE:
  CS 59 #[] [] (fun((bt,mb):Nat×Nat)=>(p_ bt)) (fun _=>True) fun(bt,mb)=>[pB bt mb,di mb ([]:List (Int×Cl))]:=by
 intro w hs
 refine A.C Tryz.func59 rfl hs (A.c (A.g [.p] [] [] (A.c (A.j (A.aZ (fun k:Int=>i_ k) (fun v_:Cl=>(.agg (dt v_).toArray)) 1 (by kernel_rfl) rfl (fun m1=>[di m1 ([]:List (Int×Cl))]) (fun _=>rfl) ?_)))))
 intro m1
 refine A.aH [.p,.al,.p] [0] (fun b2=>[(0,p_ b2)]) (fun b2=>[di m1 ([]:List (Int×Cl)),pB b2 m1]) (fun b2=>[]) (fun _=>T0) (fun _=>by kernel_rfl) (fun b2=>trivial) ?_
 intro b2
 refine A.e (A.Y [1,0] [p_ b2] (b2,m1) ?_ ?_)
 ·rfl
 trivial
abbrev GB(p0):=(cz p0 [i_ 0,i_ 0,b_ false,u_ 0,u_ 0,u_ 0,u_ 0,u_ 0,u_ 0,u_ 0,u_ 0,u_ 0,i_ 0,i_ 0] 62:V.dC)
theorem P2(bt mb:Nat)(kv:List (Int×Cl))(y:Cl)(hO:HOk kv)(hl:kv.length≤64):
  CS 132 #[p_ bt,.agg (dt y).toArray] [pB bt mb,di mb kv] (fun(kv':(List (Int×Cl)))=>(i_ (iY kv y))) (fun kv'=>kv'=lV kv y) fun kv'=>[pB bt mb,di mb kv']:=by
 intro w hs
 obtain⟨hd,he,hd7⟩:=hO.lt y.hp;have hwr:fe y≠0→iY kv y=fe y:=fun h=>by unfold iY;rw[if_pos h]
 refine A.C Tryz.func132 rfl hs (A.c (A.n1 [.al,.p] [1] (fun b1=>[(3,p_ b1)]) (fun b1=>cz b1 (dt y) 62) ?_))
 intro b1
 refine A.d (A.c (A.g [.p,.p] [] [(11,b_ false)] (A.Z (A.p (A.d (A.c (A.k [.ld 2,.cq (i_ (fe y)),.p] [11] [(5,i_ (fe y))] [b1] (o1 (qo (fun ww ss=>DW y ww))) (A.c (A.g [.p,.p] [] [(15,b_ ((fe y)!=0))] (A.v rfl (fun e1=> ?_) (fun e1=> ?_)))))))))))
 ·refine A.c (A.g [.p,.p] [0,3,5,15] [(4,i_ (fe y))] (A.e (A.Y [0,0] [i_ (fe y)] (kv) ?_ ?_)))
  ·refine congrArg (Value.int .i64) ?_;unfold iY;cases hm_:cw kv y.hp<;>(simp_all[dF];done)
  unfold lV iY;cases hm_:cw kv y.hp<;>(simp_all[dF];done)
 refine A.p (A.d (A.d3 [10,11] 13 [pB bt mb,di mb kv,cz b1 (dt y) 62] (A.bT 7 [.p,.p,.p,.ld 0,.p,.ld 2] [0,1,2,3,4,5] [(0,p_ bt),(3,p_ b1),(21,.map (some mb)),(23,i_ y.hi)] [bt,b1] (.refl _) (A.bX 6 (some 24) (.tuple #[.agg (dt ((cw kv y.hi).getD dr)).toArray,b_ ((cw kv y.hi).isSome)]) rfl (by kernel_rfl) (by kernel_rfl) (.refl _) (nB (kt:=3) (et:=62) (enck:=(fun k:Int=>i_ k)) (encv:=(fun v_:Cl=>(.agg (dt v_).toArray))) (b:=mb) (kv:=kv) (k:=y.hi) (d0:=dr) (fun ww ss=>ss.mem (i:=1) rfl) rfl rfl rfl (by kernel_rfl) lP (by kernel_rfl) rfl) (A.bT 3 [.p,.p,.p] [7,8,9] [(0,p_ bt),(3,p_ b1),(25,.agg (dt ((cw kv y.hi).getD dr)).toArray),(26,b_ ((cw kv y.hi).isSome))] [] (.refl _) (A.o3 10 rfl (A.ai 6 [i_ 0,i_ 0,b_ false,u_ 0,u_ 0,u_ 0,u_ 0,u_ 0,u_ 0,u_ 0,u_ 0,u_ 0,i_ 0,i_ 0] (by kernel_rfl) rfl (by kernel_rfl) (fun b2=>[pB bt mb,di mb kv,cz b1 (dt y) 62,GB b2]) (fun _=>rfl) ?_)))))))
 intro b2
 refine A.aI (sd [3]) (A.o3 11 rfl (A.sT 3 (dt ((cw kv y.hi).getD dr)) rfl (A.aI (sd [3]) (A.bT 0 [.p] [12] [(0,p_ bt),(3,p_ b1),(7,b_ ((cw kv y.hi).isSome))] [] (sd [3]) (A.f3 (A.d (A.d3 [10,11] 13 [pB bt mb,di mb kv,cz b1 (dt y) 62,cz b2 (dt ((cw kv y.hi).getD dr)) 62] (A.bT 7 [.p,.p,.p,.ld 0,.p,.ld 2] [0,1,2,3,4,5] [(0,p_ bt),(3,p_ b1),(7,b_ ((cw kv y.hi).isSome)),(31,.map (some mb)),(33,i_ y.hp)] [bt,b1] (.refl _) (A.bX 6 (some 34) (.tuple #[.agg (dt ((cw kv y.hp).getD dr)).toArray,b_ ((cw kv y.hp).isSome)]) rfl (by kernel_rfl) (by kernel_rfl) (.refl _) (nB (kt:=3) (et:=62) (enck:=(fun k:Int=>i_ k)) (encv:=(fun v_:Cl=>(.agg (dt v_).toArray))) (b:=mb) (kv:=kv) (k:=y.hp) (d0:=dr) (fun ww ss=>ss.mem (i:=1) rfl) rfl rfl rfl (by kernel_rfl) lP (by kernel_rfl) rfl) (A.bT 3 [.p,.p,.p] [7,8,9] [(0,p_ bt),(3,p_ b1),(7,b_ ((cw kv y.hi).isSome)),(35,.agg (dt ((cw kv y.hp).getD dr)).toArray),(36,b_ ((cw kv y.hp).isSome))] [] (.refl _) (A.o3 10 rfl (A.ai 8 [i_ 0,i_ 0,b_ false,u_ 0,u_ 0,u_ 0,u_ 0,u_ 0,u_ 0,u_ 0,u_ 0,u_ 0,i_ 0,i_ 0] (by kernel_rfl) rfl (by kernel_rfl) (fun b3=>[pB bt mb,di mb kv,cz b1 (dt y) 62,cz b2 (dt ((cw kv y.hi).getD dr)) 62,GB b3]) (fun _=>rfl) ?_))))))))))))
 intro b3
 refine A.aI (sd [4]) (A.o3 11 rfl (A.sT 4 (dt ((cw kv y.hp).getD dr)) rfl (A.aI (sd [4]) (A.bT 0 [.p] [12] [(0,p_ bt),(3,p_ b1),(7,b_ ((cw kv y.hi).isSome)),(8,p_ b3),(9,b_ ((cw kv y.hp).isSome))] [] (sd [4]) (A.f3 (A.d (A.y (A.c (A.g [.p,.p] [7] [(37,b_ ((cw kv y.hi).isSome))] (A.v rfl (fun e2=> ?_) (fun e2=> ?_)))))))))))
 ·refine A.c (A.g [.p] [0,3,8,9,37] [(4,i_ 8)] (A.e (A.Y [0,0] [i_ 8] (kv) ?_ ?_)))
  ·refine congrArg (Value.int .i64) ?_;unfold iY;cases hm_:cw kv y.hp<;>(simp_all[dF];done)
  unfold lV iY;cases hm_:cw kv y.hp<;>(simp_all[dF];done)
 refine A.c (A.gm [.p,.p,.p,.ld 0] [37] [(43,.map (some mb))] [bt] (A.j (A.u (some 44) (c_ kv.length) (rM (kt:=3) (et:=62) (enck:=(fun k:Int=>i_ k)) (encv:=(fun v_:Cl=>(.agg (dt v_).toArray))) (b:=mb) (kv:=kv) (qM 1 rfl) rfl rfl (by kernel_rfl)) (A.g [.p,.p] [43,44] [(39,b_ ((kv.length:Int)==64))] (A.v rfl (fun e3=> ?_) (fun e3=> ?_))))))
 ·refine A.c (A.g [.p] [0,3,8,9,39] [(4,i_ 5)] (A.e (A.Y [0,0] [i_ 5] (kv) ?_ ?_)))
  ·refine congrArg (Value.int .i64) ?_;unfold iY;cases hm_:cw kv y.hp<;>(simp_all[dF];done)
  unfold lV iY;cases hm_:cw kv y.hp<;>(simp_all[dF];done)
 refine A.c (A.gl [.p,.ld 2,.p,.p,.o,.p,.p,.cl,.p,.o,.p,.ld 4,.cl,.p] [8,9,39] [(46,b_ (((y.hp !=0)&&(!((cw kv y.hp).isSome)))||(((cw kv y.hp).getD dr).hl)))] [b1,b3] (A.v rfl (fun e4=> ?_) (fun e4=> ?_)))
 ·refine A.c (A.g [.p] [0,3,46] [(4,i_ 23)] (A.e (A.Y [0,0] [i_ 23] (kv) ?_ ?_)))
  ·refine congrArg (Value.int .i64) ?_;unfold iY;cases hm_:cw kv y.hp<;>(simp_all[dF];done)
  unfold lV iY;cases hm_:cw kv y.hp<;>(simp_all[dF];done)
 refine A.c (A.k [.ld 2,.cq (b_ (decide ((dM y.la y.lb y.lc)>1))),.p,.o,.p,.p,.ld 2,.cq (b_ (iP kv y.hp)),.p,.cl,.p] [46] [(58,b_ ((decide ((dM y.la y.lb y.lc)>1))&&(!(iP kv y.hp))))] [b1,b1] (oc (qo (fun ww ss=>nA y ww)) (o1 (go (true&&((decide ((dM y.la y.lb y.lc)>1))==true)) fun h_=>(qo (fun ww ss=>Cd bt mb kv y.hp ww (ss.mem (i:=0) rfl) (ss.mem (i:=1) rfl)))))) (A.v rfl (fun e5=> ?_) (fun e5=> ?_)))
 ·refine A.c (A.g [.p] [0,3,58] [(4,i_ 29)] (A.e (A.Y [0,0] [i_ 29] (kv) ?_ ?_)))
  ·refine congrArg (Value.int .i64) ?_;unfold iY;cases hm_:cw kv y.hp<;>(simp_all[dF];done)
  unfold lV iY;cases hm_:cw kv y.hp<;>(simp_all[dF];done)
 refine A.c (A.k [.p,.p,.ld 2,.cq (c_ (dep kv y.hp)),.p,.p] [58] [(68,b_ (((dep kv y.hp):Int)==16))] [b1] (o1 (qo (fun ww ss=>Lc bt mb kv y.hp (dep kv y.hp) ‹_› ‹_› ‹_› ww (ss.mem (i:=0) rfl) (ss.mem (i:=1) rfl)))) (A.v rfl (fun e6=> ?_) (fun e6=> ?_)))
 ·refine A.c (A.g [.p] [0,3,68] [(4,i_ 25)] (A.e (A.Y [0,0] [i_ 25] (kv) ?_ ?_)))
  ·refine congrArg (Value.int .i64) ?_;unfold iY;cases hm_:cw kv y.hp<;>(simp_all[dF];done)
  unfold lV iY;cases hm_:cw kv y.hp<;>grind[dF]
 refine A.p (A.d (A.W [7] 8 (A.dT 1 [.p,.p,.p,.ld 0,.p,.ld 2,.ld 2] [0,1,2,3,4,5,6] [0,3,68] [(77,.map (some mb)),(79,i_ y.hi),(80,.agg (dt y).toArray)] [bt,b1,b1] (A.F 7 rfl (A.mP 3 62 1 y.hi y rfl lP (A.E (A.M (A.c (A.h [.p] [(4,i_ 0)] [] (A.e (A.Y [0,0] [i_ 0] (dD kv y.hi y) ?_ ?_)))))))))))
 ·refine congrArg (Value.int .i64) ?_;unfold iY;cases hm_:cw kv y.hp<;>(simp_all[dF];done)
 unfold lV iY;cases hm_:cw kv y.hp<;>(simp_all[dF];done)
def xt(y:Cl):Cv:=⟨y.ra,y.rb,y.rc⟩
def ic(kv:List (Int×Cl))(k:Nat):List Cv:=((dI kv (fun v_=>decide ((dM v_.ra v_.rb v_.rc)>1))).take k).map fun i=>xt ((cw kv i).getD dr)
def ie(kv:List (Int×Cl)):List Cv:=(dI kv (fun v_=>decide ((dM v_.ra v_.rb v_.rc)>1))).map fun i=>xt ((cw kv i).getD dr)
variable{i:Int}
theorem DD(h:(dI kv (fun v_=>decide ((dM v_.ra v_.rb v_.rc)>1)))[k]? =some i):ic kv k++[(⟨((cw kv i).getD dr).ra,((cw kv i).getD dr).rb,((cw kv i).getD dr).rc⟩:Cv)]=ic kv (k+1):=by
 unfold ic;rw[List.take_add_one,h];simp[xt]
theorem DX(h:(dI kv (fun v_=>decide ((dM v_.ra v_.rb v_.rc)>1))).length≤k):ic kv k=ie kv:=by unfold ic ie;rw[List.take_of_length_le h]
theorem Jr(kv:List (Int×Cl))(k:Nat):(ic kv k).length≤k:=by unfold ic;simp;omega
theorem ns(kv:List (Int×Cl))(f:Cl→Bool):(dI kv f).length≤kv.length:=by
 unfold dI;rw[nE,List.length_map];exact List.length_filter_le _ _
abbrev uA:=((1,.func (.func 129) #[] #[]):Nat×Value)
theorem N3(w:World):
  CW 89 #[n_] w e_:=by
 refine A.C Tryz.func89 rfl (HS.nil w) (A.c (A.g [.p] [] [] (A.c (A.O [.p] [0] [(3,n_)] (A.j (A.iX (some 4) [n_,.func (.func 129) #[] #[]] Tryz.func128 rfl (A.c (A.g [.p] [] [] (A.d (A.c (A.g [.p,.p] [] [(9,b_ true)] (A.ct (A.c (A.g [.p] [0,1,9] [(4,e_)] (A.e (A.pb [e_] (A.h [.p] [(2,e_)] [] (A.e (A.N [e_] ?_)))))))))))))))))))
 rfl
abbrev rY(p0):=((.agg (dt p0).toArray):Value)
abbrev oy(p0):=(.agg (dt p0).toArray:Value)
abbrev mA(p0)(p1)(p2)(p3):=(vS p0 (df p1 (fun v_=>true) p2) p3:Value)
theorem Ag(bt mb:Nat)(kv:List (Int×Cl))(hl:kv.length≤1000)(w:World)(r0:(cz bt [.map (some mb)] 185).holds w)(r1:(di mb kv).holds w)(hs:HI w []):
  CV 89 #[p_ bt] w [] (fun((al',cl'):(Option Addr)×Nat)=>(vS al' (dI kv (fun v_=>true)) cl')) (fun _=>True) fun(al',cl')=>[sI al' (dI kv (fun v_=>true)) cl']:=by
 refine A.C Tryz.func89 rfl hs (A.c (A.g [.p] [] [] (A.c (A.O [.p] [0] [(3,p_ bt)] (A.j (A.iX (some 4) [p_ bt,.func (.func 129) #[] #[]] Tryz.func128 rfl (A.c (A.g [.p] [] [] (A.d (A.c (A.g [.p,.p] [] [(9,b_ false)] (A.Z (A.p (A.c (A.g [.p] [9] [(5,e_)] (A.d (A.c (A.kp [.p,.p,.p,.rd [.map (some mb)]] [0] [(13,.map (some mb))] [] (o1 (ro ⟨bt,0,none⟩ (vs:=[.map (some mb)]) (dj r0 rfl))) ?_))))))))))))))))))
 obtain⟨⟨es1,cl1,hhp1,hEn1,hbo1,hnd1⟩,hkn1⟩:=id r1
 refine A.j (A.bL (kt:=3) (et:=62) (es:=es1) (clock:=cl1) 14 (by kernel_rfl) rfl rfl (by kernel_rfl) (fun ww ss=>lz ss hhp1 (by simp[dG])) (fun b2=>[gJ b2 mb es1 cl1 ([]:List Nat)]) (fun _=>rfl) ?_)
 intro b2
 refine A.aC (A.y (A.aP 3 1 [gJ b2 mb es1 cl1 ([]:List Nat),sI none ([]:List Int) 0] rfl (A.su 1 (sI none (df kv (fun v_=>true) ([]:List Nat)) 0) rfl (eI (by rfl:([]:List Int)=(df kv (fun v_=>true) ([]:List Nat)))) (A.aS [uA,(5,vS none (df kv (fun v_=>true) ([]:List Nat)) 0),(13,.map (some mb)),(14,p_ b2)] ⟨rfl,congrArg (fun z_:List Int=>some (Value.slice none z_.length 0)) (by rfl:([]:List Int)=(df kv (fun v_=>true) ([]:List Nat))),rfl,rfl,trivial⟩ (A.lp (σ:=(List Nat)×(Option Addr)×Nat) [13] (fun(seen,ao,co)=>[(5,mA ao kv seen co)]) [0,0] (fun(seen,ao,co)=>[gJ b2 mb es1 cl1 seen,sI ao (df kv (fun v_=>true) seen) co]) (fun(seen,ao,co)=>seen.Nodup∧(∀j∈seen,j<kv.length)) (fun(seen,ao,co)=>kv.length-seen.length) (([]:List Nat),none,0) ⟨(by simp),(by simp)⟩ ?_ ?_)))))
 ·exact A.I [0,0]
 rintro⟨seen,ao,co⟩ ⟨hn,hb⟩
 have hsl:=rQ hn hb;have hsk:=vd kv (fun v_=>true) seen
 refine A.c (A.j (A.bM (enck:=(fun k:Int=>i_ k)) (encv:=(fun v_:Cl=>(rY v_))) (kv:=kv) 0 15 (by kernel_rfl) rfl rfl rfl (fun ww ss=>lz ss hhp1 (by simp[dG])) hEn1 hbo1 hnd1 ‹_› (fun j4=>[gJ b2 mb es1 cl1 (seen++[j4]),sI ao (df kv (fun v_=>true) seen) co]) (fun _=>rfl) (fun hall4=> ?_) (fun j4 mk4 mv4 hj4 hn4=> ?_)))
 ·refine A.h [.p] [uA,(14,p_ b2),(5,mA ao kv seen co),(16,b_ false)] [] (A.d (A.Z (A.aB (A.c (A.O [.p] [1,14,16] [(27,mA ao kv seen co)] (A.j (A.J (some 28) [1] (fun ww ss hh=>tU ao (df kv (fun v_=>true) seen) co (by omega) ww hh) ?_)))))))
  rintro⟨⟩-
  refine A.aC (A.c (A.g [.p,.p] [5,27,28] [(4,mA ao kv seen co)] (A.e (A.pb [mA ao kv seen co] (A.h [.p] [(2,mA ao kv seen co)] [] (A.e (A.su 0 (sI ao (dI kv (fun v_=>true)) co) rfl (eI (qS hn hb ‹_›:(gg (df kv (fun v_=>true) seen))=(dI kv (fun v_=>true)))) (A.Y [0] [mA ao kv seen co] (ao,co) ?_ ?_))))))))
  ·show((mA ao kv seen co):Value)=(vS ao (dI kv (fun v_=>true)) co)
   rw[←qS (f:=fun v_=>true) hn hb ‹_›];unfold vS;rw[nE]
  trivial
 refine A.h [.p] [uA,(14,p_ b2),(5,mA ao kv seen co),(16,b_ true)] [] (A.d (A.ct (A.p (A.y (A.c (A.j (A.u (some 17) (.tuple #[i_ mk4,oy mv4]) (vk (enck:=(fun k:Int=>i_ k)) (encv:=(fun v_:Cl=>(rY v_))) (kv:=kv) (k:=mk4) (v:=mv4) 0 j4 rfl rfl rfl (fun ww ss=>lz ss hhp1 (by simp[dG])) hEn1 hnd1 hj4) (A.aH [.p,.p,.al,.p,.st 2] [1,14,5,7,6] (fun b5=>[uA,(14,p_ b2),(5,mA ao kv seen co),(7,p_ b5),(6,i_ mk4)]) (fun b5=>[gJ b2 mb es1 cl1 (seen++[j4]),sI ao (df kv (fun v_=>true) seen) co,cz b5 (dt mv4) 62]) (fun b5=>[b5]) (fun _=>T0) (fun _=>by kernel_rfl) (fun b5=>trivial) ?_))))))))
 intro b5
 refine A.c (A.gm [.p,.ld 2] [7] [(20,.func (.func 129) #[] #[]),(21,oy mv4)] [b5] (A.j (A.iX (some 22) [oy mv4] Tryz.func129 rfl (A.c (A.n1 [.al,.p] [0] (fun b6=>[]) (fun b6=>cz b6 (dt mv4) 62) ?_)))))
 intro b6
 refine A.c (A.g [.p] [] [(2,b_ true)] (A.e (A.pb [b_ true] (A.aM [gJ b2 mb es1 cl1 (seen++[j4]),sI ao (df kv (fun v_=>true) seen) co] (sd [3,2]) (A.aC (A.ct (A.s (A.hp [.p,.p] [uA,(14,p_ b2),(5,mA ao kv seen co),(23,mA ao kv seen co),(24,i_ mk4)] [] (A.j (A.aF 25 (e:=3) [i_ mk4] (by kernel_rfl) rfl (fun _=>by kernel_rfl) _ (fun _=>rfl) ?_))))))))))
 intro b7
 refine A.j (A.ap j9 (df kv (fun v_=>true) seen) ([mk4]) 1 26 (i_ 0) 8 fE lO (gZ (i:=2) rfl) (by simp;omega) ?_)
 intro A8 c8
 refine A.g [.p] [23,24,25,26] [(5,vS A8 ((df kv (fun v_=>true) seen)++([mk4])) c8)] ((A.su 1 (sI A8 (df kv (fun v_=>true) (seen++[j4])) c8) rfl (eI (pN ‹_› (by rfl):(df kv (fun v_=>true) seen)++([mk4])=(df kv (fun v_=>true) (seen++[j4])))) (A.D 5 (vS A8 (df kv (fun v_=>true) (seen++[j4])) c8) (fJ (pN ‹_› (by rfl))) (A.aA ((seen++[j4]),A8,c8) ⟨((jI hn hb ‹_› ‹_›).1),((jI hn hb ‹_› ‹_›).2.1)⟩ (by((have h_:=(jI hn hb ‹_› ‹_›).2.2);simp;omega)) ?_))))
 exact A.I [0,0]
abbrev rZ:=((1,.func (.func 142) #[] #[]):Nat×Value)
theorem K0(bt mb:Nat)(kv:List (Int×Cl))(hl:kv.length≤1000)(w:World)(r0:(cz bt [.map (some mb)] 185).holds w)(r1:(di mb kv).holds w)(hs:HI w []):
  CV 105 #[p_ bt] w [] (fun((al',cl'):(Option Addr)×Nat)=>(vS al' (dI kv (fun v_=>v_.hl)) cl')) (fun _=>True) fun(al',cl')=>[sI al' (dI kv (fun v_=>v_.hl)) cl']:=by
 refine A.C Tryz.func105 rfl hs (A.c (A.g [.p] [] [] (A.c (A.O [.p] [0] [(3,p_ bt)] (A.j (A.iX (some 4) [p_ bt,.func (.func 142) #[] #[]] Tryz.func128 rfl (A.c (A.g [.p] [] [] (A.d (A.c (A.g [.p,.p] [] [(9,b_ false)] (A.Z (A.p (A.c (A.g [.p] [9] [(5,e_)] (A.d (A.c (A.kp [.p,.p,.p,.rd [.map (some mb)]] [0] [(13,.map (some mb))] [] (o1 (ro ⟨bt,0,none⟩ (vs:=[.map (some mb)]) (dj r0 rfl))) ?_))))))))))))))))))
 obtain⟨⟨es1,cl1,hhp1,hEn1,hbo1,hnd1⟩,hkn1⟩:=id r1
 refine A.j (A.bL (kt:=3) (et:=62) (es:=es1) (clock:=cl1) 14 (by kernel_rfl) rfl rfl (by kernel_rfl) (fun ww ss=>lz ss hhp1 (by simp[dG])) (fun b2=>[gJ b2 mb es1 cl1 ([]:List Nat)]) (fun _=>rfl) ?_)
 intro b2
 refine A.aC (A.y (A.aP 3 1 [gJ b2 mb es1 cl1 ([]:List Nat),sI none ([]:List Int) 0] rfl (A.su 1 (sI none (df kv (fun v_=>v_.hl) ([]:List Nat)) 0) rfl (eI (by rfl:([]:List Int)=(df kv (fun v_=>v_.hl) ([]:List Nat)))) (A.aS [rZ,(5,vS none (df kv (fun v_=>v_.hl) ([]:List Nat)) 0),(13,.map (some mb)),(14,p_ b2)] ⟨rfl,congrArg (fun z_:List Int=>some (Value.slice none z_.length 0)) (by rfl:([]:List Int)=(df kv (fun v_=>v_.hl) ([]:List Nat))),rfl,rfl,trivial⟩ (A.lp (σ:=(List Nat)×(Option Addr)×Nat) [13] (fun(seen,ao,co)=>[(5,vS ao (df kv (fun v_=>v_.hl) seen) co)]) [0,0] (fun(seen,ao,co)=>[gJ b2 mb es1 cl1 seen,sI ao (df kv (fun v_=>v_.hl) seen) co]) (fun(seen,ao,co)=>seen.Nodup∧(∀j∈seen,j<kv.length)) (fun(seen,ao,co)=>kv.length-seen.length) (([]:List Nat),none,0) ⟨(by simp),(by simp)⟩ ?_ ?_)))))
 ·exact A.I [0,0]
 rintro⟨seen,ao,co⟩ ⟨hn,hb⟩
 have hsl:=rQ hn hb;have hsk:=vd kv (fun v_=>v_.hl) seen
 refine A.c (A.j (A.bM (enck:=(fun k:Int=>i_ k)) (encv:=(fun v_:Cl=>(rY v_))) (kv:=kv) 0 15 (by kernel_rfl) rfl rfl rfl (fun ww ss=>lz ss hhp1 (by simp[dG])) hEn1 hbo1 hnd1 ‹_› (fun j4=>[gJ b2 mb es1 cl1 (seen++[j4]),sI ao (df kv (fun v_=>v_.hl) seen) co]) (fun _=>rfl) (fun hall4=> ?_) (fun j4 mk4 mv4 hj4 hn4=> ?_)))
 ·refine A.h [.p] [rZ,(14,p_ b2),(5,vS ao (df kv (fun v_=>v_.hl) seen) co),(16,b_ false)] [] (A.d (A.Z (A.aB (A.c (A.O [.p] [1,14,16] [(27,vS ao (df kv (fun v_=>v_.hl) seen) co)] (A.j (A.J (some 28) [1] (fun ww ss hh=>tU ao (df kv (fun v_=>v_.hl) seen) co (by omega) ww hh) ?_)))))))
  rintro⟨⟩-
  refine A.aC (A.c (A.g [.p,.p] [5,27,28] [(4,vS ao (df kv (fun v_=>v_.hl) seen) co)] (A.e (A.pb [vS ao (df kv (fun v_=>v_.hl) seen) co] (A.h [.p] [(2,vS ao (df kv (fun v_=>v_.hl) seen) co)] [] (A.e (A.su 0 (sI ao (dI kv (fun v_=>v_.hl)) co) rfl (eI (qS hn hb ‹_›:(gg (df kv (fun v_=>v_.hl) seen))=(dI kv (fun v_=>v_.hl)))) (A.Y [0] [vS ao (df kv (fun v_=>v_.hl) seen) co] (ao,co) ?_ ?_))))))))
  ·show((vS ao (df kv (fun v_=>v_.hl) seen) co):Value)=(vS ao (dI kv (fun v_=>v_.hl)) co)
   rw[←qS (f:=fun v_=>v_.hl) hn hb ‹_›];unfold vS;rw[nE]
  trivial
 refine A.h [.p] [rZ,(14,p_ b2),(5,vS ao (df kv (fun v_=>v_.hl) seen) co),(16,b_ true)] [] (A.d (A.ct (A.p (A.y (A.c (A.j (A.u (some 17) (.tuple #[i_ mk4,oy mv4]) (vk (enck:=(fun k:Int=>i_ k)) (encv:=(fun v_:Cl=>(rY v_))) (kv:=kv) (k:=mk4) (v:=mv4) 0 j4 rfl rfl rfl (fun ww ss=>lz ss hhp1 (by simp[dG])) hEn1 hnd1 hj4) (A.aH [.p,.p,.al,.p,.st 2] [1,14,5,7,6] (fun b5=>[rZ,(14,p_ b2),(5,vS ao (df kv (fun v_=>v_.hl) seen) co),(7,p_ b5),(6,i_ mk4)]) (fun b5=>[gJ b2 mb es1 cl1 (seen++[j4]),sI ao (df kv (fun v_=>v_.hl) seen) co,cz b5 (dt mv4) 62]) (fun b5=>[b5]) (fun _=>T0) (fun _=>by kernel_rfl) (fun b5=>trivial) ?_))))))))
 intro b5
 refine A.c (A.gm [.p,.ld 2] [7] [(20,.func (.func 142) #[] #[]),(21,oy mv4)] [b5] (A.j (A.iX (some 22) [oy mv4] Tryz.func142 rfl (A.c (A.n1 [.al,.p] [0] (fun b6=>[(1,p_ b6)]) (fun b6=>cz b6 (dt mv4) 62) ?_)))))
 intro b6
 refine A.c (A.gl [.p,.ld 3,.p] [1] [(2,b_ mv4.hl)] [b6] (A.e (A.pb [b_ mv4.hl] (A.aM [gJ b2 mb es1 cl1 (seen++[j4]),sI ao (df kv (fun v_=>v_.hl) seen) co] (sd [3,2]) (A.aC (A.cn mv4.hl (fun e2=> ?_) (fun e2=> ?_)))))))
 ·refine A.s (A.hp [.p,.p] [rZ,(14,p_ b2),(5,vS ao (df kv (fun v_=>v_.hl) seen) co),(23,vS ao (df kv (fun v_=>v_.hl) seen) co),(24,i_ mk4)] [] (A.j (A.aF 25 (e:=3) [i_ mk4] (by kernel_rfl) rfl (fun _=>by kernel_rfl) _ (fun _=>rfl) ?_)))
  intro b7
  refine A.j (A.ap j9 (df kv (fun v_=>v_.hl) seen) ([mk4]) 1 26 (i_ 0) 8 fE lO (gZ (i:=2) rfl) (by simp;omega) ?_)
  intro A8 c8
  refine A.g [.p] [23,24,25,26] [(5,vS A8 ((df kv (fun v_=>v_.hl) seen)++([mk4])) c8)] ((A.su 1 (sI A8 (df kv (fun v_=>v_.hl) (seen++[j4])) c8) rfl (eI (pN ‹_› ‹_›:(df kv (fun v_=>v_.hl) seen)++([mk4])=(df kv (fun v_=>v_.hl) (seen++[j4])))) (A.D 5 (vS A8 (df kv (fun v_=>v_.hl) (seen++[j4])) c8) (fJ (pN ‹_› ‹_›)) (A.aA ((seen++[j4]),A8,c8) ⟨((jI hn hb ‹_› ‹_›).1),((jI hn hb ‹_› ‹_›).2.1)⟩ (by((have h_:=(jI hn hb ‹_› ‹_›).2.2);simp;omega)) ?_))))
  exact A.I [0,0]
 refine A.p (A.su 1 (sI ao (df kv (fun v_=>v_.hl) (seen++[j4])) co) rfl (eI (sJ ‹_› ‹_›:(df kv (fun v_=>v_.hl) seen)=(df kv (fun v_=>v_.hl) (seen++[j4])))) (A.aS [rZ,(14,p_ b2),(5,vS ao (df kv (fun v_=>v_.hl) (seen++[j4])) co),(6,i_ mk4),(20,.func (.func 142) #[] #[]),(21,oy mv4),(22,b_ mv4.hl)] ⟨rfl,rfl,fJ (by exact sJ ‹_› ‹_›),rfl,rfl,rfl,rfl,trivial⟩ (A.aA ((seen++[j4]),ao,co) ⟨((jI hn hb ‹_› ‹_›).1),((jI hn hb ‹_› ‹_›).2.1)⟩ (by((have h_:=(jI hn hb ‹_› ‹_›).2.2);simp;omega)) ?_)))
 exact A.I [0,0]
abbrev zZ(p0)(p1)(p2)(p3):=(sI p0 (df p1 (fun v_=>decide ((dM v_.ra v_.rb v_.rc)>1)) p2) p3:V.dC)
abbrev wB:=((1,.func (.func 103) #[] #[]):Nat×Value)
abbrev uB(p0)(p1)(p2):=(vS p0 (dI p1 (fun v_=>decide ((dM v_.ra v_.rb v_.rc)>1))) p2:Value)
abbrev re(p0)(p1)(p2)(p3):=(vS p0 (df p1 (fun v_=>decide ((dM v_.ra v_.rb v_.rc)>1)) p2) p3:Value)
theorem E8(bt mb:Nat)(kv:List (Int×Cl))(hl:kv.length≤1000)(w:World)(r0:(cz bt [.map (some mb)] 185).holds w)(r1:(di mb kv).holds w)(hs:HI w []):
  CV 94 #[p_ bt] w [] (fun((al',cl'):(Option Addr)×Nat)=>(vS al' (ie kv) cl')) (fun _=>True) fun(al',cl')=>[tC al' (ie kv) cl']:=by
 have hkl:=ns kv (fun v_=>decide ((dM v_.ra v_.rb v_.rc)>1))
 refine A.C Tryz.func94 rfl hs (A.c (A.g [.p] [] [] (A.c (A.g [.p] [] [(3,e_)] (A.d (A.c (A.O [.p] [] [(6,p_ bt)] (A.j (A.iX (some 7) [p_ bt,.func (.func 103) #[] #[]] Tryz.func128 rfl (A.c (A.g [.p] [] [] (A.d (A.c (A.g [.p,.p] [] [(9,b_ false)] (A.Z (A.p (A.c (A.g [.p] [9] [(5,e_)] (A.d (A.c (A.kp [.p,.p,.p,.rd [.map (some mb)]] [0] [(13,.map (some mb))] [] (o1 (ro ⟨bt,0,none⟩ (vs:=[.map (some mb)]) (dj r0 rfl))) ?_)))))))))))))))))))))
 obtain⟨⟨es1,cl1,hhp1,hEn1,hbo1,hnd1⟩,hkn1⟩:=id r1
 refine A.j (A.bL (kt:=3) (et:=62) (es:=es1) (clock:=cl1) 14 (by kernel_rfl) rfl rfl (by kernel_rfl) (fun ww ss=>lz ss hhp1 (by simp[dG])) (fun b2=>[gJ b2 mb es1 cl1 ([]:List Nat)]) (fun _=>rfl) ?_)
 intro b2
 refine A.aC (A.y (A.aP 3 1 [gJ b2 mb es1 cl1 ([]:List Nat),sI none ([]:List Int) 0] rfl (A.su 1 (sI none (df kv (fun v_=>decide ((dM v_.ra v_.rb v_.rc)>1)) ([]:List Nat)) 0) rfl (eI (by rfl:([]:List Int)=(df kv (fun v_=>decide ((dM v_.ra v_.rb v_.rc)>1)) ([]:List Nat)))) (A.aS [wB,(5,vS none (df kv (fun v_=>decide ((dM v_.ra v_.rb v_.rc)>1)) ([]:List Nat)) 0),(13,.map (some mb)),(14,p_ b2)] ⟨rfl,congrArg (fun z_:List Int=>some (Value.slice none z_.length 0)) (by rfl:([]:List Int)=(df kv (fun v_=>decide ((dM v_.ra v_.rb v_.rc)>1)) ([]:List Nat))),rfl,rfl,trivial⟩ (A.lp (σ:=(List Nat)×(Option Addr)×Nat) [13] (fun(seen,ao,co)=>[(5,re ao kv seen co)]) [0,0] (fun(seen,ao,co)=>[gJ b2 mb es1 cl1 seen,zZ ao kv seen co]) (fun(seen,ao,co)=>seen.Nodup∧(∀j∈seen,j<kv.length)) (fun(seen,ao,co)=>kv.length-seen.length) (([]:List Nat),none,0) ⟨(by simp),(by simp)⟩ ?_ ?_)))))
 ·exact A.I [0,0]
 rintro⟨seen,ao,co⟩ ⟨hn,hb⟩
 have hsl:=rQ hn hb;have hsk:=vd kv (fun v_=>decide ((dM v_.ra v_.rb v_.rc)>1)) seen
 refine A.c (A.j (A.bM (enck:=(fun k:Int=>i_ k)) (encv:=(fun v_:Cl=>(rY v_))) (kv:=kv) 0 15 (by kernel_rfl) rfl rfl rfl (fun ww ss=>lz ss hhp1 (by simp[dG])) hEn1 hbo1 hnd1 ‹_› (fun j4=>[gJ b2 mb es1 cl1 (seen++[j4]),zZ ao kv seen co]) (fun _=>rfl) (fun hall4=> ?_) (fun j4 mk4 mv4 hj4 hn4=> ?_)))
 ·refine A.h [.p] [wB,(14,p_ b2),(5,re ao kv seen co),(16,b_ false)] [] (A.d (A.Z (A.aB (A.c (A.O [.p] [1,14,16] [(27,re ao kv seen co)] (A.j (A.J (some 28) [1] (fun ww ss hh=>tU ao (df kv (fun v_=>decide ((dM v_.ra v_.rb v_.rc)>1)) seen) co (by omega) ww hh) ?_)))))))
  rintro⟨⟩-
  refine A.aC (A.d ?_)
  have hcv5:(gg (df kv (fun v_=>decide ((dM v_.ra v_.rb v_.rc)>1)) seen))=(dI kv (fun v_=>decide ((dM v_.ra v_.rb v_.rc)>1))):=qS hn hb ‹_›
  refine A.su 0 (sI ao (dI kv (fun v_=>decide ((dM v_.ra v_.rb v_.rc)>1))) co) rfl (eI hcv5) (A.D 5 (uB ao kv co) (dm (by rw[←hcv5,nE])) (A.D 27 (uB ao kv co) (dm (by rw[←hcv5,nE])) (A.s (A.g [.p,.p] [5,27,28] [(4,uB ao kv co)] (A.e (A.pb [uB ao kv co] (A.h [.p,.p] [(0,p_ bt),(3,e_),(7,uB ao kv co),(8,i_ ((dI kv (fun v_=>decide ((dM v_.ra v_.rb v_.rc)>1))).length:Int)),(9,i_ 0)] [] (A.y (A.aP 60 3 [sI ao (dI kv (fun v_=>decide ((dM v_.ra v_.rb v_.rc)>1))) co,gJ b2 mb es1 cl1 seen,tC none ([]:List Cv) 0] rfl (A.su 2 (tC none (ic kv 0) 0) rfl (eI (by rfl:([]:List Cv)=(ic kv 0))) (A.D 3 (vS none (ic kv 0) 0) (congrArg (fun z_:List Cv=>some (Value.slice none z_.length 0)) (by rfl:([]:List Cv)=(ic kv 0))) (A.lp (σ:=Nat×(Option Addr)×Nat) [] (fun(k,ar,cr)=>[(9,c_ k),(3,vS ar (ic kv k) cr)]) [2] (fun(k,ar,cr)=>[tC ar (ic kv k) cr]) (fun(k,ar,cr)=>(k≤(dI kv (fun v_=>decide ((dM v_.ra v_.rb v_.rc)>1))).length)) (fun(k,ar,cr)=>(dI kv (fun v_=>decide ((dM v_.ra v_.rb v_.rc)>1))).length-k) (0,none,0) (by omega) ?_ ?_))))))))))))
  ·exact A.I [2,0,0]
  rintro⟨k,ar,cr⟩ hk
  have hk:k≤(dI kv (fun v_=>decide ((dM v_.ra v_.rb v_.rc)>1))).length:=hk
  have hrl:=Jr kv k
  refine A.c (A.g [.p] [] [(10,b_ (decide ((k:Int)<((dI kv (fun v_=>decide ((dM v_.ra v_.rb v_.rc)>1))).length:Int))))] (A.d (A.v rfl (fun e2=> ?_) (fun e2=> ?_))))
  ·have p2:=of_decide_eq_true e2
   refine A.p (A.d (A.y (A.c (A.kp [.ix] [10] [(11,.pointer (some ((dV ao).add (k*1))))] [] (o1 (dY 1 k fE rfl (by omega))) ?_))))
   obtain⟨x7,hx7⟩: ∃x,((dI kv (fun v_=>decide ((dM v_.ra v_.rb v_.rc)>1))))[k]? =some x:=⟨_,List.getElem?_eq_getElem (by omega)⟩
   refine A.k [.rd [i_ x7],.p] [11] [(5,i_ x7)] [] (o1 (eK 1 k [i_ x7] fE rfl hx7)) (A.s (A.kp [.p,.p,.p,.p,.rd [.map (some mb)],.p] [5] [(13,vS ar (ic kv k) cr),(17,.map (some mb)),(18,i_ x7)] [] (o1 (ro ⟨bt,0,none⟩ (vs:=[.map (some mb)]) (dj r0 rfl))) (A.j (A.u (some 19) _ (qL 3 62 x7 dr (fun ww ss=>da ss r1) lP) (A.O [.p] [17,18,19] [(20,.agg #[u_ (((cw kv x7).getD dr).ra),u_ (((cw kv x7).getD dr).rb),u_ (((cw kv x7).getD dr).rc)])] (A.j (A.aF 21 (e:=60) [u_ (((cw kv x7).getD dr).ra),u_ (((cw kv x7).getD dr).rb),u_ (((cw kv x7).getD dr).rc)] (by kernel_rfl) rfl (fun _=>by kernel_rfl) _ (fun _=>rfl) ?_)))))))
   intro b8
   refine A.j (A.ap eo (ic kv k) ([(⟨((cw kv x7).getD dr).ra,((cw kv x7).getD dr).rb,((cw kv x7).getD dr).rc⟩:Cv)]) 0 22 (.agg #[u_ 0,u_ 0,u_ 0]) 24 nr KX (gZ (i:=3) rfl) (by(simp only[List.length_append,List.length_cons,List.length_nil];omega)) ?_)
   intro A9 c9
   refine A.g [.p] [13,20,21,22] [(3,vS A9 ((ic kv k)++([(⟨((cw kv x7).getD dr).ra,((cw kv x7).getD dr).rb,((cw kv x7).getD dr).rc⟩:Cv)])) c9)] (A.s (A.k [.w ((k:Int)+1),.p] [] [(9,i_ ((k:Int)+1))] [] (o1 (wj ((k:Int)+1) (by omega))) (A.su 0 (tC A9 (ic kv (k+1)) c9) rfl (eI (DD ‹_›:(ic kv k)++([(⟨((cw kv x7).getD dr).ra,((cw kv x7).getD dr).rb,((cw kv x7).getD dr).rc⟩:Cv)])=(ic kv (k+1)))) (A.D 3 (vS A9 (ic kv (k+1)) c9) (fJ (DD ‹_›)) (A.aA (k+1,A9,c9) (by omega) (by(simp_all;omega)) ?_)))))
   exact A.I [0,0,0]
  have p2:=of_decide_eq_false e2
  refine A.aB (A.c (A.g [.p,.p] [0,7,8,9,3,10] [(2,vS ar (ic kv k) cr)] (A.e (A.su 0 (tC ar (ie kv) cr) rfl (eI (DX (by omega):(ic kv k)=(ie kv))) (A.Y [0] [vS ar (ic kv k) cr] (ar,cr) ?_ ?_)))))
  ·show((vS ar (ic kv k) cr):Value)=(vS ar (ie kv) cr)
   rw[DX (by omega)]
  trivial
 refine A.h [.p] [wB,(14,p_ b2),(5,re ao kv seen co),(16,b_ true)] [] (A.d (A.ct (A.p (A.y (A.c (A.j (A.u (some 17) (.tuple #[i_ mk4,oy mv4]) (vk (enck:=(fun k:Int=>i_ k)) (encv:=(fun v_:Cl=>(rY v_))) (kv:=kv) (k:=mk4) (v:=mv4) 0 j4 rfl rfl rfl (fun ww ss=>lz ss hhp1 (by simp[dG])) hEn1 hnd1 hj4) (A.aH [.p,.p,.al,.p,.st 2] [1,14,5,7,6] (fun b10=>[wB,(14,p_ b2),(5,re ao kv seen co),(7,p_ b10),(6,i_ mk4)]) (fun b10=>[gJ b2 mb es1 cl1 (seen++[j4]),zZ ao kv seen co,cz b10 (dt mv4) 62]) (fun b10=>[b10]) (fun _=>T0) (fun _=>by kernel_rfl) (fun b10=>trivial) ?_))))))))
 intro b10
 refine A.c (A.k [.p,.ld 2,.cq (b_ (decide ((dM mv4.ra mv4.rb mv4.rc)>1)))] [7] [(22,b_ (decide ((dM mv4.ra mv4.rb mv4.rc)>1)))] [b10] (o1 (qo (fun ww ss=>qI mv4 ww))) (A.v rfl (fun e3=> ?_) (fun e3=> ?_)))
 ·have p3:=of_decide_eq_true e3
  refine A.s (A.O [.p,.p] [6,22] [(23,re ao kv seen co),(24,i_ mk4)] (A.j (A.aF 25 (e:=3) [i_ mk4] (by kernel_rfl) rfl (fun _=>by kernel_rfl) _ (fun _=>rfl) ?_)))
  intro b11
  refine A.j (A.ap j9 (df kv (fun v_=>decide ((dM v_.ra v_.rb v_.rc)>1)) seen) ([mk4]) 1 26 (i_ 0) 8 fE lO (gZ (i:=3) rfl) (by(simp only[List.length_append,List.length_cons,List.length_nil];omega)) ?_)
  intro A12 c12
  refine A.g [.p] [23,24,25,26] [(5,vS A12 ((df kv (fun v_=>decide ((dM v_.ra v_.rb v_.rc)>1)) seen)++([mk4])) c12)] ((A.su 1 (sI A12 (df kv (fun v_=>decide ((dM v_.ra v_.rb v_.rc)>1)) (seen++[j4])) c12) rfl (eI (pN ‹_› ‹_›:(df kv (fun v_=>decide ((dM v_.ra v_.rb v_.rc)>1)) seen)++([mk4])=(df kv (fun v_=>decide ((dM v_.ra v_.rb v_.rc)>1)) (seen++[j4])))) (A.D 5 (vS A12 (df kv (fun v_=>decide ((dM v_.ra v_.rb v_.rc)>1)) (seen++[j4])) c12) (fJ (pN ‹_› ‹_›)) (A.aA ((seen++[j4]),A12,c12) ⟨((jI hn hb ‹_› ‹_›).1),((jI hn hb ‹_› ‹_›).2.1)⟩ (by((have h_:=(jI hn hb ‹_› ‹_›).2.2);simp;omega)) ?_))))
  exact A.I [0,0]
 have p3:=of_decide_eq_false e3
 refine A.p (A.su 1 (sI ao (df kv (fun v_=>decide ((dM v_.ra v_.rb v_.rc)>1)) (seen++[j4])) co) rfl (eI (sJ ‹_› ‹_›:(df kv (fun v_=>decide ((dM v_.ra v_.rb v_.rc)>1)) seen)=(df kv (fun v_=>decide ((dM v_.ra v_.rb v_.rc)>1)) (seen++[j4])))) (A.D 5 (vS ao (df kv (fun v_=>decide ((dM v_.ra v_.rb v_.rc)>1)) (seen++[j4])) co) (fJ (sJ ‹_› ‹_›)) (A.aA ((seen++[j4]),ao,co) ⟨((jI hn hb ‹_› ‹_›).1),((jI hn hb ‹_› ‹_›).2.1)⟩ (by((have h_:=(jI hn hb ‹_› ‹_›).2.2);simp;omega)) ?_)))
 exact A.I [0,0]
abbrev rX(p0):=((1,.func (.func 225) #[] #[p_ p0]):Nat×Value)
theorem yG(bt mb:Nat)(kv:List (Int×Cl))(ci:Int)(hl:kv.length≤1000)(w:World)(r0:(cz bt [.map (some mb)] 185).holds w)(r1:(di mb kv).holds w)(hs:HI w []):
  CV 173 #[p_ bt,i_ ci] w [] (fun((al',cl'):(Option Addr)×Nat)=>(vS al' (dI kv (fun v_=>v_.hp==ci)) cl')) (fun _=>True) fun(al',cl')=>[sI al' (dI kv (fun v_=>v_.hp==ci)) cl']:=by
 refine A.C Tryz.func173 rfl hs (A.c (A.n1 [.al,.p] [1] (fun b1=>[(3,p_ b1)]) (fun b1=>cz b1 [i_ ci] 3) ?_))
 intro b1
 refine A.c (A.O [.p,.p] [0,3] [(5,p_ bt),(6,.func (.func 225) #[] #[p_ b1])] (A.j (A.iX (some 7) [p_ bt,.func (.func 225) #[] #[p_ b1]] Tryz.func128 rfl (A.c (A.g [.p] [] [] (A.d (A.c (A.g [.p,.p] [] [(9,b_ false)] (A.Z (A.p (A.c (A.g [.p] [9] [(5,e_)] (A.d (A.c (A.kp [.p,.p,.p,.rd [.map (some mb)]] [0] [(13,.map (some mb))] [] (o1 (ro ⟨bt,0,none⟩ (vs:=[.map (some mb)]) (dj r0 rfl))) ?_)))))))))))))))
 obtain⟨⟨es2,cl2,hhp2,hEn2,hbo2,hnd2⟩,hkn2⟩:=id r1
 refine A.j (A.bL (kt:=3) (et:=62) (es:=es2) (clock:=cl2) 14 (by kernel_rfl) rfl rfl (by kernel_rfl) (fun ww ss=>lz ss hhp2 (by simp[dG])) (fun b3=>[cz b1 [i_ ci] 3,gJ b3 mb es2 cl2 ([]:List Nat)]) (fun _=>rfl) ?_)
 intro b3
 refine A.aC (A.y (A.aP 3 1 [cz b1 [i_ ci] 3,gJ b3 mb es2 cl2 ([]:List Nat),sI none ([]:List Int) 0] rfl (A.su 2 (sI none (df kv (fun v_=>v_.hp==ci) ([]:List Nat)) 0) rfl (eI (by rfl:([]:List Int)=(df kv (fun v_=>v_.hp==ci) ([]:List Nat)))) (A.aS [(rX b1),(5,vS none (df kv (fun v_=>v_.hp==ci) ([]:List Nat)) 0),(13,.map (some mb)),(14,p_ b3)] ⟨rfl,congrArg (fun z_:List Int=>some (Value.slice none z_.length 0)) (by rfl:([]:List Int)=(df kv (fun v_=>v_.hp==ci) ([]:List Nat))),rfl,rfl,trivial⟩ (A.lp (σ:=(List Nat)×(Option Addr)×Nat) [13] (fun(seen,ao,co)=>[(5,vS ao (df kv (fun v_=>v_.hp==ci) seen) co)]) [1,1] (fun(seen,ao,co)=>[gJ b3 mb es2 cl2 seen,sI ao (df kv (fun v_=>v_.hp==ci) seen) co]) (fun(seen,ao,co)=>seen.Nodup∧(∀j∈seen,j<kv.length)) (fun(seen,ao,co)=>kv.length-seen.length) (([]:List Nat),none,0) ⟨(by simp),(by simp)⟩ ?_ ?_)))))
 ·exact A.I [1,1,0]
 rintro⟨seen,ao,co⟩ ⟨hn,hb⟩
 have hsl:=rQ hn hb;have hsk:=vd kv (fun v_=>v_.hp==ci) seen
 refine A.c (A.j (A.bM (enck:=(fun k:Int=>i_ k)) (encv:=(fun v_:Cl=>(.agg (dt v_).toArray))) (kv:=kv) 0 15 (by kernel_rfl) rfl rfl rfl (fun ww ss=>lz ss hhp2 (by simp[dG])) hEn2 hbo2 hnd2 ‹_› (fun j5=>[gJ b3 mb es2 cl2 (seen++[j5]),sI ao (df kv (fun v_=>v_.hp==ci) seen) co,cz b1 [i_ ci] 3]) (fun _=>rfl) (fun hall5=> ?_) (fun j5 mk5 mv5 hj5 hn5=> ?_)))
 ·refine A.h [.p] [(rX b1),(14,p_ b3),(5,vS ao (df kv (fun v_=>v_.hp==ci) seen) co),(16,b_ false)] [] (A.d (A.Z (A.aB (A.c (A.O [.p] [1,14,16] [(27,vS ao (df kv (fun v_=>v_.hp==ci) seen) co)] (A.j (A.J (some 28) [1] (fun ww ss hh=>tU ao (df kv (fun v_=>v_.hp==ci) seen) co (by omega) ww hh) ?_)))))))
  rintro⟨⟩-
  refine A.aC (A.c (A.g [.p,.p] [5,27,28] [(4,vS ao (df kv (fun v_=>v_.hp==ci) seen) co)] (A.e (A.pb [vS ao (df kv (fun v_=>v_.hp==ci) seen) co] (A.h [.p] [(4,vS ao (df kv (fun v_=>v_.hp==ci) seen) co)] [] (A.e (A.su 0 (sI ao (dI kv (fun v_=>v_.hp==ci)) co) rfl (eI (qS hn hb ‹_›:(gg (df kv (fun v_=>v_.hp==ci) seen))=(dI kv (fun v_=>v_.hp==ci)))) (A.Y [0] [vS ao (df kv (fun v_=>v_.hp==ci) seen) co] (ao,co) ?_ ?_))))))))
  ·show((vS ao (df kv (fun v_=>v_.hp==ci) seen) co):Value)=(vS ao (dI kv (fun v_=>v_.hp==ci)) co)
   rw[←qS (f:=fun v_=>v_.hp==ci) hn hb ‹_›];unfold vS;rw[nE]
  trivial
 refine A.h [.p] [(rX b1),(14,p_ b3),(5,vS ao (df kv (fun v_=>v_.hp==ci) seen) co),(16,b_ true)] [] (A.d (A.ct (A.p (A.y (A.c (A.j (A.u (some 17) (.tuple #[i_ mk5,.agg (dt mv5).toArray]) (vk (enck:=(fun k:Int=>i_ k)) (encv:=(fun v_:Cl=>(.agg (dt v_).toArray))) (kv:=kv) (k:=mk5) (v:=mv5) 0 j5 rfl rfl rfl (fun ww ss=>lz ss hhp2 (by simp[dG])) hEn2 hnd2 hj5) (A.aH [.p,.p,.al,.p,.st 3] [1,14,5,7,6] (fun b6=>[(rX b1),(14,p_ b3),(5,vS ao (df kv (fun v_=>v_.hp==ci) seen) co),(7,p_ b6),(6,i_ mk5)]) (fun b6=>[gJ b3 mb es2 cl2 (seen++[j5]),sI ao (df kv (fun v_=>v_.hp==ci) seen) co,cz b1 [i_ ci] 3,cz b6 (dt mv5) 62]) (fun b6=>[b6]) (fun _=>T0) (fun _=>by kernel_rfl) (fun b6=>trivial) ?_))))))))
 intro b6
 refine A.c (A.gm [.p,.ld 3] [7] [(20,.func (.func 225) #[] #[p_ b1]),(21,.agg (dt mv5).toArray)] [b6] (A.j (A.iX (some 22) [.agg (dt mv5).toArray,p_ b1] Tryz.func225 rfl (A.c (A.n1 [.al,.p] [0] (fun b7=>[(2,p_ b7)]) (fun b7=>cz b7 (dt mv5) 62) ?_)))))
 intro b7
 refine A.c (A.gl [.p,.ld 4,.ld 2,.p,.p] [1,2] [(3,b_ (mv5.hp==ci))] [b7,b1] (A.e (A.pb [b_ (mv5.hp==ci)] (A.aM [gJ b3 mb es2 cl2 (seen++[j5]),sI ao (df kv (fun v_=>v_.hp==ci) seen) co,cz b1 [i_ ci] 3] (sd [4,3]) (A.aC (A.v rfl (fun e2=> ?_) (fun e2=> ?_)))))))
 ·refine A.s (A.hp [.p,.p] [(rX b1),(14,p_ b3),(5,vS ao (df kv (fun v_=>v_.hp==ci) seen) co),(23,vS ao (df kv (fun v_=>v_.hp==ci) seen) co),(24,i_ mk5)] [] (A.j (A.aF 25 (e:=3) [i_ mk5] (by kernel_rfl) rfl (fun _=>by kernel_rfl) _ (fun _=>rfl) ?_)))
  intro b8
  refine A.j (A.ap j9 (df kv (fun v_=>v_.hp==ci) seen) ([mk5]) 1 26 (i_ 0) 8 fE lO (gZ (i:=3) rfl) (by simp;omega) ?_)
  intro A9 c9
  refine A.g [.p] [23,24,25,26] [(5,vS A9 ((df kv (fun v_=>v_.hp==ci) seen)++([mk5])) c9)] ((A.su 1 (sI A9 (df kv (fun v_=>v_.hp==ci) (seen++[j5])) c9) rfl (eI (pN ‹_› ‹_›:(df kv (fun v_=>v_.hp==ci) seen)++([mk5])=(df kv (fun v_=>v_.hp==ci) (seen++[j5])))) (A.D 5 (vS A9 (df kv (fun v_=>v_.hp==ci) (seen++[j5])) c9) (fJ (pN ‹_› ‹_›)) (A.aA ((seen++[j5]),A9,c9) ⟨((jI hn hb ‹_› ‹_›).1),((jI hn hb ‹_› ‹_›).2.1)⟩ (by((have h_:=(jI hn hb ‹_› ‹_›).2.2);simp;omega)) ?_))))
  exact A.I [0,0,0]
 refine A.p (A.su 1 (sI ao (df kv (fun v_=>v_.hp==ci) (seen++[j5])) co) rfl (eI (sJ ‹_› ‹_›:(df kv (fun v_=>v_.hp==ci) seen)=(df kv (fun v_=>v_.hp==ci) (seen++[j5])))) (A.aS [(rX b1),(14,p_ b3),(5,vS ao (df kv (fun v_=>v_.hp==ci) (seen++[j5])) co),(6,i_ mk5),(20,.func (.func 225) #[] #[p_ b1]),(21,.agg (dt mv5).toArray),(22,b_ (mv5.hp==ci))] ⟨rfl,rfl,fJ (by exact sJ ‹_› ‹_›),rfl,rfl,rfl,rfl,trivial⟩ (A.aA ((seen++[j5]),ao,co) ⟨((jI hn hb ‹_› ‹_›).1),((jI hn hb ‹_› ‹_›).2.1)⟩ (by((have h_:=(jI hn hb ‹_› ‹_›).2.2);simp;omega)) ?_)))
 exact A.I [0,0,0]
theorem SH:HOk []:=fun k=>by simp[dep,fW,cw]
def j8(kv:List (Int×Cl))(ci:Int):Int:=if(cw kv ci).isSome=false then 6 else if(((dI kv (fun v_=>v_.hp==ci))).length:Int)>0 then 23 else 0
def o0(kv:List (Int×Cl))(ci:Int):List (Int×Cl):=if j8 kv ci=0 then dL kv ci else kv
theorem P3(bt mb:Nat)(kv:List (Int×Cl))(ci:Int)(hl:kv.length≤1000):
  CS 135 #[p_ bt,i_ ci] [cz bt [.map (some mb)] 185,di mb kv] (fun(kv':(List (Int×Cl)))=>(i_ (j8 kv ci))) (fun kv'=>kv'=o0 kv ci) fun kv'=>[cz bt [.map (some mb)] 185,di mb kv']:=by
 intro w hs
 refine A.C Tryz.func135 rfl hs (A.c (A.g [.p] [] [] (A.d (A.c (A.g [.p,.p] [] [(8,b_ false)] (A.Z (A.p (A.d (A.c (A.gm [.p,.p,.p,.ld 0,.p] [8] [(13,.map (some mb)),(14,i_ ci)] [bt] (A.j (A.u (some 15) _ (nB (kt:=3) (et:=62) (enck:=(fun k:Int=>i_ k)) (encv:=(fun v_:Cl=>(.agg (dt v_).toArray))) (b:=mb) (kv:=kv) (k:=ci) (d0:=dr) (fun ww ss=>ss.mem (i:=1) rfl) rfl rfl rfl (by kernel_rfl) lP (by kernel_rfl) rfl) (A.g1 [.p,.p,.p,.al,.st 2,.p] [13,14,15] (fun b1=>[(6,b_ ((cw kv ci).isSome))]) (fun b1=>[]) (fun b1=>cz b1 (dt ((cw kv ci).getD dr)) 62) (fun b1=>[b1]) ?_)))))))))))))
 intro b1
 refine A.c (A.g [.p,.p] [6] [(19,b_ (!((cw kv ci).isSome)))] (A.v rfl (fun e1=> ?_) (fun e1=> ?_)))
 ·refine A.c (A.g [.p] [0,1,19] [(4,i_ 6)] (A.e (A.Y [0,0] [i_ 6] (kv) ?_ ?_)))
  ·refine congrArg (Value.int .i64) ?_;unfold j8;(simp_all;done)
  unfold o0 j8;(simp_all;done)
 refine A.p (A.d (A.c (A.O [.p,.p] [19] [(20,p_ bt),(21,i_ ci)] (A.j (A.J (some 22) [] (fun ww ss hh=>yG bt mb kv ci ‹_› ww (ss.mem (i:=0) rfl) (ss.mem (i:=1) rfl) hh) ?_)))))
 rintro⟨al'2,cl'3⟩-
 refine A.g [.p,.p] [20,21,22] [(24,b_ (decide (((dI kv (fun v_=>v_.hp==ci)).length:Int)>0)))] (A.v rfl (fun e3=> ?_) (fun e3=> ?_))
 ·have p3:=of_decide_eq_true e3
  refine A.c (A.g [.p] [0,1,24] [(4,i_ 23)] (A.e (A.Y [1,1] [i_ 23] (kv) ?_ ?_)))
  ·refine congrArg (Value.int .i64) ?_;unfold j8;(simp_all;done)
  unfold o0 j8;(simp_all;done)
 have p3:=of_decide_eq_false e3
 refine A.p (A.c (A.gm [.p,.p,.p,.ld 1,.p] [0,1,24] [(28,.map (some mb)),(29,i_ ci)] [bt] (A.j (A.bF (kt:=3) (et:=62) (enck:=(fun k:Int=>i_ k)) (encv:=(fun v_:Cl=>(.agg (dt v_).toArray))) (kv:=kv) (k:=ci) 2 [sI al'2 (dI kv (fun v_=>v_.hp==ci)) cl'3,cz bt [.map (some mb)] 185,di mb (dL kv ci),cz b1 (dt ((cw kv ci).getD dr)) 62] (by kernel_rfl) rfl rfl rfl (by kernel_rfl) lP rfl rfl (A.aC (A.c (A.h [.p] [(4,i_ 0)] [] (A.e (A.Y [1,1] [i_ 0] (dL kv ci) ?_ ?_)))))))))
 ·refine congrArg (Value.int .i64) ?_;unfold j8;(simp_all;done)
 unfold o0 j8;(simp_all;done)
def jz(kv:List (Int×Cl))(i:Int):Bool:=decide ((dM ((cw kv i).getD dr).la ((cw kv i).getD dr).lb ((cw kv i).getD dr).lc)>1)
def iZ(kv:List (Int×Cl))(y:Cl):Int:=
 if fe y≠0 then fe y else if(cw kv y.hi).isSome=false then 6
 else if y.hp≠(dF kv y.hi).hp∨y.hl≠(dF kv y.hi).hl then 1
 else if((dM y.la y.lb y.lc)>1∧iP kv y.hp=false)∨((dM y.la y.lb y.lc)≤1∧((dI kv (fun v_=>v_.hp==y.hi))).any (jz kv)=true) then 29 else 0
def lK(kv:List (Int×Cl))(y:Cl):List (Int×Cl):=if iZ kv y=0 then dD kv y.hi y else kv
variable{l:List Int}{f:Int→Bool}
theorem xG(h:l[k]? =some i)(hf:f i=true):l.any f=true:=List.any_eq_true.2 ⟨i,List.mem_of_getElem? h,hf⟩
theorem HT(hn: ∀x∈l.take k,f x=false)(hk:l.length≤k):l.any f=false:=by
 rw[List.take_of_length_le hk] at hn;rw[List.any_eq_false];intro x hx;simp[hn x hx]
theorem P4(hn: ∀x∈l.take k,f x=false)(h:l[k]? =some i)(hf:f i=false): ∀x∈l.take (k+1),f x=false:=by
 rw[List.take_add_one,h];intro x hx;rcases List.mem_append.1 hx with hx|hx
 ·exact hn x hx
 ·simp at hx;rw[hx];exact hf
abbrev GF(p0:Cl):=((b_ (decide ((dM p0.la p0.lb p0.lc)>1))):Value)
abbrev wC(p0)(p1):=(cz p0 [.map (some p1)] 185:V.dC)
abbrev wE(p0):=((1,.func (.func 172) #[] #[p_ p0]):Nat×Value)
abbrev rf(p0):=((8,.func (.func 172) #[] #[p_ p0]):Nat×Value)
abbrev pC(p0):=((1,.agg (dt p0).toArray):Nat×Value)
abbrev oD(p0):=((14,b_ ((fe p0)!=0)):Nat×Value)
theorem P5(bt mb:Nat)(kv:List (Int×Cl))(y:Cl)(hl:kv.length≤1000):
  CS 133 #[p_ bt,.agg (dt y).toArray] [wC bt mb,di mb kv] (fun(kv':(List (Int×Cl)))=>(i_ (iZ kv y))) (fun kv'=>kv'=lK kv y) fun kv'=>[wC bt mb,di mb kv']:=by
 intro w hs
 have hkl:=ns kv (fun v_=>v_.hp==y.hi)
 refine A.C Tryz.func133 rfl hs (A.c (A.n2 [.al,.al,.p] [] (fun b1 b2=>[(2,p_ b1),(3,p_ b2),(4,i_ 0)]) (fun b1 b2=>[cz b1 [p_ bt] 131,cz b2 (dt y) 62]) ?_))
 intro b1 b2
 refine A.d (A.c (A.gl [.ld 2,.p] [] [(10,b_ false)] [b1] (A.Z (A.p (A.d (A.c (A.k [.ld 3,.cq (i_ (fe y)),.p] [] [(5,i_ (fe y))] [b2] (o1 (qo (fun ww ss=>DW y ww))) (A.c (A.g [.p,.p] [] [(oD y)] (A.v rfl (fun e1=> ?_) (fun e1=> ?_)))))))))))
 ·refine A.c (A.g [.p,.p] [] [(4,i_ (fe y))] (A.e (A.Y [0,0] [i_ (fe y)] (kv) ?_ ?_)))
  ·refine congrArg (Value.int .i64) ?_;unfold iZ;(simp_all[dF];done)
  unfold lK iZ;(simp_all[dF];done)
 refine A.p (A.d (A.d3 [10,11] 13 [wC bt mb,di mb kv,cz b1 [p_ bt] 131,cz b2 (dt y) 62] (A.bT 7 [.ld 2,.p,.p,.ld 0,.p,.ld 3] [0,1,2,3,4,5] [(0,p_ bt),(pC y),(2,p_ b1),(3,p_ b2),(4,i_ 0),(10,b_ false),(5,i_ (fe y)),(oD y),(20,.map (some mb)),(22,i_ y.hi)] [b1,bt,b2] (.refl _) (A.bX 6 (some 23) (.tuple #[.agg (dt ((cw kv y.hi).getD dr)).toArray,b_ ((cw kv y.hi).isSome)]) rfl (by kernel_rfl) (by kernel_rfl) (.refl _) (nB (kt:=3) (et:=62) (enck:=(fun k:Int=>i_ k)) (encv:=(fun v_:Cl=>(.agg (dt v_).toArray))) (b:=mb) (kv:=kv) (k:=y.hi) (d0:=dr) (fun ww ss=>ss.mem (i:=1) rfl) rfl rfl rfl (by kernel_rfl) lP (by kernel_rfl) rfl) (A.bT 3 [.p,.p,.p] [7,8,9] [(0,p_ bt),(pC y),(2,p_ b1),(3,p_ b2),(4,i_ 0),(10,b_ false),(5,i_ (fe y)),(oD y),(24,.agg (dt ((cw kv y.hi).getD dr)).toArray),(25,b_ ((cw kv y.hi).isSome))] [] (.refl _) (A.o3 10 rfl (A.ai 6 [i_ 0,i_ 0,b_ false,u_ 0,u_ 0,u_ 0,u_ 0,u_ 0,u_ 0,u_ 0,u_ 0,u_ 0,i_ 0,i_ 0] (by kernel_rfl) rfl (by kernel_rfl) (fun b3=>[wC bt mb,di mb kv,cz b1 [p_ bt] 131,cz b2 (dt y) 62,cz b3 [i_ 0,i_ 0,b_ false,u_ 0,u_ 0,u_ 0,u_ 0,u_ 0,u_ 0,u_ 0,u_ 0,u_ 0,i_ 0,i_ 0] 62]) (fun _=>rfl) ?_)))))))
 intro b3
 refine A.aI (sd [4]) (A.o3 11 rfl (A.sT 4 (dt ((cw kv y.hi).getD dr)) rfl (A.aI (sd [4]) (A.bT 0 [.p] [12] [(0,p_ bt),(pC y),(2,p_ b1),(3,p_ b2),(4,i_ 0),(10,b_ false),(5,i_ (fe y)),(oD y),(6,p_ b3),(7,b_ ((cw kv y.hi).isSome))] [] (sd [4]) (A.f3 (A.c (A.g [.p,.p] [] [(rf b1)] (A.d (A.y (A.c (A.g [.p,.p,.p] [] [(27,b_ (!((cw kv y.hi).isSome)))] (A.v rfl (fun e2=> ?_) (fun e2=> ?_)))))))))))))
 ·refine A.c (A.g [.p] [] [(4,i_ 6)] (A.e (A.Y [0,0] [i_ 6] (kv) ?_ ?_)))
  ·refine congrArg (Value.int .i64) ?_;unfold iZ;(simp_all[dF];done)
  unfold lK iZ;(simp_all[dF];done)
 refine A.c (A.gl [.p,.ld 3,.p,.ld 4,.p,.p,.o,.p,.ld 3,.p,.ld 4,.eq,.cl,.p] [] [(30,b_ ((y.hp !=(((cw kv y.hi).getD dr).hp))||(!(y.hl==(((cw kv y.hi).getD dr).hl)))))] [b2,b3,b2,b3] (A.v rfl (fun e3=> ?_) (fun e3=> ?_)))
 ·refine A.c (A.g [.p] [] [(4,i_ 1)] (A.e (A.Y [0,0] [i_ 1] (kv) ?_ ?_)))
  ·refine congrArg (Value.int .i64) ?_;unfold iZ;(simp_all[dF];done)
  unfold lK iZ;(simp_all[dF];done)
 refine A.c (A.kp [.ld 3,.cq (GF y),.p,.o,.ld 2,.p,.ld 3,.cq (b_ (iP kv y.hp)),.p,.cl,.p] [] [(53,b_ ((decide ((dM y.la y.lb y.lc)>1))&&(!(iP kv y.hp))))] [b2,b1,b2] (oc (qo (fun ww ss=>nA y ww)) (o1 (go (true&&((decide ((dM y.la y.lb y.lc)>1))==true)) fun h_=>(qo (fun ww ss=>Cd bt mb kv y.hp ww (ss.mem (i:=0) rfl) (ss.mem (i:=1) rfl)))))) (A.aR ((decide ((dM y.la y.lb y.lc)>1))&&(!(iP kv y.hp))) (fun e4=> ?_) (fun e4=> ?_)))
 ·refine A.D 53 (b_ true) (gw e4) (A.g [.sk,.sk,.sk,.sk,.sk,.sk,.sk,.sk,.sk,.sk,.sk,.p,.p] [53] [(43,b_ true)] (A.ct (A.c (A.g [.p] [] [(4,i_ 29)] (A.e (A.Y [0,0] [i_ 29] (kv) ?_ ?_))))))
  ·refine congrArg (Value.int .i64) ?_;unfold iZ;(simp_all[dF];done)
  unfold lK iZ;(simp_all[dF];done)
 refine A.D 53 (b_ false) (gw e4) (A.kp [.ld 3,.cq (GF y),.p,.p] [] [(57,b_ (!(decide ((dM y.la y.lb y.lc)>1))))] [b2] (o1 (qo (fun ww ss=>nA y ww))) (A.aR (!(decide ((dM y.la y.lb y.lc)>1))) (fun e5=> ?_) (fun e5=> ?_)))
 ·refine A.D 57 (b_ true) (gw e5) (A.gm [.ld 2,.p,.ld 3] [] [(58,p_ bt),(60,i_ y.hi)] [b1,b2] (A.j (A.J (some 61) [] (fun ww ss hh=>yG bt mb kv y.hi ‹_› ww (ss.mem (i:=0) rfl) (ss.mem (i:=1) rfl) hh) ?_)))
  rintro⟨al'4,cl'5⟩-
  refine A.O [.p] [58,60] [(61,vS al'4 (dI kv (fun v_=>v_.hp==y.hi)) cl'5),(62,.func (.func 172) #[] #[p_ b1])] (A.j (A.iX (some 63) [vS al'4 (dI kv (fun v_=>v_.hp==y.hi)) cl'5,.func (.func 172) #[] #[p_ b1]] Tryz.func68 rfl (A.c (A.g [.p] [] [(4,b_ false)] (A.c (A.O [.p,.p] [] [(5,vS al'4 (dI kv (fun v_=>v_.hp==y.hi)) cl'5),(6,.func (.func 172) #[] #[p_ b1])] (A.j (A.iX (some 7) [vS al'4 (dI kv (fun v_=>v_.hp==y.hi)) cl'5,.func (.func 172) #[] #[p_ b1]] Tryz.func98 rfl (A.c (A.g [.p] [] [(4,i_ 0)] (A.d (A.c (A.g [.p,.p,.p] [] [(7,i_ ((dI kv (fun v_=>v_.hp==y.hi)).length:Int)),(8,i_ 0)] (A.y (A.lp (σ:=Nat) [4] (fun k=>[(8,c_ k)]) [] (fun k=>[]) (fun k=>(k≤(dI kv (fun v_=>v_.hp==y.hi)).length)∧(∀x∈(dI kv (fun v_=>v_.hp==y.hi)).take k,jz kv x=false)) (fun k=>(dI kv (fun v_=>v_.hp==y.hi)).length-k) (0:Nat) ⟨(by omega),(by simp)⟩ ?_ ?_)))))))))))))))
  ·exact A.I [0,0,0,0,0,0]
  rintro k ⟨hk,hn⟩
  refine A.c (A.h [.p] [(0,vS al'4 (dI kv (fun v_=>v_.hp==y.hi)) cl'5),(wE b1),(7,i_ ((dI kv (fun v_=>v_.hp==y.hi)).length:Int)),(8,c_ k),(9,b_ (decide ((k:Int)<((dI kv (fun v_=>v_.hp==y.hi)).length:Int))))] [] (A.d (A.v rfl (fun e7=> ?_) (fun e7=> ?_))))
  ·have p7:=of_decide_eq_true e7
   refine A.p (A.d (A.y (A.c (A.g [.p,.p] [] [(5,c_ k)] (A.c (A.kp [.p,.p,.p,.ix] [] [(11,.func (.func 172) #[] #[p_ b1]),(14,.pointer (some ((dV al'4).add (k*1))))] [] (o1 (dY 0 k fE rfl (by omega))) ?_))))))
   obtain⟨x7,hx7⟩: ∃x,((dI kv (fun v_=>v_.hp==y.hi)))[k]? =some x:=⟨_,List.getElem?_eq_getElem (by omega)⟩
   refine A.kp [.rd [i_ x7]] [14] [(15,i_ x7)] [] (o1 (ro ((dV al'4).add (k*1)) (fY (vs:=[i_ x7]) fE (fa (i:=0) rfl) hx7 (Nat.le_of_ble_eq_true rfl) rfl))) (A.j (A.iX (some 16) [i_ x7,p_ b1] Tryz.func172 rfl (A.c (A.g [.p] [] [(3,b_ false)] (A.c (A.gm [.ld 3,.p,.p,.ld 1,.p] [] [(7,.map (some mb)),(8,i_ x7)] [b1,bt] (A.j (A.u (some 9) _ (jn (kt:=3) (et:=62) (enck:=(fun k:Int=>i_ k)) (encv:=(fun v_:Cl=>(.agg (dt v_).toArray))) (b:=mb) (kv:=kv) (k:=x7) (d0:=dr) (fun ww ss=>ss.mem (i:=2) rfl) rfl rfl rfl (by kernel_rfl) lP (by kernel_rfl) rfl) (A.k [.cq (b_ (decide ((dM ((cw kv x7).getD dr).la ((cw kv x7).getD dr).lb ((cw kv x7).getD dr).lc)>1))),.p] [7,8,9] [(3,b_ (decide ((dM ((cw kv x7).getD dr).la ((cw kv x7).getD dr).lb ((cw kv x7).getD dr).lc)>1)))] [] (o1 (qo (fun ww ss=>nA ((cw kv x7).getD dr) ww))) (A.e (A.pb [b_ (decide ((dM ((cw kv x7).getD dr).la ((cw kv x7).getD dr).lb ((cw kv x7).getD dr).lc)>1))] (A.aC (A.aS [(0,vS al'4 (dI kv (fun v_=>v_.hp==y.hi)) cl'5),(wE b1),(7,i_ ((dI kv (fun v_=>v_.hp==y.hi)).length:Int)),(8,c_ k),(9,b_ (decide ((k:Int)<((dI kv (fun v_=>v_.hp==y.hi)).length:Int)))),(5,c_ k),(16,b_ (decide ((dM ((cw kv x7).getD dr).la ((cw kv x7).getD dr).lb ((cw kv x7).getD dr).lc)>1)))] ⟨rfl,rfl,rfl,rfl,rfl,rfl,rfl,trivial⟩ (A.v rfl (fun e8=> ?_) (fun e8=> ?_)))))))))))))))
   ·have p8:=of_decide_eq_true e8
    refine A.c (A.g [.p,.p] [] [(4,c_ k)] (A.e (A.pb [c_ k] (A.h [.p,.p] [(0,vS al'4 (dI kv (fun v_=>v_.hp==y.hi)) cl'5),(wE b1),(4,b_ (decide ((k:Int)≥0)))] [] (A.e (A.pb [b_ (decide ((k:Int)≥0))] (A.h [.p,.p,.p] [(0,p_ bt),(pC y),(2,p_ b1),(3,p_ b2),(4,i_ 0),(10,b_ false),(5,i_ (fe y)),(oD y),(6,p_ b3),(7,b_ ((cw kv y.hi).isSome)),(rf b1),(27,b_ (!((cw kv y.hi).isSome))),(30,b_ ((y.hp !=(((cw kv y.hi).getD dr).hp))||(!(y.hl==(((cw kv y.hi).getD dr).hl))))),(43,b_ (decide ((k:Int)≥0)))] [] (A.v rfl (fun e9=> ?_) (fun e9=> ?_)))))))))
    ·have p9:=of_decide_eq_true e9
     refine A.c (A.g [.p] [] [(4,i_ 29)] (A.e (A.Y [1,1] [i_ 29] (kv) ?_ ?_)))
     ·refine congrArg (Value.int .i64) ?_;unfold iZ;(have hq_:=xG (f:=jz kv) ‹_› (by unfold jz;assumption);simp only[hq_];simp_all[dF];done)
     unfold lK iZ;(have hq_:=xG (f:=jz kv) ‹_› (by unfold jz;assumption);simp only[hq_];simp_all[dF];done)
    have p9:=of_decide_eq_false e9
    refine A.p (A.d (A.W [7] 8 (A.dT 1 [.ld 3,.p,.p,.ld 1,.p,.ld 4,.ld 4] [0,1,2,3,4,5,6] [] [(69,.map (some mb)),(71,i_ y.hi),(72,.agg (dt y).toArray)] [b1,bt,b2,b2] (A.F 7 rfl (A.mP 3 62 2 y.hi y rfl lP (A.E (A.M (A.aS [(0,p_ bt),(pC y),(2,p_ b1),(3,p_ b2),(4,i_ 0),(10,b_ false),(5,i_ (fe y)),(oD y),(6,p_ b3),(7,b_ ((cw kv y.hi).isSome)),(rf b1),(27,b_ (!((cw kv y.hi).isSome))),(30,b_ ((y.hp !=(((cw kv y.hi).getD dr).hp))||(!(y.hl==(((cw kv y.hi).getD dr).hl))))),(43,b_ (decide ((k:Int)≥0)))] ⟨rfl,rfl,rfl,rfl,rfl,rfl,rfl,rfl,rfl,rfl,rfl,rfl,rfl,rfl,trivial⟩ (A.c (A.g [.p] [] [] (A.e (A.Y [1,1] [i_ 0] (dD kv y.hi y) ?_ ?_))))))))))))
    ·refine congrArg (Value.int .i64) ?_;unfold iZ;(have hq_:=xG (f:=jz kv) ‹_› (by unfold jz;assumption);simp only[hq_];simp_all[dF];done)
    unfold lK iZ;(have hq_:=xG (f:=jz kv) ‹_› (by unfold jz;assumption);simp only[hq_];simp_all[dF];done)
   have p8:=of_decide_eq_false e8
   refine A.p (A.s (A.k [.w ((k:Int)+1),.p] [] [(8,i_ ((k:Int)+1))] [] (o1 (wj ((k:Int)+1) (by omega))) (A.aA (k+1) ⟨(by omega),(P4 hn ‹_› ‹_›)⟩ (by omega) ?_)))
   exact A.I [0,0,0,0,0,0]
  have p7:=of_decide_eq_false e7
  refine A.aB (A.c (A.g [.p] [] [(4,i_ (-1))] (A.e (A.pb [i_ (-1)] (A.h [.p,.p] [(0,vS al'4 (dI kv (fun v_=>v_.hp==y.hi)) cl'5),(wE b1),(4,b_ false)] [] (A.e (A.pb [b_ false] (A.h [.p,.p,.p] [(0,p_ bt),(pC y),(2,p_ b1),(3,p_ b2),(4,i_ 0),(10,b_ false),(5,i_ (fe y)),(oD y),(6,p_ b3),(7,b_ ((cw kv y.hi).isSome)),(rf b1),(27,b_ (!((cw kv y.hi).isSome))),(30,b_ ((y.hp !=(((cw kv y.hi).getD dr).hp))||(!(y.hl==(((cw kv y.hi).getD dr).hl))))),(43,b_ false)] [] (A.Z (A.p (A.d (A.W [7] 8 (A.dT 1 [.ld 3,.p,.p,.ld 1,.p,.ld 4,.ld 4] [0,1,2,3,4,5,6] [] [(69,.map (some mb)),(71,i_ y.hi),(72,.agg (dt y).toArray)] [b1,bt,b2,b2] (A.F 7 rfl (A.mP 3 62 2 y.hi y rfl lP (A.E (A.M (A.aS [(0,p_ bt),(pC y),(2,p_ b1),(3,p_ b2),(4,i_ 0),(10,b_ false),(5,i_ (fe y)),(oD y),(6,p_ b3),(7,b_ ((cw kv y.hi).isSome)),(rf b1),(27,b_ (!((cw kv y.hi).isSome))),(30,b_ ((y.hp !=(((cw kv y.hi).getD dr).hp))||(!(y.hl==(((cw kv y.hi).getD dr).hl))))),(43,b_ false)] ⟨rfl,rfl,rfl,rfl,rfl,rfl,rfl,rfl,rfl,rfl,rfl,rfl,rfl,rfl,trivial⟩ (A.c (A.g [.p] [] [] (A.e (A.Y [1,1] [i_ 0] (dD kv y.hi y) ?_ ?_))))))))))))))))))))))
  ·refine congrArg (Value.int .i64) ?_;unfold iZ;(have hq_:=HT hn (by omega);simp only[hq_];simp_all[dF];done)
  unfold lK iZ;(have hq_:=HT hn (by omega);simp only[hq_];simp_all[dF];done)
 refine A.D 57 (b_ false) (gw e5) (A.g [.sk,.sk,.sk,.sk,.sk,.sk,.p,.p,.p] [53,57] [(43,b_ false)] (A.Z (A.p (A.d (A.W [7] 8 (A.dT 1 [.ld 2,.p,.p,.ld 0,.p,.ld 3,.ld 3] [0,1,2,3,4,5,6] [] [(69,.map (some mb)),(71,i_ y.hi),(72,.agg (dt y).toArray)] [b1,bt,b2,b2] (A.F 7 rfl (A.mP 3 62 1 y.hi y rfl lP (A.E (A.M (A.aS [(0,p_ bt),(pC y),(2,p_ b1),(3,p_ b2),(4,i_ 0),(10,b_ false),(5,i_ (fe y)),(oD y),(6,p_ b3),(7,b_ ((cw kv y.hi).isSome)),(rf b1),(27,b_ (!((cw kv y.hi).isSome))),(30,b_ ((y.hp !=(((cw kv y.hi).getD dr).hp))||(!(y.hl==(((cw kv y.hi).getD dr).hl))))),(43,b_ false)] ⟨rfl,rfl,rfl,rfl,rfl,rfl,rfl,rfl,rfl,rfl,rfl,rfl,rfl,rfl,trivial⟩ (A.c (A.g [.p] [] [] (A.e (A.Y [0,0] [i_ 0] (dD kv y.hi y) ?_ ?_)))))))))))))))
 ·refine congrArg (Value.int .i64) ?_;unfold iZ;grind[dF]
 unfold lK iZ;grind[dF]
theorem Js{α:Type}{l:List α}{x:α}(hx:l[k]? =some x):l.take (k+1)=l.take k++[x]:=by rw[List.take_add_one,hx];rfl
def jh(l:List Cl):List (Int×Cl):=l.map fun c=>(c.hi,c)
def tD(l:List Cl)(a:Int):Bool:=a==0||decide ((fP (dF (jh l) a).la (dF (jh l) a).lb (dF (jh l) a).lc)>1)
def C0(l:List Cl)(a:Int):Nat:=fW (jh l) 70 a
def pt(l:List Cl)(a:Int):List Int:=(l.filter fun c=>decide (c.hp=a)).map (·.hi)
def JF(a:Int)(l:List Cl):List Cl:=l.filter (fun r=> !decide (r.hi=a))
def f9(x:Cl)(l:List Cl):Nat→List Cl×Bool
 |0=>([],false)
 |k+1=>match l[k]? with
  |none=>f9 x l k
  |some r=>
   (if r.hi≠x.hi then(if !(f9 x l k).2&&decide (r.hi≥x.hi) then(f9 x l k).1++[x] else(f9 x l k).1)++[r] else(if !(f9 x l k).2&&decide (r.hi≥x.hi) then(f9 x l k).1++[x] else(f9 x l k).1),
    (f9 x l k).2||(!(f9 x l k).2&&decide (r.hi≥x.hi)))
variable{x:Cl}
theorem Ld{r:Cl}{l:List Cl}(h:l[k]? =some r):f9 x l (k+1)=
 (if r.hi≠x.hi then(if !(f9 x l k).2&&decide (r.hi≥x.hi) then(f9 x l k).1++[x] else(f9 x l k).1)++[r] else(if !(f9 x l k).2&&decide (r.hi≥x.hi) then(f9 x l k).1++[x] else(f9 x l k).1),
  (f9 x l k).2||(!(f9 x l k).2&&decide (r.hi≥x.hi))):=by rw[f9,h]
def rC(x:Cl)(l:List Cl):List Cl:=if(f9 x l l.length).2 then(f9 x l l.length).1 else(f9 x l l.length).1++[x]
def Bi(l:List Cl)(y:Cl):Int:=if kG y≠0 then kG y else if(cw (jh l) y.hi).isSome=true then 8 else if(l.length:Int)=64 then 5
 else if y.hp≠0∧(cw (jh l) y.hp=none∨(dF (jh l) y.hp).hl=true) then 23
 else if(fP y.la y.lb y.lc)>1∧tD l y.hp=false then 29 else if(C0 l y.hp:Int)≥16 then 25 else 0
def I3(l:List Cl)(y:Cl):List Cl:=if Bi l y=0 then rC y l else l
def Bj(l:List Cl)(a:Int):Int:=if cw (jh l) a=none then 6 else if((pt l a).length:Int)>0 then 23 else 0
def I4(l:List Cl)(a:Int):List Cl:=if Bj l a=0 then JF a l else l
def yA(l:List Cl)(y:Cl)(i:Int):Bool:= !decide ((fP y.la y.lb y.lc)>1)&&tD l i
def Bl(l:List Cl)(y:Cl):Int:=if kG y≠0 then kG y else if cw (jh l) y.hi=none then 6
 else if(dF (jh l) y.hi).hp≠y.hp∨(dF (jh l) y.hi).hl≠y.hl then 1
 else if(fP y.la y.lb y.lc)>1∧tD l y.hp=false then 29 else if(pt l y.hi).any (yA l y)=true then 29 else 0
def I5(l:List Cl)(y:Cl):List Cl:=if Bl l y=0 then rC y l else l
def kj(x:Cl):Prop:=((-9223372036854775808)≤x.hi∧x.hi≤9223372036854775807)∧((-9223372036854775808)≤x.hp∧x.hp≤9223372036854775807)∧True∧(0≤x.ra∧x.ra≤18446744073709551615)∧(0≤x.rb∧x.rb≤18446744073709551615)∧(0≤x.rc∧x.rc≤18446744073709551615)∧(0≤x.la∧x.la≤18446744073709551615)∧(0≤x.lb∧x.lb≤18446744073709551615)∧(0≤x.lc∧x.lc≤18446744073709551615)∧(0≤x.ua∧x.ua≤18446744073709551615)∧(0≤x.ub∧x.ub≤18446744073709551615)∧(0≤x.uc∧x.uc≤18446744073709551615)∧((-9223372036854775808)≤x.hk∧x.hk≤9223372036854775807)∧((-9223372036854775808)≤x.hq∧x.hq≤9223372036854775807)
def RS(R:List Cl):Prop:=R.Pairwise (fun a b=>a.hi<b.hi)
structure SF(x:Cl)(R:List Cl)(k:Nat):Prop where
 mem: ∀y,y∈(f9 x R k).1↔((f9 x R k).2=true∧y=x)∨(y∈R.take k∧y.hi≠x.hi)
 lo:(f9 x R k).2=false→ ∀r∈R.take k,r.hi<x.hi
 hi:(f9 x R k).2=true→ ∃r∈R.take k,x.hi≤r.hi
 srt:RS (f9 x R k).1
variable{y:Cl}
theorem ri{A:List Cl}(h:RS A)(hy: ∀a∈A,a.hi<y.hi):RS (A++[y]):=List.pairwise_append.2 ⟨h,by simp,fun a ha b hb=>by simp at hb;subst hb;exact hy a ha⟩
variable{R:List Cl}
theorem Ah(x:Cl)(h:RS R): ∀k,SF x R k
 |0=>⟨by simp[f9],by simp,by simp[f9],by simp[f9,RS]⟩
 |k+1=>by
  have ih:=Ah x h k
  cases hr:R[k]? with
  |none=>
   have e1:f9 x R (k+1)=f9 x R k:=by rw[f9,hr]
   have e2:R.take (k+1)=R.take k:=by rw[List.take_add_one,hr];simp
   exact⟨by rw[e1,e2];exact ih.mem,by rw[e1,e2];exact ih.lo,by rw[e1,e2];exact ih.hi,by rw[e1];exact ih.srt⟩
  |some r=>
   have et:R.take (k+1)=R.take k++[r]:=Js hr
   have hlt: ∀a∈R.take k,a.hi<r.hi:=fun a ha=>by
    obtain⟨i,hi⟩:=List.mem_iff_getElem?.1 ha
    rw[List.getElem?_take] at hi;split at hi
    ·obtain⟨h1,h2⟩:=List.getElem?_eq_some_iff.1 hi
     obtain⟨h3,h4⟩:=List.getElem?_eq_some_iff.1 hr
     have:=List.pairwise_iff_getElem.1 h i k h1 h3 ‹_›;rw[h2,h4] at this;exact this
    ·cases hi
   have es:=Ld (x:=x) hr
   have keep: ∀a∈(f9 x R k).1,a=x∨a.hi<r.hi:=fun a ha=>by
    rcases(ih.mem a).1 ha with⟨_,e⟩|⟨e,_⟩
    ·exact .inl e
    ·exact .inr (hlt a e)
   cases hp:(f9 x R k).2 with
   |true=>
    obtain⟨q,hq,hqx⟩:=ih.hi hp
    have hxr:x.hi<r.hi:=by have:=hlt q hq;omega
    have hne:r.hi≠x.hi:=by omega
    have e:f9 x R (k+1)=((f9 x R k).1++[r],true):=by rw[es,hp];simp[hne]
    refine⟨fun y=> ?_,?_,?_,?_⟩
    ·rw[e,et];simp only[List.mem_append,List.mem_singleton,ih.mem y,hp];constructor
     ·rintro((h1|⟨h1,h2⟩)|h1)
      ·exact .inl h1
      ·exact .inr ⟨.inl h1,h2⟩
      ·exact .inr ⟨.inr h1,by rw[h1];exact hne⟩
     ·rintro(h1|⟨h1|h1,h2⟩)
      ·exact .inl (.inl h1)
      ·exact .inl (.inr ⟨h1,h2⟩)
      ·exact .inr h1
    ·rw[e];intro g;cases g
    ·rw[e,et];intro _;exact⟨q,by simp[hq],hqx⟩
    ·rw[e];exact ri ih.srt fun a ha=>by
      rcases keep a ha with rfl|g
      ·exact hxr
      ·exact g
   |false=>
    have hlo:=ih.lo hp
    have hsub: ∀a∈(f9 x R k).1,a.hi<x.hi∧a.hi<r.hi:=fun a ha=>by
     rcases(ih.mem a).1 ha with⟨e,_⟩|⟨e,_⟩
     ·rw[hp] at e;cases e
     ·exact⟨hlo a e,hlt a e⟩
    by_cases hge:x.hi≤r.hi
    ·by_cases hne:r.hi=x.hi
     ·have e:f9 x R (k+1)=((f9 x R k).1++[x],true):=by rw[es,hp];simp[hne]
      refine⟨fun y=> ?_,?_,?_,?_⟩
      ·rw[e,et];simp only[List.mem_append,List.mem_singleton,ih.mem y,hp];constructor
       ·rintro((⟨h1,_⟩|⟨h1,h2⟩)|h1)
        ·cases h1
        ·exact .inr ⟨.inl h1,h2⟩
        ·exact .inl ⟨trivial,h1⟩
       ·rintro(⟨_,h1⟩|⟨h1|h1,h2⟩)
        ·exact .inr h1
        ·exact .inl (.inr ⟨h1,h2⟩)
        ·exact absurd (by rw[h1];exact hne) h2
      ·rw[e];intro g;cases g
      ·rw[e,et];intro _;exact⟨r,by simp,hge⟩
      ·rw[e];exact ri ih.srt fun a ha=>(hsub a ha).1
     ·have e:f9 x R (k+1)=(((f9 x R k).1++[x])++[r],true):=by rw[es,hp];simp[hne,hge]
      refine⟨fun y=> ?_,?_,?_,?_⟩
      ·rw[e,et];simp only[List.mem_append,List.mem_singleton,ih.mem y,hp];constructor
       ·rintro(((⟨h1,_⟩|⟨h1,h2⟩)|h1)|h1)
        ·cases h1
        ·exact .inr ⟨.inl h1,h2⟩
        ·exact .inl ⟨trivial,h1⟩
        ·exact .inr ⟨.inr h1,by rw[h1];exact hne⟩
       ·rintro(⟨_,h1⟩|⟨h1|h1,h2⟩)
        ·exact .inl (.inr h1)
        ·exact .inl (.inl (.inr ⟨h1,h2⟩))
        ·exact .inr h1
      ·rw[e];intro g;cases g
      ·rw[e,et];intro _;exact⟨r,by simp,hge⟩
      ·rw[e];refine ri (ri ih.srt fun a ha=>(hsub a ha).1) fun a ha=> ?_
       rcases List.mem_append.1 ha with ha|ha
       ·exact(hsub a ha).2
       ·simp at ha;subst ha;omega
    ·have hne:r.hi≠x.hi:=by omega
     have e:f9 x R (k+1)=((f9 x R k).1++[r],false):=by rw[es,hp];simp[hne,hge]
     refine⟨fun y=> ?_,?_,?_,?_⟩
     ·rw[e,et];simp only[List.mem_append,List.mem_singleton,ih.mem y,hp];constructor
      ·rintro((⟨h1,_⟩|⟨h1,h2⟩)|h1)
       ·cases h1
       ·exact .inr ⟨.inl h1,h2⟩
       ·exact .inr ⟨.inr h1,by rw[h1];exact hne⟩
      ·rintro(⟨h1,_⟩|⟨h1|h1,h2⟩)
       ·cases h1
       ·exact .inl (.inr ⟨h1,h2⟩)
       ·exact .inr h1
     ·rw[e,et];intro _ a ha
      rcases List.mem_append.1 ha with ha|ha
      ·exact hlo a ha
      ·simp at ha;subst ha;omega
     ·rw[e];intro g;cases g
     ·rw[e];exact ri ih.srt fun a ha=>(hsub a ha).2
theorem tf(h:RS R)(y:Cl):y∈rC x R↔y=x∨(y∈R∧y.hi≠x.hi):=by
 have s:=(Ah x h R.length).mem y
 rw[List.take_length] at s
 unfold rC;split
 ·rename_i hp;rw[s,hp];simp
 ·rename_i hp;rw[List.mem_append,s];simp[hp];exact or_comm
theorem Le(h:RS R):RS (rC x R):=by
 have s:=Ah x h R.length
 unfold rC;split
 ·exact s.srt
 ·rename_i hp;refine ri s.srt fun a ha=> ?_
  rcases(s.mem a).1 ha with⟨e,_⟩|⟨e,_⟩
  ·exact absurd e hp
  ·exact s.lo (by simpa using hp) a e
structure KR(kv:List (Int×Cl))(R:List Cl):Prop where
 srt:RS R
 get: ∀k y,cw kv k=some y↔y∈R∧y.hi=k
 nd:(kv.map (·.1)).Nodup
 rng: ∀y∈R,kj y
theorem P6:KR [] []:=⟨by simp[RS],fun k y=>by simp[cw],by simp,by simp⟩
theorem GG(h:RS R)(k:Int)(y:Cl):cw (jh R) k=some y↔y∈R∧y.hi=k:=by
 have hn:((jh R).map (·.1)).Nodup:=by
  unfold jh;rw[List.map_map];exact List.pairwise_map.2 (h.imp fun h1 e=>by simp at e;omega)
 constructor
 ·intro e
  obtain⟨z,hz,e2⟩:=List.mem_map.1 (mZ e);cases e2;exact⟨hz,rfl⟩
 ·rintro⟨hy,rfl⟩;exact uw hn (List.mem_map.2 ⟨y,hy,rfl⟩)
theorem sH(h:KR kv R)(k:Int):cw kv k=cw (jh R) k:=by
 cases e:cw (jh R) k with
 |some y=>exact(h.get k y).2 ((GG h.srt k y).1 e)
 |none=>
  cases e2:cw kv k with
  |none=>rfl
  |some y=>have:=(GG h.srt k y).2 ((h.get k y).1 e2);rw[e] at this;cases this
theorem xH(h:KR kv R)(k:Int):dF kv k=dF (jh R) k:=by unfold dF;rw[sH h]
theorem GH(h:KR kv R): ∀n k,fW kv n k=fW (jh R) n k
 |0,_=>rfl
 |n+1,k=>by unfold fW;rw[sH h,xH h,GH h n]
theorem y5(kv:List (Int×Cl))(m:Nat): ∀(n:Nat)(k:Int),fW kv n k<n→fW kv (n+m) k=fW kv n k
 |0,k,h=>by omega
 |n+1,k,h=>by
  rw[show n+1+m=(n+m)+1 by omega]
  unfold fW at h⊢
  split
  ·rename_i hs;rw[if_pos hs] at h;rw[y5 kv m n _ (by omega)]
  ·rfl
theorem P7(h:KR kv R)(hO:HOk kv)(k:Int):C0 R k=dep kv k:=by
 unfold C0 dep;rw[←GH h]
 exact y5 kv 53 17 k (by have:=hO k;unfold dep at this;omega)
theorem I6(h:KR kv R)(hy:y∈R):cw kv y.hi=some y:=(h.get _ _).2 ⟨hy,rfl⟩
theorem JZ(h:l.Pairwise (· < ·)):gg l=l:=by
 have tr: ∀a b c:Int,decide (a≤b)=true→decide (b≤c)=true→decide (a≤c)=true:=fun a b c h1 h2=>by simp only[decide_eq_true_eq] at*;omega
 have to: ∀a b:Int,(decide (a≤b)||decide (b≤a))=true:=fun a b=>by simp only[Bool.or_eq_true,decide_eq_true_eq];omega
 unfold gg
 refine List.Perm.eq_of_pairwise (le:=fun a b:Int=>decide (a≤b)=true) (fun a b _ _ h1 h2=> ?_) (List.pairwise_mergeSort tr to _) (h.imp fun h1=>by simp;omega) (List.mergeSort_perm _ _)
 simp only[decide_eq_true_eq] at h1 h2;omega
theorem N4(h:KR kv R)(f:Cl→Bool):dI kv f=(R.filter f).map (·.hi):=by
 have hs:((R.filter f).map (·.hi)).Pairwise (· < ·):=List.pairwise_map.2 (h.srt.filter f)
 unfold dI;rw[←JZ hs];refine DZ ?_
 refine(List.perm_ext_iff_of_nodup ((h.nd).sublist (List.Sublist.map _ List.filter_sublist)) (hs.imp fun h1 e=>by omega)).2 fun k=> ?_
 rw[List.mem_map,List.mem_map];constructor
 ·rintro⟨p,hp,rfl⟩
  obtain⟨h1,h2⟩:=List.mem_filter.1 hp
  obtain⟨h3,h4⟩:=(h.get p.1 p.2).1 (uw h.nd h1)
  exact⟨p.2,List.mem_filter.2 ⟨h3,h2⟩,h4⟩
 ·rintro⟨r,hr,rfl⟩
  obtain⟨h1,h2⟩:=List.mem_filter.1 hr
  exact⟨_,List.mem_filter.2 ⟨mZ (I6 h h1),h2⟩,rfl⟩
theorem N5(h:KR kv R):(kv.map (·.1)).Perm (R.map (·.hi)):=by
 have hs:(R.map (·.hi)).Nodup:=List.pairwise_map.2 (h.srt.imp fun h1 e=>by omega)
 refine(List.perm_ext_iff_of_nodup h.nd hs).2 fun k=> ?_
 rw[List.mem_map,List.mem_map];constructor
 ·rintro⟨p,hp,rfl⟩
  obtain⟨h3,h4⟩:=(h.get p.1 p.2).1 (uw h.nd hp);exact⟨p.2,h3,h4⟩
 ·rintro⟨r,hr,rfl⟩;exact⟨_,mZ (I6 h hr),rfl⟩
theorem P8(h:KR kv R):kv.length=R.length:=by simpa using(N5 h).length_eq
theorem xo(h:kj y):(0≤y.ra∧0≤y.rb∧0≤y.rc)∧(0≤y.la∧0≤y.lb∧0≤y.lc)∧0≤y.ua∧0≤y.ub∧0≤y.uc:=by
 unfold kj at h;omega
theorem Ea(h:kj y):fe y=kG y:=by
 obtain⟨⟨h1,h2,h3⟩,⟨h4,h5,h6⟩,h7,h8,h9⟩:=xo h
 unfold fe kG;rw[wA h1 h2 h3,wA h4 h5 h6,wA h7 h8 h9]
theorem Bm(h:kj y):dM y.la y.lb y.lc=fP y.la y.lb y.lc:=wA (xo h).2.1.1 (xo h).2.1.2.1 (xo h).2.1.2.2
theorem P9:kj dr:=by unfold kj dr;decide
theorem HU(h:KR kv R)(k:Int):kj (dF kv k):=by
 unfold dF;cases e:cw kv k with
 |none=>exact P9
 |some y=>exact h.rng y ((h.get k y).1 e).1
theorem y6(h:KR kv R)(k:Int):iP kv k=tD R k:=by
 unfold iP tD;rw[Bm (HU h k),xH h]
theorem Bn(h:KR kv R)(a:Int):dI kv (fun v_=>v_.hp==a)=pt R a:=by
 rw[N4 h];unfold pt;congr 1
theorem HV(h:KR kv R)(hx:kj x):KR (dD kv x.hi x) (rC x R):=by
 refine⟨Le h.srt,fun k y=> ?_,lM h.nd _ _,fun r hr=> ?_⟩
 ·rw[iU];by_cases e:x.hi=k
  ·rw[if_pos e];subst e;constructor
   ·intro g;cases g;exact⟨(tf h.srt x).2 (.inl rfl),rfl⟩
   ·rintro⟨hr,e1⟩
    rcases(tf h.srt y).1 hr with rfl|⟨_,g⟩
    ·rfl
    ·exact absurd e1 g
  ·rw[if_neg e,h.get];constructor
   ·rintro⟨hr,e1⟩;exact⟨(tf h.srt y).2 (.inr ⟨hr,fun g=>e (by rw[←g,e1])⟩),e1⟩
   ·rintro⟨hr,e1⟩
    rcases(tf h.srt y).1 hr with rfl|⟨g,_⟩
    ·exact absurd e1 e
    ·exact⟨g,e1⟩
 ·rcases(tf h.srt r).1 hr with rfl|⟨g,_⟩
  ·exact hx
  ·exact h.rng r g
theorem Pe(h:KR kv R)(a:Int):KR (dL kv a) (JF a R):=by
 refine⟨List.Pairwise.filter _ h.srt,fun k y=> ?_,kR h.nd a,fun r hr=>h.rng r (List.mem_filter.1 hr).1⟩
 rw[iJ h.nd]
 by_cases e:a=k
 ·rw[if_pos e];subst e;constructor
  ·intro g;cases g
  ·rintro⟨hr,e1⟩;have:=(List.mem_filter.1 hr).2;simp[e1] at this
 ·rw[if_neg e,h.get];constructor
  ·rintro⟨hr,e1⟩;exact⟨List.mem_filter.2 ⟨hr,by simp[e1];exact fun g=>e g.symm⟩,e1⟩
  ·rintro⟨hr,e1⟩;exact⟨(List.mem_filter.1 hr).1,e1⟩
structure eA(kv:List (Int×Cl)):Prop where
 nd:(kv.map (·.1)).Nodup
 key: ∀k y,cw kv k=some y→y.hi=k∧fe y=0
 par: ∀k y,cw kv k=some y→y.hp=0∨ ∃p,cw kv y.hp=some p∧p.hl=false
 shr: ∀k y,cw kv k=some y→(dM y.la y.lb y.lc)>1→iP kv y.hp=true
 dep:HOk kv
 len:kv.length≤64
theorem Lh:eA []:=⟨by simp,fun k y h=>by simp[cw] at h,fun k y h=>by simp[cw] at h,fun k y h=>by simp[cw] at h,SH,by simp⟩
theorem rP(h:fe y=0):1≤y.hi∧0≤y.hp∧y.hi≠y.hp:=by
 unfold fe at h;split at h
 ·omega
 ·omega
theorem mH(h:eA kv):cw kv 0=none:=by
 cases e:cw kv 0 with
 |none=>rfl
 |some y=>obtain⟨h1,h2⟩:=h.key 0 y e;have:=rP h2;omega
variable{k:Int}
theorem ig(h:cw kv k=some y):dF kv k=y:=by unfold dF;rw[h];rfl
theorem Ai(h:cw kv k=none):dF kv k=dr:=by unfold dF;rw[h];rfl
theorem Dp(kv:List (Int×Cl)): ∀(n:Nat)(k:Int),fW kv n k≤fW kv (n+1) k
 |0,k=>by simp[fW]
 |n+1,k=>by
  rw[fW,fW];split
  ·have:=Dp kv n (dF kv k).hp;omega
  ·exact Nat.le_refl _
theorem Pg(h:iY kv y=0):fe y=0∧cw kv y.hi=none∧(kv.length:Int)≠64∧(y.hp=0∨cw kv y.hp≠none)∧(dF kv y.hp).hl=false∧((dM y.la y.lb y.lc)>1→iP kv y.hp=true)∧(dep kv y.hp:Int)≠16:=by
 unfold iY at h
 repeat' split at h
 all_goals first|omega|skip
 rename_i h1 h2 h3 h4 h5 h6
 refine⟨by omega,?_,h3,?_,?_,?_,h6⟩
 ·cases e:cw kv y.hi with
  |none=>rfl
  |some z=>rw[e] at h2;simp at h2
 ·by_cases e:y.hp=0
  ·exact .inl e
  ·right;intro e2;apply h4;left;exact⟨e,by rw[e2];rfl⟩
 ·cases e:(dF kv y.hp).hl with
  |false=>rfl
  |true=>exact absurd (.inr e) h4
 ·intro g;cases e:iP kv y.hp with
  |true=>rfl
  |false=>exact absurd ⟨g,e⟩ h5
theorem N6(h:eA kv)(hk:k=0∨cw kv k≠none):(dF kv k).hp=0∨cw kv (dF kv k).hp≠none:=by
 cases e:cw kv k with
 |none=>rw[Ai e];exact .inl rfl
 |some y=>rw[ig e];rcases h.par k y e with g|⟨p,g,_⟩
          ·exact .inl g
          ·right;rw[g];simp
theorem zB(h:eA kv)(hn:cw kv y.hi=none)(h0:y.hi≠0): ∀(n:Nat)(k:Int),(k=0∨cw kv k≠none)→fW (dD kv y.hi y) n k=fW kv n k
 |0,_,_=>rfl
 |n+1,k,hk=>by
  have hne: ¬y.hi=k:=by
   rcases hk with rfl|hk
   ·exact h0
   ·rintro rfl;exact hk hn
  have eg:cw (dD kv y.hi y) k=cw kv k:=by rw[iU,if_neg hne]
  rw[fW,fW,eg,show dF (dD kv y.hi y) k=dF kv k by unfold dF;rw[eg],zB h hn h0 n _ (N6 h hk)]
theorem uv(hne: ¬y.hi=k):iP (dD kv y.hi y) k=iP kv k:=by
 unfold iP dF;rw[iU,if_neg hne]
theorem Lj(h:eA kv)(hE:iY kv y=0):eA (dD kv y.hi y):=by
 obtain⟨h1,h2,h3,h4,h5,h6,h7⟩:=Pg hE
 obtain⟨w1,w2,w3⟩:=rP h1
 have old: ∀k z,cw kv k=some z→ ¬y.hi=z.hp:=fun k z hz e=>by
  rcases h.par k z hz with g|⟨p,g,_⟩
  ·omega
  ·rw[←e,h2] at g;cases g
 refine⟨lM h.nd _ _,fun k z hz=> ?_,fun k z hz=> ?_,fun k z hz hs=> ?_,fun k=> ?_,?_⟩
 ·rw[iU] at hz;split at hz
  ·cases hz;exact⟨by assumption,h1⟩
  ·exact h.key k z hz
 ·rw[iU] at hz;split at hz
  ·cases hz
   rcases h4 with g|g
   ·exact .inl g
   ·right;cases e:cw kv y.hp with
    |none=>exact absurd e g
    |some p=>exact⟨p,by rw[iU,if_neg w3];exact e,by rw[←ig e];exact h5⟩
  ·rcases h.par k z hz with g|⟨p,g,g2⟩
   ·exact .inl g
   ·exact .inr ⟨p,by rw[iU,if_neg (old k z hz)];exact g,g2⟩
 ·rw[iU] at hz;split at hz
  ·cases hz;rw[uv w3];exact h6 hs
  ·rw[uv (old k z hz)];exact h.shr k z hz hs
 ·unfold dep
  by_cases e:y.hi=k
  ·subst e
   have eg:cw (dD kv y.hi y) y.hi=some y:=by rw[iU,if_pos rfl]
   rw[fW,eg,ig eg,zB h h2 (by omega) 16 _ h4]
   have q1:fW kv 16 y.hp≤fW kv 17 y.hp:=Dp kv 16 y.hp
   have q2:=h.dep y.hp
   unfold dep at*
   simp only[Option.isSome_some,if_true]
   omega
  ·cases hm:cw kv k with
   |none=>
    rw[fW,iU,if_neg e,hm];simp
   |some z=>rw[zB h h2 (by omega) 17 k (.inr (by rw[hm];simp))];exact h.dep k
 ·rw[yF _ h2];have:=h.len;omega
theorem Dq{kv':List (Int×Cl)}(h1: ∀k,(cw kv' k).isSome=(cw kv k).isSome)(h2: ∀k,(dF kv' k).hp=(dF kv k).hp): ∀(n:Nat)(k:Int),fW kv' n k=fW kv n k
 |0,_=>rfl
 |n+1,k=>by rw[fW,fW,h1,h2,Dq h1 h2 n]
theorem Ph(h:iZ kv y=0):fe y=0∧cw kv y.hi≠none∧y.hp=(dF kv y.hi).hp∧y.hl=(dF kv y.hi).hl∧((dM y.la y.lb y.lc)>1→iP kv y.hp=true)∧((dM y.la y.lb y.lc)≤1→(dI kv (fun v_=>v_.hp==y.hi)).any (jz kv)=false):=by
 unfold iZ at h
 repeat' split at h
 all_goals first|omega|skip
 rename_i h1 h2 h3 h4
 refine⟨by omega,?_,?_,?_,?_,?_⟩
 ·intro e;apply h2;rw[e];rfl
 ·exact Classical.byContradiction fun g=>h3 (.inl g)
 ·exact Classical.byContradiction fun g=>h3 (.inr g)
 ·intro g;cases e:iP kv y.hp with
  |true=>rfl
  |false=>exact absurd (.inl ⟨g,e⟩) h4
 ·intro g;cases e:(dI kv (fun v_=>v_.hp==y.hi)).any (jz kv) with
  |false=>rfl
  |true=>exact absurd (.inr ⟨g,e⟩) h4
theorem rJ{f:Cl→Bool}{v:Cl}(h:cw kv k=some v)(hf:f v=true):k∈dI kv f:=by
 unfold dI gg;rw[(List.mergeSort_perm _ _).mem_iff,List.mem_map]
 exact⟨(k,v),List.mem_filter.2 ⟨mZ h,hf⟩,rfl⟩
theorem Ll(h:eA kv)(hE:iZ kv y=0):eA (dD kv y.hi y):=by
 obtain⟨h1,h2,h3,h4,h5,h6⟩:=Ph hE
 obtain⟨w1,w2,w3⟩:=rP h1
 obtain⟨x,hx⟩: ∃x,cw kv y.hi=some x:=by
  cases e:cw kv y.hi with
  |none=>exact absurd e h2
  |some x=>exact⟨x,rfl⟩
 rw[ig hx] at h3 h4
 have hsh: ∀z:Cl,z.hp=y.hi→ ∀k,cw kv k=some z→(dM z.la z.lb z.lc)>1→(dM y.la y.lb y.lc)>1:=fun z e k hz hs=>by
  rcases Classical.em ((dM y.la y.lb y.lc)>1) with g|g
  ·exact g
  ·have:=List.any_eq_false.1 (h6 (by omega)) k (rJ hz (by simp[e]))
   unfold jz at this;rw[hz] at this;simp at this;omega
 refine⟨lM h.nd _ _,fun k z hz=> ?_,fun k z hz=> ?_,fun k z hz hs=> ?_,fun k=> ?_,?_⟩
 ·rw[iU] at hz;split at hz
  ·cases hz;exact⟨by assumption,h1⟩
  ·exact h.key k z hz
 ·have par:z.hp=0∨ ∃p,cw kv z.hp=some p∧p.hl=false:=by
   rw[iU] at hz;split at hz
   ·cases hz;rw[h3];exact h.par _ _ hx
   ·exact h.par k z hz
  rcases par with g|⟨p,g,g2⟩
  ·exact .inl g
  ·right;by_cases e:y.hi=z.hp
   ·refine⟨y,by rw[iU,if_pos e],?_⟩
    rw[←e,hx] at g;cases g;rw[h4];exact g2
   ·exact⟨p,by rw[iU,if_neg e];exact g,g2⟩
 ·rw[iU] at hz;split at hz
  ·cases hz;rw[uv w3];exact h5 hs
  ·by_cases e:y.hi=z.hp
   ·unfold iP dF;rw[iU,if_pos e]
    have:=hsh z e.symm k hz hs
    simp;right;omega
   ·rw[uv e];exact h.shr k z hz hs
 ·unfold dep;rw[Dq (kv:=kv) (fun q=> ?_) (fun q=> ?_)]
  ·exact h.dep k
  ·rw[iU];split
   ·rename_i e;subst e;rw[hx];rfl
   ·rfl
  ·unfold dF;rw[iU];split
   ·rename_i e;subst e;rw[hx];exact h3
   ·rfl
 ·rw[Cj _ h2];exact h.len
theorem Pj{a:Int}(h:j8 kv a=0):cw kv a≠none∧ ∀k z,cw kv k=some z→z.hp≠a:=by
 unfold j8 at h
 repeat' split at h
 all_goals first|omega|skip
 rename_i h1 h2
 refine⟨fun e=>h1 (by rw[e];rfl),fun k z hz e=> ?_⟩
 have:k∈dI kv (fun v_=>v_.hp==a):=rJ hz (by simp[e])
 have:=List.length_pos_of_mem this;omega
theorem Lm(h:eA kv){a:Int}(hE:j8 kv a=0):eA (dL kv a):=by
 obtain⟨h1,h2⟩:=Pj hE
 have gt: ∀k z,cw (dL kv a) k=some z→cw kv k=some z:=fun k z hz=>by
  rw[iJ h.nd] at hz;split at hz
  ·cases hz
  ·exact hz
 have same: ∀k,¬a=k→cw (dL kv a) k=cw kv k:=fun k hk=>by rw[iJ h.nd,if_neg hk]
 have dn: ∀(n:Nat)(k:Int),fW (dL kv a) n k≤fW kv n k:=by
  intro n;induction n with
  |zero=>intro k;simp[fW]
  |succ n ih=>
   intro k;by_cases e:a=k
   ·rw[fW];rw[iJ h.nd,if_pos e];simp
   ·rw[fW,fW,same k e,show dF (dL kv a) k=dF kv k by unfold dF;rw[same k e]]
    split
    ·have:=ih (dF kv k).hp;omega
    ·exact Nat.le_refl _
 refine⟨kR h.nd a,fun k z hz=>h.key k z (gt k z hz),fun k z hz=> ?_,fun k z hz hs=> ?_,fun k=>Nat.le_trans (dn 17 k) (h.dep k),?_⟩
 ·rcases h.par k z (gt k z hz) with g|⟨p,g,g2⟩
  ·exact .inl g
  ·exact .inr ⟨p,by rw[same _ (Ne.symm (h2 k z (gt k z hz)))];exact g,g2⟩
 ·have:=h.shr k z (gt k z hz) hs
  unfold iP dF at this⊢;rw[same _ (Ne.symm (h2 k z (gt k z hz)))];exact this
 ·have:=vj h1;have:=h.len;omega
theorem DY{g:Int→Bool}: ∀{l:List Int},(∀i∈l,f i=g i)→l.any f=l.any g
 |[],_=>rfl
 |x::l,h=>by rw[List.any_cons,List.any_cons,h x (by simp),DY fun i hi=>h i (by simp[hi])]
theorem N7(h:KR kv R)(hi:i≠0):jz kv i=tD R i:=by
 rw[←y6 h];unfold jz iP;rw[show((cw kv i).getD dr)=dF kv i from rfl]
 have:(i==0)=false:=by simpa using hi
 rw[this];simp
theorem Pm(h:KR kv R)(hL:eA kv)(hy:kj y):iY kv y=Bi R y:=by
 unfold iY Bi
 rw[Ea hy,y6 h,Bm hy,P7 h hL.dep,←P8 h,←xH h,←sH h,←sH h]
 have hd:=hL.dep y.hp
 by_cases c1:kG y≠0
 ·rw[if_pos c1,if_pos c1]
 rw[if_neg c1,if_neg c1]
 by_cases c2:(cw kv y.hi).isSome=true
 ·rw[if_pos c2,if_pos c2]
 rw[if_neg c2,if_neg c2]
 by_cases c3:(kv.length:Int)=64
 ·rw[if_pos c3,if_pos c3]
 rw[if_neg c3,if_neg c3]
 have e4:((y.hp≠0∧(cw kv y.hp).isSome=false)∨(dF kv y.hp).hl=true)↔(y.hp≠0∧(cw kv y.hp=none∨(dF kv y.hp).hl=true)):=by
  by_cases e0:y.hp=0
  ·rw[e0,Ai (mH hL)];simp[dr]
  ·simp[e0]
 simp only[e4]
 have e6:((dep kv y.hp:Int)=16)↔((dep kv y.hp:Int)≥16):=by omega
 simp only[e6]
theorem Pn(h:KR kv R)(a:Int):j8 kv a=Bj R a:=by
 unfold j8 Bj;rw[Bn h,←sH h];cases cw kv a<;>simp
theorem Po(h:KR kv R)(hL:eA kv)(hy:kj y):iZ kv y=Bl R y:=by
 unfold iZ Bl
 have ea:(pt R y.hi).any (yA R y)=(!decide ((fP y.la y.lb y.lc)>1)&&(pt R y.hi).any (jz kv)):=by
  have e1:(pt R y.hi).any (yA R y)=(pt R y.hi).any (fun i=> !decide ((fP y.la y.lb y.lc)>1)&&jz kv i):=by
   refine DY fun i hi=> ?_
   rw[←Bn h] at hi
   have hi2:i∈kv.map (·.1):=by
    unfold dI gg at hi;rw[(List.mergeSort_perm _ _).mem_iff] at hi
    obtain⟨p,hp,rfl⟩:=List.mem_map.1 hi;exact List.mem_map_of_mem (List.mem_filter.1 hp).1
   obtain⟨p,hp,rfl⟩:=List.mem_map.1 hi2
   obtain⟨k1,k2⟩:=hL.key p.1 p.2 (uw h.nd hp)
   have:=rP k2
   unfold yA;rw[N7 h (by omega)]
  rw[e1];cases decide ((fP y.la y.lb y.lc)>1)<;>simp
 rw[Ea hy,y6 h,Bm hy,Bn h,ea,←xH h,←sH h]
 by_cases c1:kG y≠0
 ·rw[if_pos c1,if_pos c1]
 rw[if_neg c1,if_neg c1]
 cases c2:cw kv y.hi with
 |none=>simp
 |some x=>
  simp only[Option.isSome_some,reduceCtorEq,if_false]
  have e3:(y.hp≠(dF kv y.hi).hp∨y.hl≠(dF kv y.hi).hl)↔((dF kv y.hi).hp≠y.hp∨(dF kv y.hi).hl≠y.hl):=by rw[ne_comm,ne_comm (a:=y.hl)]
  simp only[e3]
  by_cases c4:(fP y.la y.lb y.lc)>1
  ·have: ¬(fP y.la y.lb y.lc)≤1:=by omega
   simp[c4,this]
  ·have:(fP y.la y.lb y.lc)≤1:=by omega
   simp[c4,this]
theorem K1(h:eA kv)(y:Cl):eA (lV kv y):=by
 unfold lV;split
 ·exact Lj h ‹_›
 ·exact h
theorem K2(h:eA kv)(y:Cl):eA (lK kv y):=by
 unfold lK;split
 ·exact Ll h ‹_›
 ·exact h
theorem K3(h:eA kv)(a:Int):eA (o0 kv a):=by
 unfold o0;split
 ·exact Lm h ‹_›
 ·exact h
theorem N8(h:KR kv R)(hL:eA kv)(hy:kj y):KR (lV kv y) (I3 R y):=by
 unfold lV I3;rw[Pm h hL hy];split
 ·exact HV h hy
 ·exact h
theorem N9(h:KR kv R)(hL:eA kv)(hy:kj y):KR (lK kv y) (I5 R y):=by
 unfold lK I5;rw[Po h hL hy];split
 ·exact HV h hy
 ·exact h
theorem Na(h:KR kv R)(a:Int):KR (o0 kv a) (I4 R a):=by
 unfold o0 I4;rw[Pn h];split
 ·exact Pe h a
 ·exact h
structure Pl where
 pp:Int
 pf:Int
 deriving Inhabited,DecidableEq
def oQ(x:Pl):List Value:=[(i_ x.pp),(i_ x.pf)]
def dR:Pl:=⟨0,0⟩
def fc(on:List (Int×Int))(kv:List (Int×MB))(i:Int):Bool:=(cw on i).isSome||decide ((kx kv i).length>0)
def db(ym:List (Int×Pl))(i:Int):Int:=((cw ym i).getD dR).pp
def iy(ym:List (Int×Pl))(i:Int):Bool:=decide (((cw ym i).getD dR).pf≠0)
def lI(F:Int→List (Int×Int))(p i:Int):Int→List (Int×Int):=fun q=>if p=q then dD (F p) i 1 else F q
def iH(F:Int→List (Int×Int))(p i:Int):Int→List (Int×Int):=fun q=>if p=q then dL (F p) i else F q
def iw(ym:List (Int×Pl)):Nat→Int→Prop
 |0,_=>False
 |n+1,i=>db ym i=0∨iw ym n (db ym i)
def fX(ym:List (Int×Pl))(F:Int→List (Int×Int)):Nat→Int→List Int×(Int→List (Int×Int))
 |0,i=>([i],F)
 |n+1,i=>if F (db ym i)≠[]∨db ym i=0 then([i],lI F (db ym i) i) else
  (i::(fX ym (lI F (db ym i) i) n (db ym i)).1,(fX ym (lI F (db ym i) i) n (db ym i)).2)
def fw(ym:List (Int×Pl))(F:Int→List (Int×Int)):Nat→Int→List Int×(Int→List (Int×Int))
 |0,i=>([i],F)
 |n+1,i=>if iH F (db ym i) i (db ym i)≠[]∨db ym i=0 then([i],iH F (db ym i) i) else
  (i::(fw ym (iH F (db ym i) i) n (db ym i)).1,(fw ym (iH F (db ym i) i) n (db ym i)).2)
variable{ym:List (Int×Pl)}{F:Int→List (Int×Int)}{n:Nat}
theorem nJ(h:F (db ym i)≠[]∨db ym i=0):fX ym F (n+1) i=([i],lI F (db ym i) i):=by rw[fX,if_pos h]
theorem xi(h: ¬(F (db ym i)≠[]∨db ym i=0)):fX ym F (n+1) i=(i::(fX ym (lI F (db ym i) i) n (db ym i)).1,(fX ym (lI F (db ym i) i) n (db ym i)).2):=by rw[fX,if_neg h]
theorem qJ(h:iH F (db ym i) i (db ym i)≠[]∨db ym i=0):fw ym F (n+1) i=([i],iH F (db ym i) i):=by rw[fw,if_pos h]
theorem AU(h: ¬(iH F (db ym i) i (db ym i)≠[]∨db ym i=0)):fw ym F (n+1) i=(i::(fw ym (iH F (db ym i) i) n (db ym i)).1,(fw ym (iH F (db ym i) i) n (db ym i)).2):=by rw[fw,if_neg h]
theorem Db{p:Int}(h:F p=[]):iH F p i=F:=by
 funext q;unfold iH;split
 ·rename_i e;subst e;rw[h];rfl
 ·rfl
abbrev gn(b:Nat)(kv:List (Int×Pl)):V.dC:=dX (fun k:Int=>i_ k) (fun v_:Pl=>(.agg (oQ v_).toArray)) b kv
abbrev fj(b:Nat)(kv:List (Int×Int)):V.dC:=dX (fun k:Int=>i_ k) (fun x:Int=>i_ x) b kv
abbrev fy(b:Nat)(kv:List (Int×MB)):V.dC:=dX (fun k:Int=>i_ k) mj b kv
theorem uY(bs mb mo mk:Nat)(ym:List (Int×Pl))(on:List (Int×Int))(kv:List (Int×MB))(ci:Int)(w:World)(r0:(cz bs [.map (some mb),.map (some mo),.map (some mk)] 197).holds w)(r1:(gn mb ym).holds w)(r2:(fj mo on).holds w)(r3:(fy mk kv).holds w)(r4:(fB kv).holds w):
  CW 109 #[p_ bs,i_ ci] w (b_ (fc on kv ci)):=by
 refine A.C Tryz.func109 rfl (HS.nil w) (A.c (A.g [.p] [] [] (A.d (A.c (A.g [.p,.p] [] [(8,b_ false)] (A.Z (A.p (A.c (A.kp [.p,.p,.p,.rd [.map (some mo)],.p] [8] [(13,.map (some mo)),(14,i_ ci)] [] (o1 (ro ⟨bs,1,none⟩ (vs:=[.map (some mo)]) (dj r0 rfl))) (A.j (A.u (some 15) _ (tG 3 3 ci 0 (fun ww ss=>da ss r2) (ee (by kernel_rfl))) (A.g [.p,.p,.p,.p,.p] [13,14,15] [(6,b_ ((cw on ci).isSome))] (A.d (A.aR ((cw on ci).isSome) (fun e1=> ?_) (fun e1=> ?_)))))))))))))))
 ·refine A.D 6 (b_ true) (gw e1) ?_
  refine A.s (A.g [.p,.p,.sk,.sk,.sk,.sk,.sk,.sk,.sk,.sk,.p,.p] [0,1,6] [(4,b_ true)] ?_)
  refine A.e (A.N [b_ true] ?_)
  refine congrArg Value.bool ?_;unfold fc;simp_all
 refine A.D 6 (b_ false) (gw e1) (A.s (A.kp [.p,.p,.p,.p,.p,.rd [.map (some mk)],.p] [0,1,6] [(19,b_ false),(23,.map (some mk)),(24,i_ ci)] [] (o1 (ro ⟨bs,2,none⟩ (vs:=[.map (some mk)]) (dj r0 rfl))) ?_))
 rcases hk1:cw kv ci with _|m1
 ·have hx1:=ze hk1
  refine A.j (A.u (some 25) (.map none) (gx (wJ hk1) (qL 3 194 ci m0 (fun ww ss=>da ss r3) (ee (by kernel_rfl)))) ?_)
  refine A.j (A.u (some 26) (i_ 0) (zF (kt:=3) (et:=3) rfl rfl (by kernel_rfl)) ?_)
  refine A.g [.p,.p,.p] [19,23,24,25,26] [(4,b_ false)] ?_
  refine A.e (A.N [b_ false] ?_)
  refine congrArg Value.bool ?_;unfold fc;simp_all
 have hx1:=zf hk1
 obtain⟨b1,hm1,hb1⟩:=Pz r4 hk1
 refine A.j (A.u (some 25) (.map (some b1)) (gx (qW hk1 hm1) (qL 3 194 ci m0 (fun ww ss=>da ss r3) (ee (by kernel_rfl)))) ?_)
 refine A.j (A.u (some 26) (c_ m1.mx.length) (rM (kt:=3) (et:=3) (enck:=(fun k:Int=>i_ k)) (encv:=(fun x:Int=>i_ x)) (b:=b1) (kv:=m1.mx) (fun ww ss=>da ss hb1) rfl rfl (by kernel_rfl)) ?_)
 refine A.g [.p,.p,.p] [19,23,24,25,26] [(4,b_ (decide ((m1.mx.length:Int)>0)))] ?_
 refine A.e (A.N [b_ (decide ((m1.mx.length:Int)>0))] ?_)
 refine congrArg Value.bool ?_;unfold fc;simp_all
abbrev qZ(p0)(p1)(p2)(p3):=(cz p0 [.map (some p1),.map (some p2),.map (some p3)] 197:V.dC)
theorem LL(bs mb mo mk:Nat)(ym:List (Int×Pl))(on:List (Int×Int))(kv:List (Int×MB))(ci:Int)(hno:iy ym ci=false∨fc on kv ci=false)(w:World)(r0:(qZ bs mb mo mk).holds w)(r1:(gn mb ym).holds w)(r2:(fj mo on).holds w)(r3:(fy mk kv).holds w)(r4:(fB kv).holds w):
  CW 216 #[p_ bs,i_ ci] w (.tuple #[e_,i_ 6]):=by
 refine A.C Tryz.func216 rfl (HS.nil w) (A.c (A.g [.p,.p] [] [] (A.d (A.y (A.c (A.g [.p,.p,.p] [] [(9,b_ false)] (A.Z (A.c (A.kp [.p,.p,.p,.rd [.map (some mb)],.p] [9] [(16,.map (some mb)),(17,i_ ci)] [] (o1 (ro ⟨bs,0,none⟩ (vs:=[.map (some mb)]) (dj r0 rfl))) (A.j (A.u (some 18) _ (qL 3 200 ci dR (fun ww ss=>da ss r1) (ee (by kernel_rfl))) (A.k [.p,.p,.p,.o,.p,.p,.cq (b_ (fc on kv ci)),.p,.cl,.p] [16,17,18] [(12,b_ (((((cw ym ci).getD dR).pf)==0)||(!(fc on kv ci))))] [] (o1 (go (true&&(((((cw ym ci).getD dR).pf)==0)==false)) fun h_=>(qo (fun ww ss=>uY bs mb mo mk ym on kv ci ww (da ss r0) (da ss r1) (da ss r2) (da ss r3) (da ss r4))))) (A.v rfl (fun e1=> ?_) (fun e1=> ?_))))))))))))))
 ·refine A.c (A.g [.p,.p] [0,1,12] [(4,e_),(5,i_ 6)] (A.e (A.N [e_,i_ 6] ?_)))
  rfl
 exact absurd e1 (by(intro h_;unfold iy at hno;simp at h_;rcases hno with hno|hno;exact h_.1 (by simpa using hno);exact absurd h_.2 (by rw[hno];decide)))
theorem Oe(bs mb mo mk:Nat)(ym:List (Int×Pl))(on:List (Int×Int))(kv:List (Int×MB))(ci:Int)(hlf:iy ym ci=true)(his:fc on kv ci=true)(hd0:iw ym 40 ci):
  CS 216 #[p_ bs,i_ ci] [qZ bs mb mo mk,gn mb ym,fj mo on,fy mk kv,fB kv] (fun((kv',al',cl'):(List (Int×MB))×(Option Addr)×Nat)=>(.tuple #[vS al' ((fw ym (kx kv) 40 ci).1) cl',i_ 0])) (fun(kv',al',cl')=>kx kv'=(fw ym (kx kv) 40 ci).2) fun(kv',al',cl')=>[qZ bs mb mo mk,gn mb ym,fj mo (dL on ci),fy mk kv',fB kv',sI al' ((fw ym (kx kv) 40 ci).1) cl']:=by
 intro w hs
 refine A.C Tryz.func216 rfl hs (A.c (A.g [.p,.p] [] [] (A.d (A.y (A.c (A.g [.p,.p,.p] [] [(9,b_ false)] (A.Z (A.c (A.gm [.p,.p,.p,.ld 0,.p] [9] [(16,.map (some mb)),(17,i_ ci)] [bs] (A.j (A.u (some 18) _ (jn (kt:=3) (et:=200) (enck:=(fun k:Int=>i_ k)) (encv:=(fun v_:Pl=>(.agg (oQ v_).toArray))) (b:=mb) (kv:=ym) (k:=ci) (d0:=dR) (fun ww ss=>ss.mem (i:=1) rfl) rfl rfl rfl (by kernel_rfl) (ee (by kernel_rfl)) (by kernel_rfl) rfl) (A.k [.p,.p,.p,.o,.p,.p,.cq (b_ (fc on kv ci)),.p,.cl,.p] [16,17,18] [(12,b_ (((((cw ym ci).getD dR).pf)==0)||(!(fc on kv ci))))] [] (o1 (go (true&&(((((cw ym ci).getD dR).pf)==0)==false)) fun h_=>(qo (fun ww ss=>uY bs mb mo mk ym on kv ci ww (ss.mem (i:=0) rfl) (ss.mem (i:=1) rfl) (ss.mem (i:=2) rfl) (ss.mem (i:=3) rfl) (ss.mem (i:=4) rfl))))) (A.v rfl (fun e1=> ?_) (fun e1=> ?_))))))))))))))
 ·exact absurd e1 (by(intro h_;unfold iy at hlf;simp at h_ hlf;simp_all))
 have p1:=e1
 refine A.p (A.c (A.gm [.p,.p,.p,.ld 0,.p] [12] [(30,.map (some mo)),(31,i_ ci)] [bs] (A.j (A.bF (kt:=3) (et:=3) (enck:=(fun k:Int=>i_ k)) (encv:=(fun x:Int=>i_ x)) (kv:=on) (k:=ci) 2 [qZ bs mb mo mk,gn mb ym,fj mo (dL on ci),fy mk kv,fB kv] (by kernel_rfl) rfl rfl rfl (by kernel_rfl) (ee (by kernel_rfl)) rfl rfl (A.aC (A.c (A.hp [.p] [(0,p_ bs),(1,i_ ci),(32,i_ ci)] [] (A.j (A.aF 33 (e:=3) [i_ ci] (by kernel_rfl) rfl (fun _=>by kernel_rfl) _ (fun _=>rfl) ?_)))))))))
 intro b1
 refine A.g [.p] [32,33] [(6,.slice (some ⟨b1,0,none⟩) 1 1)] (A.d (A.bS 5 (b:=b1) 1 1 [qZ bs mb mo mk,gn mb ym,fj mo (dL on ci),fy mk kv,fB kv,sI (some ⟨b1,0,none⟩) ([ci]) 1] rfl rfl (by decide) rfl (A.s (A.h [.p,.p] [(0,p_ bs),(6,vS (some ⟨b1,0,none⟩) ([ci]) 1),(7,i_ ci)] [] (A.y (A.su 5 (sI (some ⟨b1,0,none⟩) (([]:List Int)++[ci]) 1) rfl (eI (by rfl:[ci]=(([]:List Int)++[ci]))) (A.D 6 (vS (some ⟨b1,0,none⟩) (([]:List Int)++[ci]) 1) (fJ (by rfl)) (A.lp (σ:=Int×Nat×(List Int)×(List (Int×MB))×(Option Addr)×Nat) [] (fun(i,n,pre,kvk,ao,co)=>[(7,i_ i),(6,vS ao (pre++[i]) co)]) [0,0,0,0,0,0] (fun(i,n,pre,kvk,ao,co)=>[qZ bs mb mo mk,gn mb ym,fj mo (dL on ci),fy mk kvk,fB kvk,sI ao (pre++[i]) co]) (fun(i,n,pre,kvk,ao,co)=>((pre++(fw ym (kx kvk) n i).1,(fw ym (kx kvk) n i).2)=fw ym (kx kv) 40 ci)∧(iw ym n i)∧(pre.length+n≤40)) (fun(i,n,pre,kvk,ao,co)=>n) (ci,40,([]:List Int),kv,some ⟨b1,0,none⟩,1) ⟨(by rfl),‹_›,(by simp)⟩ ?_ ?_))))))))
 ·exact A.I [0,0,0,0,0,0]
 rintro⟨i,n,pre,kvk,ao,co⟩ ⟨hp,hd,hl⟩
 obtain⟨n,rfl⟩: ∃m,n=m+1:=by cases n with|zero=>exact hd.elim|succ m=>exact⟨m,rfl⟩
 refine A.y (A.c (A.gm [.p,.p,.p,.ld 0,.p] [] [(38,.map (some mb)),(39,i_ i)] [bs] (A.j (A.u (some 40) _ (jn (kt:=3) (et:=200) (enck:=(fun k:Int=>i_ k)) (encv:=(fun v_:Pl=>(.agg (oQ v_).toArray))) (b:=mb) (kv:=ym) (k:=i) (d0:=dR) (fun ww ss=>ss.mem (i:=1) rfl) rfl rfl rfl (by kernel_rfl) (ee (by kernel_rfl)) (by kernel_rfl) rfl) (A.g [.p,.p] [38,39,40] [(8,i_ (((cw ym i).getD dR).pp))] (A.c (A.gm [.p,.p,.p,.ld 0,.p] [] [(45,.map (some mk)),(46,i_ (((cw ym i).getD dR).pp))] [bs] ?_)))))))
 rcases hk2:cw kvk (((cw ym i).getD dR).pp) with _|m2
 ·have hx2:=ze hk2
  refine A.j (A.u (some 47) (.map none) (gx (wJ hk2) (qL 3 194 (((cw ym i).getD dR).pp) m0 (qM 3 rfl) (ee (by kernel_rfl)))) (A.O [.p] [7,45,46] [(48,i_ i)] (A.j (A.u none (.tuple #[]) (MC (kt:=3) (et:=3) (enck:=(fun k:Int=>i_ k)) rfl rfl rfl (by kernel_rfl) (ee (by kernel_rfl))) (A.aC (A.d (A.c (A.gm [.p,.p,.p,.ld 0,.p] [47,48] [(52,.map (some mk)),(53,i_ (((cw ym i).getD dR).pp))] [bs] (A.j (A.u (some 54) (.map none) (gx (wJ hk2) (qL 3 194 (((cw ym i).getD dR).pp) m0 (qM 3 rfl) (ee (by kernel_rfl)))) (A.j (A.u (some 55) (i_ 0) (zF (kt:=3) (et:=3) rfl rfl (by kernel_rfl)) (A.g [.p,.p,.p,.p,.p] [52,53,54,55] [(58,i_ (((cw ym i).getD dR).pp)),(59,b_ ((((cw ym i).getD dR).pp)==0)),(60,b_ ((((cw ym i).getD dR).pp)==0))] (A.v rfl (fun e2=> ?_) (fun e2=> ?_)))))))))))))))
  ·have p2:=e2;try simp only[de] at p2
   refine A.d ?_
   have hq:kx kvk=iH (kx kvk) (db ym i) i:=(Db (by unfold db;exact hx2)).symm
   have hs_:iH (kx kvk) (db ym i) i (db ym i)≠[]∨db ym i=0:=by unfold iH db;rw[if_pos rfl,hx2];(right;assumption)
   refine A.s (A.g [.p,.p,.p] [0,6,8,58,59,60] [(4,vS ao (pre++[i]) co),(5,i_ 0)] (A.e (A.su 5 (sI ao ((fw ym (kx kv) 40 ci).1) co) rfl (eI (by(rw[←hp,qJ hs_]):(pre++[i])=((fw ym (kx kv) 40 ci).1))) (A.Y [0,0,0,0,0,0] [vS ao (pre++[i]) co,i_ 0] (kvk,ao,co) ?_ ?_))))
   ·show((.tuple #[vS ao (pre++[i]) co,i_ 0]):Value)=(.tuple #[vS ao ((fw ym (kx kv) 40 ci).1) co,i_ 0])
    (rw[←hp,qJ hs_])
   show kx kvk=(fw ym (kx kv) 40 ci).2
   (rw[hq,←hp,qJ hs_])
  have p2:=e2;try simp only[de] at p2
  refine A.p (A.d ?_)
  have hq:kx kvk=iH (kx kvk) (db ym i) i:=(Db (by unfold db;exact hx2)).symm
  have hg_: ¬(iH (kx kvk) (db ym i) i (db ym i)≠[]∨db ym i=0):=by unfold iH db;rw[if_pos rfl,hx2];rintro(h_|h_)<;>first|exact h_ rfl|contradiction
  refine A.s (A.O [.p,.p] [60] [(62,vS ao (pre++[i]) co),(63,i_ (((cw ym i).getD dR).pp))] (A.j (A.aF 64 (e:=3) [i_ (((cw ym i).getD dR).pp)] (by kernel_rfl) rfl (fun _=>by kernel_rfl) _ (fun _=>rfl) ?_)))
  intro b3
  refine A.j (A.ap j9 (pre++[i]) ([((cw ym i).getD dR).pp]) 5 65 (i_ 0) 8 fE lO (gZ (i:=6) rfl) (by(simp;omega)) ?_)
  intro A4 c4
  refine A.g [.p] [62,63,64,65] [(6,vS A4 ((pre++[i])++([((cw ym i).getD dR).pp])) c4)] (A.s (A.g [.p,.p] [8] [(7,i_ (((cw ym i).getD dR).pp))] (?_)))
  have hnx:((pre++[i])++(fw ym (kx kvk) n (db ym i)).1,(fw ym (kx kvk) n (db ym i)).2)=fw ym (kx kv) 40 ci∧iw ym n (db ym i):=by rw[hq,←hp,AU hg_];exact⟨by simp,hd.resolve_left fun h_=>hg_ (.inr h_)⟩
  refine A.su 5 (sI A4 ((pre++[i])++[((cw ym i).getD dR).pp]) c4) rfl (eI (by rfl:(pre++[i])++([((cw ym i).getD dR).pp])=((pre++[i])++[((cw ym i).getD dR).pp]))) (A.D 6 (vS A4 ((pre++[i])++[((cw ym i).getD dR).pp]) c4) (fJ (by rfl)) (A.aA (((cw ym i).getD dR).pp,n,pre++[i],kvk,A4,c4) ⟨hnx.1,hnx.2,(by(simp;omega))⟩ (by(simp;done)) ?_))
  exact A.I [0,0,0,0,0,0]
 have hx2:=zf hk2
 refine A.rs [4] (fun b2:Nat=>m2.mb=some b2) (fun b2=>[fB (dL kvk (((cw ym i).getD dR).pp)),fj b2 m2.mx]) (fun w hs=>Eo kvk (((cw ym i).getD dR).pp) hk2 hs) rfl (fun b2 hm2=>(A.j (A.u (some 47) (.map (some b2)) (gx (qW hk2 hm2) (qL 3 194 (((cw ym i).getD dR).pp) m0 (qM 5 rfl) (ee (by kernel_rfl)))) (A.hp [.p] [(0,p_ bs),(6,vS ao (pre++[i]) co),(8,i_ (((cw ym i).getD dR).pp)),(47,.map (some b2)),(48,i_ i)] [] (A.j (A.bF (kt:=3) (et:=3) (enck:=(fun k:Int=>i_ k)) (encv:=(fun x:Int=>i_ x)) (kv:=m2.mx) (k:=i) 1 [fB (dL kvk (((cw ym i).getD dR).pp)),fj b2 (dL m2.mx i),qZ bs mb mo mk,gn mb ym,fj mo (dL on ci),fy mk kvk,sI ao (pre++[i]) co] (by kernel_rfl) rfl rfl rfl (by kernel_rfl) (ee (by kernel_rfl)) rfl rfl (A.aC ?_)))))))
 refine A.d (A.c (A.hp [.p,.p,.p,.ld 2,.p] [(0,p_ bs),(6,vS ao (pre++[i]) co),(8,i_ (((cw ym i).getD dR).pp)),(52,.map (some mk)),(53,i_ (((cw ym i).getD dR).pp))] [bs] (A.j (A.u (some 54) (.map (some b2)) (gx (qW hk2 hm2) (qL 3 194 (((cw ym i).getD dR).pp) m0 (qM 5 rfl) (ee (by kernel_rfl)))) (A.j (A.u (some 55) (i_ ((dL m2.mx i).length:Int)) (rM (kt:=3) (et:=3) (enck:=(fun k:Int=>i_ k)) (encv:=(fun x:Int=>i_ x)) (b:=b2) (kv:=dL m2.mx i) (qM 1 rfl) rfl rfl (by kernel_rfl)) (A.g [.p,.p,.o,.p,.p,.cl] [52,53,54,55] [(60,b_ ((decide (((dL m2.mx i).length:Int)>0))||((((cw ym i).getD dR).pp)==0)))] (A.v rfl (fun e3=> ?_) (fun e3=> ?_)))))))))
 ·refine A.d (A.r0 [5,0,0] [fy mk (dD kvk (((cw ym i).getD dR).pp) (⟨some b2,dL m2.mx i⟩:MB)),fB (dD kvk (((cw ym i).getD dR).pp) (⟨some b2,dL m2.mx i⟩:MB))] rfl (fun w hs=>tg mk kvk kvk (((cw ym i).getD dR).pp) b2 (dL m2.mx i) _ (by rfl) (hk2.trans (congrArg some (An hm2))) hs) ?_)
  have hq:kx (dD kvk (((cw ym i).getD dR).pp) (⟨some b2,dL m2.mx i⟩:MB))=iH (kx kvk) (db ym i) i:=by funext q;rw[uL];unfold iH;simp only[];split<;>simp_all[db]
  have hs_:iH (kx kvk) (db ym i) i (db ym i)≠[]∨db ym i=0:=by unfold iH db;rw[if_pos rfl,hx2];grind
  refine A.s (A.h [.p,.p,.p] [(4,vS ao (pre++[i]) co),(5,i_ 0)] [] (A.e (A.su 5 (sI ao ((fw ym (kx kv) 40 ci).1) co) rfl (eI (by(rw[←hp,qJ hs_]):(pre++[i])=((fw ym (kx kv) 40 ci).1))) (A.Y [2,2,2,0,0,0] [vS ao (pre++[i]) co,i_ 0] ((dD kvk (((cw ym i).getD dR).pp) (⟨some b2,dL m2.mx i⟩:MB)),ao,co) ?_ ?_))))
  ·show((.tuple #[vS ao (pre++[i]) co,i_ 0]):Value)=(.tuple #[vS ao ((fw ym (kx kv) 40 ci).1) co,i_ 0])
   (rw[←hp,qJ hs_])
  show kx (dD kvk (((cw ym i).getD dR).pp) (⟨some b2,dL m2.mx i⟩:MB))=(fw ym (kx kv) 40 ci).2
  (rw[hq,←hp,qJ hs_])
 refine A.p (A.d (A.r0 [5,0,0] [fy mk (dD kvk (((cw ym i).getD dR).pp) (⟨some b2,dL m2.mx i⟩:MB)),fB (dD kvk (((cw ym i).getD dR).pp) (⟨some b2,dL m2.mx i⟩:MB))] rfl (fun w hs=>tg mk kvk kvk (((cw ym i).getD dR).pp) b2 (dL m2.mx i) _ (by rfl) (hk2.trans (congrArg some (An hm2))) hs) ?_))
 have hq:kx (dD kvk (((cw ym i).getD dR).pp) (⟨some b2,dL m2.mx i⟩:MB))=iH (kx kvk) (db ym i) i:=by funext q;rw[uL];unfold iH;simp only[];split<;>simp_all[db]
 have hg_: ¬(iH (kx kvk) (db ym i) i (db ym i)≠[]∨db ym i=0):=by unfold iH db;rw[if_pos rfl,hx2];rintro(h_|h_)<;>first|exact h_ (List.eq_nil_of_length_eq_zero (by omega))|(simp_all;done)
 refine A.s (A.hp [.p,.p] [(0,p_ bs),(6,vS ao (pre++[i]) co),(8,i_ (((cw ym i).getD dR).pp)),(62,vS ao (pre++[i]) co),(63,i_ (((cw ym i).getD dR).pp))] [] (A.j (A.aF 64 (e:=3) [i_ (((cw ym i).getD dR).pp)] (by kernel_rfl) rfl (fun _=>by kernel_rfl) _ (fun _=>rfl) ?_)))
 intro b5
 refine A.j (A.ap j9 (pre++[i]) ([((cw ym i).getD dR).pp]) 5 65 (i_ 0) 8 fE lO (gZ (i:=6) rfl) (by(simp;omega)) ?_)
 intro A6 c6
 refine A.g [.p] [62,63,64,65] [(6,vS A6 ((pre++[i])++([((cw ym i).getD dR).pp])) c6)] (A.s (A.g [.p,.p] [8] [(7,i_ (((cw ym i).getD dR).pp))] (?_)))
 have hnx:((pre++[i])++(fw ym (kx (dD kvk (((cw ym i).getD dR).pp) (⟨some b2,dL m2.mx i⟩:MB))) n (db ym i)).1,(fw ym (kx (dD kvk (((cw ym i).getD dR).pp) (⟨some b2,dL m2.mx i⟩:MB))) n (db ym i)).2)=fw ym (kx kv) 40 ci∧iw ym n (db ym i):=by rw[hq,←hp,AU hg_];exact⟨by simp,hd.resolve_left fun h_=>hg_ (.inr h_)⟩
 refine A.su 5 (sI A6 ((pre++[i])++[((cw ym i).getD dR).pp]) c6) rfl (eI (by rfl:(pre++[i])++([((cw ym i).getD dR).pp])=((pre++[i])++[((cw ym i).getD dR).pp]))) (A.D 6 (vS A6 ((pre++[i])++[((cw ym i).getD dR).pp]) c6) (fJ (by rfl)) (A.aA (((cw ym i).getD dR).pp,n,pre++[i],dD kvk (((cw ym i).getD dR).pp) (⟨some b2,dL m2.mx i⟩:MB),A6,c6) ⟨hnx.1,hnx.2,(by(simp;omega))⟩ (by(simp;done)) ?_))
 exact A.I [2,2,2,0,0,0]
structure It where
 ka:Int
 ki:Int
 va:Int
 vi:Int
 deriving DecidableEq,Inhabited
inductive T where
 |nil
 |node (b:Nat) (x m:It) (h n:Int) (l r:T)
def T.ptr:T→Option Addr
 | .nil=>none
 | .node b .. =>some ⟨b,0,none⟩
def T.blocks:T→List Nat
 | .nil=>[]
 | .node b _ _ _ _ l r=>b::(l.blocks++r.blocks)
def T.hgt:T→Int
 | .nil=>0
 | .node _ _ _ h .. =>h
def T.cnt:T→Int
 | .nil=>0
 | .node _ _ _ _ n .. =>n
variable{b:Nat}{x m:It}{h n:Int}{l r:T}
theorem i9:(T.node b x m h n l r).hgt=h:=rfl
theorem nv:(T.node b x m h n l r).cnt=n:=rfl
theorem jV:T.nil.hgt=0:=rfl
theorem vu:T.nil.cnt=0:=rfl
def T.Bd(t:T):Prop:=0≤t.hgt∧t.hgt≤100000∧0≤t.cnt∧t.cnt≤100000
def T.Sm(t:T):Prop:=0≤t.hgt∧t.hgt≤1000∧0≤t.cnt∧t.cnt≤1000
def T.toL:T→List It
 | .nil=>[]
 | .node _ x _ _ _ l r=>l.toL++x::r.toL
def qR(x m:It)(h n:Int)(l r:T):List Value:=[u_ x.ka,i_ x.ki,u_ x.va,i_ x.vi,.pointer l.ptr,.pointer r.ptr,u_ m.ka,i_ m.ki,u_ m.va,i_ m.vi,i_ h,i_ n]
def T.H(TN:TypeId):T→World→Prop
 | .nil,_=>True
 | .node b x m h n l r,w=>w.heap[b]? =some (.cells (qR x m h n l r).toArray TN (0,0))∧T.H TN l w∧T.H TN r w
variable{TN:TypeId}
theorem T.H_loc: ∀(t:T)(w w':World),(∀b∈t.blocks,w'.heap[b]? =w.heap[b]?)→T.H TN t w→T.H TN t w'
 | .nil,_,_,_,_=>trivial
 | .node b x m h n l r,w,w',hb,⟨h1,h2,h3⟩=>⟨by rw[hb b (by simp[T.blocks])];exact h1,T.H_loc l w w' (fun c hc=>hb c (by simp[T.blocks,hc])) h2,T.H_loc r w w' (fun c hc=>hb c (by simp[T.blocks,hc])) h3⟩
theorem T.H_here: ∀(t:T)(w:World),T.H TN t w→ ∀b∈t.blocks,b<w.heap.size
 | .nil,_,_,b,hb=>by simp[T.blocks] at hb
 | .node c x m h n l r,w,⟨h1,h2,h3⟩,b,hb=>by
   simp only[T.blocks,List.mem_cons,List.mem_append] at hb
   rcases hb with rfl|hb|hb
   ·exact(Array.getElem?_eq_some_iff.1 h1).1
   ·exact T.H_here l w h2 b hb
   ·exact T.H_here r w h3 b hb
def dS(TN:TypeId)(t:T):V.dC where
 foot:=t.blocks
 holds:=T.H TN t
 loc w w' h hw:=T.H_loc t w w' h hw
 here w hw b hb:=T.H_here t w hw b hb
theorem nD{w:World}(hs:HS w (dG [dS TN (.node b x m h n l r)]) [dS TN (.node b x m h n l r)] w):
  ∃_:Unit,True∧(∀it∈[cz b (qR x m h n l r) TN,dS TN l,dS TN r],it.holds w)∧(dG [cz b (qR x m h n l r) TN,dS TN l,dS TN r]).Nodup∧ ∀c∈dG [cz b (qR x m h n l r) TN,dS TN l,dS TN r],c∈dG [dS TN (.node b x m h n l r)]:=by
 have h1:=hs.mem (i:=0) rfl
 have h2:=hs.nodup
 obtain⟨a1,a2,a3⟩:=h1
 refine⟨(),trivial,?_,?_,?_⟩
 ·intro it hi;simp only[List.mem_cons,List.not_mem_nil,or_false] at hi;rcases hi with rfl|rfl|rfl;exact a1;exact a2;exact a3
 ·simpa[dG,cz,dS,T.blocks] using h2
 ·intro c hc;simpa[dG,cz,dS,T.blocks] using hc
theorem lN{w:World}(hs:HS w (dG [cz b (qR x m h n l r) TN,dS TN l,dS TN r]) [cz b (qR x m h n l r) TN,dS TN l,dS TN r] w):
  ∃_:Unit,True∧(∀it∈[dS TN (.node b x m h n l r)],it.holds w)∧(dG [dS TN (.node b x m h n l r)]).Nodup∧ ∀c∈dG [dS TN (.node b x m h n l r)],c∈dG [cz b (qR x m h n l r) TN,dS TN l,dS TN r]:=by
 have a1:=hs.mem (i:=0) rfl
 have a2:=hs.mem (i:=1) rfl
 have a3:=hs.mem (i:=2) rfl
 have h2:=hs.nodup
 refine⟨(),trivial,?_,?_,?_⟩
 ·intro it hi;simp only[List.mem_cons,List.not_mem_nil,or_false] at hi;subst hi;exact⟨a1,a2,a3⟩
 ·simpa[dG,cz,dS,T.blocks] using h2
 ·intro c hc;simpa[dG,cz,dS,T.blocks] using hc
theorem A.cB{n:Nat}{env:dQ}{w0:World}{S:List Nat}{H:List V.dC}{G:Act→World→Prop}(H':List V.dC)(hH:H++[dS TN .nil]=H')(h:V.A n env w0 S H' G):V.A n env w0 S H G:=fun a w r s=>
 h a w r (by rw[←hH];exact s.add (Fr.refl _ _) trivial (by simp[dS,T.blocks]) (by simp[dS,T.blocks]))
def i5(x i y j:Int):Int:=if x=y∧i=j then 0 else if x<y∨x=y∧i<j then-1 else 1
def ej(x i y j:Int):Prop:=x<y∨x=y∧i<j
instance(x i y j:Int):Decidable (ej x i y j):=by unfold ej;infer_instance
theorem FX(x i y j:Int):i5 x i y j<0↔ej x i y j:=by unfold i5 ej;grind
theorem FY(x i y j:Int):0<i5 x i y j↔ej y j x i:=by unfold i5 ej;grind
theorem EW(x i y j:Int):i5 x i y j=0↔(x=y∧i=j):=by unfold i5;grind
def dO(a b:It):It:=if ej b.va b.vi a.va a.vi∨(b.va=a.va∧b.vi=a.vi)∧ej b.ka b.ki a.ka a.ki then b else a
def T.low:T→It→It
 | .nil,a=>a
 | .node _ _ m ..,a=>dO a m
def eF(x:It)(l r:T):It:=r.low (l.low x)
def eL(l r:T):Int:=1+max l.hgt r.hgt
def eR(l r:T):Int:=1+l.cnt+r.cnt
def mk(b:Nat)(x:It)(l r:T):T:= .node b x (eF x l r) (eL l r) (eR l r) l r
def T.Right:T→Prop
 | .nil=>True
 | .node _ x m h n l r=>m=eF x l r∧h=eL l r∧n=eR l r∧l.Right∧r.Right
theorem Dj:T.nil.Right:=trivial
theorem lC(hl:l.Right)(hr:r.Right):(mk b x l r).Right:=⟨rfl,rfl,rfl,hl,hr⟩
theorem T.Right.pos: ∀{t:T},t.Right→0≤t.hgt∧t.hgt≤t.cnt∧t.cnt=t.toL.length
 | .nil,_=>by simp[T.hgt,T.cnt,T.toL]
 | .node b x m h n l r,⟨_,hh,hn,hl,hr⟩=>by
   have h1:=T.Right.pos hl;have h2:=T.Right.pos hr
   simp only[T.hgt,T.cnt,T.toL,List.length_append,List.length_cons]
   rw[hh,hn];unfold eL eR;omega
theorem xw{t:T}(h:t.Right)(hc:t.cnt≤100000):t.Bd:=by have:=h.pos;unfold T.Bd;omega
def CC(b:Nat)(x:It):T→T→T
 | .node bl y _ _ _ p q,r=>if q.hgt>p.hgt then(match q with| .node bz z _ _ _ a c=>mk bz z (mk bl y p a) (mk b x c r)| .nil=> .nil) else mk bl y p (mk b x q r)
 | .nil,_=> .nil
def CE(b:Nat)(x:It)(l:T):T→T
 | .node br y _ _ _ p q=>if p.hgt>q.hgt then(match p with| .node bz z _ _ _ a c=>mk bz z (mk b x l a) (mk br y c q)| .nil=> .nil) else mk br y (mk b x l p) q
 | .nil=> .nil
def il(b:Nat)(x:It)(l r:T):T:=
 if l.hgt≤r.hgt+1 then(if r.hgt≤l.hgt+1 then mk b x l r else CE b x l r) else CC b x l r
theorem IL(h1:l.hgt≤r.hgt+1)(h2:r.hgt≤l.hgt+1):il b x l r=mk b x l r:=by
 unfold il;rw[if_pos h1,if_pos h2]
variable{bl:Nat}{y my:It}{hy ny:Int}{p q:T}
theorem Gs(h1: ¬(T.node bl y my hy ny p q).hgt≤r.hgt+1)(h2: ¬q.hgt>p.hgt):il b x (.node bl y my hy ny p q) r=mk bl y p (mk b x q r):=by
 unfold il;rw[if_neg h1];simp only[CC];rw[if_neg h2]
theorem Gt{bz:Nat}{z mz:It}{hz nz:Int}{a c:T}(h1: ¬(T.node bl y my hy ny p (.node bz z mz hz nz a c)).hgt≤r.hgt+1)(h2:(T.node bz z mz hz nz a c).hgt>p.hgt):
  il b x (.node bl y my hy ny p (.node bz z mz hz nz a c)) r=mk bz z (mk bl y p a) (mk b x c r):=by
 unfold il;rw[if_neg h1];simp only[CC];rw[if_pos h2]
theorem Gu(h0:l.hgt≤(T.node bl y my hy ny p q).hgt+1)(h1: ¬(T.node bl y my hy ny p q).hgt≤l.hgt+1)(h2: ¬p.hgt>q.hgt):il b x l (.node bl y my hy ny p q)=mk bl y (mk b x l p) q:=by
 unfold il;rw[if_pos h0,if_neg h1];simp only[CE];rw[if_neg h2]
theorem Gv{bz:Nat}{z mz:It}{hz nz:Int}{a c:T}(h0:l.hgt≤(T.node bl y my hy ny (.node bz z mz hz nz a c) q).hgt+1)(h1: ¬(T.node bl y my hy ny (.node bz z mz hz nz a c) q).hgt≤l.hgt+1)(h2:(T.node bz z mz hz nz a c).hgt>q.hgt):
  il b x l (.node bl y my hy ny (.node bz z mz hz nz a c) q)=mk bz z (mk b x l a) (mk bl y c q):=by
 unfold il;rw[if_pos h0,if_neg h1];simp only[CE];rw[if_pos h2]
theorem uq(x i y j:Int)(w:World):
  CW 271 #[.agg #[u_ x,i_ i],.agg #[u_ y,i_ j]] w (i_ (i5 x i y j)):=by
 refine A.C Tryz.func271 rfl (HS.nil w) (A.c (A.n2 [.al,.al,.p] [0,1] (fun b1 b2=>[(2,p_ b1),(3,p_ b2)]) (fun b1 b2=>[cz b1 [u_ x,i_ i] 322,cz b2 [u_ y,i_ j] 322]) ?_))
 intro b1 b2
 refine A.d (A.y (A.c (A.gl [.ld 0,.ld 1,.eq,.p] [] [(5,b_ ((x==y)&&(i==j)))] [b1,b2] (A.v rfl (fun e1=> ?_) (fun e1=> ?_)))))
 ·refine A.c (A.g [.p] [2,3,5] [(4,i_ 0)] (A.e (A.N [i_ 0] ?_)))
  show((i_ 0):Value)=(i_ (i5 x i y j))
  simp[i5] at*;try simp_all;try omega
 have p1:=e1
 refine A.c (A.gl [.p,.ld 0,.p,.ld 1,.p,.p,.o,.p,.ld 0,.p,.ld 1,.p,.p,.o,.p,.ld 0,.p,.ld 1,.p,.cl,.cl,.p] [2,3,5] [(9,b_ ((decide (x<y))||((x==y)&&(decide (i<j)))))] [b1,b2,b1,b2,b1,b2] (A.v rfl (fun e2=> ?_) (fun e2=> ?_)))
 ·refine A.c (A.g [.p] [9] [(4,i_ (-1))] (A.e (A.N [i_ (-1)] ?_)))
  show((i_ (-1)):Value)=(i_ (i5 x i y j))
  simp[i5] at*;try simp_all;try omega
 refine A.p (A.c (A.g [.p] [9] [(4,i_ 1)] (A.e (A.N [i_ 1] ?_))))
 show((i_ 1):Value)=(i_ (i5 x i y j))
 simp[i5] at*;try simp_all;try omega
theorem qD(a b:It)(w:World):
  CW 258 #[.agg #[u_ a.ka,i_ a.ki,u_ a.va,i_ a.vi],.agg #[u_ b.ka,i_ b.ki,u_ b.va,i_ b.vi]] w (.agg #[u_ ((dO a b).ka),i_ ((dO a b).ki),u_ ((dO a b).va),i_ ((dO a b).vi)]):=by
 refine A.C Tryz.func258 rfl (HS.nil w) (A.c (A.an [.al,.al,.al] [2,3,4] (fun b1 b2 b3=>[(2,p_ b1),(3,p_ b2),(4,p_ b3)]) (fun b1 b2 b3=>[cz b1 [u_ a.ka,i_ a.ki,u_ a.va,i_ a.vi] 324,cz b2 [u_ b.ka,i_ b.ki,u_ b.va,i_ b.vi] 324,cz b3 [u_ 0,i_ 0,u_ 0,i_ 0] 324]) (fun b1 b2 b3=>[]) (fun _ _ _=>T0) (fun _ _ _=>by kernel_rfl) (fun b1 b2 b3=>trivial) ?_))
 intro b1 b2 b3
 refine A.c (A.k [.p,.ld 1,.p,.ld 0,.cq (i_ (i5 b.va b.vi a.va a.vi)),.p] [] [(5,i_ (i5 b.va b.vi a.va a.vi))] [b2,b1] (o1 (qo (fun ww ss=>uq b.va b.vi a.va a.vi ww))) (A.d (A.c (A.k [.p,.p,.p,.o,.p,.p,.p,.o,.p,.ld 1,.p,.ld 0,.cq (i_ (i5 b.ka b.ki a.ka a.ki)),.p,.cl,.cl] [5] [(24,b_ ((decide ((i5 b.va b.vi a.va a.vi)<0))||(((i5 b.va b.vi a.va a.vi)==0)&&(decide ((i5 b.ka b.ki a.ka a.ki)<0)))))] [b2,b1] (o1 (go ((true&&((decide ((i5 b.va b.vi a.va a.vi)<0))==false))&&(((i5 b.va b.vi a.va a.vi)==0)==true)) fun h_=>(qo (fun ww ss=>uq b.ka b.ki a.ka a.ki ww)))) (A.v rfl (fun e1=> ?_) (fun e1=> ?_))))))
 ·refine A.c (A.gs [.ld 1,.st 2] [2,3,24] [] [(2,cz b3 [u_ b.ka,i_ b.ki,u_ b.va,i_ b.vi] 324)] [b2,b3] (A.e (A.pc 2 [u_ b.ka,i_ b.ki,u_ b.va,i_ b.vi] ?_)))
  show((.agg #[u_ b.ka,i_ b.ki,u_ b.va,i_ b.vi]):Value)=(.agg #[u_ ((dO a b).ka),i_ ((dO a b).ki),u_ ((dO a b).va),i_ ((dO a b).vi)])
  rw[show dO a b=b from by unfold dO;grind[FX,EW]]
 refine A.p (A.c (A.gs [.ld 0,.st 2] [2,3,24] [] [(2,cz b3 [u_ a.ka,i_ a.ki,u_ a.va,i_ a.vi] 324)] [b1,b3] (A.e (A.pc 2 [u_ a.ka,i_ a.ki,u_ a.va,i_ a.vi] ?_))))
 show((.agg #[u_ a.ka,i_ a.ki,u_ a.va,i_ a.vi]):Value)=(.agg #[u_ ((dO a b).ka),i_ ((dO a b).ki),u_ ((dO a b).va),i_ ((dO a b).vi)])
 rw[show dO a b=a from by unfold dO;grind[FX,EW]]
theorem nC(t:T)(w:World)(r0:(dS 361 t).holds w):
  CW 266 #[.pointer (T.ptr t)] w (i_ (T.hgt t)):=by
 refine A.C Tryz.func266 rfl (HS.nil w) (A.c (A.g [.p] [] [] (A.d (A.c (A.O [.p] [] [(3,.pointer (T.ptr t))] ?_)))))
 rcases t with _|⟨b1,x2,m3,h4,n5,l6,r7⟩
 ·refine A.g [.p] [3] [(0,n_),(4,b_ true)] (A.ct (A.c (A.g [.p] [0,4] [(2,i_ 0)] (A.e (A.N [i_ 0] ?_)))))
  rfl
 refine A.g [.p] [3] [(0,p_ b1),(4,b_ false)] (A.Z (A.p (A.c (A.k [.p,.p,.p,.rd [i_ h4],.p] [0,4] [(2,i_ h4)] [] (o1 (ro ⟨b1,10,none⟩ (vs:=[i_ h4]) (dj r0.1 rfl))) (A.e (A.N [i_ h4] ?_))))))
 rfl
theorem yV(t:T)(w:World)(r0:(dS 361 t).holds w):
  CW 267 #[.pointer (T.ptr t)] w (i_ (T.cnt t)):=by
 refine A.C Tryz.func267 rfl (HS.nil w) (A.c (A.g [.p] [] [] (A.d (A.c (A.O [.p] [] [(3,.pointer (T.ptr t))] ?_)))))
 rcases t with _|⟨b1,x2,m3,h4,n5,l6,r7⟩
 ·refine A.g [.p] [3] [(0,n_),(4,b_ true)] (A.ct (A.c (A.g [.p] [0,4] [(2,i_ 0)] (A.e (A.N [i_ 0] ?_)))))
  rfl
 refine A.g [.p] [3] [(0,p_ b1),(4,b_ false)] (A.Z (A.p (A.c (A.k [.p,.p,.p,.rd [i_ n5],.p] [0,4] [(2,i_ n5)] [] (o1 (ro ⟨b1,11,none⟩ (vs:=[i_ n5]) (dj r0.1 rfl))) (A.e (A.N [i_ n5] ?_))))))
 rfl
abbrev Gn(p0)(p1:It)(p2)(p3)(p4:It)(p5)(p6):=([cz p0 [u_ p1.ka,i_ p1.ki,u_ p1.va,i_ p1.vi,.pointer (T.ptr p2),.pointer (T.ptr p3),u_ p4.ka,i_ p4.ki,u_ p4.va,i_ p4.vi,i_ p5,i_ p6] 361,dS 361 p2,dS 361 p3]:List V.dC)
theorem rI(b:Nat)(x m:It)(h n:Int)(l r:T)(hl:l.Bd)(hr:r.Bd)(w:World)(hs:HI w (Gn b x l r m h n)):
  CV 248 #[p_ b] w (Gn b x l r m h n) (fun(zz:Unit)=>(.tuple #[])) (fun _=>True) fun _=>[cz b [u_ x.ka,i_ x.ki,u_ x.va,i_ x.vi,.pointer (T.ptr l),.pointer (T.ptr r),u_ ((eF x l r).ka),i_ ((eF x l r).ki),u_ ((eF x l r).va),i_ ((eF x l r).vi),i_ (eL l r),i_ (eR l r)] 361,dS 361 l,dS 361 r]:=by
 have hl1:=hl.1;have hl2:=hl.2.1;have hl3:=hl.2.2.1;have hl4:=hl.2.2.2;have hr1:=hr.1;have hr2:=hr.2.1;have hr3:=hr.2.2.1;have hr4:=hr.2.2.2
 refine A.C Tryz.func248 rfl hs (A.d (A.W [17] 18 (A.kd 1 [.p,.p,.p,.p,.p,.ld 0,.cq (i_ (T.hgt l)),.p,.p,.p,.p,.ld 0,.cq (i_ (T.hgt r)),.p,.w (1+(eC (T.hgt l) (T.hgt r))),.p,.p] [0,1,2,3,4,5,6,7,8,9,10,11,12,13,14,15,16] [] [(18,i_ (1+(eC (T.hgt l) (T.hgt r)))),(20,q_ b 10)] [b,b] (oc (qo (fun ww ss=>nC l ww (ss.mem (i:=1) rfl))) (oc (qo (fun ww ss=>nC r ww (ss.mem (i:=2) rfl))) (o1 (wo (lD (e:=1+(eC (T.hgt l) (T.hgt r))) (by(simp only[uC];constructor<;>omega))))))) ?_)))
 refine A.F 17 rfl (A.sT 0 [i_ (1+(eC (T.hgt l) (T.hgt r)))] rfl (A.E (A.M (A.d (A.W [17] 18 (A.pO 1 [.p,.p,.p,.p,.p,.ld 0,.cq (i_ (T.cnt l)),.w (1+(T.cnt l)),.p,.p,.p,.p,.ld 0,.cq (i_ (T.cnt r)),.w ((1+(T.cnt l))+(T.cnt r)),.p,.p] [0,1,2,3,4,5,6,7,8,9,10,11,12,13,14,15,16] [(0,p_ b),(35,i_ ((1+(T.cnt l))+(T.cnt r))),(37,q_ b 11)] [b,b] (oc (qo (fun ww ss=>yV l ww (ss.mem (i:=1) rfl))) (oc (wj (1+(T.cnt l)) (by omega)) (oc (qo (fun ww ss=>yV r ww (ss.mem (i:=2) rfl))) (o1 (wj ((1+(T.cnt l))+(T.cnt r)) (by omega)))))) ?_))))))
 refine A.F 17 rfl (A.sT 0 [i_ ((1+(T.cnt l))+(T.cnt r))] rfl (A.E (A.M (A.c (A.gO [.p,.p,.p,.p,.ld 0,.p,.p,.st 0] [(0,p_ b)] [cz b [u_ x.ka,i_ x.ki,u_ x.va,i_ x.vi,.pointer (T.ptr l),.pointer (T.ptr r),u_ x.ka,i_ x.ki,u_ x.va,i_ x.vi,i_ (1+(eC (T.hgt l) (T.hgt r))),i_ ((1+(T.cnt l))+(T.cnt r))] 361,dS 361 l,dS 361 r] [b,b] (A.c (A.gl [.p,.p,.p,.ld 0,.p] [] [(48,.agg #[.pointer (T.ptr l),.pointer (T.ptr r)]),(49,i_ 0)] [b] (A.y (A.aY 400 (A.aD (m:=399) (A.c (A.g [.p] [] [(50,b_ true)] (A.d (A.ct (A.p (A.d (A.y (A.c (A.g [.p,.p] [50] [(3,.pointer (T.ptr l))] (A.c (A.O [.p] [] [(52,.pointer (T.ptr l))] ?_)))))))))))))))))))))
 rcases l with _|⟨b1,x2,m3,h4,n5,l6,r7⟩
 ·refine A.g [.p] [52] [(48,.agg #[n_,.pointer (T.ptr r)]),(3,n_),(53,b_ false)] (A.Z (A.p (A.s (A.g [.p,.p] [3,53] [(49,i_ 1)] (A.aD (m:=398) (A.c (A.g [.p] [] [(50,b_ true)] (A.d (A.ct (A.p (A.d (A.y (A.c (A.g [.p,.p] [50] [(3,.pointer (T.ptr r))] (A.c (A.O [.p] [] [(52,.pointer (T.ptr r))] ?_))))))))))))))))
  rcases r with _|⟨b8,x9,m10,h11,n12,l13,r14⟩
  ·refine A.g [.p] [52] [(48,.agg #[n_,n_]),(3,n_),(53,b_ false)] (A.Z (A.p (A.s (A.g [.p,.p] [3,53] [(49,i_ 2)] (A.aD (m:=397) (A.c (A.g [.p] [] [(50,b_ false)] (A.d (A.Z (A.aB (A.su 0 (cz b [u_ x.ka,i_ x.ki,u_ x.va,i_ x.vi,n_,n_,u_ ((eF x T.nil T.nil).ka),i_ ((eF x T.nil T.nil).ki),u_ ((eF x T.nil T.nil).va),i_ ((eF x T.nil T.nil).vi),i_ (eL T.nil T.nil),i_ (eR T.nil T.nil)] 361) rfl (iI (cc rfl (cc rfl (cc rfl (cc rfl (cc rfl (cc rfl (cc (congrArg u_ (by rfl:x.ka=(eF x T.nil T.nil).ka)) (cc (congrArg i_ (by rfl:x.ki=(eF x T.nil T.nil).ki)) (cc (congrArg u_ (by rfl:x.va=(eF x T.nil T.nil).va)) (cc (congrArg i_ (by rfl:x.vi=(eF x T.nil T.nil).vi)) (cc (congrArg i_ (by rfl:1+(eC (T.hgt T.nil) (T.hgt T.nil))=eL T.nil T.nil)) (cc (congrArg i_ (by rfl:(1+(T.cnt T.nil))+(T.cnt T.nil)=eR T.nil T.nil)) rfl))))))))))))) (A.aQ [0,0,0] [] (fun aa ww rr ss=>trivial) () ?_ ?_ (by kernel_rfl)))))))))))))
   ·rfl
   trivial
  refine A.g [.p] [52] [(48,.agg #[n_,p_ b8]),(3,p_ b8),(53,b_ true)] ?_
  refine A.ct ?_
  refine A.r0 [2] [cz b8 [u_ x9.ka,i_ x9.ki,u_ x9.va,i_ x9.vi,.pointer (T.ptr l13),.pointer (T.ptr r14),u_ m10.ka,i_ m10.ki,u_ m10.va,i_ m10.vi,i_ h11,i_ n12] 361,dS 361 l13,dS 361 r14] rfl (fun w hs=>nD hs) ?_
  refine A.W [12] 13 ?_
  refine A.pO 1 [.p,.p,.p,.p,.ld 3,.p,.p,.p,.ld 0,.cq (.agg #[u_ ((dO x m10).ka),i_ ((dO x m10).ki),u_ ((dO x m10).va),i_ ((dO x m10).vi)]),.p,.p] [0,1,2,3,4,5,6,7,8,9,10,11] [(0,p_ b),(48,.agg #[n_,p_ b8]),(49,i_ 1),(63,.agg #[u_ ((dO x m10).ka),i_ ((dO x m10).ki),u_ ((dO x m10).va),i_ ((dO x m10).vi)]),(65,q_ b 6)] [b,b8] (o1 (qo (fun ww ss=>qD x m10 ww))) ?_
  refine A.F 12 rfl (A.sT 3 [u_ ((dO x m10).ka),i_ ((dO x m10).ki),u_ ((dO x m10).va),i_ ((dO x m10).vi)] rfl ?_)
  refine A.E ?_
  refine A.M ?_
  refine A.s (A.h [.p,.p] [(0,p_ b),(48,.agg #[n_,p_ b8]),(49,i_ 2)] [] ?_)
  refine A.aD (m:=397) ?_
  refine A.d ?_
  refine A.s (A.g [.p] [] [(50,b_ false)] ?_)
  refine A.d ?_
  refine A.Z ?_
  refine A.aB ?_
  refine A.r0 [0,0,0] [dS 361 (T.node b8 x9 m10 h11 n12 l13 r14)] rfl (fun w hs=>lN hs) ?_
  refine A.su 1 (cz b [u_ x.ka,i_ x.ki,u_ x.va,i_ x.vi,n_,p_ b8,u_ ((eF x T.nil (T.node b8 x9 m10 h11 n12 l13 r14)).ka),i_ ((eF x T.nil (T.node b8 x9 m10 h11 n12 l13 r14)).ki),u_ ((eF x T.nil (T.node b8 x9 m10 h11 n12 l13 r14)).va),i_ ((eF x T.nil (T.node b8 x9 m10 h11 n12 l13 r14)).vi),i_ (eL T.nil (T.node b8 x9 m10 h11 n12 l13 r14)),i_ (eR T.nil (T.node b8 x9 m10 h11 n12 l13 r14))] 361) rfl (iI (cc rfl (cc rfl (cc rfl (cc rfl (cc rfl (cc rfl (cc (congrArg u_ (by rfl:(dO x m10).ka=(eF x T.nil (T.node b8 x9 m10 h11 n12 l13 r14)).ka)) (cc (congrArg i_ (by rfl:(dO x m10).ki=(eF x T.nil (T.node b8 x9 m10 h11 n12 l13 r14)).ki)) (cc (congrArg u_ (by rfl:(dO x m10).va=(eF x T.nil (T.node b8 x9 m10 h11 n12 l13 r14)).va)) (cc (congrArg i_ (by rfl:(dO x m10).vi=(eF x T.nil (T.node b8 x9 m10 h11 n12 l13 r14)).vi)) (cc (congrArg i_ (by(simp[uC,eL,eR,eF,T.low];done):1+(eC (T.hgt T.nil) (T.hgt (T.node b8 x9 m10 h11 n12 l13 r14)))=eL T.nil (T.node b8 x9 m10 h11 n12 l13 r14))) (cc (congrArg i_ (by rfl:(1+(T.cnt T.nil))+(T.cnt (T.node b8 x9 m10 h11 n12 l13 r14))=eR T.nil (T.node b8 x9 m10 h11 n12 l13 r14))) rfl))))))))))))) ?_
  refine A.aQ [1,1,0] [] (fun aa ww rr ss=>trivial) () ?_ ?_ (by kernel_rfl)
  ·rfl
  trivial
 refine A.g [.p] [52] [(48,.agg #[p_ b1,.pointer (T.ptr r)]),(3,p_ b1),(53,b_ true)] (A.ct (A.r0 [1] [cz b1 [u_ x2.ka,i_ x2.ki,u_ x2.va,i_ x2.vi,.pointer (T.ptr l6),.pointer (T.ptr r7),u_ m3.ka,i_ m3.ki,u_ m3.va,i_ m3.vi,i_ h4,i_ n5] 361,dS 361 l6,dS 361 r7] rfl (fun w hs=>nD hs) (A.W [12] 13 (A.pO 1 [.p,.p,.p,.p,.ld 3,.p,.p,.p,.ld 0,.cq (.agg #[u_ ((dO x m3).ka),i_ ((dO x m3).ki),u_ ((dO x m3).va),i_ ((dO x m3).vi)]),.p,.p] [0,1,2,3,4,5,6,7,8,9,10,11] [(0,p_ b),(48,.agg #[p_ b1,.pointer (T.ptr r)]),(49,i_ 0),(63,.agg #[u_ ((dO x m3).ka),i_ ((dO x m3).ki),u_ ((dO x m3).va),i_ ((dO x m3).vi)]),(65,q_ b 6)] [b,b1] (o1 (qo (fun ww ss=>qD x m3 ww))) (A.F 12 rfl (A.sT 3 [u_ ((dO x m3).ka),i_ ((dO x m3).ki),u_ ((dO x m3).va),i_ ((dO x m3).vi)] rfl (A.E (A.M (A.s (A.h [.p,.p] [(0,p_ b),(48,.agg #[p_ b1,.pointer (T.ptr r)]),(49,i_ 1)] [] (A.aD (m:=398) (A.c (A.g [.p] [] [(50,b_ true)] (A.d (A.ct (A.p (A.d (A.y (A.c (A.g [.p,.p] [50] [(3,.pointer (T.ptr r))] (A.c (A.O [.p] [] [(52,.pointer (T.ptr r))] ?_))))))))))))))))))))))
 rcases r with _|⟨b15,x16,m17,h18,n19,l20,r21⟩
 ·refine A.g [.p] [52] [(48,.agg #[p_ b1,n_]),(3,n_),(53,b_ false)] (A.Z (A.p (A.s (A.g [.p,.p] [3,53] [(49,i_ 2)] (A.aD (m:=397) (A.c (A.g [.p] [] [(50,b_ false)] (A.d (A.Z (A.aB (A.r0 [0,0,0] [dS 361 (T.node b1 x2 m3 h4 n5 l6 r7)] rfl (fun w hs=>lN hs) (A.su 1 (cz b [u_ x.ka,i_ x.ki,u_ x.va,i_ x.vi,p_ b1,n_,u_ ((eF x (T.node b1 x2 m3 h4 n5 l6 r7) T.nil).ka),i_ ((eF x (T.node b1 x2 m3 h4 n5 l6 r7) T.nil).ki),u_ ((eF x (T.node b1 x2 m3 h4 n5 l6 r7) T.nil).va),i_ ((eF x (T.node b1 x2 m3 h4 n5 l6 r7) T.nil).vi),i_ (eL (T.node b1 x2 m3 h4 n5 l6 r7) T.nil),i_ (eR (T.node b1 x2 m3 h4 n5 l6 r7) T.nil)] 361) rfl (iI (cc rfl (cc rfl (cc rfl (cc rfl (cc rfl (cc rfl (cc (congrArg u_ (by rfl:(dO x m3).ka=(eF x (T.node b1 x2 m3 h4 n5 l6 r7) T.nil).ka)) (cc (congrArg i_ (by rfl:(dO x m3).ki=(eF x (T.node b1 x2 m3 h4 n5 l6 r7) T.nil).ki)) (cc (congrArg u_ (by rfl:(dO x m3).va=(eF x (T.node b1 x2 m3 h4 n5 l6 r7) T.nil).va)) (cc (congrArg i_ (by rfl:(dO x m3).vi=(eF x (T.node b1 x2 m3 h4 n5 l6 r7) T.nil).vi)) (cc (congrArg i_ (by(simp[uC,eL,eR,eF,T.low];done):1+(eC (T.hgt (T.node b1 x2 m3 h4 n5 l6 r7)) (T.hgt T.nil))=eL (T.node b1 x2 m3 h4 n5 l6 r7) T.nil)) (cc (congrArg i_ (by rfl:(1+(T.cnt (T.node b1 x2 m3 h4 n5 l6 r7)))+(T.cnt T.nil)=eR (T.node b1 x2 m3 h4 n5 l6 r7) T.nil)) rfl))))))))))))) (A.aQ [1,0,0] [] (fun aa ww rr ss=>trivial) () ?_ ?_ (by kernel_rfl))))))))))))))
  ·rfl
  trivial
 refine A.g [.p] [52] [(48,.agg #[p_ b1,p_ b15]),(3,p_ b15),(53,b_ true)] ?_
 refine A.ct ?_
 refine A.r0 [4] [cz b15 [u_ x16.ka,i_ x16.ki,u_ x16.va,i_ x16.vi,.pointer (T.ptr l20),.pointer (T.ptr r21),u_ m17.ka,i_ m17.ki,u_ m17.va,i_ m17.vi,i_ h18,i_ n19] 361,dS 361 l20,dS 361 r21] rfl (fun w hs=>nD hs) ?_
 refine A.W [12] 13 ?_
 refine A.pO 1 [.p,.p,.p,.p,.ld 6,.p,.p,.p,.ld 0,.cq (.agg #[u_ ((dO (dO x m3) m17).ka),i_ ((dO (dO x m3) m17).ki),u_ ((dO (dO x m3) m17).va),i_ ((dO (dO x m3) m17).vi)]),.p,.p] [0,1,2,3,4,5,6,7,8,9,10,11] [(0,p_ b),(48,.agg #[p_ b1,p_ b15]),(49,i_ 1),(63,.agg #[u_ ((dO (dO x m3) m17).ka),i_ ((dO (dO x m3) m17).ki),u_ ((dO (dO x m3) m17).va),i_ ((dO (dO x m3) m17).vi)]),(65,q_ b 6)] [b,b15] (o1 (qo (fun ww ss=>qD (dO x m3) m17 ww))) ?_
 refine A.F 12 rfl (A.sT 6 [u_ ((dO (dO x m3) m17).ka),i_ ((dO (dO x m3) m17).ki),u_ ((dO (dO x m3) m17).va),i_ ((dO (dO x m3) m17).vi)] rfl ?_)
 refine A.E ?_
 refine A.M ?_
 refine A.s (A.h [.p,.p] [(0,p_ b),(48,.agg #[p_ b1,p_ b15]),(49,i_ 2)] [] ?_)
 refine A.aD (m:=397) ?_
 refine A.d ?_
 refine A.s (A.g [.p] [] [(50,b_ false)] ?_)
 refine A.d ?_
 refine A.Z ?_
 refine A.aB ?_
 refine A.r0 [3,3,3] [dS 361 (T.node b1 x2 m3 h4 n5 l6 r7)] rfl (fun w hs=>lN hs) ?_
 refine A.r0 [1,1,1] [dS 361 (T.node b15 x16 m17 h18 n19 l20 r21)] rfl (fun w hs=>lN hs) ?_
 refine A.su 2 (cz b [u_ x.ka,i_ x.ki,u_ x.va,i_ x.vi,p_ b1,p_ b15,u_ ((eF x (T.node b1 x2 m3 h4 n5 l6 r7) (T.node b15 x16 m17 h18 n19 l20 r21)).ka),i_ ((eF x (T.node b1 x2 m3 h4 n5 l6 r7) (T.node b15 x16 m17 h18 n19 l20 r21)).ki),u_ ((eF x (T.node b1 x2 m3 h4 n5 l6 r7) (T.node b15 x16 m17 h18 n19 l20 r21)).va),i_ ((eF x (T.node b1 x2 m3 h4 n5 l6 r7) (T.node b15 x16 m17 h18 n19 l20 r21)).vi),i_ (eL (T.node b1 x2 m3 h4 n5 l6 r7) (T.node b15 x16 m17 h18 n19 l20 r21)),i_ (eR (T.node b1 x2 m3 h4 n5 l6 r7) (T.node b15 x16 m17 h18 n19 l20 r21))] 361) rfl (iI (cc rfl (cc rfl (cc rfl (cc rfl (cc rfl (cc rfl (cc (congrArg u_ (by rfl:(dO (dO x m3) m17).ka=(eF x (T.node b1 x2 m3 h4 n5 l6 r7) (T.node b15 x16 m17 h18 n19 l20 r21)).ka)) (cc (congrArg i_ (by rfl:(dO (dO x m3) m17).ki=(eF x (T.node b1 x2 m3 h4 n5 l6 r7) (T.node b15 x16 m17 h18 n19 l20 r21)).ki)) (cc (congrArg u_ (by rfl:(dO (dO x m3) m17).va=(eF x (T.node b1 x2 m3 h4 n5 l6 r7) (T.node b15 x16 m17 h18 n19 l20 r21)).va)) (cc (congrArg i_ (by rfl:(dO (dO x m3) m17).vi=(eF x (T.node b1 x2 m3 h4 n5 l6 r7) (T.node b15 x16 m17 h18 n19 l20 r21)).vi)) (cc (congrArg i_ (by(simp[uC,eL,eR,eF,T.low];done):1+(eC (T.hgt (T.node b1 x2 m3 h4 n5 l6 r7)) (T.hgt (T.node b15 x16 m17 h18 n19 l20 r21)))=eL (T.node b1 x2 m3 h4 n5 l6 r7) (T.node b15 x16 m17 h18 n19 l20 r21))) (cc (congrArg i_ (by rfl:(1+(T.cnt (T.node b1 x2 m3 h4 n5 l6 r7)))+(T.cnt (T.node b15 x16 m17 h18 n19 l20 r21))=eR (T.node b1 x2 m3 h4 n5 l6 r7) (T.node b15 x16 m17 h18 n19 l20 r21))) rfl))))))))))))) ?_
 refine A.aQ [2,1,0] [] (fun aa ww rr ss=>trivial) () ?_ ?_ (by kernel_rfl)
 ·rfl
 trivial
end Go.Proofs.YtobgjpigngoggaaGreat
