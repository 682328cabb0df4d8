/- The functions of the scheduler, layer by layer, proved operation by operation for all arguments, under the conditions that each theorem states: part 2. -/
import Derived.Test.YtobgjpigngoggaaGreatProg
import Derived.Shelf.SortM.Plain
import Derived.Shelf.SortM.SortNone
import Derived.Ground.SlgmProg
import Derived.Test.YtobgjpigngoggaaGreatJ1
set_option linter.unusedVariables false
set_option linter.unusedSimpArgs false
set_option maxHeartbeats 4000000
set_option maxRecDepth 100000
namespace Go.Proofs.YtobgjpigngoggaaGreat
open Go V
abbrev Bq(p0)(p1)(p2:List Pk):=(i_ (((p0:Int)+(p1:Int)).tmod (p2.length:Int)):Value)
abbrev Bt(p0)(p1)(p2:List Pk)(p3)(p4)(p5):=(cw p0 [.slice p1 p2.length p3,i_ (p4:Int),i_ (p5:Int)] 315:V.dB)
theorem AA(br:Nat)(ar:Option Addr)(sx:List Pk)(cp f n:Nat)(i:Nat)(hf:f<sx.length)(hn:n≤sx.length)(hl:sx.length≤64)(hi:i≤64)(w:World)(r0:(Bt br ar sx cp f n).holds w):
  CW 195 #[p_ br,i_ (i:Int)] w (i_ (((f+i)%sx.length:Nat):Int)):=by
 refine A.C Tryz.func195 rfl (HS.nil w) (A.c<|A.g [.p] [] []<|A.d<|A.O [] 13<|A.kd 2 [.p,.p,.p,.rd [i_ (f:Int)],.p,.w<|(f:Int)+(i:Int),.p,.p,.p,.rd [.slice ar sx.length cp],.p] (rg 0 11) [0,1] [(10,i_<|(f:Int)+(i:Int)),(15,i_ (sx.length:Int))] [] (oc (ro ⟨br,1,none⟩ (vs:=[i_ (f:Int)])<|df r0 rfl)<|oc (wj ((f:Int)+(i:Int))<|by omega)<|o1<|ro ⟨br,0,none⟩ (vs:=[.slice ar sx.length cp])<|df r0 rfl)<|A.aR 11 (some 16) (Bq f i sx) rfl (by kernel_rfl) (by kernel_rfl) (Qp rfl rfl rfl (by omega)) (A.pT 0 [.p] [12] [(4,Bq f i sx)] []<|A.M<|A.e<|A.W [Bq f i sx] ?_))
 rfl
abbrev Bv(p0:Pk):=(.agg #[u_ p0.qi,i_ p0.qn,w_ p0.qa,w_ p0.qb,w_ p0.qc,w_ p0.qd]:Value)
theorem PH(br:Nat)(ar:Option Addr)(sx:List Pk)(cp f n:Nat)(p:Pk)(hn:n=sx.length)(w:World)(r0:(Bt br ar sx cp f n).holds w)(r1:(sl ar (sx.length) cp 45 6<|V.dF gn sx).holds w):
  CW 145 #[p_ br,Bv p] w (i_ 5):=by
 refine A.C Tryz.func145 rfl (HS.nil w) (A.c<|A.n1 [.al,.p] [1] (fun b1=>[(3,p_ b1)]) (fun b1=>cw b1 [u_ p.qi,i_ p.qn,w_ p.qa,w_ p.qb,w_ p.qc,w_ p.qd] 45) ?_)
 intro b1
 refine A.d<|A.y<|A.c<|A.g (ps 3) [] [(5,b_ false)]<|A.cf<|A.c<|A.N [.p] [5] [(9,p_ br)]<|A.j<|A.iX (some 10) [p_ br] Tryz.func194 rfl (A.c<|A.g [.p] [] []<|A.d<|A.c<|A.g [.p,.p] [] [(4,b_ false)]<|A.cf<|A.p<|A.d<|A.ka [.p,.p,.p,.rd [.slice ar sx.length cp],.p,.p,.p,.p,.rd [i_ (n:Int)],.w<|(sx.length:Int)-(n:Int),.p] (rg 0 11) [0,4] [(2,i_<|(sx.length:Int)-(n:Int))] [] (oc (ro ⟨br,0,none⟩ (vs:=[.slice ar sx.length cp])<|df r0 rfl)<|oc (ro ⟨br,2,none⟩ (vs:=[i_ (n:Int)])<|df r0 rfl)<|o1<|wj ((sx.length:Int)-(n:Int))<|by omega)<|A.e<|A.pb [i_<|(sx.length:Int)-(n:Int)]<|A.h [.p,.p] [(0,p_ br),(3,p_ b1),(8,b_<|((sx.length:Int)-(n:Int))==0)] []<|A.v rfl (fun e1=>?_) (fun e1=>?_))
 ·refine A.c<|A.g [.p] [0,3,8] [(4,i_ 5)]<|A.e<|A.W [i_ 5] ?_
  rfl
 exact absurd e1<|by(intro h_;simp at h_;omega)
theorem PI(br:Nat)(ar:Option Addr)(sx:List Pk)(cp f n:Nat)(p:Pk)(hf:f<sx.length)(hn:n<sx.length)(hl:sx.length≤64):
  CS 145 #[p_ br,Bv p] [Bt br ar sx cp f n,sl ar (sx.length) cp 45 6<|V.dF gn sx] (fun(zz:Unit)=>(i_ 0)) (fun _=>True) fun _=>[cw br [.slice ar ((sx.set ((f+n)%sx.length) p).length) cp,i_ (f:Int),i_ ((n+1:Nat):Int)] 315,sl ar ((sx.set ((f+n)%sx.length) p).length) cp 45 6<|V.dF gn<|sx.set ((f+n)%sx.length) p]:=by
 intro w hs
 have hm_:=Nat.mod_lt (f+n) (show 0<sx.length by omega)
 refine A.C Tryz.func145 rfl hs (A.c<|A.n1 [.al,.p] [1] (fun b1=>[(3,p_ b1)]) (fun b1=>cw b1 [u_ p.qi,i_ p.qn,w_ p.qa,w_ p.qb,w_ p.qc,w_ p.qd] 45) ?_)
 intro b1
 refine A.d<|A.y<|A.c<|A.g (ps 3) [] [(5,b_ false)]<|A.cf<|A.c<|A.N [.p] [5] [(9,p_ br)]<|A.j<|A.iX (some 10) [p_ br] Tryz.func194 rfl (A.c<|A.g [.p] [] []<|A.d<|A.c<|A.g [.p,.p] [] [(4,b_ false)]<|A.cf<|A.p<|(A.d<|A.ka [.p,.p,.p,.ld 0,.p,.p,.p,.p,.ld 0,.w<|(sx.length:Int)-(n:Int),.p] (rg 0 11) [0,4] [(2,i_<|(sx.length:Int)-(n:Int))] [br,br] (o1<|wj ((sx.length:Int)-(n:Int))<|by omega)<|A.e<|A.pb [i_<|(sx.length:Int)-(n:Int)]<|A.h [.p,.p] [(0,p_ br),(3,p_ b1),(8,b_<|((sx.length:Int)-(n:Int))==0)] []<|A.v rfl (fun e1=>?_) (fun e1=>?_)))
 ·exact absurd e1<|by(intro h_;simp at h_;omega)
 refine A.p<|A.d<|A.O [12] 13<|A.kd 1 [.p,.p,.p,.ld 0,.p,.p,.p,.p,.ld 0,.cq<|i_ (((f+n)%sx.length:Nat):Int),.ld 2,.ix] (rg 0 12) [3,8] [(22,Bv p),(23,.pointer<|some<|(dR ar).add (((f+n)%sx.length:Nat)*6))] [br,br,b1] (oc (qo<|fun w s=>AA br ar sx cp f n n ‹_› (by omega) ‹_› (by omega) w (s.mem (i:=0) rfl))<|o1<|dW 1 ((f+n)%sx.length:Nat) qh rfl (by omega))<|A.F 12 rfl (A.sS 1 ((f+n)%sx.length:Nat) p rfl qh (by omega) (A.E<|A.M<|A.c<|A.ks [.p,.p,.p,.ld 0,.w<|(n:Int)+1,.p,.p,.st 0] [0,22,23] [] [(0,cw br [.slice ar sx.length cp,i_ (f:Int),i_<|(n:Int)+1] 315)] [br,br] (o1<|wj ((n:Int)+1)<|by omega)<|A.c<|A.g [.p] [] [(4,i_ 0)]<|A.e<|A.su 0 (cw br [.slice ar ((sx.set ((f+n)%sx.length) p).length) cp,i_ (f:Int),i_ ((n+1:Nat):Int)] 315) rfl (iL<|cc (congrArg (fun z_:Nat=>Value.slice ar z_ cp) (by simp:sx.length=(sx.set ((f+n)%sx.length) p).length))<|cc rfl (cc (congrArg i_ (by rfl:(n:Int)+1=((n+1:Nat):Int))) rfl)) (A.su 1 (sl ar ((sx.set ((f+n)%sx.length) p).length) cp 45 6<|V.dF gn<|sx.set ((f+n)%sx.length) p) rfl (eI (by rfl:(sx.set ((f+n)%sx.length:Nat) p)=(sx.set ((f+n)%sx.length) p))) (A.Y [0,0] [i_ 0] () ?_ ?_))))
 ·rfl
 trivial
abbrev Ia(p0:List Pk)(p1)(p2):=((.tuple #[.agg #[u_<|(p0.getD ((p1+p2)%p0.length) default).qi,i_<|(p0.getD ((p1+p2)%p0.length) default).qn,w_<|(p0.getD ((p1+p2)%p0.length) default).qa,w_<|(p0.getD ((p1+p2)%p0.length) default).qb,w_<|(p0.getD ((p1+p2)%p0.length) default).qc,w_<|(p0.getD ((p1+p2)%p0.length) default).qd],i_ 0]):Value)
theorem J6(br:Nat)(ar:Option Addr)(sx:List Pk)(cp f n:Nat)(i:Nat)(hf:f<sx.length)(hn:n≤sx.length)(hl:sx.length≤64)(hi:i<n)(w:World)(r0:(cw br [.slice ar sx.length cp,i_ (f:Int),i_ (n:Int)] 315).holds w)(r1:eo w ar (V.dF gn sx)):
  CW 253 #[p_ br,i_ (i:Int)] w (Ia sx f i):=by
 have hm_:=Nat.mod_lt (f+i) (show 0<sx.length by omega)
 refine A.C Tryz.func253 rfl (HS.nil w) (A.c<|A.n1 [.al,.p] [] (fun b1=>[(4,p_ b1)]) (fun b1=>cw b1 [u_ 0,i_ 0,w_ 0,w_ 0,w_ 0,w_ 0] 45) ?_)
 intro b1
 refine A.c<|A.n1 [.al] [] (fun b2=>[(6,p_ b2)]) (fun b2=>cw b2 [u_ 0,i_ 0,w_ 0,w_ 0,w_ 0,w_ 0] 45) ?_
 intro b2
 refine A.d<|A.y<|A.c<|A.g (ps 3) [] [(7,b_ false)]<|A.cf<|A.c<|A.k [.p,.p,.p,.o,.p,.p,.p,.p,.rd [i_ (n:Int)],.p,.cl,.p] [7] [(11,b_<|(decide ((i:Int)<0))||(decide ((i:Int)≥(n:Int))))] [] (o1<|go (true&&((decide ((i:Int)<0))==false)) fun h_=>(ro ⟨br,2,none⟩ (vs:=[i_ (n:Int)])<|df r0 rfl))<|A.v rfl (fun e1=>?_) (fun e1=>?_)
 ·exact absurd e1<|by(intro h_;simp at h_;omega)
 refine A.p<|A.d<|A.O [9] 11 ?_
 obtain⟨x3,hx3⟩: ∃x,(sx)[((f+i)%sx.length:Nat)]? =some x:=⟨_,List.getElem?_eq_getElem<|by omega⟩
 refine A.kd 2 [.p,.p,.p,.rd [.slice ar sx.length cp],.p,.p,.cq<|i_ (((f+i)%sx.length:Nat):Int),.ix,.rd [u_ x3.qi,i_ x3.qn,w_ x3.qa,w_ x3.qb,w_ x3.qc,w_ x3.qd]] (rg 0 9) [0,1,6,11] [(31,.agg #[u_ x3.qi,i_ x3.qn,w_ x3.qa,w_ x3.qb,w_ x3.qc,w_ x3.qd])] [] (oc (ro ⟨br,0,none⟩ (vs:=[.slice ar sx.length cp])<|df r0 rfl)<|oc (qo<|fun ww ss=>AA br ar sx cp f n i ‹_› ‹_› ‹_› (by omega) ww (d6 ss r0))<|oc (io (((f+i)%sx.length:Nat):Int)<|gW qh (by decide) (ef r1<|by simp[dE])<|by omega)<|o1<|ro ((dR ar).add (((f+i)%sx.length:Nat)*6))<|fS (vs:=[u_ x3.qi,i_ x3.qn,w_ x3.qa,w_ x3.qb,w_ x3.qc,w_ x3.qd]) qh (ef r1<|by simp[dE]) hx3 (Nat.le_of_ble_eq_true rfl) rfl) ?_
 refine A.F 9 rfl (A.sT 0 [u_ x3.qi,i_ x3.qn,w_ x3.qa,w_ x3.qb,w_ x3.qc,w_ x3.qd] rfl ?_)
 refine A.E ?_
 refine A.pT 0 [.p] [10] [(4,p_ b1),(5,i_ 0)] [] ?_
 refine A.M ?_
 refine A.e ?_
 refine A.aj 0 [u_ x3.qi,i_ x3.qn,w_ x3.qa,w_ x3.qb,w_ x3.qc,w_ x3.qd] (i_ 0) ?_
 show((.tuple #[.agg #[u_ x3.qi,i_ x3.qn,w_ x3.qa,w_ x3.qb,w_ x3.qc,w_ x3.qd],i_ 0]):Value)=(Ia sx f i)
 simp_all[List.getD]
theorem SC(br:Nat)(ar:Option Addr)(sx:List Pk)(cp f n:Nat)(hf:f<sx.length)(hn:n≤sx.length)(hl:sx.length≤64)(h0:0<n):
  CS 211 #[p_ br] [cw br [.slice ar sx.length cp,i_ (f:Int),i_ (n:Int)] 315,sl ar (sx.length) cp 45 6<|V.dF gn sx] (fun(x:Pk)=>(.tuple #[.agg #[u_ x.qi,i_ x.qn,w_ x.qa,w_ x.qb,w_ x.qc,w_ x.qd],i_ 0])) (fun x=>sx[f]? =some x) fun _=>[cw br [.slice ar ((sx.set f default).length) cp,i_ (((f+1)%sx.length:Nat):Int),i_ ((n-1:Nat):Int)] 315,sl ar ((sx.set f default).length) cp 45 6<|V.dF gn<|sx.set f default]:=by
 intro w hs
 refine A.C Tryz.func211 rfl hs (A.c<|A.n1 [.al,.p] [] (fun b1=>[(2,p_ b1)]) (fun b1=>cw b1 [u_ 0,i_ 0,w_ 0,w_ 0,w_ 0,w_ 0] 45) ?_)
 intro b1
 refine A.c<|A.no [.p,.cq<|.tuple #[.agg #[u_<|(sx.getD ((f+0)%sx.length) default).qi,i_<|(sx.getD ((f+0)%sx.length) default).qn,w_<|(sx.getD ((f+0)%sx.length) default).qa,w_<|(sx.getD ((f+0)%sx.length) default).qb,w_<|(sx.getD ((f+0)%sx.length) default).qc,w_<|(sx.getD ((f+0)%sx.length) default).qd],i_ 0],.p,.p,.p,.al,.st 3,.p] [] (fun b2=>[(4,p_ b2),(5,i_ 0)]) (fun b2=>[]) (fun b2=>cw b2 [u_<|(sx.getD ((f+0)%sx.length) default).qi,i_<|(sx.getD ((f+0)%sx.length) default).qn,w_<|(sx.getD ((f+0)%sx.length) default).qa,w_<|(sx.getD ((f+0)%sx.length) default).qb,w_<|(sx.getD ((f+0)%sx.length) default).qc,w_<|(sx.getD ((f+0)%sx.length) default).qd] 45) (fun b2=>[b2]) (fun b2=>o1<|qo<|fun w s=>J6 br ar sx cp f n 0 ‹_› ‹_› ‹_› ‹_› w (s.mem (i:=0) rfl) ((fM (i:=1) rfl) w s)) ?_
 intro b2
 refine A.d<|A.c<|A.g [.p,.p] [] [(13,b_ false)]<|A.cf<|A.p<|A.c<|A.n1 [.al] [5,13] (fun b3=>[(6,p_ b3)]) (fun b3=>cw b3 [u_ 0,i_ 0,w_ 0,w_ 0,w_ 0,w_ 0] 45) ?_
 intro b3
 refine A.d<|A.O [10] 11<|A.kd 1 [.p,.p,.p,.ld 0,.p,.p,.p,.ld 0,.ld 4,.ix] (rg 0 10) [6] [(24,.agg #[u_ 0,i_ 0,w_ 0,w_ 0,w_ 0,w_ 0]),(25,.pointer<|some<|(dR ar).add (f*6))] [br,br,b3] (o1<|dW 1 f qh rfl (by omega))<|A.F 10 rfl (A.sS 1 f (⟨0,0,0,0,0,0⟩:Pk) rfl qh (by omega) (A.E<|A.M<|A.c<|A.ks [.p,.p,.cq<|i_ (((f+1)%sx.length:Nat):Int),.p,.p,.st 0] [24,25] [] [(0,cw br [.slice ar sx.length cp,i_ (((f+1)%sx.length:Nat):Int),i_ (n:Int)] 315)] [br] (o1<|qo<|fun w s=>AA br ar sx cp f n 1 ‹_› ‹_› ‹_› (by omega) w (s.mem (i:=0) rfl))<|A.c<|A.ks [.p,.p,.p,.ld 0,.w<|(n:Int)-1,.p,.p,.st 0] [0] [] [(0,cw br [.slice ar sx.length cp,i_ (((f+1)%sx.length:Nat):Int),i_<|(n:Int)-1] 315)] [br,br] (o1<|wj ((n:Int)-1)<|by omega)<|A.c<|A.gs [.ld 3,.st 2,.p] [4] [(3,i_ 0)] [(2,cw b1 [u_<|(sx.getD ((f+0)%sx.length) default).qi,i_<|(sx.getD ((f+0)%sx.length) default).qn,w_<|(sx.getD ((f+0)%sx.length) default).qa,w_<|(sx.getD ((f+0)%sx.length) default).qb,w_<|(sx.getD ((f+0)%sx.length) default).qc,w_<|(sx.getD ((f+0)%sx.length) default).qd] 45)] [b2,b1]<|A.e<|A.su 0 (cw br [.slice ar ((sx.set f default).length) cp,i_ (((f+1)%sx.length:Nat):Int),i_ ((n-1:Nat):Int)] 315) rfl (iL<|cc (congrArg (fun z_:Nat=>Value.slice ar z_ cp) (by simp:sx.length=(sx.set f default).length))<|cc rfl (cc (congrArg i_ (by omega:(n:Int)-1=((n-1:Nat):Int))) rfl)) (A.su 1 (sl ar ((sx.set f default).length) cp 45 6<|V.dF gn<|sx.set f default) rfl (eI (by rfl:(sx.set f (⟨0,0,0,0,0,0⟩:Pk))=(sx.set f default))) (A.aG [0,0] [.agg #[u_<|(sx.getD ((f+0)%sx.length) default).qi,i_<|(sx.getD ((f+0)%sx.length) default).qn,w_<|(sx.getD ((f+0)%sx.length) default).qa,w_<|(sx.getD ((f+0)%sx.length) default).qb,w_<|(sx.getD ((f+0)%sx.length) default).qc,w_<|(sx.getD ((f+0)%sx.length) default).qd],i_ 0] (fun _ w r s=>⟨iF 2 r s,fk r rfl,trivial⟩) ((sx.getD ((f+0)%sx.length) default)) ?_ ?_<|by kernel_rfl))))
 ·rfl
 (simp[List.getD,Nat.mod_eq_of_lt hf,List.getElem?_eq_getElem hf];done)
theorem ER(w:World):
  CW 107 #[n_] w (i_ 0):=by
 refine A.C Tryz.func107 rfl (HS.nil w) (A.c<|A.g [.p] [] []<|A.d<|A.c<|A.g [.p,.p] [] [(4,b_ true)]<|A.ct<|A.c<|A.g [.p] [0,4] [(2,i_ 0)]<|A.e<|A.W [i_ 0] ?_)
 rfl
theorem Bw(bq br:Nat)(ar:Option Addr)(sx:List Pk)(cp f n:Nat)(rm bs k1 k2 k3 k4 k5 k6:Int)(w:World)(r0:(cw bq [p_ br,i_ rm,i_ bs,u_ k1,u_ k2,u_ k3,u_ k4,u_ k5,u_ k6] 269).holds w)(r1:(cw br [.slice ar sx.length cp,i_ (f:Int),i_ (n:Int)] 315).holds w):
  CW 107 #[p_ bq] w (i_ (n:Int)):=by
 refine A.C Tryz.func107 rfl (HS.nil w) (A.c<|A.g [.p] [] []<|A.d<|A.c<|A.g [.p,.p] [] [(4,b_ false)]<|A.cf<|A.p<|A.c<|A.k [.p,.p,.p,.rd [p_ br],.cq<|i_ (n:Int),.p] [0,4] [(2,i_ (n:Int))] [] (oc (ro ⟨bq,0,none⟩ (vs:=[p_ br])<|df r0 rfl)<|o1<|qo<|fun w s=>Rz br ar sx cp f n w<|d6 s r1)<|A.e<|A.W [i_ (n:Int)] ?_)
 rfl
theorem SD(m:Nat)(rm:Int)(h1:1≤m)(h2:m≤64)(h3:1≤rm∧rm≤1048576):
  CS 108 #[i_ (m:Int),i_ rm] [] (fun((bq,br,al'):Nat×Nat×(Option Addr))=>(.tuple #[p_ bq,i_ 0])) (fun _=>True) fun(bq,br,al')=>[cw bq [p_ br,i_ rm,i_ 0,u_ 0,u_ 0,u_ 0,u_ 0,u_ 0,u_ 0] 269,cw br [.slice al' ((List.replicate m (default:Pk)).length) m,i_ 0,i_ 0] 315,sl al' ((List.replicate m (default:Pk)).length) m 45 6<|V.dF gn<|List.replicate m (default:Pk)]:=by
 intro w hs
 refine A.C Tryz.func108 rfl hs (A.c<|A.g [.p,.p] [] []<|A.c<|A.N [.p] [0] [(9,i_ (m:Int))]<|A.j<|A.I (some 10) [] (fun w s h=>SB m ‹_› ‹_› w h) ?_)
 rintro⟨br1,al'2⟩-
 refine A.g (ps 5) [9,10] [(6,p_ br1),(7,i_ 0)]<|A.d<|A.c<|A.g [.p,.p,.p,.p,.p,.p,.p,.o,.p,.p,.cl] [7] [(22,b_<|(decide (rm<1))||(decide (rm>1048576)))]<|A.v rfl (fun e2=>?_) (fun e2=>?_)
 ·exact absurd e2<|by(intro h_;simp at h_;omega)
 refine A.p<|A.c<|A.n1 [.p,.p,.p,.al,.p,.p] [1,6,22] (fun b4=>[(4,p_ b4),(5,i_ 0)]) (fun b4=>cw b4 [p_ br1,i_ rm,i_ 0,u_ 0,u_ 0,u_ 0,u_ 0,u_ 0,u_ 0] 269) ?_
 intro b4
 refine A.e<|A.Y [2,0,0] [p_ b4,i_ 0] (b4,br1,al'2) ?_ ?_
 ·rfl
 trivial
abbrev Ib(p0)(p1:Pk):=(u_ (IntKind.u64.wrap<|p0+(IntKind.u64.wrap<|p1.qn)):Value)
abbrev yB(p0)(p1:Pk):=(i_ (IntKind.i64.wrap<|p0-p1.qn):Value)
abbrev SE(p0)(p1:List Pk)(p2)(p3):=(sl p0 ((p1.set p2 default).length) p3 45 6 (V.dF gn<|p1.set p2 default):V.dB)
abbrev SG(p0)(p1:Pk):=(cw p0 [u_ p1.qi,i_ p1.qn,w_ p1.qa,w_ p1.qb,w_ p1.qc,w_ p1.qd] 45:V.dB)
abbrev SH(p0)(p1)(p2:List Pk)(p3)(p4)(p5):=(cw p0 [.slice p1 ((p2.set p3 default).length) p4,i_ (((p3+1)%p2.length:Nat):Int),i_ ((p5-1:Nat):Int)] 315:V.dB)
theorem SI(bq br:Nat)(ar:Option Addr)(sx:List Pk)(cp f n:Nat)(rm bs k1 k2 k3 k4 k5 k6:Int)(hf:f<sx.length)(hn:n≤sx.length)(hl:sx.length≤64)(h0:0<n):
  CS 153 #[p_ bq] [cw bq [p_ br,i_ rm,i_ bs,u_ k1,u_ k2,u_ k3,u_ k4,u_ k5,u_ k6] 269,cw br [.slice ar sx.length cp,i_ (f:Int),i_ (n:Int)] 315,sl ar (sx.length) cp 45 6<|V.dF gn sx] (fun((x,z2,z5):Pk×Int×Int)=>(.tuple #[.agg #[u_ x.qi,i_ x.qn,w_ x.qa,w_ x.qb,w_ x.qc,w_ x.qd],i_ 0])) (fun(x,z2,z5)=>sx[f]? =some x) fun(x,z2,z5)=>[cw bq [p_ br,i_ rm,yB bs x,u_ k1,u_ z2,u_ k3,u_ k4,u_ z5,u_ k6] 269,SH br ar sx f cp n,SE ar sx f cp]:=by
 intro w hs
 refine A.C Tryz.func153 rfl hs (A.c<|A.n1 [.al,.p] [] (fun b1=>[(2,p_ b1)]) (fun b1=>cw b1 [u_ 0,i_ 0,w_ 0,w_ 0,w_ 0,w_ 0] 45) ?_)
 intro b1
 refine A.d<|A.c<|A.g [.p,.p] [] [(7,b_ false)]<|A.cf<|A.p<|A.c<|A.gm [.p,.p,.p,.ld 0] [7] [(13,p_ br)] [bq]<|A.j<|A.I (some 14) [1,1] (fun w s h=>SC br ar sx cp f n ‹_› ‹_› ‹_› ‹_› w h) ?_
 rintro x2 hz1
 refine A.g1 [.p,.p,.p,.al,.st 4,.p] [13,14] (fun b3=>[(4,p_ b3),(5,i_ 0)]) (fun b3=>[]) (fun b3=>cw b3 [u_ x2.qi,i_ x2.qn,w_ x2.qa,w_ x2.qb,w_ x2.qc,w_ x2.qd] 45) (fun b3=>[b3]) ?_
 intro b3
 refine A.d<|A.c<|A.g [.p,.p] [] [(18,b_ false)]<|A.cf<|A.p<|A.d<|A.O [9] 10<|A.dT 1 [.p,.p,.p,.ld 2,.p,.ld 4,.p,.p,.p] (rg 0 9) [5,18] [(27,yB bs x2),(29,q_ bq 2)] [bq,b3]<|A.F 9 rfl (A.sT 2 [yB bs x2] rfl (A.E<|A.M<|A.c<|A.gT [.p,.p,.p,.p,.ld 2,.p,.p,.p,.p,.st 2] [(0,p_ bq),(2,p_ b1),(4,p_ b3)] [(2,cw bq [p_ br,i_ rm,yB bs x2,u_ k1,u_<|IntKind.u64.wrap<|k2+1,u_ k3,u_ k4,u_ k5,u_ k6] 269)] [bq,bq]<|A.d<|A.O [12] 13<|A.dT 1 [.p,.p,.p,.p,.ld 2,.p,.ld 4,.p,.p,.p,.p,.p] (rg 0 12) [0] [(47,Ib k5 x2),(50,q_ bq 7)] [bq,b3]<|A.F 12 rfl (A.sT 2 [Ib k5 x2] rfl (A.E<|A.M<|A.c<|A.gT [.ld 4,.st 3,.p] [(2,p_ b1),(3,i_ 0)] [(3,SG b1 x2)] [b3,b1]<|A.e<|A.aG [2,0,0] [.agg #[u_ x2.qi,i_ x2.qn,w_ x2.qa,w_ x2.qb,w_ x2.qc,w_ x2.qd],i_ 0] (fun _ w r s=>⟨iF 3 r s,fk r rfl,trivial⟩) (x2,IntKind.u64.wrap<|k2+1,IntKind.u64.wrap<|k5+(IntKind.u64.wrap<|x2.qn)) ?_ ?_<|by kernel_rfl))))
 ·rfl
 assumption
theorem K6(w:World):
  CW 214 #[n_] w (i_ 0):=by
 refine A.C Tryz.func214 rfl (HS.nil w) (A.c<|A.g [.p] [] []<|A.d<|A.c<|A.k [.p,.cq<|i_ 0,.p] [] [(7,b_ true)] [] (o1<|qo<|fun w s=>ER w)<|A.ct<|A.c<|A.g [.p] [0,7] [(2,i_ 0)]<|A.e<|A.W [i_ 0] ?_)
 rfl
theorem KU(bq br:Nat)(ar:Option Addr)(sx:List Pk)(cp f n:Nat)(rm bs k1 k2 k3 k4 k5 k6:Int)(hn:n=0)(w:World)(r0:(cw bq [p_ br,i_ rm,i_ bs,u_ k1,u_ k2,u_ k3,u_ k4,u_ k5,u_ k6] 269).holds w)(r1:(cw br [.slice ar sx.length cp,i_ (f:Int),i_ (n:Int)] 315).holds w)(r2:(sl ar (sx.length) cp 45 6<|V.dF gn sx).holds w):
  CW 214 #[p_ bq] w (i_ 0):=by
 refine A.C Tryz.func214 rfl (HS.nil w) (A.c<|A.g [.p] [] []<|A.d<|A.c<|A.k [.p,.cq<|i_ (n:Int),.p] [] [(7,b_<|(n:Int)==0)] [] (o1<|qo<|fun w s=>Bw bq br ar sx cp f n rm bs k1 k2 k3 k4 k5 k6 w (d6 s r0)<|d6 s r1)<|A.v rfl (fun e1=>?_) (fun e1=>?_))
 ·refine A.c<|A.g [.p] [0,7] [(2,i_ 0)]<|A.e<|A.W [i_ 0] ?_
  rfl
 exact absurd e1<|by(intro h_;simp at h_;omega)
theorem PK(bq br:Nat)(ar:Option Addr)(sx:List Pk)(cp f n:Nat)(rm bs k1 k2 k3 k4 k5 k6:Int)(hf:f<sx.length)(hn:n≤sx.length)(hl:sx.length≤64)(h0:0<n)(w:World)(r0:(cw bq [p_ br,i_ rm,i_ bs,u_ k1,u_ k2,u_ k3,u_ k4,u_ k5,u_ k6] 269).holds w)(r1:(cw br [.slice ar sx.length cp,i_ (f:Int),i_ (n:Int)] 315).holds w)(r2:eo w ar (V.dF gn sx)):
  CW 214 #[p_ bq] w (i_<|(sx.getD f default).qn):=by
 refine A.C Tryz.func214 rfl (HS.nil w) (A.c<|A.g [.p] [] []<|A.d<|A.c<|A.k [.p,.cq<|i_ (n:Int),.p] [] [(7,b_<|(n:Int)==0)] [] (o1<|qo<|fun w s=>Bw bq br ar sx cp f n rm bs k1 k2 k3 k4 k5 k6 w (d6 s r0)<|d6 s r1)<|A.v rfl (fun e1=>?_) (fun e1=>?_))
 ·exact absurd e1<|by(intro h_;simp at h_;omega)
 refine A.p<|A.d<|A.s<|A.no [.p,.p,.p,.rd [p_ br],.cq<|.tuple #[.agg #[u_<|(sx.getD ((f+0)%sx.length) default).qi,i_<|(sx.getD ((f+0)%sx.length) default).qn,w_<|(sx.getD ((f+0)%sx.length) default).qa,w_<|(sx.getD ((f+0)%sx.length) default).qb,w_<|(sx.getD ((f+0)%sx.length) default).qc,w_<|(sx.getD ((f+0)%sx.length) default).qd],i_ 0],.p,.p,.p,.al,.st 0,.p] [0,7] (fun b1=>[(3,p_ b1)]) (fun b1=>[]) (fun b1=>cw b1 [u_<|(sx.getD ((f+0)%sx.length) default).qi,i_<|(sx.getD ((f+0)%sx.length) default).qn,w_<|(sx.getD ((f+0)%sx.length) default).qa,w_<|(sx.getD ((f+0)%sx.length) default).qb,w_<|(sx.getD ((f+0)%sx.length) default).qc,w_<|(sx.getD ((f+0)%sx.length) default).qd] 45) (fun b1=>[b1]) (fun b1=>oc (ro ⟨bq,0,none⟩ (vs:=[p_ br])<|df r0 rfl)<|o1<|qo<|fun w s=>J6 br ar sx cp f n 0 (by assumption) (by assumption) (by assumption) (by assumption) w (d6 s r1)<|(ef r2<|by simp[dE]) w s) ?_
 intro b1
 refine A.c<|A.gl [.p,.ld 0,.p] [3] [(2,i_<|(sx.getD ((f+0)%sx.length) default).qn)] [b1]<|A.e<|A.W [i_<|(sx.getD ((f+0)%sx.length) default).qn] ?_
 show((i_<|(sx.getD ((f+0)%sx.length) default).qn):Value)=(i_<|(sx.getD f default).qn)
 rw[Nat.add_zero,Nat.mod_eq_of_lt hf]
abbrev By(p0:Pk):=([(8,b_<|(decide (p0.qn<1))||(decide (p0.qn>16384)))]:dM)
abbrev Bz(p0):=(u_ (IntKind.u64.wrap<|p0+1):Value)
abbrev VR(p0)(p1:Pk):=(cw p0 [u_ p1.qi,i_ p1.qn,w_ p1.qa,w_ p1.qb,w_ p1.qc,w_ p1.qd] 45:V.dB)
abbrev yC(p0:Pk):=(.agg #[u_ p0.qi,i_ p0.qn,w_ p0.qa,w_ p0.qb,w_ p0.qc,w_ p0.qd]:Value)
abbrev tJ(p0)(p1:Pk):=(u_ (IntKind.u64.wrap<|p0+(IntKind.u64.wrap<|p1.qn)):Value)
abbrev qH(p0)(p1)(p2)(p3)(p4)(p5)(p6)(p7)(p8)(p9)(p10)(p11:List Pk)(p12)(p13)(p14):=([cw p0 [p_ p1,i_ p2,i_ p3,u_ p4,u_ p5,u_ p6,u_ p7,u_ p8,u_ p9] 269,cw p1 [.slice p10 p11.length p12,i_ (p13:Int),i_ (p14:Int)] 315,sl p10 (p11.length) p12 45 6<|V.dF gn p11]:List V.dB)
theorem KV(bq br:Nat)(ar:Option Addr)(sx:List Pk)(cp f n:Nat)(rm bs k1 k2 k3 k4 k5 k6:Int)(p:Pk)(hp:1≤p.qn∧p.qn≤16384)(hd:IntKind.i64.wrap (rm-bs)<p.qn)(w:World)(hs:HI w (qH bq br rm bs k1 k2 k3 k4 k5 k6 ar sx cp f n)):
  CV 112 #[p_ bq,yC p] w (qH bq br rm bs k1 k2 k3 k4 k5 k6 ar sx cp f n) (fun((z3,z6):Int×Int)=>(i_ 30)) (fun _=>True) fun(z3,z6)=>(qH bq br rm bs k1 k2 z3 k4 k5 z6 ar sx cp f n):=by
 refine A.C Tryz.func112 rfl hs (A.c<|A.n1 [.al,.p] [1] (fun b1=>[(3,p_ b1)]) (fun b1=>cw b1 [u_ p.qi,i_ p.qn,w_ p.qa,w_ p.qb,w_ p.qc,w_ p.qd] 45) ?_)
 intro b1
 refine A.d<|A.y<|A.c<|A.g (ps 3) [] [(5,b_ false)]<|A.cf<|A.c<|A.gl [.p,.ld 3,.p,.p,.o,.p,.ld 3,.p,.cl,.p] [5] (By p) [b1,b1]<|A.v rfl (fun e1=>?_) (fun e1=>?_)
 ·exact absurd e1<|by(intro h_;simp at h_;omega)
 refine A.d<|A.O [] 22<|A.dT 9 [.p,.ld 3,.p,.p,.p,.ld 0,.p,.p,.p,.ld 0,.p,.p,.p] (rg 0 13) [8] [(30,b_<|decide (p.qn>(IntKind.i64.wrap<|rm-bs)))] [b1,bq,bq]<|A.aP (decide (p.qn>(IntKind.i64.wrap<|rm-bs))) (fun e2=>?_)<|fun e2=>?_
 ·refine A.D 30 (b_ true) (gu e2)<|A.dT 0 [.sk,.sk,.sk,.sk,.sk,.sk,.sk,.p,.p] (rg 13 9) [30] [(17,b_ true)] []<|A.M<|A.ct<|A.c<|A.gs [.p,.p,.p,.p,.ld 0,.p,.p,.p,.p,.st 0] [17] [] [(0,cw bq [p_ br,i_ rm,i_ bs,u_ k1,u_ k2,Bz k3,u_ k4,u_ k5,u_ k6] 269)] [bq,bq]<|A.d<|A.O [12] 13<|A.dT 1 [.p,.p,.p,.p,.ld 0,.p,.ld 3,.p,.p,.p,.p,.p] (rg 0 12) [0,3] [(56,tJ k6 p),(59,q_ bq 8)] [bq,b1]<|A.F 12 rfl (A.sT 0 [tJ k6 p] rfl (A.E<|A.M<|A.c<|A.h [.p] [(4,i_ 30)] []<|A.e<|A.Y [0,0,0] [i_ 30] (IntKind.u64.wrap<|k3+1,IntKind.u64.wrap<|k6+(IntKind.u64.wrap<|p.qn)) ?_ ?_))
  ·rfl
  trivial
 exact absurd e2<|by(intro h_;simp at h_;omega)
theorem KW(bq br:Nat)(ar:Option Addr)(sx:List Pk)(cp f n:Nat)(rm bs k1 k2 k3 k4 k5 k6:Int)(p:Pk)(hp:1≤p.qn∧p.qn≤16384)(hd:p.qn≤IntKind.i64.wrap (rm-bs))(hn:n=sx.length)(w:World)(hs:HI w (qH bq br rm bs k1 k2 k3 k4 k5 k6 ar sx cp f n)):
  CV 112 #[p_ bq,yC p] w (qH bq br rm bs k1 k2 k3 k4 k5 k6 ar sx cp f n) (fun((z3,z6):Int×Int)=>(i_ 30)) (fun _=>True) fun(z3,z6)=>(qH bq br rm bs k1 k2 z3 k4 k5 z6 ar sx cp f n):=by
 refine A.C Tryz.func112 rfl hs (A.c<|A.n1 [.al,.p] [1] (fun b1=>[(3,p_ b1)]) (fun b1=>cw b1 [u_ p.qi,i_ p.qn,w_ p.qa,w_ p.qb,w_ p.qc,w_ p.qd] 45) ?_)
 intro b1
 refine A.d<|A.y<|A.c<|A.g (ps 3) [] [(5,b_ false)]<|A.cf<|A.c<|A.gl [.p,.ld 3,.p,.p,.o,.p,.ld 3,.p,.cl,.p] [5] (By p) [b1,b1]<|A.v rfl (fun e1=>?_) (fun e1=>?_)
 ·exact absurd e1<|by(intro h_;simp at h_;omega)
 refine A.d<|A.ka [.p,.ld 3,.p,.p,.p,.ld 0,.p,.p,.p,.ld 0,.p,.p,.p,.o,.p,.p,.p,.ld 0,.ld 3,.cq<|i_ 5,.p,.cl,.p] (rg 0 22) [8] [(17,b_<|(decide (p.qn>(IntKind.i64.wrap<|rm-bs)))||true)] [b1,bq,bq,bq,b1] (o1<|go (true&&((decide (p.qn>(IntKind.i64.wrap<|rm-bs)))==false)) fun h_=>(qo<|fun w s=>PH br ar sx cp f n p ‹_› w (s.mem (i:=1) rfl) (s.mem (i:=2) rfl)))<|A.v rfl (fun e2=>?_) (fun e2=>?_)
 ·refine A.c<|A.gs [.p,.p,.p,.p,.ld 0,.p,.p,.p,.p,.st 0] [17] [] [(0,cw bq [p_ br,i_ rm,i_ bs,u_ k1,u_ k2,Bz k3,u_ k4,u_ k5,u_ k6] 269)] [bq,bq]<|A.d<|A.O [12] 13<|A.dT 1 [.p,.p,.p,.p,.ld 0,.p,.ld 3,.p,.p,.p,.p,.p] (rg 0 12) [0,3] [(56,tJ k6 p),(59,q_ bq 8)] [bq,b1]<|A.F 12 rfl (A.sT 0 [tJ k6 p] rfl (A.E<|A.M<|A.c<|A.h [.p] [(4,i_ 30)] []<|A.e<|A.Y [0,0,0] [i_ 30] (IntKind.u64.wrap<|k3+1,IntKind.u64.wrap<|k6+(IntKind.u64.wrap<|p.qn)) ?_ ?_))
  ·rfl
  trivial
 exact absurd e2<|by(intro h_;simp at h_)
abbrev yD(p0)(p1:Pk):=(i_ (IntKind.i64.wrap<|p0+p1.qn):Value)
abbrev SJ(p0)(p1)(p2:List Pk)(p3)(p4)(p5)(p6):=(cw p0 [.slice p1 ((p2.set ((p3+p4)%p2.length) p5).length) p6,i_ (p3:Int),i_ ((p4+1:Nat):Int)] 315:V.dB)
abbrev SK(p0)(p1:List Pk)(p2)(p3)(p4)(p5):=(sl p0 ((p1.set ((p2+p3)%p1.length) p4).length) p5 45 6 (V.dF gn<|p1.set ((p2+p3)%p1.length) p4):V.dB)
theorem PL(bq br:Nat)(ar:Option Addr)(sx:List Pk)(cp f n:Nat)(rm bs k1 k2 k3 k4 k5 k6:Int)(p:Pk)(hp:1≤p.qn∧p.qn≤16384)(hd:p.qn≤IntKind.i64.wrap (rm-bs))(hf:f<sx.length)(hn:n<sx.length)(hl:sx.length≤64)(w:World)(hs:HI w (qH bq br rm bs k1 k2 k3 k4 k5 k6 ar sx cp f n)):
  CV 112 #[p_ bq,yC p] w (qH bq br rm bs k1 k2 k3 k4 k5 k6 ar sx cp f n) (fun((z1,z4):Int×Int)=>(i_ 0)) (fun _=>True) fun(z1,z4)=>[cw bq [p_ br,i_ rm,yD bs p,u_ z1,u_ k2,u_ k3,u_ z4,u_ k5,u_ k6] 269,SJ br ar sx f n p cp,SK ar sx f n p cp]:=by
 refine A.C Tryz.func112 rfl hs (A.c<|A.n1 [.al,.p] [1] (fun b1=>[(3,p_ b1)]) (fun b1=>cw b1 [u_ p.qi,i_ p.qn,w_ p.qa,w_ p.qb,w_ p.qc,w_ p.qd] 45) ?_)
 intro b1
 refine A.d<|A.y<|A.c<|A.g (ps 3) [] [(5,b_ false)]<|A.cf<|A.c<|A.gl [.p,.ld 3,.p,.p,.o,.p,.ld 3,.p,.cl,.p] [5] (By p) [b1,b1]<|A.v rfl (fun e1=>?_) (fun e1=>?_)
 ·exact absurd e1<|by(intro h_;simp at h_;omega)
 refine A.d<|A.O [18] 22<|A.dT 9 [.p,.ld 3,.p,.p,.p,.ld 0,.p,.p,.p,.ld 0,.p,.p,.p] (rg 0 13) [8] [(30,b_<|decide (p.qn>(IntKind.i64.wrap<|rm-bs)))] [b1,bq,bq]<|A.aP (decide (p.qn>(IntKind.i64.wrap<|rm-bs))) (fun e2=>?_)<|fun e2=>?_
 ·exact absurd e2<|by(intro h_;simp at h_;omega)
 refine A.D 30 (b_ false) (gu e2)<|A.dT 4 [.p,.p,.p,.ld 0,.ld 3] (rg 13 5) [] [(34,p_ br),(35,yC p)] [bq,b1]<|A.F 18 rfl (A.I (some 36) [1,1] (fun w s h=>PI br ar sx cp f n p ‹_› ‹_› ‹_› w h) ?_)
 rintro⟨⟩-
 refine A.E<|A.dT 0 (ps 3) [19,20,21] [30,34,35,36] [(17,b_ false)] []<|A.M<|A.cf<|A.p<|A.d<|A.O [9] 10<|A.dT 1 [.p,.p,.p,.ld 2,.p,.ld 3,.p,.p,.p] (rg 0 9) [17] [(66,yD bs p),(68,q_ bq 2)] [bq,b1]<|A.F 9 rfl (A.sT 2 [yD bs p] rfl (A.E<|A.M<|A.c<|A.gT [.p,.p,.p,.p,.ld 2,.p,.p,.p,.p,.st 2] [(0,p_ bq),(3,p_ b1)] [(2,cw bq [p_ br,i_ rm,yD bs p,Bz k1,u_ k2,u_ k3,u_ k4,u_ k5,u_ k6] 269)] [bq,bq]<|A.d<|A.O [12] 13<|A.dT 1 [.p,.p,.p,.p,.ld 2,.p,.ld 3,.p,.p,.p,.p,.p] (rg 0 12) [0,3] [(86,tJ k4 p),(89,q_ bq 6)] [bq,b1]<|A.F 12 rfl (A.sT 2 [tJ k4 p] rfl (A.E<|A.M<|A.c<|A.h [.p] [(4,i_ 0)] []<|A.e<|A.Y [2,0,0] [i_ 0] (IntKind.u64.wrap<|k1+1,IntKind.u64.wrap<|k4+(IntKind.u64.wrap<|p.qn)) ?_ ?_))))
 ·rfl
 trivial
structure Cv where
 ka:Int
 kb:Int
 kc:Int
 deriving Inhabited,DecidableEq
def fG(x:Cv):List Value:=[(u_ x.ka),(u_ x.kb),(u_ x.kc)]
theorem oM(x:Cv):(fG x).length=3:=rfl
theorem LZ(x:Cv):(fG x).all Value.oneCell'=true:=rfl
abbrev tc(A:Option Addr)(xs:List Cv)(c:Nat):V.dB:=sl A xs.length c 60 3<|V.dF fG xs
def dK(a b c:Int):Int:=if a=0∧b=0∧c=0 then 1 else if(a>4294967295∨c>4294967295)∨b>1048576 then 0 else if b=0∧a=c then 2 else if b>0∧a>c then 3 else if(b>0∧a=0)∧c>0 then 4 else 0
def jG(a b c:Int):Int:=if(a>4294967295∨c>4294967295)∨b>1048576 then 0 else if(a=0∧c=0)∧b=0 then 1 else if b=0∧a=c then 2 else if b=0 then 0 else if a>c then 3 else if a=0∧c>0 then 4 else 0
theorem uV(a b c:Int):0≤dK a b c∧dK a b c≤4:=by unfold dK;grind
theorem wY{a b c:Int}(ha:0≤a)(hb:0≤b)(hc:0≤c):dK a b c=jG a b c:=by unfold dK jG;grind
set_option maxHeartbeats 4000000 in
set_option maxRecDepth 100000 in
theorem pZ(a b c:Int)(w:World):
  CW 167 #[.agg #[u_ a,u_ b,u_ c]] w (i_<|dK a b c):=by
 refine A.C Tryz.func167 rfl (HS.nil w) (A.aO [(0,.agg #[u_ a,u_ b,u_ c])] [] ⟨rfl,trivial⟩ rfl (A.c<|A.m1 [.al,.p] (fun b1=>[(1,p_ b1)]) (fun _=>[]) (fun b1=>cw b1 [u_ a,u_ b,u_ c] 60) (fun b1=>[]) ?_))
 intro b1
 refine A.d<|A.y<|A.c<|A.h [.ld 0,.p,.eq,.p] [(1,p_ b1),(3,b_<|(a==0)&&((b==0)&&(c==0)))] [b1]<|A.v (E:=(a==0)&&((b==0)&&(c==0))) rfl (fun e1=>?_) (fun e1=>?_)
 ·skip
  refine A.c<|A.h [.p] [(2,i_ 1)] [] ?_
  refine A.e<|A.aL [i_ 1] (fun aa ww rr ss=>⟨fk rr rfl,trivial⟩) ?_
  refine congrArg (Value.int .i64) ?_;unfold dK;grind[eE]
 ·skip
  refine A.c<|A.h [.p,.ld 0,.p,.ld 0,.p,.p,.p,.o,.p,.ld 0,.p,.cl,.p] [(1,p_ b1),(7,b_<|(decide ((eE a c)>4294967295))||(decide (b>1048576)))] [b1,b1,b1]<|A.v (E:=(decide ((eE a c)>4294967295))||(decide (b>1048576))) rfl (fun e2=>?_) (fun e2=>?_)
  ·skip
   refine A.c<|A.h [.p] [(2,i_ 0)] [] ?_
   refine A.e<|A.aL [i_ 0] (fun aa ww rr ss=>⟨fk rr rfl,trivial⟩) ?_
   refine congrArg (Value.int .i64) ?_;unfold dK;grind[eE]
  ·skip
   refine A.c<|A.h [.p,.ld 0,.p,.p,.o,.p,.ld 0,.p,.ld 0,.p,.cl,.p] [(1,p_ b1),(19,b_<|(b==0)&&(a==c))] [b1,b1,b1]<|A.v (E:=(b==0)&&(a==c)) rfl (fun e3=>?_) (fun e3=>?_)
   ·skip
    refine A.c<|A.h [.p] [(2,i_ 2)] [] ?_
    refine A.e<|A.aL [i_ 2] (fun aa ww rr ss=>⟨fk rr rfl,trivial⟩) ?_
    refine congrArg (Value.int .i64) ?_;unfold dK;grind[eE]
   ·skip
    refine A.c<|A.h [.p,.ld 0,.p,.p,.o,.p,.ld 0,.p,.ld 0,.p,.cl,.p] [(1,p_ b1),(30,b_<|(decide (b>0))&&(decide (a>c)))] [b1,b1,b1]<|A.v (E:=(decide (b>0))&&(decide (a>c))) rfl (fun e4=>?_) (fun e4=>?_)
    ·skip
     refine A.c<|A.h [.p] [(2,i_ 3)] [] ?_
     refine A.e<|A.aL [i_ 3] (fun aa ww rr ss=>⟨fk rr rfl,trivial⟩) ?_
     refine congrArg (Value.int .i64) ?_;unfold dK;grind[eE]
    ·skip
     refine A.c<|A.h [.p,.ld 0,.p,.p,.o,.p,.ld 0,.p,.cl,.p,.o,.p,.ld 0,.p,.cl,.p] [(41,b_<|((decide (b>0))&&(a==0))&&(decide (c>0)))] [b1,b1,b1]<|A.v (E:=((decide (b>0))&&(a==0))&&(decide (c>0))) rfl (fun e5=>?_) (fun e5=>?_)
     ·skip
      refine A.c<|A.h [.p] [(2,i_ 4)] [] ?_
      refine A.e<|A.aL [i_ 4] (fun aa ww rr ss=>⟨fk rr rfl,trivial⟩) ?_
      refine congrArg (Value.int .i64) ?_;unfold dK;grind[eE]
     ·skip
      refine A.p<|A.c<|A.h [.p] [(2,i_ 0)] [] ?_
      refine A.e<|A.aL [i_ 0] (fun aa ww rr ss=>⟨fk rr rfl,trivial⟩) ?_
      refine congrArg (Value.int .i64) ?_;unfold dK;grind[eE]
set_option maxHeartbeats 4000000 in
set_option maxRecDepth 100000 in
theorem qe(a b c:Int)(w:World):
  CW 176 #[.agg #[u_ a,u_ b,u_ c]] w (b_<|dK a b c !=0):=by
 refine A.C Tryz.func176 rfl (HS.nil w) (A.aO [(0,.agg #[u_ a,u_ b,u_ c])] [] ⟨rfl,trivial⟩ rfl (A.c<|A.m1 [.al,.p] (fun b1=>[(1,p_ b1)]) (fun _=>[]) (fun b1=>cw b1 [u_ a,u_ b,u_ c] 60) (fun b1=>[]) ?_))
 intro b1
 refine A.c<|A.hk [.ld 0,.cq<|i_<|dK a b c,.p,.p] [(2,b_<|(dK a b c)!=0)] [b1] (o1<|qo<|fun w s=>pZ a b c w)<|A.e<|A.aL [b_<|(dK a b c)!=0] (fun _ w r s=>⟨fk r rfl,trivial⟩) ?_
 first|rfl|simp_all
structure Nm where
 nq1:Int
 nq2:Int
 deriving Inhabited,DecidableEq
def eC(x:Nm):List Value:=[(u_ x.nq1),(u_ x.nq2)]
structure Ln where
 lq1:Int
 lq2:Int
 lq3:Int
 lq4:Int
 deriving Inhabited,DecidableEq
def jR(x:Ln):List Value:=[(u_ x.lq1),(u_ x.lq2),(u_ x.lq3),(u_ x.lq4)]
structure Rn where
 rq1:Int
 rq2:Int
 rq3:Int
 rq4:Int
 rq5:Int
 rq6:Int
 rq7:Int
 rq8:Int
 rq9:Bool
 deriving Inhabited,DecidableEq
def eD(x:Rn):List Value:=[(u_ x.rq1),(u_ x.rq2),(u_ x.rq3),(u_ x.rq4),(u_ x.rq5),(u_ x.rq6),(u_ x.rq7),(u_ x.rq8),(b_ x.rq9)]
structure Du where
 dq1:Bool
 dq2:Int
 dq3:Int
 dq4:Int
 dq5:Int
 dq6:Int
 dq7:Int
 dq8:Int
 dq9:Int
 dq10:Bool
 dq11:Int
 dq12:Int
 dq13:Int
 dq14:Int
 dq15:Int
 dq16:Int
 dq17:Int
 dq18:Int
 dq19:Bool
 dq20:Int
 dq21:Int
 dq22:Int
 deriving Inhabited,DecidableEq
def fg(x:Du):List Value:=[(b_ x.dq1),(u_ x.dq2),(u_ x.dq3),(u_ x.dq4),(u_ x.dq5),(u_ x.dq6),(u_ x.dq7),(u_ x.dq8),(u_ x.dq9),(b_ x.dq10),(u_ x.dq11),(u_ x.dq12),(u_ x.dq13),(u_ x.dq14),(u_ x.dq15),(u_ x.dq16),(u_ x.dq17),(u_ x.dq18),(b_ x.dq19),(u_ x.dq20),(u_ x.dq21),(u_ x.dq22)]
structure Sh where
 sq1:Bool
 sq2:Int
 sq3:Int
 sq4:Int
 sq5:Int
 sq6:Int
 sq7:Int
 sq8:Int
 sq9:Int
 sq10:Bool
 sq11:Int
 deriving Inhabited,DecidableEq
def iD(x:Sh):List Value:=[(b_ x.sq1),(u_ x.sq2),(u_ x.sq3),(u_ x.sq4),(u_ x.sq5),(u_ x.sq6),(u_ x.sq7),(u_ x.sq8),(u_ x.sq9),(b_ x.sq10),(u_ x.sq11)]
structure Li where
 uq1:Bool
 uq2:Int
 uq3:Int
 uq4:Int
 uq5:Int
 uq6:Int
 uq7:Int
 uq8:Int
 uq9:Int
 uq10:Bool
 uq11:Int
 deriving Inhabited,DecidableEq
def gv(x:Li):List Value:=[(b_ x.uq1),(u_ x.uq2),(u_ x.uq3),(u_ x.uq4),(u_ x.uq5),(u_ x.uq6),(u_ x.uq7),(u_ x.uq8),(u_ x.uq9),(b_ x.uq10),(u_ x.uq11)]
def lV(a b c:Int):Int:=IntKind.u64.wrap<|(IntKind.u64.wrap<|a+b)+c
def jX(a b c:Int):Int:=(dL .or .u64 (dL .and .u64 a b)<|dL .andNot .u64 (dL .or .u64 a b)<|lV a b c)/9223372036854775808
def mi(a b c:Int):Int:=IntKind.u64.wrap<|(IntKind.u64.wrap<|a-b)-c
def jm(a b c:Int):Int:=(dL .or .u64 (dL .and .u64 (dL .xor .u64 18446744073709551615 a) b)<|dL .and .u64 (dL .xor .u64 18446744073709551615<|dL .xor .u64 a b)<|mi a b c)/9223372036854775808
def gr(a b:Nm):Nm:=⟨lV a.nq1 b.nq1<|jX a.nq2 b.nq2 0,lV a.nq2 b.nq2 0⟩
def rX(a b:Nm):Bool:=jX a.nq1 b.nq1 (jX a.nq2 b.nq2 0)!=0
def lW(a b:Nm):Nm:=⟨mi a.nq1 b.nq1<|jm a.nq2 b.nq2 0,mi a.nq2 b.nq2 0⟩
def Jh(a b:Nm):Bool:=jm a.nq1 b.nq1 (jm a.nq2 b.nq2 0)!=0
def mj(a b:Nm):Int:=if a.nq1<b.nq1∨a.nq1=b.nq1∧a.nq2<b.nq2 then-1 else if a.nq1=b.nq1∧a.nq2=b.nq2 then 0 else 1
def nK(a b:Int):Int:=IntKind.u64.wrap<|(dL .and .u64 a 4294967295)*(dL .and .u64 b 4294967295)
def mA(a b:Int):Int:=IntKind.u64.wrap<|(IntKind.u64.wrap<|(a/4294967296)*(dL .and .u64 b 4294967295))+((nK a b)/4294967296)
def pB(a b:Int):Int:=IntKind.u64.wrap<|(IntKind.u64.wrap<|(dL .and .u64 a 4294967295)*(b/4294967296))+(dL .and .u64 (mA a b) 4294967295)
def cz(a b:Int):Nm:=⟨IntKind.u64.wrap<|(IntKind.u64.wrap<|(IntKind.u64.wrap<|(a/4294967296)*(b/4294967296))+((mA a b)/4294967296))+((pB a b)/4294967296),dL .or .u64 (IntKind.u64.wrap<|(pB a b)*4294967296)<|dL .and .u64 (nK a b) 4294967295⟩
abbrev xp(p0)(p1)(p2):=(u_ (IntKind.u64.wrap<|(IntKind.u64.wrap<|p0+p1)+p2):Value)
abbrev Ba(p0)(p1)(p2):=(u_ ((dL .or .u64 (dL .and .u64 p0 p1)<|dL .andNot .u64 (dL .or .u64 p0 p1)<|IntKind.u64.wrap<|(IntKind.u64.wrap<|p0+p1)+p2)/9223372036854775808):Value)
theorem IY(a b c:Int)(w:World):
  CW 262 #[u_ a,u_ b,u_ c] w (.tuple #[u_<|lV a b c,u_<|jX a b c]):=by
 refine A.C Tryz.func262 rfl (HS.nil w) (A.c<|A.g [.p,.p] [] []<|A.c<|A.g (ps 6) [2] [(8,xp a b c)]<|A.c<|A.N (ps 10) [0,1,8] [(14,xp a b c),(23,u_<|dL .or .u64 (dL .and .u64 a b)<|dL .andNot .u64 (dL .or .u64 a b)<|IntKind.u64.wrap<|(IntKind.u64.wrap<|a+b)+c)]<|A.j<|A.u (some 24) (Ba a b c) (iw (congrArg (Value.int .u64)<|Int.fdiv_eq_ediv_of_nonneg (dL .or .u64 (dL .and .u64 a b)<|dL .andNot .u64 (dL .or .u64 a b)<|IntKind.u64.wrap<|(IntKind.u64.wrap<|a+b)+c)<|by decide)<|jv (v:= .int .u64 ((dL .or .u64 (dL .and .u64 a b)<|dL .andNot .u64 (dL .or .u64 a b)<|IntKind.u64.wrap<|(IntKind.u64.wrap<|a+b)+c).fdiv 9223372036854775808)) (by kernel_rfl) fun _=>by kernel_rfl)<|A.g [.p,.p] [14,23,24] [(6,xp a b c),(7,Ba a b c)]<|A.e<|A.W [xp a b c,Ba a b c] ?_)
 rfl
abbrev xq(p0)(p1)(p2):=(u_ (IntKind.u64.wrap<|(IntKind.u64.wrap<|p0-p1)-p2):Value)
abbrev Bc(p0)(p1)(p2):=(u_ ((dL .or .u64 (dL .and .u64 (dL .xor .u64 18446744073709551615 p0) p1)<|dL .and .u64 (dL .xor .u64 18446744073709551615<|dL .xor .u64 p0 p1)<|IntKind.u64.wrap<|(IntKind.u64.wrap<|p0-p1)-p2)/9223372036854775808):Value)
theorem IZ(a b c:Int)(w:World):
  CW 281 #[u_ a,u_ b,u_ c] w (.tuple #[u_<|mi a b c,u_<|jm a b c]):=by
 refine A.C Tryz.func281 rfl (HS.nil w) (A.c<|A.g [.p,.p] [] []<|A.c<|A.g (ps 6) [2] [(8,xq a b c)]<|A.c<|A.N (ps 12) [0,1,8] [(14,xq a b c),(25,u_<|dL .or .u64 (dL .and .u64 (dL .xor .u64 18446744073709551615 a) b)<|dL .and .u64 (dL .xor .u64 18446744073709551615<|dL .xor .u64 a b)<|IntKind.u64.wrap<|(IntKind.u64.wrap<|a-b)-c)]<|A.j<|A.u (some 26) (Bc a b c) (iw (congrArg (Value.int .u64)<|Int.fdiv_eq_ediv_of_nonneg (dL .or .u64 (dL .and .u64 (dL .xor .u64 18446744073709551615 a) b)<|dL .and .u64 (dL .xor .u64 18446744073709551615<|dL .xor .u64 a b)<|IntKind.u64.wrap<|(IntKind.u64.wrap<|a-b)-c)<|by decide)<|jv (v:= .int .u64 ((dL .or .u64 (dL .and .u64 (dL .xor .u64 18446744073709551615 a) b)<|dL .and .u64 (dL .xor .u64 18446744073709551615<|dL .xor .u64 a b)<|IntKind.u64.wrap<|(IntKind.u64.wrap<|a-b)-c).fdiv 9223372036854775808)) (by kernel_rfl) fun _=>by kernel_rfl)<|A.g [.p,.p] [14,25,26] [(6,xq a b c),(7,Bc a b c)]<|A.e<|A.W [xq a b c,Bc a b c] ?_)
 rfl
theorem uw(a b:Nm)(w:World):
  CW 243 #[.agg (eC a).toArray,.agg (eC b).toArray] w (.tuple #[.agg (eC<|gr a b).toArray,b_<|rX a b]):=by
 refine A.C Tryz.func243 rfl (HS.nil w) (A.c<|A.ag [.al,.al,.al,.p] [2,3,4] (fun b1 b2 b3=>[(2,p_ b1),(3,p_ b2),(4,p_ b3)]) (fun b1 b2 b3=>[cw b1 (eC a) 213,cw b2 (eC b) 213,cw b3 [u_ 0,u_ 0] 213]) (fun b1 b2 b3=>[]) (fun _ _ _=>T0) (fun _ _ _=>by kernel_rfl) (fun b1 b2 b3=>trivial) ?_)
 intro b1 b2 b3
 refine A.c<|A.k [.p,.ld 0,.p,.ld 1,.cq<|.tuple #[u_<|lV a.nq2 b.nq2 0,u_<|jX a.nq2 b.nq2 0],.p,.p,.p,.p,.p] [] [(6,u_<|lV a.nq2 b.nq2 0),(7,u_<|jX a.nq2 b.nq2 0)] [b1,b2] (o1<|qo<|fun w s=>IY a.nq2 b.nq2 0 w)<|A.c<|A.k [.p,.ld 0,.p,.ld 1,.p,.cq<|.tuple #[u_<|lV a.nq1 b.nq1<|jX a.nq2 b.nq2 0,u_<|jX a.nq1 b.nq1<|jX a.nq2 b.nq2 0],.p,.p,.p,.p,.p] [2,3,7] [(8,u_<|lV a.nq1 b.nq1<|jX a.nq2 b.nq2 0),(9,u_<|jX a.nq1 b.nq1<|jX a.nq2 b.nq2 0)] [b1,b2] (o1<|qo<|fun w s=>IY a.nq1 b.nq1 (jX a.nq2 b.nq2 0) w)<|A.c<|A.gs [.p,.p,.p,.p,.p,.st 2,.p] [6,8,9] [(5,b_<|(jX a.nq1 b.nq1<|jX a.nq2 b.nq2 0)!=0)] [(2,cw b3 [u_<|lV a.nq1 b.nq1<|jX a.nq2 b.nq2 0,u_<|lV a.nq2 b.nq2 0] 213)] [b3]<|A.e<|A.aj 2 [u_<|lV a.nq1 b.nq1<|jX a.nq2 b.nq2 0,u_<|lV a.nq2 b.nq2 0] (b_<|(jX a.nq1 b.nq1<|jX a.nq2 b.nq2 0)!=0) ?_
 rfl
theorem UN(a b:Nm)(w:World):
  CW 269 #[.agg (eC a).toArray,.agg (eC b).toArray] w (.tuple #[.agg (eC<|lW a b).toArray,b_<|Jh a b]):=by
 refine A.C Tryz.func269 rfl (HS.nil w) (A.c<|A.ag [.al,.al,.al,.p] [2,3,4] (fun b1 b2 b3=>[(2,p_ b1),(3,p_ b2),(4,p_ b3)]) (fun b1 b2 b3=>[cw b1 (eC a) 213,cw b2 (eC b) 213,cw b3 [u_ 0,u_ 0] 213]) (fun b1 b2 b3=>[]) (fun _ _ _=>T0) (fun _ _ _=>by kernel_rfl) (fun b1 b2 b3=>trivial) ?_)
 intro b1 b2 b3
 refine A.c<|A.k [.p,.ld 0,.p,.ld 1,.cq<|.tuple #[u_<|mi a.nq2 b.nq2 0,u_<|jm a.nq2 b.nq2 0],.p,.p,.p,.p,.p] [] [(6,u_<|mi a.nq2 b.nq2 0),(7,u_<|jm a.nq2 b.nq2 0)] [b1,b2] (o1<|qo<|fun w s=>IZ a.nq2 b.nq2 0 w)<|A.c<|A.k [.p,.ld 0,.p,.ld 1,.p,.cq<|.tuple #[u_<|mi a.nq1 b.nq1<|jm a.nq2 b.nq2 0,u_<|jm a.nq1 b.nq1<|jm a.nq2 b.nq2 0],.p,.p,.p,.p,.p] [2,3,7] [(8,u_<|mi a.nq1 b.nq1<|jm a.nq2 b.nq2 0),(9,u_<|jm a.nq1 b.nq1<|jm a.nq2 b.nq2 0)] [b1,b2] (o1<|qo<|fun w s=>IZ a.nq1 b.nq1 (jm a.nq2 b.nq2 0) w)<|A.c<|A.gs [.p,.p,.p,.p,.p,.st 2,.p] [6,8,9] [(5,b_<|(jm a.nq1 b.nq1<|jm a.nq2 b.nq2 0)!=0)] [(2,cw b3 [u_<|mi a.nq1 b.nq1<|jm a.nq2 b.nq2 0,u_<|mi a.nq2 b.nq2 0] 213)] [b3]<|A.e<|A.aj 2 [u_<|mi a.nq1 b.nq1<|jm a.nq2 b.nq2 0,u_<|mi a.nq2 b.nq2 0] (b_<|(jm a.nq1 b.nq1<|jm a.nq2 b.nq2 0)!=0) ?_
 rfl
theorem Cd(a b:Nm)(w:World):
  CW 229 #[.agg (eC a).toArray,.agg (eC b).toArray] w (i_<|mj a b):=by
 refine A.C Tryz.func229 rfl (HS.nil w) (A.c<|A.n2 [.al,.al,.p] [0,1] (fun b1 b2=>[(2,p_ b1),(3,p_ b2)]) (fun b1 b2=>[cw b1 (eC a) 213,cw b2 (eC b) 213]) ?_)
 intro b1 b2
 refine A.d<|A.y<|A.c<|A.gl [.p,.ld 0,.p,.ld 1,.p,.p,.o,.p,.ld 0,.p,.ld 1,.p,.p,.o,.p,.ld 0,.p,.ld 1,.p,.cl,.cl,.p] [] [(5,b_<|(decide (a.nq1<b.nq1))||((a.nq1==b.nq1)&&(decide (a.nq2<b.nq2))))] [b1,b2,b1,b2,b1,b2]<|A.v rfl (fun e1=>?_) (fun e1=>?_)
 ·refine A.c<|A.g [.p] [2,3,5] [(4,i_ (-1))]<|A.e<|A.W [i_ (-1)] ?_
  refine congrArg (Value.int .i64) ?_;unfold mj;grind
 refine A.c<|A.gl [.ld 0,.ld 1,.eq,.p] [2,3,5] [(25,b_<|(a.nq1==b.nq1)&&(a.nq2==b.nq2))] [b1,b2]<|A.v rfl (fun e2=>?_) (fun e2=>?_)
 ·refine A.c<|A.g [.p] [25] [(4,i_ 0)]<|A.e<|A.W [i_ 0] ?_
  refine congrArg (Value.int .i64) ?_;unfold mj;grind
 have p2:=e2
 refine A.p<|A.c<|A.g [.p] [25] [(4,i_ 1)]<|A.e<|A.W [i_ 1] ?_
 refine congrArg (Value.int .i64) ?_;unfold mj;grind
theorem qP(a b:Int)(w:World):
  CW 205 #[u_ a,u_ b] w (.agg (eC<|cz a b).toArray):=by
 refine A.C Tryz.func205 rfl (HS.nil w) (A.c<|A.n1 [.al] [] (fun b1=>[(4,p_ b1)]) (fun b1=>cw b1 [u_ 0,u_ 0] 213) ?_)
 intro b1
 refine A.c<|A.N [.p] [] [(12,u_ a)]<|A.j<|A.u (some 13) (u_<|a/4294967296) (iw (congrArg (Value.int .u64)<|Int.fdiv_eq_ediv_of_nonneg a<|by decide)<|jv (v:= .int .u64 (a.fdiv 4294967296)) (by kernel_rfl) fun _=>by kernel_rfl)<|A.g (ps 4) [0,12,13] [(5,u_<|a/4294967296),(6,u_<|dL .and .u64 a 4294967295)]<|A.c<|A.N [.p] [] [(16,u_ b)]<|A.j<|A.u (some 17) (u_<|b/4294967296) (iw (congrArg (Value.int .u64)<|Int.fdiv_eq_ediv_of_nonneg b<|by decide)<|jv (v:= .int .u64 (b.fdiv 4294967296)) (by kernel_rfl) fun _=>by kernel_rfl)<|A.g (ps 4) [1,16,17] [(7,u_<|b/4294967296),(8,u_<|dL .and .u64 b 4294967295)]<|A.c<|A.g (ps 4) [] [(9,u_<|nK a b)]<|A.c<|A.N (ps 4) [8] [(25,u_<|IntKind.u64.wrap<|(a/4294967296)*(dL .and .u64 b 4294967295)),(26,u_<|nK a b)]<|A.j<|A.u (some 27) (u_<|(nK a b)/4294967296) (iw (congrArg (Value.int .u64)<|Int.fdiv_eq_ediv_of_nonneg (nK a b)<|by decide)<|jv (v:= .int .u64 ((nK a b).fdiv 4294967296)) (by kernel_rfl) fun _=>by kernel_rfl)<|A.g [.p,.p] [25,26,27] [(10,u_<|mA a b)]<|A.c<|A.g (ps 7) [6] [(11,u_<|pB a b)]<|A.c<|A.N (ps 4) [5,7,10] [(37,u_<|IntKind.u64.wrap<|(a/4294967296)*(b/4294967296)),(38,u_<|mA a b)]<|A.j<|A.u (some 39) (u_<|(mA a b)/4294967296) (iw (congrArg (Value.int .u64)<|Int.fdiv_eq_ediv_of_nonneg (mA a b)<|by decide)<|jv (v:= .int .u64 ((mA a b).fdiv 4294967296)) (by kernel_rfl) fun _=>by kernel_rfl)<|A.N [.p,.p] [37,38,39] [(40,u_<|IntKind.u64.wrap<|(IntKind.u64.wrap<|(a/4294967296)*(b/4294967296))+((mA a b)/4294967296)),(41,u_<|pB a b)]<|A.j<|A.u (some 42) (u_<|(pB a b)/4294967296) (iw (congrArg (Value.int .u64)<|Int.fdiv_eq_ediv_of_nonneg (pB a b)<|by decide)<|jv (v:= .int .u64 ((pB a b).fdiv 4294967296)) (by kernel_rfl) fun _=>by kernel_rfl)<|A.gs [.p,.p,.p,.p,.p,.p,.p,.st 0] [9,11,40,41,42] [] [(0,cw b1 (eC<|cz a b) 213)] [b1]<|A.e<|A.pc 0 (eC<|cz a b) ?_
 rfl
structure Dv where
 av:Nm
 qv:Nm
 rv:Int
def tj(b:Int)(s:Dv):Bool:=(s.rv/9223372036854775808 !=0)||decide (dL .or .u64 (IntKind.u64.wrap<|s.rv*2) (s.av.nq1/9223372036854775808)≥b)
def tm(b:Int)(s:Dv):Dv:=
 ⟨⟨dL .or .u64 (IntKind.u64.wrap<|s.av.nq1*2)<|s.av.nq2/9223372036854775808,IntKind.u64.wrap<|s.av.nq2*2⟩,
  ⟨dL .or .u64 (IntKind.u64.wrap<|s.qv.nq1*2)<|s.qv.nq2/9223372036854775808,if tj b s then dL .or .u64 (IntKind.u64.wrap<|s.qv.nq2*2) 1 else IntKind.u64.wrap<|s.qv.nq2*2⟩,
  if tj b s then IntKind.u64.wrap ((dL .or .u64 (IntKind.u64.wrap<|s.rv*2)<|s.av.nq1/9223372036854775808)-b) else dL .or .u64 (IntKind.u64.wrap<|s.rv*2)<|s.av.nq1/9223372036854775808⟩
def dm(a:Nm)(b:Int):Nat→Dv
 |0=>⟨a,⟨0,0⟩,0⟩
 |k+1=>tm b<|dm a b k
theorem wK(a:Nm)(b:Int)(k:Nat):dm a b (k+1)=tm b (dm a b k):=rfl
def fe(a:Nm)(b:Int):Nm:=if b=0 then⟨0,0⟩ else(dm a b 128).qv
def pC(a:Nm)(b:Int):Int:=if b=0 then 0 else(dm a b 128).rv
def k7(b:Int):Int:=if b=0 then 1 else 0
def qQ(a:Nm)(b:Int):Nm:=if pC a b=0 then fe a b else gr (fe a b) ⟨0,1⟩
def ky(a:Nm)(b:Int):Int:=if b=0 then 1 else if(qQ a b).nq1=0 then 0 else 20
def kJ(a:Nm)(b:Int):Int:=if b=0 then 0 else if(qQ a b).nq1=0 then(qQ a b).nq2 else 0
theorem UO(a:Nm)(b:Int)(w:World):
  CW 282 #[.agg (eC a).toArray,u_ b] w (.tuple #[.agg (eC<|fe a b).toArray,u_<|pC a b,i_<|k7 b]):=by
 refine A.C Tryz.func282 rfl (HS.nil w) (A.c<|A.n2 [.al,.al,.p,.p] [0] (fun b1 b2=>[(2,p_ b1),(4,p_ b2)]) (fun b1 b2=>[cw b1 (eC a) 213,cw b2 [u_ 0,u_ 0] 213]) ?_)
 intro b1 b2
 refine A.d<|A.c<|A.g [.p,.p] [] [(11,b_<|b==0)]<|A.cn (b==0) (fun e1=>?_)<|fun e1=>?_
 ·refine A.c<|A.gs [.p,.st 1,.p,.p] [1,2,11] [(5,u_ 0),(6,i_ 1)] [] [b2]<|A.e<|A.aL [.agg #[u_ 0,u_ 0],u_ 0,i_ 1] (fun _ w r s=>⟨iF 1 r s,fk r rfl,fk r rfl,trivial⟩) ?_
  show((.tuple #[.agg #[u_ 0,u_ 0],u_ 0,i_ 1]):Value)=(.tuple #[.agg (eC<|fe a b).toArray,u_<|pC a b,i_<|k7 b])
  (unfold fe pC k7;simp_all[eC];done)
 refine A.p<|A.c<|A.n1 [.al] [11] (fun b3=>[(7,p_ b3)]) (fun b3=>cw b3 [u_ 0,u_ 0] 213) ?_
 intro b3
 refine A.c<|A.g [.p] [] [(8,u_ 0)]<|A.d<|A.c<|A.g [.p] [] [(13,i_ 0)]<|A.y<|A.D 8 (u_<|(dm a b 0).rv) (mE<|by rfl)<|A.su 0 (cw b1 [u_<|(dm a b 0).av.nq1,u_<|(dm a b 0).av.nq2] 213) rfl (iL<|cc (congrArg u_ (by rfl:a.nq1=(dm a b 0).av.nq1))<|cc (congrArg u_ (by rfl:a.nq2=(dm a b 0).av.nq2)) rfl) (A.su 2 (cw b3 [u_<|(dm a b 0).qv.nq1,u_<|(dm a b 0).qv.nq2] 213) rfl (iL<|cc (congrArg u_ (by rfl:0=(dm a b 0).qv.nq1))<|cc (congrArg u_ (by rfl:0=(dm a b 0).qv.nq2)) rfl) (A.lp (σ:=Nat) [] (fun k=>[(13,c_ k),(8,u_<|(dm a b k).rv)]) [0,1] (fun k=>[cw b1 [u_<|(dm a b k).av.nq1,u_<|(dm a b k).av.nq2] 213,cw b3 [u_<|(dm a b k).qv.nq1,u_<|(dm a b k).qv.nq2] 213]) (fun k=>(k≤128)) (fun k=>128-k) (0:Nat) (by omega) ?_ ?_))
 ·exact A.J [0,1,0]
 rintro k hk
 have hk:k≤128:=hk
 refine A.c<|A.g [.p] [] [(14,b_<|decide ((k:Int)<128))]<|A.d<|A.v rfl (fun e2=>?_) (fun e2=>?_)
 ·have p2:=of_decide_eq_true e2
  refine A.p<|A.d<|A.y<|A.c<|A.N [.p] [14] [(15,u_<|(dm a b k).rv)]<|A.j<|A.u (some 16) (u_<|((dm a b k).rv)/9223372036854775808) (iw (congrArg (Value.int .u64)<|Int.fdiv_eq_ediv_of_nonneg ((dm a b k).rv)<|by decide)<|jv (v:= .int .u64 (((dm a b k).rv).fdiv 9223372036854775808)) (by kernel_rfl) fun _=>by kernel_rfl)<|A.g [.p] [15,16] [(9,u_<|((dm a b k).rv)/9223372036854775808)]<|A.c<|A.gm [.p,.p,.p,.ld 0] [] [(18,u_<|IntKind.u64.wrap<|((dm a b k).rv)*2),(20,u_<|(dm a b k).av.nq1)] [b1]<|A.j<|A.u (some 21) (u_<|((dm a b k).av.nq1)/9223372036854775808) (iw (congrArg (Value.int .u64)<|Int.fdiv_eq_ediv_of_nonneg ((dm a b k).av.nq1)<|by decide)<|jv (v:= .int .u64 (((dm a b k).av.nq1).fdiv 9223372036854775808)) (by kernel_rfl) fun _=>by kernel_rfl)<|A.g [.p,.p] [18,20,21] [(8,u_<|dL .or .u64 (IntKind.u64.wrap<|((dm a b k).rv)*2)<|((dm a b k).av.nq1)/9223372036854775808)]<|A.c<|A.gm [.p,.ld 0,.p,.p,.ld 0] [] [(25,u_<|IntKind.u64.wrap<|((dm a b k).av.nq1)*2),(27,u_<|(dm a b k).av.nq2)] [b1,b1]<|A.j<|A.u (some 28) (u_<|((dm a b k).av.nq2)/9223372036854775808) (iw (congrArg (Value.int .u64)<|Int.fdiv_eq_ediv_of_nonneg ((dm a b k).av.nq2)<|by decide)<|jv (v:= .int .u64 (((dm a b k).av.nq2).fdiv 9223372036854775808)) (by kernel_rfl) fun _=>by kernel_rfl)<|A.gs [.p,.p,.ld 0,.p,.p,.st 0] [25,27,28] [] [(0,cw b1 [u_<|dL .or .u64 (IntKind.u64.wrap<|((dm a b k).av.nq1)*2)<|((dm a b k).av.nq2)/9223372036854775808,u_<|IntKind.u64.wrap<|((dm a b k).av.nq2)*2] 213)] [b1,b1]<|A.c<|A.gm [.p,.ld 1,.p,.p,.ld 1] [] [(36,u_<|IntKind.u64.wrap<|((dm a b k).qv.nq1)*2),(38,u_<|(dm a b k).qv.nq2)] [b3,b3]<|A.j<|A.u (some 39) (u_<|((dm a b k).qv.nq2)/9223372036854775808) (iw (congrArg (Value.int .u64)<|Int.fdiv_eq_ediv_of_nonneg ((dm a b k).qv.nq2)<|by decide)<|jv (v:= .int .u64 (((dm a b k).qv.nq2).fdiv 9223372036854775808)) (by kernel_rfl) fun _=>by kernel_rfl)<|A.gs [.p,.p,.ld 1,.p,.p,.st 1] [36,38,39] [] [(1,cw b3 [u_<|dL .or .u64 (IntKind.u64.wrap<|((dm a b k).qv.nq1)*2)<|((dm a b k).qv.nq2)/9223372036854775808,u_<|IntKind.u64.wrap<|((dm a b k).qv.nq2)*2] 213)] [b3,b3]<|A.c<|A.h [.p,.p,.p,.o,.p,.p,.p,.cl] [(1,u_ b),(2,p_ b1),(4,p_ b2),(7,p_ b3),(13,c_ k),(8,u_<|dL .or .u64 (IntKind.u64.wrap<|((dm a b k).rv)*2)<|((dm a b k).av.nq1)/9223372036854775808),(51,b_<|((((dm a b k).rv)/9223372036854775808)!=0)||(decide ((dL .or .u64 (IntKind.u64.wrap<|((dm a b k).rv)*2)<|((dm a b k).av.nq1)/9223372036854775808)≥b)))] []<|A.v rfl (fun e3=>?_) (fun e3=>?_)
  ·have p3:=e3
   refine A.c<|A.g (ps 4) [51] [(8,u_<|IntKind.u64.wrap<|(dL .or .u64 (IntKind.u64.wrap<|((dm a b k).rv)*2)<|((dm a b k).av.nq1)/9223372036854775808)-b)]<|A.s<|A.gs [.p,.ld 1,.p,.p,.st 1] [] [] [(1,cw b3 [u_<|dL .or .u64 (IntKind.u64.wrap<|((dm a b k).qv.nq1)*2)<|((dm a b k).qv.nq2)/9223372036854775808,u_<|dL .or .u64 (IntKind.u64.wrap<|((dm a b k).qv.nq2)*2) 1] 213)] [b3,b3]<|A.s<|A.k [.w<|(k:Int)+1,.p] [] [(13,i_<|(k:Int)+1)] [] (o1<|wj ((k:Int)+1)<|by omega)<|A.D 8 (u_<|(dm a b<|k+1).rv) (mE<|by(rw[wK];unfold tm tj;simp_all;done))<|A.su 0 (cw b1 [u_<|(dm a b<|k+1).av.nq1,u_<|(dm a b<|k+1).av.nq2] 213) rfl (iL<|cc (congrArg u_ (by rfl:dL .or .u64 (IntKind.u64.wrap<|((dm a b k).av.nq1)*2) (((dm a b k).av.nq2)/9223372036854775808)=(dm a b<|k+1).av.nq1))<|cc (congrArg u_ (by rfl:IntKind.u64.wrap (((dm a b k).av.nq2)*2)=(dm a b<|k+1).av.nq2)) rfl) (A.su 1 (cw b3 [u_<|(dm a b<|k+1).qv.nq1,u_<|(dm a b<|k+1).qv.nq2] 213) rfl (iL<|cc (congrArg u_ (by rfl:dL .or .u64 (IntKind.u64.wrap<|((dm a b k).qv.nq1)*2) (((dm a b k).qv.nq2)/9223372036854775808)=(dm a b<|k+1).qv.nq1))<|cc (congrArg u_ (by(rw[wK];unfold tm tj;simp_all;done):dL .or .u64 (IntKind.u64.wrap<|((dm a b k).qv.nq2)*2) 1=(dm a b<|k+1).qv.nq2)) rfl) (A.Z ((k+1)) (by omega) (by omega) ?_))
   exact A.J [0,0,0]
  have p3:=e3
  refine A.p<|A.s<|A.k [.w<|(k:Int)+1,.p] [51] [(13,i_<|(k:Int)+1)] [] (o1<|wj ((k:Int)+1)<|by omega)<|A.D 8 (u_<|(dm a b<|k+1).rv) (mE<|by(rw[wK];unfold tm tj;simp_all;intro h_;omega))<|A.su 0 (cw b1 [u_<|(dm a b<|k+1).av.nq1,u_<|(dm a b<|k+1).av.nq2] 213) rfl (iL<|cc (congrArg u_ (by rfl:dL .or .u64 (IntKind.u64.wrap<|((dm a b k).av.nq1)*2) (((dm a b k).av.nq2)/9223372036854775808)=(dm a b<|k+1).av.nq1))<|cc (congrArg u_ (by rfl:IntKind.u64.wrap (((dm a b k).av.nq2)*2)=(dm a b<|k+1).av.nq2)) rfl) (A.su 1 (cw b3 [u_<|(dm a b<|k+1).qv.nq1,u_<|(dm a b<|k+1).qv.nq2] 213) rfl (iL<|cc (congrArg u_ (by rfl:dL .or .u64 (IntKind.u64.wrap<|((dm a b k).qv.nq1)*2) (((dm a b k).qv.nq2)/9223372036854775808)=(dm a b<|k+1).qv.nq1))<|cc (congrArg u_ (by(rw[wK];unfold tm tj;simp_all;intro h_;omega):IntKind.u64.wrap (((dm a b k).qv.nq2)*2)=(dm a b<|k+1).qv.nq2)) rfl) (A.Z ((k+1)) (by omega) (by omega) ?_))
  exact A.J [0,0,0]
 have p2:=of_decide_eq_false e2
 refine A.aA<|A.c<|A.gs [.ld 1,.p,.st 2,.p,.p] [1,2,7,13,8,14] [(5,u_<|(dm a b k).rv),(6,i_ 0)] [(2,cw b2 [u_<|(dm a b k).qv.nq1,u_<|(dm a b k).qv.nq2] 213)] [b3,b2]<|A.e<|A.aL [.agg #[u_<|(dm a b k).qv.nq1,u_<|(dm a b k).qv.nq2],u_<|(dm a b k).rv,i_ 0] (fun _ w r s=>⟨iF 2 r s,fk r rfl,fk r rfl,trivial⟩) ?_
 show((.tuple #[.agg #[u_<|(dm a b k).qv.nq1,u_<|(dm a b k).qv.nq2],u_<|(dm a b k).rv,i_ 0]):Value)=(.tuple #[.agg (eC<|fe a b).toArray,u_<|pC a b,i_<|k7 b])
 (have hk_:k=128:=(by omega);subst hk_;unfold fe pC k7;simp_all[eC];done)
theorem RQ(a:Nm)(b:Int)(w:World):
  CW 270 #[.agg (eC a).toArray,u_ b] w (.tuple #[u_<|kJ a b,i_<|ky a b]):=by
 refine A.C Tryz.func270 rfl (HS.nil w) (A.c<|A.n1 [.al,.p,.p] [0] (fun b1=>[(2,p_ b1)]) (fun b1=>cw b1 (eC a) 213) ?_)
 intro b1
 refine A.c<|A.no [.ld 0,.p,.cq<|.tuple #[.agg (eC<|fe a b).toArray,u_<|pC a b,i_<|k7 b],.p,.p,.p,.p,.al,.st 1,.p,.p] [1,2] (fun b2=>[(6,p_ b2),(7,u_<|pC a b),(8,i_<|k7 b)]) (fun b2=>[]) (fun b2=>cw b2 (eC<|fe a b) 213) (fun b2=>[b1,b2]) (fun b2=>o1<|qo<|fun w s=>UO a b w) ?_
 intro b2
 refine A.d<|A.c<|A.g [.p,.p] [] [(17,b_<|(k7 b)!=0)]<|A.v rfl (fun e1=>?_) (fun e1=>?_)
 ·refine A.c<|A.g (ps 3) [6,7,8,17] [(4,u_ 0),(5,i_<|k7 b)]<|A.e<|A.W [u_ 0,i_<|k7 b] ?_
  show((.tuple #[u_ 0,i_<|k7 b]):Value)=(.tuple #[u_<|kJ a b,i_<|ky a b])
  (try unfold k7 at*);unfold ky kJ qQ;simp_all[eC]
 refine A.p<|A.d<|A.c<|A.g [.p,.p] [7,8,17] [(20,b_<|(pC a b)!=0)]<|A.v rfl (fun e2=>?_) (fun e2=>?_)
 ·refine A.bY (fun _:Unit=>[(6,p_ b2)]) (fun _:Unit=>[cw b2 (eC<|gr (fe a b) (⟨0,1⟩:Nm)) 213]) (fun _=>True) ?_<|fun zz_ _=>?_
  ·refine A.O [1,6] 7<|A.aw 0 1 rfl rfl (by kernel_rfl) ?_ ?_
   ·refine A.u (some 22) (.agg (eC<|fe a b).toArray) (wA (vs:=(eC<|fe a b)) rfl rfl (by kernel_rfl) (l0 (i:=1) rfl rfl))<|A.aD (.refl _)<|A.F 1 rfl (A.iX (some 23) [u_ 1] Tryz.func235 rfl (A.c<|A.n1 [.al] [] (fun b3=>[(2,p_ b3)]) (fun b3=>cw b3 [u_ 0,u_ 0] 213) ?_))
    intro b3
    refine A.c<|A.gs [.p,.p,.st 2] [0] [] [(2,cw b3 [u_ 0,u_ 1] 213)] [b3]<|A.e<|A.ak [.agg #[u_ 0,u_ 1]] (fun _ w r s=>⟨iF 2 r s,trivial⟩)<|A.ae (by kernel_rfl)<|A.aJ [cw b2 (eC<|fe a b) 213] (sd [2,0])<|A.E<|A.pO 1 [.cq<|.tuple #[.agg (eC<|gr (fe a b) (⟨0,1⟩:Nm)).toArray,b_<|rX (fe a b) (⟨0,1⟩:Nm)],.p,.p,.p] (rg 2 4) [(6,p_ b2),(25,.agg (eC<|gr (fe a b) (⟨0,1⟩:Nm)).toArray)] [] (o1<|qo<|fun w s=>uw (fe a b) (⟨0,1⟩:Nm) w)<|A.F 6 rfl (A.sT 0 (eC<|gr (fe a b) (⟨0,1⟩:Nm)) rfl (A.E<|A.M ?_))
    exact A.aK () trivial<|A.aW (by exact⟨rfl,trivial⟩)<|.refl _
   refine A.iX (some 23) [u_ 1] Tryz.func235 rfl (A.c<|A.n1 [.al] [] (fun b4=>[(2,p_ b4)]) (fun b4=>cw b4 [u_ 0,u_ 0] 213) ?_)
   intro b4
   refine A.c<|A.gs [.p,.p,.st 2] [0] [] [(2,cw b4 [u_ 0,u_ 1] 213)] [b4]<|A.e<|A.ak [.agg #[u_ 0,u_ 1]] (fun _ w r s=>⟨iF 2 r s,trivial⟩)<|A.ae (by kernel_rfl)<|A.aJ [cw b2 (eC<|fe a b) 213] (sd [2,0])<|A.E<|A.pO 1 [.ld 0,.cq<|.tuple #[.agg (eC<|gr (fe a b) (⟨0,1⟩:Nm)).toArray,b_<|rX (fe a b) (⟨0,1⟩:Nm)],.p,.p,.p] [0,2,3,4,5] [(6,p_ b2),(25,.agg (eC<|gr (fe a b) (⟨0,1⟩:Nm)).toArray)] [b2] (o1<|qo<|fun w s=>uw (fe a b) (⟨0,1⟩:Nm) w)<|A.F 6 rfl (A.sT 0 (eC<|gr (fe a b) (⟨0,1⟩:Nm)) rfl (A.E<|A.M ?_))
   exact A.aK () trivial<|A.aW (by exact⟨rfl,trivial⟩)<|.refl _
  refine A.c<|A.gm [.ld 0] [6,20] [(27,.agg (eC<|gr (fe a b) (⟨0,1⟩:Nm)).toArray)] [b2]<|A.j<|A.iX (some 28) [.agg (eC<|gr (fe a b) (⟨0,1⟩:Nm)).toArray] Tryz.func283 rfl (A.c<|A.m1 [.al,.p,.p] (fun b5=>[(1,p_ b5)]) (fun _=>[]) (fun b5=>cw b5 (eC<|gr (fe a b) (⟨0,1⟩:Nm)) 213) (fun b5=>[]) ?_)
  intro b5
  refine A.d<|A.c<|A.gl [.p,.ld 1,.p] [] [(6,b_<|((gr (fe a b) (⟨0,1⟩:Nm)).nq1)!=0)] [b5]<|A.v rfl (fun e3=>?_) (fun e3=>?_)
  ·refine A.c<|A.g [.p,.p] [1,6] [(2,u_ 0),(3,i_ 20)]<|A.e<|A.pb [u_ 0,i_ 20]<|A.aJ [] (sd [1,0])<|A.h (ps 4) [(4,u_ 0),(5,i_ 20)] []<|A.e<|A.W [u_ 0,i_ 20] ?_
   show((.tuple #[u_ 0,i_ 20]):Value)=(.tuple #[u_<|kJ a b,i_<|ky a b])
   (try unfold k7 at*);unfold ky kJ qQ;simp_all[eC]
  refine A.p<|A.c<|A.gl [.p,.ld 1,.p,.p] [1,6] [(2,u_<|(gr (fe a b) (⟨0,1⟩:Nm)).nq2),(3,i_ 0)] [b5]<|A.e<|A.pb [u_<|(gr (fe a b) (⟨0,1⟩:Nm)).nq2,i_ 0]<|A.aJ [] (sd [1,0])<|A.h (ps 4) [(4,u_<|(gr (fe a b) (⟨0,1⟩:Nm)).nq2),(5,i_ 0)] []<|A.e<|A.W [u_<|(gr (fe a b) (⟨0,1⟩:Nm)).nq2,i_ 0] ?_
  show((.tuple #[u_<|(gr (fe a b) (⟨0,1⟩:Nm)).nq2,i_ 0]):Value)=(.tuple #[u_<|kJ a b,i_<|ky a b])
  (try unfold k7 at*);unfold ky kJ qQ;simp_all[eC]
 have p2:=e2
 refine A.p<|A.c<|A.gm [.ld 1] [6,20] [(27,.agg (eC<|fe a b).toArray)] [b2]<|A.j<|A.iX (some 28) [.agg (eC<|fe a b).toArray] Tryz.func283 rfl (A.c<|A.n1 [.al,.p,.p] [0] (fun b6=>[(1,p_ b6)]) (fun b6=>cw b6 (eC<|fe a b) 213) ?_)
 intro b6
 refine A.d<|A.c<|A.gl [.p,.ld 2,.p] [] [(6,b_<|((fe a b).nq1)!=0)] [b6]<|A.v rfl (fun e4=>?_) (fun e4=>?_)
 ·refine A.c<|A.g [.p,.p] [1,6] [(2,u_ 0),(3,i_ 20)]<|A.e<|A.pb [u_ 0,i_ 20]<|A.aJ [] (sd [2,1,0])<|A.h (ps 4) [(4,u_ 0),(5,i_ 20)] []<|A.e<|A.W [u_ 0,i_ 20] ?_
  show((.tuple #[u_ 0,i_ 20]):Value)=(.tuple #[u_<|kJ a b,i_<|ky a b])
  (try unfold k7 at*);unfold ky kJ qQ;simp_all[eC]
 refine A.p<|A.c<|A.gl [.p,.ld 2,.p,.p] [1,6] [(2,u_<|(fe a b).nq2),(3,i_ 0)] [b6]<|A.e<|A.pb [u_<|(fe a b).nq2,i_ 0]<|A.aJ [] (sd [2,1,0])<|A.h (ps 4) [(4,u_<|(fe a b).nq2),(5,i_ 0)] []<|A.e<|A.W [u_<|(fe a b).nq2,i_ 0] ?_
 show((.tuple #[u_<|(fe a b).nq2,i_ 0]):Value)=(.tuple #[u_<|kJ a b,i_<|ky a b])
 (try unfold k7 at*);unfold ky kJ qQ;simp_all[eC]
def yL(l:Ln):Nm:=⟨l.lq2,l.lq3⟩
def mF(l:Ln)(x:Int):Nm:=if x≤l.lq1 then yL l else gr (yL l)<|cz l.lq4<|IntKind.u64.wrap<|x-l.lq1
def jC(l:Ln)(a:Nm):Int:=if mj a (yL l)≤0 then 0 else if(ky (lW a<|yL l) l.lq4≠0∨l.lq1≥9223372036854775808)∨kJ (lW a<|yL l) l.lq4≥IntKind.u64.wrap (9223372036854775808-l.lq1) then 9223372036854775808 else IntKind.u64.wrap<|l.lq1+kJ (lW a<|yL l) l.lq4
def eN(l m:Ln):Ln:=if mj (mF m<|eE l.lq1 m.lq1) (mF l<|eE l.lq1 m.lq1)<0 then m else l
abbrev I0(p0:Ln)(p1):=(b_ (rX (yL p0)<|cz p0.lq4<|IntKind.u64.wrap<|p1-p0.lq1):Value)
abbrev RR(p0:Ln)(p1):=(.agg (eC<|cz p0.lq4<|IntKind.u64.wrap<|p1-p0.lq1).toArray:Value)
abbrev ui(p0:Ln)(p1):=(eC<|gr (yL p0)<|cz p0.lq4<|IntKind.u64.wrap<|p1-p0.lq1)
theorem Ji(l:Ln)(x:Int)(w:World):
  CW 261 #[.agg (jR l).toArray,u_ x] w (.agg (eC<|mF l x).toArray):=by
 refine A.C Tryz.func261 rfl (HS.nil w) (A.c<|A.n2 [.al,.al] [0] (fun b1 b2=>[(2,p_ b1),(4,p_ b2)]) (fun b1 b2=>[cw b1 (jR l) 215,cw b2 [u_ 0,u_ 0] 213]) ?_)
 intro b1 b2
 refine A.d<|A.c<|A.gl [.p,.p,.ld 0,.p] [] [(10,b_<|decide (x≤l.lq1))] [b1]<|A.v rfl (fun e1=>?_) (fun e1=>?_)
 ·have p1:=of_decide_eq_true e1
  refine A.c<|A.gs [.p,.ld 0,.st 1] [1,2,10] [] [(1,cw b2 [u_ l.lq2,u_ l.lq3] 213)] [b1,b2]<|A.e<|A.pc 1 [u_ l.lq2,u_ l.lq3] ?_
  unfold mF;split<;>rfl
 have p1:=of_decide_eq_false e1
 refine A.p<|A.d<|A.d3 [13,14] 16 [cw b1 (jR l) 215,cw b2 [u_ 0,u_ 0] 213]<|A.bO 3 [.p,.ld 0,.p,.ld 0,.p,.p,.ld 0,.p,.cq<|RR l x,.cq<|.tuple #[.agg (ui l x).toArray,I0 l x],.p,.p,.p] (rg 0 13) [(4,p_ b2),(24,.agg (ui l x).toArray),(25,I0 l x)] [b1,b1,b1] (.refl _) (oc (qo<|fun w s=>qP l.lq4 (IntKind.u64.wrap<|x-l.lq1) w)<|o1<|qo<|fun w s=>uw (yL l) (cz l.lq4<|IntKind.u64.wrap<|x-l.lq1) w)<|A.o3 13 rfl (A.af 5 [u_ 0,u_ 0] (by kernel_rfl) rfl (by kernel_rfl) (fun b3=>[cw b1 (jR l) 215,cw b2 [u_ 0,u_ 0] 213,cw b3 [u_ 0,u_ 0] 213]) (fun _=>rfl) ?_)
 intro b3
 refine A.aF (sd [2])<|A.o3 14 rfl (A.sT 2 (ui l x) rfl (A.aF (sd [2])<|A.bT 0 [.p] [15] [(4,p_ b2),(5,p_ b3)] [] (sd [2])<|A.f3<|A.c<|A.gT [.ld 2,.st 1] [(4,p_ b2)] [(1,cw b2 (ui l x) 213)] [b3,b2]<|A.e<|A.pc 1 (ui l x) ?_))
 unfold mF;split<;>first|rfl|(simp_all;done)
abbrev Be(p0:Ln)(p1):=(u_ (IntKind.u64.wrap<|p0.lq1+(kJ (lW p1<|yL p0) p0.lq4)):Value)
theorem wy(l:Ln)(a:Nm)(w:World):
  CW 255 #[.agg (jR l).toArray,.agg (eC a).toArray] w (u_<|jC l a):=by
 refine A.C Tryz.func255 rfl (HS.nil w) (A.c<|A.n2 [.al,.al,.p] [0,1] (fun b1 b2=>[(2,p_ b1),(3,p_ b2)]) (fun b1 b2=>[cw b1 (jR l) 215,cw b2 (eC a) 213]) ?_)
 intro b1 b2
 refine A.d<|A.c<|A.k [.ld 1,.p,.ld 0,.cq<|i_<|mj a<|yL l,.p] [] [(13,b_<|decide ((mj a<|yL l)≤0))] [b2,b1] (o1<|qo<|fun w s=>Cd a (yL l) w)<|A.v rfl (fun e1=>?_) (fun e1=>?_)
 ·have p1:=of_decide_eq_true e1
  refine A.c<|A.g [.p] [2,3,13] [(4,u_ 0)]<|A.e<|A.W [u_ 0] ?_
  show((u_ 0):Value)=(u_<|jC l a)
  unfold jC;simp_all;(try(intros;omega))
 have p1:=of_decide_eq_false e1
 refine A.p<|A.c<|A.no [.ld 1,.p,.ld 0,.cq<|.tuple #[.agg (eC<|lW a<|yL l).toArray,b_<|Jh a<|yL l],.p,.p,.p,.al,.st 2,.p] [3,13] (fun b3=>[(5,p_ b3)]) (fun b3=>[]) (fun b3=>cw b3 (eC<|lW a<|yL l) 213) (fun b3=>[b2,b1,b3]) (fun b3=>o1<|qo<|fun w s=>UN a (yL l) w) ?_
 intro b3
 refine A.c<|A.k [.ld 2,.p,.ld 0,.cq<|.tuple #[u_<|kJ (lW a<|yL l) l.lq4,i_<|ky (lW a<|yL l) l.lq4],.p,.p,.p,.p,.p] [5] [(7,u_<|kJ (lW a<|yL l) l.lq4),(8,i_<|ky (lW a<|yL l) l.lq4)] [b3,b1] (o1<|qo<|fun w s=>RQ (lW a<|yL l) l.lq4 w)<|A.d<|A.c<|A.gl [.p,.p,.p,.o,.p,.ld 0,.p,.cl,.p,.o,.p,.p,.ld 0,.p,.p,.cl] [8] [(41,b_<|(((ky (lW a<|yL l) l.lq4)!=0)||(decide (l.lq1≥9223372036854775808)))||(decide ((kJ (lW a<|yL l) l.lq4)≥(IntKind.u64.wrap<|9223372036854775808-l.lq1))))] [b1,b1]<|A.v rfl (fun e2=>?_) (fun e2=>?_)
 ·refine A.c<|A.g [.p] [2,7,41] [(4,u_ 9223372036854775808)]<|A.e<|A.W [u_ 9223372036854775808] ?_
  show((u_ 9223372036854775808):Value)=(u_<|jC l a)
  unfold jC;simp_all;(try(intros;omega))
 refine A.p<|A.c<|A.gl [.p,.ld 0,.p,.p,.p] [2,7,41] [(4,Be l a)] [b1]<|A.e<|A.W [Be l a] ?_
 show((Be l a):Value)=(u_<|jC l a)
 unfold jC;simp_all;(try(intros;omega))
theorem HM(l m:Ln)(w:World):
  CW 242 #[.agg (jR l).toArray,.agg (jR m).toArray] w (.agg (jR<|eN l m).toArray):=by
 refine A.C Tryz.func242 rfl (HS.nil w) (A.c<|A.ag [.al,.al,.al] [2,3,4] (fun b1 b2 b3=>[(2,p_ b1),(3,p_ b2),(4,p_ b3)]) (fun b1 b2 b3=>[cw b1 (jR l) 215,cw b2 (jR m) 215,cw b3 [u_ 0,u_ 0,u_ 0,u_ 0] 215]) (fun b1 b2 b3=>[]) (fun _ _ _=>T0) (fun _ _ _=>by kernel_rfl) (fun b1 b2 b3=>trivial) ?_)
 intro b1 b2 b3
 refine A.c<|A.gl [.p,.ld 0,.p,.ld 1,.p,.p] [] [(5,u_<|eE l.lq1 m.lq1)] [b1,b2]<|A.d<|A.d<|A.ka [.ld 1,.p,.cq<|.agg (eC<|mF m<|eE l.lq1 m.lq1).toArray,.ld 0,.p,.cq<|.agg (eC<|mF l<|eE l.lq1 m.lq1).toArray,.cq<|i_<|mj (mF m<|eE l.lq1 m.lq1)<|mF l<|eE l.lq1 m.lq1,.p] (rg 0 8) [5] [(18,b_<|decide ((mj (mF m<|eE l.lq1 m.lq1)<|mF l<|eE l.lq1 m.lq1)<0))] [b2,b1] (oc (qo<|fun w s=>Ji m (eE l.lq1 m.lq1) w)<|oc (qo<|fun w s=>Ji l (eE l.lq1 m.lq1) w)<|o1<|qo<|fun w s=>Cd (mF m<|eE l.lq1 m.lq1) (mF l<|eE l.lq1 m.lq1) w)<|A.v rfl (fun e1=>?_) (fun e1=>?_)
 ·have p1:=of_decide_eq_true e1
  refine A.c<|A.gs [.ld 1,.st 2] [2,3,18] [] [(2,cw b3 (jR m) 215)] [b2,b3]<|A.e<|A.pc 2 (jR m) ?_
  show((.agg (jR m).toArray):Value)=(.agg (jR<|eN l m).toArray)
  (rw[show eN l m=m by unfold eN;rw[if_pos<|by simp_all]];done)
 have p1:=of_decide_eq_false e1
 refine A.p<|A.c<|A.gs [.ld 0,.st 2] [2,3,18] [] [(2,cw b3 (jR l) 215)] [b1,b3]<|A.e<|A.pc 2 (jR l) ?_
 show((.agg (jR l).toArray):Value)=(.agg (jR<|eN l m).toArray)
 (rw[show eN l m=l by unfold eN;rw[if_neg<|by simp_all]];done)
def q6(x:Int)(y:Nm)(m:Int):Ln:=⟨x,y.nq1,y.nq2,m⟩
def nv(f t:Ln)(b:Bool):Rn:=⟨f.lq1,f.lq2,f.lq3,f.lq4,t.lq1,t.lq2,t.lq3,t.lq4,b⟩
def fQ(r:Rn):Ln:=⟨r.rq1,r.rq2,r.rq3,r.rq4⟩
def dw(r:Rn):Ln:=⟨r.rq5,r.rq6,r.rq7,r.rq8⟩
def oK:Ln:=⟨0,0,0,0⟩
def kC(c:Cv):Int:=dK c.ka c.kb c.kc
def dZ(c:Cv)(x:Int)(y:Nm):Rn:=
 if kC c=2∨kC c=4 then nv oK (q6 x y c.kc) false
 else if kC c=3 then nv (q6 x y c.ka) (q6 x (gr y<|cz (IntKind.u64.wrap<|c.ka-c.kc) c.kb) c.kc) true
 else nv oK (q6 x y 0) false
def dG(c:Cv)(x:Int)(y:Nm):Rn:=if kC c=4 then{dZ c x y with rq5:=IntKind.u64.wrap<|(dZ c x y).rq5+c.kb} else dZ c x y
def dp(a b:Rn):Rn:=nv (if a.rq9 then eN (fQ a) (fQ b) else oK) (eN (dw a)<|dw b) a.rq9
def i8(r:Rn)(a:Nm):Int:=if r.rq9 then eE (eE 0<|jC (fQ r) a) (jC (dw r) a) else eE (eE 0<|jC (dw r) a)<|jC (dw r) a
theorem HN(c:Cv)(x:Int)(a:Nm)(w:World):
  CW 200 #[.agg (fG c).toArray,u_ x,.agg (eC a).toArray] w (.agg (eD<|dZ c x a).toArray):=by
 refine A.C Tryz.func200 rfl (HS.nil w) (A.c<|A.ag [.al,.al,.al] [1,3,5,6] (fun b1 b2 b3=>[(1,u_ x),(3,p_ b1),(5,p_ b2),(6,p_ b3)]) (fun b1 b2 b3=>[cw b1 (fG c) 60,cw b2 (eC a) 213,cw b3 [u_ 0,u_ 0,u_ 0,u_ 0,u_ 0,u_ 0,u_ 0,u_ 0,b_ false] 217]) (fun b1 b2 b3=>[]) (fun _ _ _=>T0) (fun _ _ _=>by kernel_rfl) (fun b1 b2 b3=>trivial) ?_)
 intro b1 b2 b3
 refine A.d<|A.c<|A.k [.ld 0,.cq<|i_<|dK c.ka c.kb c.kc] [] [(10,i_<|dK c.ka c.kb c.kc)] [b1] (o1<|qo<|fun w s=>pZ c.ka c.kb c.kc w)<|A.y<|A.d<|A.c<|A.g [.p,.p] [] [(11,b_<|(dK c.ka c.kb c.kc)==2)]<|A.v rfl (fun e1=>?_) (fun e1=>?_)
 ·refine A.p<|A.v rfl (fun e2=>?_) (fun e2=>?_)
  ·refine A.c<|A.gs [.p,.ld 1,.p,.ld 0,.p,.p,.st 2] [1,3,5,10,11] [] [(2,cw b3 [u_ 0,u_ 0,u_ 0,u_ 0,u_ x,u_ a.nq1,u_ a.nq2,u_ c.kc,b_ false] 217)] [b2,b1,b3]<|A.e<|A.pc 2 [u_ 0,u_ 0,u_ 0,u_ 0,u_ x,u_ a.nq1,u_ a.nq2,u_ c.kc,b_ false] ?_
   show((.agg #[u_ 0,u_ 0,u_ 0,u_ 0,u_ x,u_ a.nq1,u_ a.nq2,u_ c.kc,b_ false]):Value)=(.agg (eD<|dZ c x a).toArray)
   unfold dZ kC nv q6 oK;simp_all[eD]
  exact absurd e2 (by rw[e1];decide)
 refine A.s<|A.g [.p,.p] [] [(11,b_<|(dK c.ka c.kb c.kc)==4)]<|A.v rfl (fun e3=>?_) (fun e3=>?_)
 ·refine A.c<|A.gs [.p,.ld 1,.p,.ld 0,.p,.p,.st 2] [1,3,5,10,11] [] [(2,cw b3 [u_ 0,u_ 0,u_ 0,u_ 0,u_ x,u_ a.nq1,u_ a.nq2,u_ c.kc,b_ false] 217)] [b2,b1,b3]<|A.e<|A.pc 2 [u_ 0,u_ 0,u_ 0,u_ 0,u_ x,u_ a.nq1,u_ a.nq2,u_ c.kc,b_ false] ?_
  show((.agg #[u_ 0,u_ 0,u_ 0,u_ 0,u_ x,u_ a.nq1,u_ a.nq2,u_ c.kc,b_ false]):Value)=(.agg (eD<|dZ c x a).toArray)
  unfold dZ kC nv q6 oK;simp_all[eD]
 refine A.c<|A.g [.p,.p] [10,11] [(20,b_<|(dK c.ka c.kb c.kc)==3)]<|A.v rfl (fun e4=>?_) (fun e4=>?_)
 ·refine A.d<|A.d3 [13,14] 16 [cw b1 (fG c) 60,cw b2 (eC a) 213,cw b3 [u_ 0,u_ 0,u_ 0,u_ 0,u_ 0,u_ 0,u_ 0,u_ 0,b_ false] 217]<|A.bO 3 [.ld 1,.p,.ld 0,.p,.ld 0,.p,.p,.ld 0,.cq<|.agg (eC<|cz (IntKind.u64.wrap<|c.ka-c.kc) c.kb).toArray,.cq<|.tuple #[.agg (eC<|gr a<|cz (IntKind.u64.wrap<|c.ka-c.kc) c.kb).toArray,b_<|rX a<|cz (IntKind.u64.wrap<|c.ka-c.kc) c.kb],.p,.p,.p] (rg 0 13) [(1,u_ x),(3,p_ b1),(5,p_ b2),(6,p_ b3),(33,.agg (eC<|gr a<|cz (IntKind.u64.wrap<|c.ka-c.kc) c.kb).toArray),(34,b_<|rX a<|cz (IntKind.u64.wrap<|c.ka-c.kc) c.kb)] [b2,b1,b1,b1] (.refl _) (oc (qo<|fun w s=>qP (IntKind.u64.wrap<|c.ka-c.kc) c.kb w)<|o1<|qo<|fun w s=>uw a (cz (IntKind.u64.wrap<|c.ka-c.kc) c.kb) w)<|A.o3 13 rfl (A.af 7 [u_ 0,u_ 0] (by kernel_rfl) rfl (by kernel_rfl) (fun b4=>[cw b1 (fG c) 60,cw b2 (eC a) 213,cw b3 [u_ 0,u_ 0,u_ 0,u_ 0,u_ 0,u_ 0,u_ 0,u_ 0,b_ false] 217,cw b4 [u_ 0,u_ 0] 213]) (fun _=>rfl) ?_)
  intro b4
  refine A.aF (sd [3])<|A.o3 14 rfl (A.sT 3 (eC<|gr a<|cz (IntKind.u64.wrap<|c.ka-c.kc) c.kb) rfl (A.aF (sd [3])<|A.bT 0 [.p] [15] [(1,u_ x),(3,p_ b1),(5,p_ b2),(6,p_ b3),(7,p_ b4)] [] (sd [3])<|A.f3<|A.c<|A.gT [.p,.ld 1,.p,.ld 0,.p,.p,.ld 3,.p,.ld 0,.p,.p,.st 2] [(6,p_ b3)] [(2,cw b3 [u_ x,u_ a.nq1,u_ a.nq2,u_ c.ka,u_ x,u_<|(gr a<|cz (IntKind.u64.wrap<|c.ka-c.kc) c.kb).nq1,u_<|(gr a<|cz (IntKind.u64.wrap<|c.ka-c.kc) c.kb).nq2,u_ c.kc,b_ true] 217)] [b2,b1,b4,b1,b3]<|A.e<|A.pc 2 [u_ x,u_ a.nq1,u_ a.nq2,u_ c.ka,u_ x,u_<|(gr a<|cz (IntKind.u64.wrap<|c.ka-c.kc) c.kb).nq1,u_<|(gr a<|cz (IntKind.u64.wrap<|c.ka-c.kc) c.kb).nq2,u_ c.kc,b_ true] ?_))
  show((.agg #[u_ x,u_ a.nq1,u_ a.nq2,u_ c.ka,u_ x,u_<|(gr a<|cz (IntKind.u64.wrap<|c.ka-c.kc) c.kb).nq1,u_<|(gr a<|cz (IntKind.u64.wrap<|c.ka-c.kc) c.kb).nq2,u_ c.kc,b_ true]):Value)=(.agg (eD<|dZ c x a).toArray)
  unfold dZ kC nv q6 oK;simp_all[eD]
 have p4:=e4
 refine A.p<|A.c<|A.gs [.p,.ld 1,.p,.p,.st 2] [1,3,5,20] [] [(2,cw b3 [u_ 0,u_ 0,u_ 0,u_ 0,u_ x,u_ a.nq1,u_ a.nq2,u_ 0,b_ false] 217)] [b2,b3]<|A.e<|A.aL [.agg #[u_ 0,u_ 0,u_ 0,u_ 0,u_ x,u_ a.nq1,u_ a.nq2,u_ 0,b_ false]] (fun _ w r s=>⟨iF 2 r s,trivial⟩) ?_
 show((.agg #[u_ 0,u_ 0,u_ 0,u_ 0,u_ x,u_ a.nq1,u_ a.nq2,u_ 0,b_ false]):Value)=(.agg (eD<|dZ c x a).toArray)
 unfold dZ kC nv q6 oK;simp_all[eD]
theorem Av(c:Cv)(x:Int)(a:Nm)(w:World):
  CW 199 #[.agg (fG c).toArray,u_ x,.agg (eC a).toArray] w (.agg (eD<|dG c x a).toArray):=by
 refine A.C Tryz.func199 rfl (HS.nil w) (A.c<|A.ag [.al,.al,.al] [1,3,5,6] (fun b1 b2 b3=>[(1,u_ x),(3,p_ b1),(5,p_ b2),(6,p_ b3)]) (fun b1 b2 b3=>[cw b1 (fG c) 60,cw b2 (eC a) 213,cw b3 [u_ 0,u_ 0,u_ 0,u_ 0,u_ 0,u_ 0,u_ 0,u_ 0,b_ false] 217]) (fun b1 b2 b3=>[]) (fun _ _ _=>T0) (fun _ _ _=>by kernel_rfl) (fun b1 b2 b3=>trivial) ?_)
 intro b1 b2 b3
 refine A.c<|A.no [.ld 0,.p,.ld 1,.cq<|.agg (eD<|dZ c x a).toArray,.al,.st 3] [1,5] (fun b4=>[(7,p_ b4)]) (fun b4=>[]) (fun b4=>cw b4 (eD<|dZ c x a) 217) (fun b4=>[b1,b2,b4]) (fun b4=>o1<|qo<|fun w s=>HN c x a w) ?_
 intro b4
 refine A.d<|A.c<|A.k [.ld 0,.cq<|i_<|dK c.ka c.kb c.kc,.p] [] [(14,b_<|(dK c.ka c.kb c.kc)==4)] [b1] (o1<|qo<|fun w s=>pZ c.ka c.kb c.kc w)<|A.v rfl (fun e1=>?_) (fun e1=>?_)
 ·refine A.s<|A.gs [.p,.p,.ld 3,.p,.ld 0,.p,.p,.p,.st 3] [3,14] [] [(3,cw b4 [u_<|(dZ c x a).rq1,u_<|(dZ c x a).rq2,u_<|(dZ c x a).rq3,u_<|(dZ c x a).rq4,u_<|IntKind.u64.wrap<|((dZ c x a).rq5)+c.kb,u_<|(dZ c x a).rq6,u_<|(dZ c x a).rq7,u_<|(dZ c x a).rq8,b_<|(dZ c x a).rq9] 217)] [b4,b1,b4]<|A.c<|A.gs [.ld 3,.st 2] [7] [] [(2,cw b3 [u_<|(dZ c x a).rq1,u_<|(dZ c x a).rq2,u_<|(dZ c x a).rq3,u_<|(dZ c x a).rq4,u_<|IntKind.u64.wrap<|((dZ c x a).rq5)+c.kb,u_<|(dZ c x a).rq6,u_<|(dZ c x a).rq7,u_<|(dZ c x a).rq8,b_<|(dZ c x a).rq9] 217)] [b4,b3]<|A.e<|A.pc 2 [u_<|(dZ c x a).rq1,u_<|(dZ c x a).rq2,u_<|(dZ c x a).rq3,u_<|(dZ c x a).rq4,u_<|IntKind.u64.wrap<|((dZ c x a).rq5)+c.kb,u_<|(dZ c x a).rq6,u_<|(dZ c x a).rq7,u_<|(dZ c x a).rq8,b_<|(dZ c x a).rq9] ?_
  show((.agg #[u_<|(dZ c x a).rq1,u_<|(dZ c x a).rq2,u_<|(dZ c x a).rq3,u_<|(dZ c x a).rq4,u_<|IntKind.u64.wrap<|((dZ c x a).rq5)+c.kb,u_<|(dZ c x a).rq6,u_<|(dZ c x a).rq7,u_<|(dZ c x a).rq8,b_<|(dZ c x a).rq9]):Value)=(.agg (eD<|dG c x a).toArray)
  unfold dG kC;simp_all[eD]
 refine A.p<|A.c<|A.gs [.ld 3,.st 2] [3,7,14] [] [(2,cw b3 (eD<|dZ c x a) 217)] [b4,b3]<|A.e<|A.pc 2 (eD<|dZ c x a) ?_
 show((.agg (eD<|dZ c x a).toArray):Value)=(.agg (eD<|dG c x a).toArray)
 unfold dG kC;simp_all[eD]
theorem xr(a b:Rn)(w:World):
  CW 198 #[.agg (eD a).toArray,.agg (eD b).toArray] w (.agg (eD<|dp a b).toArray):=by
 refine A.C Tryz.func198 rfl (HS.nil w) (A.c<|A.ag [.al,.al,.al] [2,3,4] (fun b1 b2 b3=>[(2,p_ b1),(3,p_ b2),(4,p_ b3)]) (fun b1 b2 b3=>[cw b1 (eD a) 217,cw b2 (eD b) 217,cw b3 [u_ 0,u_ 0,u_ 0,u_ 0,u_ 0,u_ 0,u_ 0,u_ 0,b_ false] 217]) (fun b1 b2 b3=>[]) (fun _ _ _=>T0) (fun _ _ _=>by kernel_rfl) (fun b1 b2 b3=>trivial) ?_)
 intro b1 b2 b3
 refine A.d<|A.d3 [8,9] 10 [cw b1 (eD a) 217,cw b2 (eD b) 217,cw b3 [u_ 0,u_ 0,u_ 0,u_ 0,u_ 0,u_ 0,u_ 0,u_ 0,b_ false] 217]<|A.bO 2 [.p,.ld 0,.p,.ld 1,.cq<|.agg (jR<|eN (dw a)<|dw b).toArray,.p,.ld 0,.p] (rg 0 8) [(2,p_ b1),(3,p_ b2),(4,p_ b3),(13,.agg #[u_ 0,u_ 0,u_ 0,u_ 0,u_<|(eN (dw a)<|dw b).lq1,u_<|(eN (dw a)<|dw b).lq2,u_<|(eN (dw a)<|dw b).lq3,u_<|(eN (dw a)<|dw b).lq4,b_ a.rq9])] [b1,b2,b1] (.refl _) (o1<|qo<|fun w s=>HM (dw a) (dw b) w)<|A.o3 8 rfl (A.af 5 [u_ 0,u_ 0,u_ 0,u_ 0,u_ 0,u_ 0,u_ 0,u_ 0,b_ false] (by kernel_rfl) rfl (by kernel_rfl) (fun b4=>[cw b1 (eD a) 217,cw b2 (eD b) 217,cw b3 [u_ 0,u_ 0,u_ 0,u_ 0,u_ 0,u_ 0,u_ 0,u_ 0,b_ false] 217,cw b4 [u_ 0,u_ 0,u_ 0,u_ 0,u_ 0,u_ 0,u_ 0,u_ 0,b_ false] 217]) (fun _=>rfl) ?_)
 intro b4
 refine A.aF (sd [3])<|A.o3 9 rfl (A.sT 3 [u_ 0,u_ 0,u_ 0,u_ 0,u_<|(eN (dw a)<|dw b).lq1,u_<|(eN (dw a)<|dw b).lq2,u_<|(eN (dw a)<|dw b).lq3,u_<|(eN (dw a)<|dw b).lq4,b_ a.rq9] rfl (A.aF (sd [3])<|A.f3<|A.d<|A.c<|A.h [.p,.ld 0] [(2,p_ b1),(3,p_ b2),(4,p_ b3),(5,p_ b4),(15,b_ a.rq9)] [b1]<|A.cn a.rq9 (fun e1=>?_)<|fun e1=>?_))
 ·refine A.s<|A.gU [.p,.ld 0,.p,.ld 1,.cq<|.agg (jR<|eN (fQ a)<|fQ b).toArray,.p,.st 3] [(4,p_ b3),(5,p_ b4)] [(3,cw b4 [u_<|(eN (fQ a)<|fQ b).lq1,u_<|(eN (fQ a)<|fQ b).lq2,u_<|(eN (fQ a)<|fQ b).lq3,u_<|(eN (fQ a)<|fQ b).lq4,u_<|(eN (dw a)<|dw b).lq1,u_<|(eN (dw a)<|dw b).lq2,u_<|(eN (dw a)<|dw b).lq3,u_<|(eN (dw a)<|dw b).lq4,b_ a.rq9] 217)] [b1,b2,b4] (o1<|qo<|fun w s=>HM (fQ a) (fQ b) w)<|A.c<|A.gs [.ld 3,.st 2] [5] [] [(2,cw b3 [u_<|(eN (fQ a)<|fQ b).lq1,u_<|(eN (fQ a)<|fQ b).lq2,u_<|(eN (fQ a)<|fQ b).lq3,u_<|(eN (fQ a)<|fQ b).lq4,u_<|(eN (dw a)<|dw b).lq1,u_<|(eN (dw a)<|dw b).lq2,u_<|(eN (dw a)<|dw b).lq3,u_<|(eN (dw a)<|dw b).lq4,b_ a.rq9] 217)] [b4,b3]<|A.e<|A.pc 2 [u_<|(eN (fQ a)<|fQ b).lq1,u_<|(eN (fQ a)<|fQ b).lq2,u_<|(eN (fQ a)<|fQ b).lq3,u_<|(eN (fQ a)<|fQ b).lq4,u_<|(eN (dw a)<|dw b).lq1,u_<|(eN (dw a)<|dw b).lq2,u_<|(eN (dw a)<|dw b).lq3,u_<|(eN (dw a)<|dw b).lq4,b_ a.rq9] ?_
  show((.agg #[u_<|(eN (fQ a)<|fQ b).lq1,u_<|(eN (fQ a)<|fQ b).lq2,u_<|(eN (fQ a)<|fQ b).lq3,u_<|(eN (fQ a)<|fQ b).lq4,u_<|(eN (dw a)<|dw b).lq1,u_<|(eN (dw a)<|dw b).lq2,u_<|(eN (dw a)<|dw b).lq3,u_<|(eN (dw a)<|dw b).lq4,b_ a.rq9]):Value)=(.agg (eD<|dp a b).toArray)
  unfold dp nv oK;simp_all[eD]
 refine A.p<|A.c<|A.gT [.ld 3,.st 2] [(4,p_ b3)] [(2,cw b3 [u_ 0,u_ 0,u_ 0,u_ 0,u_<|(eN (dw a)<|dw b).lq1,u_<|(eN (dw a)<|dw b).lq2,u_<|(eN (dw a)<|dw b).lq3,u_<|(eN (dw a)<|dw b).lq4,b_ a.rq9] 217)] [b4,b3]<|A.e<|A.pc 2 [u_ 0,u_ 0,u_ 0,u_ 0,u_<|(eN (dw a)<|dw b).lq1,u_<|(eN (dw a)<|dw b).lq2,u_<|(eN (dw a)<|dw b).lq3,u_<|(eN (dw a)<|dw b).lq4,b_ a.rq9] ?_
 show((.agg #[u_ 0,u_ 0,u_ 0,u_ 0,u_<|(eN (dw a)<|dw b).lq1,u_<|(eN (dw a)<|dw b).lq2,u_<|(eN (dw a)<|dw b).lq3,u_<|(eN (dw a)<|dw b).lq4,b_ a.rq9]):Value)=(.agg (eD<|dp a b).toArray)
 unfold dp nv oK;simp_all[eD]
abbrev xt(p0)(p1):=(u_ (eE (eE 0<|jC (fQ p0) p1)<|jC (dw p0) p1):Value)
abbrev xu(p0)(p1):=(u_ (eE (eE 0<|jC (dw p0) p1)<|jC (dw p0) p1):Value)
abbrev Bf(p0:Rn):=(.agg #[u_ p0.rq5,u_ p0.rq6,u_ p0.rq7,u_ p0.rq8,u_ p0.rq5,u_ p0.rq6,u_ p0.rq7,u_ p0.rq8]:Value)
abbrev Bg(p0:Rn):=(.agg #[u_ p0.rq1,u_ p0.rq2,u_ p0.rq3,u_ p0.rq4,u_ p0.rq5,u_ p0.rq6,u_ p0.rq7,u_ p0.rq8]:Value)
theorem wz(r:Rn)(a:Nm)(w:World):
  CW 212 #[.agg (eD r).toArray,.agg (eC a).toArray] w (u_<|i8 r a):=by
 refine A.C Tryz.func212 rfl (HS.nil w) (A.c<|A.n2 [.al,.al,.p] [0,1] (fun b1 b2=>[(2,p_ b1),(3,p_ b2)]) (fun b1 b2=>[cw b1 (eD r) 217,cw b2 (eC a) 213]) ?_)
 intro b1 b2
 refine A.c<|A.g [.p] [] [(5,u_ 0)]<|A.d<|A.c<|A.gm [.ld 0] [2] [(8,.agg (eD r).toArray)] [b1]<|A.j<|A.iX (some 9) [.agg (eD r).toArray] Tryz.func254 rfl (A.c<|A.n2 [.al,.al] [0] (fun b3 b4=>[(1,p_ b3),(2,p_ b4)]) (fun b3 b4=>[cw b3 (eD r) 217,cw b4 [u_ 0,u_ 0,u_ 0,u_ 0,u_ 0,u_ 0,u_ 0,u_ 0] 365]) ?_)
 intro b3 b4
 refine A.d<|A.c<|A.gl [.p,.ld 2] [] [(4,b_ r.rq9)] [b3]<|A.cn r.rq9 (fun e1=>?_)<|fun e1=>?_
 ·refine A.c<|A.gs [.p,.ld 2,.p,.ld 2,.p,.st 3] [1,4] [] [(3,cw b4 [u_ r.rq1,u_ r.rq2,u_ r.rq3,u_ r.rq4,u_ r.rq5,u_ r.rq6,u_ r.rq7,u_ r.rq8] 365)] [b3,b3,b4]<|A.e<|A.ak [Bg r] (fun _ w r s=>⟨iF 3 r s,trivial⟩)<|A.ae (by kernel_rfl)<|A.aJ [cw b2 (eC a) 213] (sd [3,2,0])<|A.h [.p] [(3,p_ b2),(5,u_ 0),(9,Bg r),(10,i_ 0)] []<|A.y<|A.aV 400<|A.aC (m:=399)<|A.c<|A.g [.p] [] [(11,b_ true)]<|A.d<|A.ct<|A.p<|A.d<|A.y<|A.c<|A.m1 [.p,.al,.st 1] (fun b5=>[(3,p_ b2),(5,u_ 0),(9,Bg r),(10,i_ 0),(7,p_ b5)]) (fun _=>[]) (fun b5=>cw b5 [u_ r.rq1,u_ r.rq2,u_ r.rq3,u_ r.rq4] 215) (fun b5=>[b5]) ?_
  intro b5
  refine A.s<|A.k [.p,.ld 1,.ld 0,.cq<|u_<|jC (fQ r) a,.p,.p] [7] [(5,u_<|eE 0<|jC (fQ r) a)] [b5,b2] (o1<|qo<|fun w s=>wy (fQ r) a w)<|A.s<|A.g [.p,.p] [] [(10,i_ 1)]<|A.aC (m:=398)<|A.c<|A.g [.p] [] [(11,b_ true)]<|A.d<|A.ct<|A.p<|A.d<|A.y<|A.c<|A.g1 [.p,.al,.st 2] [11] (fun b6=>[(7,p_ b6)]) (fun b6=>[]) (fun b6=>cw b6 [u_ r.rq5,u_ r.rq6,u_ r.rq7,u_ r.rq8] 215) (fun b6=>[b6]) ?_
  intro b6
  refine A.s<|A.k [.p,.ld 2,.ld 0,.cq<|u_<|jC (dw r) a,.p,.p] [7] [(5,xt r a)] [b6,b2] (o1<|qo<|fun w s=>wy (dw r) a w)<|A.s<|A.g [.p,.p] [] [(10,i_ 2)]<|A.aC (m:=397)<|A.c<|A.g [.p] [] [(11,b_ false)]<|A.d<|A.cf<|A.aA<|A.c<|A.g [.p,.p] [3,5,9,10,11] [(4,xt r a)]<|A.e<|A.W [xt r a] ?_
  show((xt r a):Value)=(u_<|i8 r a)
  unfold i8;simp_all
 refine A.p<|A.c<|A.gs [.p,.ld 2,.p,.ld 2,.p,.st 3] [1,4] [] [(3,cw b4 [u_ r.rq5,u_ r.rq6,u_ r.rq7,u_ r.rq8,u_ r.rq5,u_ r.rq6,u_ r.rq7,u_ r.rq8] 365)] [b3,b3,b4]<|A.e<|A.ak [Bf r] (fun _ w r s=>⟨iF 3 r s,trivial⟩)<|A.ae (by kernel_rfl)<|A.aJ [cw b2 (eC a) 213] (sd [3,2,0])<|A.h [.p] [(3,p_ b2),(5,u_ 0),(9,Bf r),(10,i_ 0)] []<|A.y<|A.aV 400<|A.aC (m:=399)<|A.c<|A.g [.p] [] [(11,b_ true)]<|A.d<|A.ct<|A.p<|A.d<|A.y<|A.c<|A.m1 [.p,.al,.st 1] (fun b7=>[(3,p_ b2),(5,u_ 0),(9,Bf r),(10,i_ 0),(7,p_ b7)]) (fun _=>[]) (fun b7=>cw b7 [u_ r.rq5,u_ r.rq6,u_ r.rq7,u_ r.rq8] 215) (fun b7=>[b7]) ?_
 intro b7
 refine A.s<|A.k [.p,.ld 1,.ld 0,.cq<|u_<|jC (dw r) a,.p,.p] [7] [(5,u_<|eE 0<|jC (dw r) a)] [b7,b2] (o1<|qo<|fun w s=>wy (dw r) a w)<|A.s<|A.g [.p,.p] [] [(10,i_ 1)]<|A.aC (m:=398)<|A.c<|A.g [.p] [] [(11,b_ true)]<|A.d<|A.ct<|A.p<|A.d<|A.y<|A.c<|A.g1 [.p,.al,.st 2] [11] (fun b8=>[(7,p_ b8)]) (fun b8=>[]) (fun b8=>cw b8 [u_ r.rq5,u_ r.rq6,u_ r.rq7,u_ r.rq8] 215) (fun b8=>[b8]) ?_
 intro b8
 refine A.s<|A.k [.p,.ld 2,.ld 0,.cq<|u_<|jC (dw r) a,.p,.p] [7] [(5,xu r a)] [b8,b2] (o1<|qo<|fun w s=>wy (dw r) a w)<|A.s<|A.g [.p,.p] [] [(10,i_ 2)]<|A.aC (m:=397)<|A.c<|A.g [.p] [] [(11,b_ false)]<|A.d<|A.cf<|A.aA<|A.c<|A.g [.p,.p] [3,5,9,10,11] [(4,xu r a)]<|A.e<|A.W [xu r a] ?_
 show((xu r a):Value)=(u_<|i8 r a)
 unfold i8;simp_all
def eY(l:Du):Rn:=⟨l.dq2,l.dq3,l.dq4,l.dq5,l.dq6,l.dq7,l.dq8,l.dq9,l.dq10⟩
def eZ(l:Du):Rn:=⟨l.dq11,l.dq12,l.dq13,l.dq14,l.dq15,l.dq16,l.dq17,l.dq18,l.dq19⟩
def headD(l:Du)(h:Int):Du:=if h>0 then{l with dq21:=i8 (eZ l)<|cz l.dq20 65536,dq22:=i8 (eY l)<|cz (IntKind.u64.wrap<|l.dq20+IntKind.u64.wrap h) 65536} else{l with dq21:=9223372036854775808,dq22:=9223372036854775808}
def dX(b:Bool)(was r:Rn):Rn:=if b then dp was r else r
def VC(b:Bool)(d r:Rn)(x y z:Int):Du:=⟨b,d.rq1,d.rq2,d.rq3,d.rq4,d.rq5,d.rq6,d.rq7,d.rq8,d.rq9,r.rq1,r.rq2,r.rq3,r.rq4,r.rq5,r.rq6,r.rq7,r.rq8,r.rq9,x,y,z⟩
def iR(l:Du)(c:Cv)(x h:Int):Du:=headD (VC true (dX l.dq1 (eY l)<|dG c x<|cz l.dq20 65536) (dX l.dq1 (eZ l)<|dZ c x<|cz l.dq20 65536) l.dq20 l.dq21 l.dq22) h
def iH(l:Du)(s h:Int):Du:=headD {l with dq20:=IntKind.u64.wrap<|l.dq20+IntKind.u64.wrap (eE s 0)} h
theorem xA(n:Int)(w:World):
  CW 197 #[u_ n] w (.agg (eC<|cz n 65536).toArray):=by
 refine A.C Tryz.func197 rfl (HS.nil w) (A.c<|A.n1 [.al] [] (fun b1=>[(2,p_ b1)]) (fun b1=>cw b1 [u_ 0,u_ 0] 213) ?_)
 intro b1
 refine A.c<|A.ks [.p,.cq<|.agg (eC<|cz n 65536).toArray,.st 0] [0] [] [(0,cw b1 (eC<|cz n 65536) 213)] [b1] (o1<|qo<|fun w s=>qP n 65536 w)<|A.e<|A.pc 0 (eC<|cz n 65536) ?_
 rfl
abbrev RU(p0:Du)(p1):=(.agg (eC<|cz (IntKind.u64.wrap<|p0.dq20+(IntKind.u64.wrap<|p1)) 65536).toArray:Value)
abbrev I1(p0)(p1:Du):=(cw p0 [b_ p1.dq1,u_ p1.dq2,u_ p1.dq3,u_ p1.dq4,u_ p1.dq5,u_ p1.dq6,u_ p1.dq7,u_ p1.dq8,u_ p1.dq9,b_ p1.dq10,u_ p1.dq11,u_ p1.dq12,u_ p1.dq13,u_ p1.dq14,u_ p1.dq15,u_ p1.dq16,u_ p1.dq17,u_ p1.dq18,b_ p1.dq19,u_ p1.dq20,u_ 9223372036854775808,u_ 9223372036854775808] 219:V.dB)
abbrev RX(p0:Du):=(.agg #[b_ p0.dq1,u_ p0.dq2,u_ p0.dq3,u_ p0.dq4,u_ p0.dq5,u_ p0.dq6,u_ p0.dq7,u_ p0.dq8,u_ p0.dq9,b_ p0.dq10,u_ p0.dq11,u_ p0.dq12,u_ p0.dq13,u_ p0.dq14,u_ p0.dq15,u_ p0.dq16,u_ p0.dq17,u_ p0.dq18,b_ p0.dq19,u_ p0.dq20,u_ 9223372036854775808,u_ 9223372036854775808]:Value)
abbrev tG(p0:Du):=(u_ (i8 (eZ p0)<|cz p0.dq20 65536):Value)
abbrev tH(p0:Du)(p1):=(u_ (i8 (eY p0)<|cz (IntKind.u64.wrap<|p0.dq20+(IntKind.u64.wrap<|p1)) 65536):Value)
abbrev xw(p0):=(cw p0 [b_ false,u_ 0,u_ 0,u_ 0,u_ 0,u_ 0,u_ 0,u_ 0,u_ 0,b_ false,u_ 0,u_ 0,u_ 0,u_ 0,u_ 0,u_ 0,u_ 0,u_ 0,b_ false,u_ 0,u_ 0,u_ 0] 219:V.dB)
theorem Bh(l:Du)(h:Int)(w:World):
  CW 201 #[.agg (fg l).toArray,i_ h] w (.agg (fg<|headD l h).toArray):=by
 refine A.C Tryz.func201 rfl (HS.nil w) (A.c<|A.n2 [.al,.al] [0] (fun b1 b2=>[(2,p_ b1),(4,p_ b2)]) (fun b1 b2=>[cw b1 (fg l) 219,xw b2]) ?_)
 intro b1 b2
 refine A.c<|A.gs [.p,.st 0,.p,.st 0] [] [] [(0,I1 b1 l)] [b1,b1]<|A.d<|A.c<|A.g [.p,.p] [] [(8,b_<|decide (h>0))]<|A.v rfl (fun e1=>?_) (fun e1=>?_)
 ·have p1:=of_decide_eq_true e1
  refine A.d<|A.O [7] 8<|A.kd 1 [.p,.ld 0,.p,.ld 0,.cq<|.agg (eC<|cz l.dq20 65536).toArray,.cq<|tG l,.p] (rg 0 7) [8] [(14,tG l),(15,q_ b1 20)] [b1,b1] (oc (qo<|fun ww ss=>xA l.dq20 ww)<|o1<|qo<|fun ww ss=>wz (eZ l) (cz l.dq20 65536) ww)<|A.F 7 rfl (A.sT 0 [tG l] rfl (A.E<|A.M<|A.O [10] 11 ?_))
  refine A.pO 1 [.p,.ld 0,.p,.ld 0,.p,.p,.p,.cq<|RU l h,.cq<|tH l h,.p] (rg 0 10) [(2,p_ b1),(4,p_ b2),(24,tH l h),(25,q_ b1 21)] [b1,b1] (oc (qo<|fun ww ss=>xA (IntKind.u64.wrap<|l.dq20+(IntKind.u64.wrap<|h)) ww)<|o1<|qo<|fun ww ss=>wz (eY l) (cz (IntKind.u64.wrap<|l.dq20+(IntKind.u64.wrap<|h)) 65536) ww) ?_
  refine A.F 10 rfl (A.sT 0 [tH l h] rfl (A.E<|A.M ?_))
  refine A.c<|A.gT [.ld 0,.st 1] [(4,p_ b2)] [(1,cw b2 [b_ l.dq1,u_ l.dq2,u_ l.dq3,u_ l.dq4,u_ l.dq5,u_ l.dq6,u_ l.dq7,u_ l.dq8,u_ l.dq9,b_ l.dq10,u_ l.dq11,u_ l.dq12,u_ l.dq13,u_ l.dq14,u_ l.dq15,u_ l.dq16,u_ l.dq17,u_ l.dq18,b_ l.dq19,u_ l.dq20,tG l,tH l h] 219)] [b1,b2] ?_
  refine A.e<|A.pc 1 [b_ l.dq1,u_ l.dq2,u_ l.dq3,u_ l.dq4,u_ l.dq5,u_ l.dq6,u_ l.dq7,u_ l.dq8,u_ l.dq9,b_ l.dq10,u_ l.dq11,u_ l.dq12,u_ l.dq13,u_ l.dq14,u_ l.dq15,u_ l.dq16,u_ l.dq17,u_ l.dq18,b_ l.dq19,u_ l.dq20,tG l,tH l h] ?_
  show((.agg #[b_ l.dq1,u_ l.dq2,u_ l.dq3,u_ l.dq4,u_ l.dq5,u_ l.dq6,u_ l.dq7,u_ l.dq8,u_ l.dq9,b_ l.dq10,u_ l.dq11,u_ l.dq12,u_ l.dq13,u_ l.dq14,u_ l.dq15,u_ l.dq16,u_ l.dq17,u_ l.dq18,b_ l.dq19,u_ l.dq20,tG l,tH l h]):Value)=(.agg (fg<|headD l h).toArray)
  (rw[show headD l h=_ from if_pos<|by simp_all];rfl)
 have p1:=of_decide_eq_false e1
 refine A.p<|A.c<|A.gs [.ld 0,.st 1] [1,2,8] [] [(1,I1 b2 l)] [b1,b2]<|A.e<|A.pc 1 [b_ l.dq1,u_ l.dq2,u_ l.dq3,u_ l.dq4,u_ l.dq5,u_ l.dq6,u_ l.dq7,u_ l.dq8,u_ l.dq9,b_ l.dq10,u_ l.dq11,u_ l.dq12,u_ l.dq13,u_ l.dq14,u_ l.dq15,u_ l.dq16,u_ l.dq17,u_ l.dq18,b_ l.dq19,u_ l.dq20,u_ 9223372036854775808,u_ 9223372036854775808] ?_
 show((RX l):Value)=(.agg (fg<|headD l h).toArray)
 (rw[show headD l h=_ from if_neg<|by simp_all];rfl)
theorem UP(r:Rn)(bc bx bl:Nat)(c:Cv)(x:Int)(l:Du)(w:World)(r0:(cw bc (fG c) 60).holds w)(r1:(cw bx [u_ x] 40).holds w)(r2:(cw bl (fg l) 219).holds w):
  CW 196 #[.agg (eD r).toArray,.func (.func 199) #[] #[],p_ bc,p_ bx,p_ bl] w (.agg (eD<|dX l.dq1 r<|dG c x<|cz l.dq20 65536).toArray):=by
 refine A.C Tryz.func196 rfl (HS.nil w) (A.c<|A.n2 [.al,.al] [0] (fun b1 b2=>[(5,p_ b1),(7,p_ b2)]) (fun b1 b2=>[cw b1 (eD r) 217,cw b2 [u_ 0,u_ 0,u_ 0,u_ 0,u_ 0,u_ 0,u_ 0,u_ 0,b_ false] 217]) ?_)
 intro b1 b2
 refine A.d<|A.d3 [7,8] 9 [cw b1 (eD r) 217,cw b2 [u_ 0,u_ 0,u_ 0,u_ 0,u_ 0,u_ 0,u_ 0,u_ 0,b_ false] 217]<|A.bO 2 [.p,.rd<|fG c,.rd [u_ x],.p,.rd [u_ l.dq20],.cq<|.agg (eC<|cz l.dq20 65536).toArray,.cq<|.agg (eD<|dG c x<|cz l.dq20 65536).toArray] (rg 0 7) [(4,p_ bl),(5,p_ b1),(7,p_ b2),(15,.agg (eD<|dG c x<|cz l.dq20 65536).toArray)] [] (.refl _) (oc (ro ⟨bc,0,none⟩ (vs:=(fG c))<|df r0 rfl)<|oc (ro ⟨bx,0,none⟩ (vs:=[u_ x])<|df r1 rfl)<|oc (ro ⟨bl,19,none⟩ (vs:=[u_ l.dq20])<|df r2 rfl)<|oc (qo<|fun w s=>xA l.dq20 w)<|o1<|qo<|fun w s=>Av c x (cz l.dq20 65536) w)<|A.o3 7 rfl (A.af 8 [u_ 0,u_ 0,u_ 0,u_ 0,u_ 0,u_ 0,u_ 0,u_ 0,b_ false] (by kernel_rfl) rfl (by kernel_rfl) (fun b3=>[cw b1 (eD r) 217,cw b2 [u_ 0,u_ 0,u_ 0,u_ 0,u_ 0,u_ 0,u_ 0,u_ 0,b_ false] 217,cw b3 [u_ 0,u_ 0,u_ 0,u_ 0,u_ 0,u_ 0,u_ 0,u_ 0,b_ false] 217]) (fun _=>rfl) ?_)
 intro b3
 refine A.aF (sd [2])<|A.o3 8 rfl (A.sT 2 (eD<|dG c x<|cz l.dq20 65536) rfl (A.aF (sd [2])<|A.f3<|A.d<|A.c<|A.hk [.p,.rd [b_ l.dq1]] [(5,p_ b1),(7,p_ b2),(8,p_ b3),(17,b_ l.dq1)] [] (o1<|ro ⟨bl,0,none⟩ (vs:=[b_ l.dq1])<|df r2 rfl)<|A.cn l.dq1 (fun e1=>?_)<|fun e1=>?_))
 ·refine A.s<|A.gU [.ld 0,.ld 2,.cq<|.agg (eD<|dp r<|dG c x<|cz l.dq20 65536).toArray,.st 2] [(7,p_ b2),(8,p_ b3)] [(2,cw b3 (eD<|dp r<|dG c x<|cz l.dq20 65536) 217)] [b1,b3,b3] (o1<|qo<|fun w s=>xr r (dG c x<|cz l.dq20 65536) w)<|A.c<|A.gs [.ld 2,.st 1] [8] [] [(1,cw b2 (eD<|dp r<|dG c x<|cz l.dq20 65536) 217)] [b3,b2]<|A.e<|A.pc 1 (eD<|dp r<|dG c x<|cz l.dq20 65536) ?_
  show((.agg (eD<|dp r<|dG c x<|cz l.dq20 65536).toArray):Value)=(.agg (eD<|dX l.dq1 r<|dG c x<|cz l.dq20 65536).toArray)
  unfold dX;simp_all
 refine A.p<|A.c<|A.gT [.ld 2,.st 1] [(7,p_ b2)] [(1,cw b2 (eD<|dG c x<|cz l.dq20 65536) 217)] [b3,b2]<|A.e<|A.pc 1 (eD<|dG c x<|cz l.dq20 65536) ?_
 show((.agg (eD<|dG c x<|cz l.dq20 65536).toArray):Value)=(.agg (eD<|dX l.dq1 r<|dG c x<|cz l.dq20 65536).toArray)
 unfold dX;simp_all
theorem UQ(r:Rn)(bc bx bl:Nat)(c:Cv)(x:Int)(l:Du)(w:World)(r0:(cw bc (fG c) 60).holds w)(r1:(cw bx [u_ x] 40).holds w)(r2:(cw bl (fg l) 219).holds w):
  CW 196 #[.agg (eD r).toArray,.func (.func 200) #[] #[],p_ bc,p_ bx,p_ bl] w (.agg (eD<|dX l.dq1 r<|dZ c x<|cz l.dq20 65536).toArray):=by
 refine A.C Tryz.func196 rfl (HS.nil w) (A.c<|A.n2 [.al,.al] [0] (fun b1 b2=>[(5,p_ b1),(7,p_ b2)]) (fun b1 b2=>[cw b1 (eD r) 217,cw b2 [u_ 0,u_ 0,u_ 0,u_ 0,u_ 0,u_ 0,u_ 0,u_ 0,b_ false] 217]) ?_)
 intro b1 b2
 refine A.d<|A.d3 [7,8] 9 [cw b1 (eD r) 217,cw b2 [u_ 0,u_ 0,u_ 0,u_ 0,u_ 0,u_ 0,u_ 0,u_ 0,b_ false] 217]<|A.bO 2 [.p,.rd<|fG c,.rd [u_ x],.p,.rd [u_ l.dq20],.cq<|.agg (eC<|cz l.dq20 65536).toArray,.cq<|.agg (eD<|dZ c x<|cz l.dq20 65536).toArray] (rg 0 7) [(4,p_ bl),(5,p_ b1),(7,p_ b2),(15,.agg (eD<|dZ c x<|cz l.dq20 65536).toArray)] [] (.refl _) (oc (ro ⟨bc,0,none⟩ (vs:=(fG c))<|df r0 rfl)<|oc (ro ⟨bx,0,none⟩ (vs:=[u_ x])<|df r1 rfl)<|oc (ro ⟨bl,19,none⟩ (vs:=[u_ l.dq20])<|df r2 rfl)<|oc (qo<|fun w s=>xA l.dq20 w)<|o1<|qo<|fun w s=>HN c x (cz l.dq20 65536) w)<|A.o3 7 rfl (A.af 8 [u_ 0,u_ 0,u_ 0,u_ 0,u_ 0,u_ 0,u_ 0,u_ 0,b_ false] (by kernel_rfl) rfl (by kernel_rfl) (fun b3=>[cw b1 (eD r) 217,cw b2 [u_ 0,u_ 0,u_ 0,u_ 0,u_ 0,u_ 0,u_ 0,u_ 0,b_ false] 217,cw b3 [u_ 0,u_ 0,u_ 0,u_ 0,u_ 0,u_ 0,u_ 0,u_ 0,b_ false] 217]) (fun _=>rfl) ?_)
 intro b3
 refine A.aF (sd [2])<|A.o3 8 rfl (A.sT 2 (eD<|dZ c x<|cz l.dq20 65536) rfl (A.aF (sd [2])<|A.f3<|A.d<|A.c<|A.hk [.p,.rd [b_ l.dq1]] [(5,p_ b1),(7,p_ b2),(8,p_ b3),(17,b_ l.dq1)] [] (o1<|ro ⟨bl,0,none⟩ (vs:=[b_ l.dq1])<|df r2 rfl)<|A.cn l.dq1 (fun e1=>?_)<|fun e1=>?_))
 ·refine A.s<|A.gU [.ld 0,.ld 2,.cq<|.agg (eD<|dp r<|dZ c x<|cz l.dq20 65536).toArray,.st 2] [(7,p_ b2),(8,p_ b3)] [(2,cw b3 (eD<|dp r<|dZ c x<|cz l.dq20 65536) 217)] [b1,b3,b3] (o1<|qo<|fun w s=>xr r (dZ c x<|cz l.dq20 65536) w)<|A.c<|A.gs [.ld 2,.st 1] [8] [] [(1,cw b2 (eD<|dp r<|dZ c x<|cz l.dq20 65536) 217)] [b3,b2]<|A.e<|A.pc 1 (eD<|dp r<|dZ c x<|cz l.dq20 65536) ?_
  show((.agg (eD<|dp r<|dZ c x<|cz l.dq20 65536).toArray):Value)=(.agg (eD<|dX l.dq1 r<|dZ c x<|cz l.dq20 65536).toArray)
  unfold dX;simp_all
 refine A.p<|A.c<|A.gT [.ld 2,.st 1] [(7,p_ b2)] [(1,cw b2 (eD<|dZ c x<|cz l.dq20 65536) 217)] [b3,b2]<|A.e<|A.pc 1 (eD<|dZ c x<|cz l.dq20 65536) ?_
 show((.agg (eD<|dZ c x<|cz l.dq20 65536).toArray):Value)=(.agg (eD<|dX l.dq1 r<|dZ c x<|cz l.dq20 65536).toArray)
 unfold dX;simp_all
abbrev Bi(p0:Du)(p1)(p2):=(eD<|dX p0.dq1 (eY p0)<|dG p1 p2<|cz p0.dq20 65536)
abbrev RY(p0:Du)(p1)(p2):=(b_ ((dX p0.dq1 (eY p0)<|dG p1 p2<|cz p0.dq20 65536).rq9):Value)
abbrev RZ(p0:Du)(p1)(p2):=(u_ ((dX p0.dq1 (eY p0)<|dG p1 p2<|cz p0.dq20 65536).rq8):Value)
abbrev R1(p0:Du)(p1)(p2):=(u_ ((dX p0.dq1 (eY p0)<|dG p1 p2<|cz p0.dq20 65536).rq7):Value)
abbrev R7(p0:Du)(p1)(p2):=(u_ ((dX p0.dq1 (eY p0)<|dG p1 p2<|cz p0.dq20 65536).rq6):Value)
abbrev R9(p0:Du)(p1)(p2):=(u_ ((dX p0.dq1 (eY p0)<|dG p1 p2<|cz p0.dq20 65536).rq5):Value)
abbrev Rb(p0:Du)(p1)(p2):=(u_ ((dX p0.dq1 (eY p0)<|dG p1 p2<|cz p0.dq20 65536).rq4):Value)
abbrev Re(p0:Du)(p1)(p2):=(u_ ((dX p0.dq1 (eY p0)<|dG p1 p2<|cz p0.dq20 65536).rq3):Value)
abbrev Rf(p0:Du)(p1)(p2):=(u_ ((dX p0.dq1 (eY p0)<|dG p1 p2<|cz p0.dq20 65536).rq2):Value)
abbrev Rh(p0:Du)(p1)(p2):=(u_ ((dX p0.dq1 (eY p0)<|dG p1 p2<|cz p0.dq20 65536).rq1):Value)
abbrev xx(p0:Du)(p1)(p2):=(eD<|dX p0.dq1 (eZ p0)<|dZ p1 p2<|cz p0.dq20 65536)
theorem Rj(l:Du)(c:Cv)(x h:Int)(w:World):
  CW 146 #[.agg (fg l).toArray,.agg (fG c).toArray,u_ x,i_ h] w (.agg (fg<|iR l c x h).toArray):=by
 refine A.C Tryz.func146 rfl (HS.nil w) (A.c<|A.cK [.al,.al,.al] [3,4,5,6] (fun b1 b2 b3=>[(3,i_ h),(4,p_ b1),(5,p_ b2),(6,p_ b3)]) (fun b1 b2 b3=>[cw b1 (fg l) 219,cw b2 (fG c) 60,cw b3 [u_ x] 40]) (fun b1 b2 b3=>[]) (fun _ _ _=>T0) (fun _ _ _=>by kernel_rfl) (fun b1 b2 b3=>trivial) ?_)
 intro b1 b2 b3
 refine A.j<|A.af 8 [b_ false,u_ 0,u_ 0,u_ 0,u_ 0,u_ 0,u_ 0,u_ 0,u_ 0,b_ false,u_ 0,u_ 0,u_ 0,u_ 0,u_ 0,u_ 0,u_ 0,u_ 0,b_ false,u_ 0,u_ 0,u_ 0] (by kernel_rfl) rfl (by kernel_rfl) (fun b4=>[cw b1 (fg l) 219,cw b2 (fG c) 60,cw b3 [u_ x] 40,xw b4]) (fun _=>rfl) ?_
 intro b4
 refine A.aB<|A.c<|A.h [.p,.p] [(3,i_ h),(4,p_ b1),(8,p_ b4),(9,.func (.func 196) #[] #[p_ b2,p_ b3,p_ b1])] []<|A.d<|A.O [9,11] 12<|A.kd 3 [.p,.p,.ld 0,.cq<|.agg (Bi l c x).toArray,.p,.p,.ld 0,.cq<|.agg (xx l c x).toArray,.p] (rg 0 9) [9] [(14,.agg (Bi l c x).toArray),(18,.agg (xx l c x).toArray),(19,q_ b1 1)] [b1,b1] (oc (qo<|fun ww ss=>UP (eY l) b2 b3 b1 c x l ww (ss.mem (i:=1) rfl) (ss.mem (i:=2) rfl)<|ss.mem (i:=0) rfl)<|o1<|qo<|fun ww ss=>UQ (eZ l) b2 b3 b1 c x l ww (ss.mem (i:=1) rfl) (ss.mem (i:=2) rfl)<|ss.mem (i:=0) rfl) ?_
 refine A.F 9 rfl (A.sT 0 (Bi l c x) rfl (A.E<|A.pT 1 [.p] [10] [(3,i_ h),(4,p_ b1),(8,p_ b4),(18,.agg (xx l c x).toArray),(20,q_ b1 10)] [] ?_))
 refine A.F 11 rfl (A.sT 0 (xx l c x) rfl ?_)
 refine A.E<|A.M ?_
 refine A.c<|A.gT [.p,.st 0] [(3,i_ h),(4,p_ b1),(8,p_ b4)] [(0,cw b1 [b_ true,Rh l c x,Rf l c x,Re l c x,Rb l c x,R9 l c x,R7 l c x,R1 l c x,RZ l c x,RY l c x,u_<|(dX l.dq1 (eZ l)<|dZ c x<|cz l.dq20 65536).rq1,u_<|(dX l.dq1 (eZ l)<|dZ c x<|cz l.dq20 65536).rq2,u_<|(dX l.dq1 (eZ l)<|dZ c x<|cz l.dq20 65536).rq3,u_<|(dX l.dq1 (eZ l)<|dZ c x<|cz l.dq20 65536).rq4,u_<|(dX l.dq1 (eZ l)<|dZ c x<|cz l.dq20 65536).rq5,u_<|(dX l.dq1 (eZ l)<|dZ c x<|cz l.dq20 65536).rq6,u_<|(dX l.dq1 (eZ l)<|dZ c x<|cz l.dq20 65536).rq7,u_<|(dX l.dq1 (eZ l)<|dZ c x<|cz l.dq20 65536).rq8,b_<|(dX l.dq1 (eZ l)<|dZ c x<|cz l.dq20 65536).rq9,u_ l.dq20,u_ l.dq21,u_ l.dq22] 219)] [b1] ?_
 refine A.c<|A.ks [.ld 0,.p,.cq<|.agg (fg<|headD (⟨true,(dX l.dq1 (eY l)<|dG c x<|cz l.dq20 65536).rq1,(dX l.dq1 (eY l)<|dG c x<|cz l.dq20 65536).rq2,(dX l.dq1 (eY l)<|dG c x<|cz l.dq20 65536).rq3,(dX l.dq1 (eY l)<|dG c x<|cz l.dq20 65536).rq4,(dX l.dq1 (eY l)<|dG c x<|cz l.dq20 65536).rq5,(dX l.dq1 (eY l)<|dG c x<|cz l.dq20 65536).rq6,(dX l.dq1 (eY l)<|dG c x<|cz l.dq20 65536).rq7,(dX l.dq1 (eY l)<|dG c x<|cz l.dq20 65536).rq8,(dX l.dq1 (eY l)<|dG c x<|cz l.dq20 65536).rq9,(dX l.dq1 (eZ l)<|dZ c x<|cz l.dq20 65536).rq1,(dX l.dq1 (eZ l)<|dZ c x<|cz l.dq20 65536).rq2,(dX l.dq1 (eZ l)<|dZ c x<|cz l.dq20 65536).rq3,(dX l.dq1 (eZ l)<|dZ c x<|cz l.dq20 65536).rq4,(dX l.dq1 (eZ l)<|dZ c x<|cz l.dq20 65536).rq5,(dX l.dq1 (eZ l)<|dZ c x<|cz l.dq20 65536).rq6,(dX l.dq1 (eZ l)<|dZ c x<|cz l.dq20 65536).rq7,(dX l.dq1 (eZ l)<|dZ c x<|cz l.dq20 65536).rq8,(dX l.dq1 (eZ l)<|dZ c x<|cz l.dq20 65536).rq9,l.dq20,l.dq21,l.dq22⟩:Du) h).toArray,.st 3] [3,4] [] [(3,cw b4 (fg<|headD (⟨true,(dX l.dq1 (eY l)<|dG c x<|cz l.dq20 65536).rq1,(dX l.dq1 (eY l)<|dG c x<|cz l.dq20 65536).rq2,(dX l.dq1 (eY l)<|dG c x<|cz l.dq20 65536).rq3,(dX l.dq1 (eY l)<|dG c x<|cz l.dq20 65536).rq4,(dX l.dq1 (eY l)<|dG c x<|cz l.dq20 65536).rq5,(dX l.dq1 (eY l)<|dG c x<|cz l.dq20 65536).rq6,(dX l.dq1 (eY l)<|dG c x<|cz l.dq20 65536).rq7,(dX l.dq1 (eY l)<|dG c x<|cz l.dq20 65536).rq8,(dX l.dq1 (eY l)<|dG c x<|cz l.dq20 65536).rq9,(dX l.dq1 (eZ l)<|dZ c x<|cz l.dq20 65536).rq1,(dX l.dq1 (eZ l)<|dZ c x<|cz l.dq20 65536).rq2,(dX l.dq1 (eZ l)<|dZ c x<|cz l.dq20 65536).rq3,(dX l.dq1 (eZ l)<|dZ c x<|cz l.dq20 65536).rq4,(dX l.dq1 (eZ l)<|dZ c x<|cz l.dq20 65536).rq5,(dX l.dq1 (eZ l)<|dZ c x<|cz l.dq20 65536).rq6,(dX l.dq1 (eZ l)<|dZ c x<|cz l.dq20 65536).rq7,(dX l.dq1 (eZ l)<|dZ c x<|cz l.dq20 65536).rq8,(dX l.dq1 (eZ l)<|dZ c x<|cz l.dq20 65536).rq9,l.dq20,l.dq21,l.dq22⟩:Du) h) 219)] [b1,b4] (o1<|qo<|fun ww ss=>Bh (⟨true,(dX l.dq1 (eY l)<|dG c x<|cz l.dq20 65536).rq1,(dX l.dq1 (eY l)<|dG c x<|cz l.dq20 65536).rq2,(dX l.dq1 (eY l)<|dG c x<|cz l.dq20 65536).rq3,(dX l.dq1 (eY l)<|dG c x<|cz l.dq20 65536).rq4,(dX l.dq1 (eY l)<|dG c x<|cz l.dq20 65536).rq5,(dX l.dq1 (eY l)<|dG c x<|cz l.dq20 65536).rq6,(dX l.dq1 (eY l)<|dG c x<|cz l.dq20 65536).rq7,(dX l.dq1 (eY l)<|dG c x<|cz l.dq20 65536).rq8,(dX l.dq1 (eY l)<|dG c x<|cz l.dq20 65536).rq9,(dX l.dq1 (eZ l)<|dZ c x<|cz l.dq20 65536).rq1,(dX l.dq1 (eZ l)<|dZ c x<|cz l.dq20 65536).rq2,(dX l.dq1 (eZ l)<|dZ c x<|cz l.dq20 65536).rq3,(dX l.dq1 (eZ l)<|dZ c x<|cz l.dq20 65536).rq4,(dX l.dq1 (eZ l)<|dZ c x<|cz l.dq20 65536).rq5,(dX l.dq1 (eZ l)<|dZ c x<|cz l.dq20 65536).rq6,(dX l.dq1 (eZ l)<|dZ c x<|cz l.dq20 65536).rq7,(dX l.dq1 (eZ l)<|dZ c x<|cz l.dq20 65536).rq8,(dX l.dq1 (eZ l)<|dZ c x<|cz l.dq20 65536).rq9,l.dq20,l.dq21,l.dq22⟩:Du) h ww) ?_
 refine A.e<|A.pc 3 (fg<|headD (⟨true,(dX l.dq1 (eY l)<|dG c x<|cz l.dq20 65536).rq1,(dX l.dq1 (eY l)<|dG c x<|cz l.dq20 65536).rq2,(dX l.dq1 (eY l)<|dG c x<|cz l.dq20 65536).rq3,(dX l.dq1 (eY l)<|dG c x<|cz l.dq20 65536).rq4,(dX l.dq1 (eY l)<|dG c x<|cz l.dq20 65536).rq5,(dX l.dq1 (eY l)<|dG c x<|cz l.dq20 65536).rq6,(dX l.dq1 (eY l)<|dG c x<|cz l.dq20 65536).rq7,(dX l.dq1 (eY l)<|dG c x<|cz l.dq20 65536).rq8,(dX l.dq1 (eY l)<|dG c x<|cz l.dq20 65536).rq9,(dX l.dq1 (eZ l)<|dZ c x<|cz l.dq20 65536).rq1,(dX l.dq1 (eZ l)<|dZ c x<|cz l.dq20 65536).rq2,(dX l.dq1 (eZ l)<|dZ c x<|cz l.dq20 65536).rq3,(dX l.dq1 (eZ l)<|dZ c x<|cz l.dq20 65536).rq4,(dX l.dq1 (eZ l)<|dZ c x<|cz l.dq20 65536).rq5,(dX l.dq1 (eZ l)<|dZ c x<|cz l.dq20 65536).rq6,(dX l.dq1 (eZ l)<|dZ c x<|cz l.dq20 65536).rq7,(dX l.dq1 (eZ l)<|dZ c x<|cz l.dq20 65536).rq8,(dX l.dq1 (eZ l)<|dZ c x<|cz l.dq20 65536).rq9,l.dq20,l.dq21,l.dq22⟩:Du) h) ?_
 show((.agg (fg<|headD (⟨true,(dX l.dq1 (eY l)<|dG c x<|cz l.dq20 65536).rq1,(dX l.dq1 (eY l)<|dG c x<|cz l.dq20 65536).rq2,(dX l.dq1 (eY l)<|dG c x<|cz l.dq20 65536).rq3,(dX l.dq1 (eY l)<|dG c x<|cz l.dq20 65536).rq4,(dX l.dq1 (eY l)<|dG c x<|cz l.dq20 65536).rq5,(dX l.dq1 (eY l)<|dG c x<|cz l.dq20 65536).rq6,(dX l.dq1 (eY l)<|dG c x<|cz l.dq20 65536).rq7,(dX l.dq1 (eY l)<|dG c x<|cz l.dq20 65536).rq8,(dX l.dq1 (eY l)<|dG c x<|cz l.dq20 65536).rq9,(dX l.dq1 (eZ l)<|dZ c x<|cz l.dq20 65536).rq1,(dX l.dq1 (eZ l)<|dZ c x<|cz l.dq20 65536).rq2,(dX l.dq1 (eZ l)<|dZ c x<|cz l.dq20 65536).rq3,(dX l.dq1 (eZ l)<|dZ c x<|cz l.dq20 65536).rq4,(dX l.dq1 (eZ l)<|dZ c x<|cz l.dq20 65536).rq5,(dX l.dq1 (eZ l)<|dZ c x<|cz l.dq20 65536).rq6,(dX l.dq1 (eZ l)<|dZ c x<|cz l.dq20 65536).rq7,(dX l.dq1 (eZ l)<|dZ c x<|cz l.dq20 65536).rq8,(dX l.dq1 (eZ l)<|dZ c x<|cz l.dq20 65536).rq9,l.dq20,l.dq21,l.dq22⟩:Du) h).toArray):Value)=(.agg (fg<|iR l c x h).toArray)
 rfl
theorem Rk(l:Du)(s h:Int)(w:World):
  CW 213 #[.agg (fg l).toArray,i_ s,i_ h] w (.agg (fg<|iH l s h).toArray):=by
 refine A.C Tryz.func213 rfl (HS.nil w) (A.c<|A.n2 [.al,.al] [0] (fun b1 b2=>[(3,p_ b1),(6,p_ b2)]) (fun b1 b2=>[cw b1 (fg l) 219,xw b2]) ?_)
 intro b1 b2
 refine A.c<|A.gs [.p,.ld 0,.p,.p,.p,.p,.p,.st 0] [1] [] [(0,cw b1 [b_ l.dq1,u_ l.dq2,u_ l.dq3,u_ l.dq4,u_ l.dq5,u_ l.dq6,u_ l.dq7,u_ l.dq8,u_ l.dq9,b_ l.dq10,u_ l.dq11,u_ l.dq12,u_ l.dq13,u_ l.dq14,u_ l.dq15,u_ l.dq16,u_ l.dq17,u_ l.dq18,b_ l.dq19,u_<|IntKind.u64.wrap<|l.dq20+(IntKind.u64.wrap<|eE s 0),u_ l.dq21,u_ l.dq22] 219)] [b1,b1]<|A.c<|A.ks [.ld 0,.p,.cq<|.agg (fg<|headD (⟨l.dq1,l.dq2,l.dq3,l.dq4,l.dq5,l.dq6,l.dq7,l.dq8,l.dq9,l.dq10,l.dq11,l.dq12,l.dq13,l.dq14,l.dq15,l.dq16,l.dq17,l.dq18,l.dq19,IntKind.u64.wrap<|l.dq20+(IntKind.u64.wrap<|eE s 0),l.dq21,l.dq22⟩:Du) h).toArray,.st 1] [2,3] [] [(1,cw b2 (fg<|headD (⟨l.dq1,l.dq2,l.dq3,l.dq4,l.dq5,l.dq6,l.dq7,l.dq8,l.dq9,l.dq10,l.dq11,l.dq12,l.dq13,l.dq14,l.dq15,l.dq16,l.dq17,l.dq18,l.dq19,IntKind.u64.wrap<|l.dq20+(IntKind.u64.wrap<|eE s 0),l.dq21,l.dq22⟩:Du) h) 219)] [b1,b2] (o1<|qo<|fun w ss=>Bh (⟨l.dq1,l.dq2,l.dq3,l.dq4,l.dq5,l.dq6,l.dq7,l.dq8,l.dq9,l.dq10,l.dq11,l.dq12,l.dq13,l.dq14,l.dq15,l.dq16,l.dq17,l.dq18,l.dq19,IntKind.u64.wrap<|l.dq20+(IntKind.u64.wrap<|eE s 0),l.dq21,l.dq22⟩:Du) h w)<|A.e<|A.pc 1 (fg<|headD (⟨l.dq1,l.dq2,l.dq3,l.dq4,l.dq5,l.dq6,l.dq7,l.dq8,l.dq9,l.dq10,l.dq11,l.dq12,l.dq13,l.dq14,l.dq15,l.dq16,l.dq17,l.dq18,l.dq19,IntKind.u64.wrap<|l.dq20+(IntKind.u64.wrap<|eE s 0),l.dq21,l.dq22⟩:Du) h) ?_
 show((.agg (fg<|headD (⟨l.dq1,l.dq2,l.dq3,l.dq4,l.dq5,l.dq6,l.dq7,l.dq8,l.dq9,l.dq10,l.dq11,l.dq12,l.dq13,l.dq14,l.dq15,l.dq16,l.dq17,l.dq18,l.dq19,IntKind.u64.wrap<|l.dq20+(IntKind.u64.wrap<|eE s 0),l.dq21,l.dq22⟩:Du) h).toArray):Value)=(.agg (fg<|iH l s h).toArray)
 rfl
theorem Rm(l:Du)(h:Int)(w:World):
  CW 215 #[.agg (fg l).toArray,i_ h] w (.agg (fg<|headD l h).toArray):=by
 refine A.C Tryz.func215 rfl (HS.nil w) (A.c<|A.n2 [.al,.al] [0] (fun b1 b2=>[(2,p_ b1),(4,p_ b2)]) (fun b1 b2=>[cw b1 (fg l) 219,xw b2]) ?_)
 intro b1 b2
 refine A.c<|A.ks [.ld 0,.p,.cq<|.agg (fg<|headD l h).toArray,.st 1] [1,2] [] [(1,cw b2 (fg<|headD l h) 219)] [b1,b2] (o1<|qo<|fun w s=>Bh l h w)<|A.e<|A.pc 1 (fg<|headD l h) ?_
 rfl
def ff(l:Sh):Rn:=⟨l.sq2,l.sq3,l.sq4,l.sq5,l.sq6,l.sq7,l.sq8,l.sq9,l.sq10⟩
def je(r:Rn)(x:Int):Int:=if r.rq9 then eE (eE (eE 0<|i8 r<|cz x 65536) r.rq5) r.rq1 else eE (eE 0<|i8 r<|cz x 65536) r.rq5
def D6(b:Bool)(r:Rn)(x:Int):Sh:=⟨b,r.rq1,r.rq2,r.rq3,r.rq4,r.rq5,r.rq6,r.rq7,r.rq8,r.rq9,x⟩
def jf(l:Sh)(c:Cv)(x y:Int):Sh:=D6 true (dX l.sq1 (ff l)<|dG c x<|cz y 65536)<|je (dX l.sq1 (ff l)<|dG c x<|cz y 65536) y
def lS(l:Sh)(x:Int):Sh:=if l.sq1 then{l with sq11:=je (ff l) x} else l
abbrev nh(p0)(p1):=(u_ (i8 p0<|cz p1 65536):Value)
abbrev tI(p0:Rn)(p1):=(u_ (eE (eE (eE 0<|i8 p0<|cz p1 65536) p0.rq5) p0.rq1):Value)
abbrev o8(p0:Rn)(p1):=(u_ (eE (eE 0<|i8 p0<|cz p1 65536) p0.rq5):Value)
theorem Bj(r:Rn)(x:Int)(w:World):
  CW 206 #[.agg (eD r).toArray,u_ x] w (u_<|je r x):=by
 refine A.C Tryz.func206 rfl (HS.nil w) (A.c<|A.n1 [.al,.p] [0] (fun b1=>[(2,p_ b1)]) (fun b1=>cw b1 (eD r) 217) ?_)
 intro b1
 refine A.d<|A.ka [.ld 0,.p,.cq<|.agg (eC<|cz x 65536).toArray,.cq<|nh r x,.p] (rg 0 5) [1] [(5,nh r x)] [b1] (oc (qo<|fun w s=>qP x 65536 w)<|o1<|qo<|fun w s=>wz r (cz x 65536) w)<|A.d<|A.c<|A.gl [.p,.ld 0] [] [(11,b_ r.rq9)] [b1]<|A.cn r.rq9 (fun e1=>?_)<|fun e1=>?_
 ·refine A.c<|A.gm [.p,.p,.p,.ld 0,.p,.p,.ld 0] [2,5,11] [(12,nh r x),(15,u_ r.rq5),(18,u_ r.rq1)] [b1,b1]<|A.j<|A.aE 19 (e:=40) [nh r x,u_ r.rq5,u_ r.rq1] (by kernel_rfl) rfl (fun _=>by kernel_rfl) _ (fun _=>rfl) ?_
  intro b2
  refine A.j<|A.iX (some 20) [.slice (some ⟨b2,0,none⟩) 3 3] Tryz.func250 rfl (A.c<|A.g [.p] [] []<|A.c<|A.g [.p] [] [(3,u_ 0)]<|A.d<|A.c<|A.g (ps 3) [0] [(6,.slice (some ⟨b2,0,none⟩) 3 3),(7,i_ 3),(8,i_ 0)]<|A.y<|A.aV 400<|A.aC (m:=399)<|A.c<|A.g [.p] [] [(9,b_ true)]<|A.d<|A.ct<|A.p<|A.d<|A.y<|A.c<|A.j<|A.u (some 10) (p_ b2) (kS (off:=0) (sz:=1) (el:=40) (e:=0) (len:=3) rfl rfl rfl (by kernel_rfl) (by kernel_rfl) (by omega))<|A.gl [.ld 1,.p] [9,10] [(5,nh r x)] [b2]<|A.s<|A.g (ps 4) [5] [(3,u_<|eE 0<|i8 r<|cz x 65536)]<|A.s<|A.g [.p,.p] [] [(8,i_ 1)]<|A.aC (m:=398)<|A.c<|A.g [.p] [] [(9,b_ true)]<|A.d<|A.ct<|A.p<|A.d<|A.y<|A.c<|A.j<|A.u (some 10) (q_ b2 1) (kS (off:=0) (sz:=1) (el:=40) (e:=1) (len:=3) rfl rfl rfl (by kernel_rfl) (by kernel_rfl) (by omega))<|A.gl [.ld 1,.p] [9,10] [(5,u_ r.rq5)] [b2]<|A.s<|A.g (ps 4) [5] [(3,o8 r x)]<|A.s<|A.g [.p,.p] [] [(8,i_ 2)]<|A.aC (m:=397)<|A.c<|A.h [.p] [(3,o8 r x),(6,.slice (some ⟨b2,0,none⟩) 3 3),(7,i_ 3),(8,i_ 2),(9,b_ true)] []<|A.d<|A.ct<|A.p<|A.d<|A.y<|A.c<|A.j<|A.u (some 10) (q_ b2 2) (kS (off:=0) (sz:=1) (el:=40) (e:=2) (len:=3) rfl rfl rfl (by kernel_rfl) (by kernel_rfl) (by omega))<|A.gl [.ld 1,.p] [9,10] [(5,u_ r.rq1)] [b2]<|A.s<|A.g (ps 4) [5] [(3,tI r x)]<|A.s<|A.g [.p,.p] [] [(8,i_ 3)]<|A.aC (m:=396)<|A.c<|A.g [.p] [] [(9,b_ false)]<|A.d<|A.cf<|A.aA<|A.c<|A.g [.p,.p] [3,6,7,8,9] [(2,tI r x)]<|A.e<|A.pb [tI r x]<|A.aJ [cw b2 [nh r x,u_ r.rq5,u_ r.rq1] 40] (sd [0])<|A.h [.p] [(4,tI r x)] []<|A.e<|A.W [tI r x] ?_)
  show((tI r x):Value)=(u_<|je r x)
  unfold je;simp_all
 refine A.p<|A.c<|A.gm [.p,.p,.p,.ld 0] [2,5,11] [(21,nh r x),(24,u_ r.rq5)] [b1]<|A.j<|A.aE 25 (e:=40) [nh r x,u_ r.rq5] (by kernel_rfl) rfl (fun _=>by kernel_rfl) _ (fun _=>rfl) ?_
 intro b3
 refine A.j<|A.iX (some 26) [.slice (some ⟨b3,0,none⟩) 2 2] Tryz.func250 rfl (A.c<|A.g [.p] [] []<|A.c<|A.g [.p] [] [(3,u_ 0)]<|A.d<|A.c<|A.g (ps 3) [0] [(6,.slice (some ⟨b3,0,none⟩) 2 2),(7,i_ 2),(8,i_ 0)]<|A.y<|A.aV 400<|A.aC (m:=399)<|A.c<|A.g [.p] [] [(9,b_ true)]<|A.d<|A.ct<|A.p<|A.d<|A.y<|A.c<|A.j<|A.u (some 10) (p_ b3) (kS (off:=0) (sz:=1) (el:=40) (e:=0) (len:=2) rfl rfl rfl (by kernel_rfl) (by kernel_rfl) (by omega))<|A.gl [.ld 1,.p] [9,10] [(5,nh r x)] [b3]<|A.s<|A.g (ps 4) [5] [(3,u_<|eE 0<|i8 r<|cz x 65536)]<|A.s<|A.g [.p,.p] [] [(8,i_ 1)]<|A.aC (m:=398)<|A.c<|A.g [.p] [] [(9,b_ true)]<|A.d<|A.ct<|A.p<|A.d<|A.y<|A.c<|A.j<|A.u (some 10) (q_ b3 1) (kS (off:=0) (sz:=1) (el:=40) (e:=1) (len:=2) rfl rfl rfl (by kernel_rfl) (by kernel_rfl) (by omega))<|A.gl [.ld 1,.p] [9,10] [(5,u_ r.rq5)] [b3]<|A.s<|A.g (ps 4) [5] [(3,o8 r x)]<|A.s<|A.g [.p,.p] [] [(8,i_ 2)]<|A.aC (m:=397)<|A.c<|A.h [.p] [(3,o8 r x),(6,.slice (some ⟨b3,0,none⟩) 2 2),(7,i_ 2),(8,i_ 2),(9,b_ false)] []<|A.d<|A.cf<|A.aA<|A.c<|A.g [.p,.p] [3,6,7,8,9] [(2,o8 r x)]<|A.e<|A.pb [o8 r x]<|A.aJ [cw b3 [nh r x,u_ r.rq5] 40] (sd [0])<|A.h [.p] [(4,o8 r x)] []<|A.e<|A.W [o8 r x] ?_)
 show((o8 r x):Value)=(u_<|je r x)
 unfold je;simp_all
abbrev I2(p0)(p1)(p2)(p3):=(eD<|dp (ff p0)<|dG p1 p2<|cz p3 65536)
abbrev Bl(p0)(p1)(p2)(p3):=(u_ (je (dp (ff p0)<|dG p1 p2<|cz p3 65536) p3):Value)
abbrev Bm(p0)(p1)(p2):=(eD<|dG p0 p1<|cz p2 65536)
abbrev xy(p0):=(cw p0 [b_ false,u_ 0,u_ 0,u_ 0,u_ 0,u_ 0,u_ 0,u_ 0,u_ 0,b_ false,u_ 0] 221:V.dB)
abbrev I3(p0)(p1)(p2):=(.agg #[b_ true,u_<|(dG p0 p1<|cz p2 65536).rq1,u_<|(dG p0 p1<|cz p2 65536).rq2,u_<|(dG p0 p1<|cz p2 65536).rq3,u_<|(dG p0 p1<|cz p2 65536).rq4,u_<|(dG p0 p1<|cz p2 65536).rq5,u_<|(dG p0 p1<|cz p2 65536).rq6,u_<|(dG p0 p1<|cz p2 65536).rq7,u_<|(dG p0 p1<|cz p2 65536).rq8,b_<|(dG p0 p1<|cz p2 65536).rq9,u_<|je (dG p0 p1<|cz p2 65536) p2]:Value)
abbrev I4(p0)(p1)(p2)(p3):=(.agg #[b_ true,u_<|(dp (ff p0)<|dG p1 p2<|cz p3 65536).rq1,u_<|(dp (ff p0)<|dG p1 p2<|cz p3 65536).rq2,u_<|(dp (ff p0)<|dG p1 p2<|cz p3 65536).rq3,u_<|(dp (ff p0)<|dG p1 p2<|cz p3 65536).rq4,u_<|(dp (ff p0)<|dG p1 p2<|cz p3 65536).rq5,u_<|(dp (ff p0)<|dG p1 p2<|cz p3 65536).rq6,u_<|(dp (ff p0)<|dG p1 p2<|cz p3 65536).rq7,u_<|(dp (ff p0)<|dG p1 p2<|cz p3 65536).rq8,b_<|(dp (ff p0)<|dG p1 p2<|cz p3 65536).rq9,u_<|je (dp (ff p0)<|dG p1 p2<|cz p3 65536) p3]:Value)
theorem I5(l:Sh)(c:Cv)(x y:Int)(w:World):
  CW 149 #[.agg (iD l).toArray,.agg (fG c).toArray,u_ x,u_ y] w (.agg (iD<|jf l c x y).toArray):=by
 refine A.C Tryz.func149 rfl (HS.nil w) (A.c<|A.ag [.al,.al,.al] [2,3,4,5,8] (fun b1 b2 b3=>[(2,u_ x),(3,u_ y),(4,p_ b1),(5,p_ b2),(8,p_ b3)]) (fun b1 b2 b3=>[cw b1 (iD l) 221,cw b2 (fG c) 60,xy b3]) (fun b1 b2 b3=>[]) (fun _ _ _=>T0) (fun _ _ _=>by kernel_rfl) (fun b1 b2 b3=>trivial) ?_)
 intro b1 b2 b3
 refine A.d<|A.d3 [5,6] 7 [cw b1 (iD l) 221,cw b2 (fG c) 60,xy b3]<|A.bO 2 [.ld 1,.p,.p,.cq<|.agg (eC<|cz y 65536).toArray,.cq<|.agg (Bm c x y).toArray] (rg 0 5) [(3,u_ y),(4,p_ b1),(8,p_ b3),(14,.agg (Bm c x y).toArray)] [b2] (.refl _) (oc (qo<|fun w s=>qP y 65536 w)<|o1<|qo<|fun w s=>Av c x (cz y 65536) w)<|A.o3 5 rfl (A.af 9 [u_ 0,u_ 0,u_ 0,u_ 0,u_ 0,u_ 0,u_ 0,u_ 0,b_ false] (by kernel_rfl) rfl (by kernel_rfl) (fun b4=>[cw b1 (iD l) 221,cw b2 (fG c) 60,xy b3,cw b4 [u_ 0,u_ 0,u_ 0,u_ 0,u_ 0,u_ 0,u_ 0,u_ 0,b_ false] 217]) (fun _=>rfl) ?_)
 intro b4
 refine A.aF (sd [3])<|A.o3 6 rfl (A.sT 3 (Bm c x y) rfl (A.aF (sd [3])<|A.f3<|A.d<|A.c<|A.h [.p,.ld 0] [(3,u_ y),(4,p_ b1),(8,p_ b3),(9,p_ b4),(16,b_ l.sq1)] [b1]<|A.cn l.sq1 (fun e1=>?_)<|fun e1=>?_))
 ·refine A.s<|A.gU [.p,.ld 0,.ld 3,.cq<|.agg (I2 l c x y).toArray,.st 3] [(3,u_ y),(8,p_ b3),(9,p_ b4)] [(3,cw b4 (I2 l c x y) 217)] [b1,b4,b4] (o1<|qo<|fun ww ss=>xr (ff l) (dG c x<|cz y 65536) ww)<|A.d<|A.O [5] 6 ?_
  refine A.kd 1 [.ld 3,.ld 3,.p,.cq<|Bl l c x y,.p] (rg 0 5) [3,9] [(25,I4 l c x y)] [b4,b4] (o1<|qo<|fun ww ss=>Bj (dp (ff l)<|dG c x<|cz y 65536) y ww) ?_
  refine A.F 5 rfl (A.sT 2 [b_ true,u_<|(dp (ff l)<|dG c x<|cz y 65536).rq1,u_<|(dp (ff l)<|dG c x<|cz y 65536).rq2,u_<|(dp (ff l)<|dG c x<|cz y 65536).rq3,u_<|(dp (ff l)<|dG c x<|cz y 65536).rq4,u_<|(dp (ff l)<|dG c x<|cz y 65536).rq5,u_<|(dp (ff l)<|dG c x<|cz y 65536).rq6,u_<|(dp (ff l)<|dG c x<|cz y 65536).rq7,u_<|(dp (ff l)<|dG c x<|cz y 65536).rq8,b_<|(dp (ff l)<|dG c x<|cz y 65536).rq9,Bl l c x y] rfl (A.E<|A.M ?_))
  refine A.e<|A.pc 2 [b_ true,u_<|(dp (ff l)<|dG c x<|cz y 65536).rq1,u_<|(dp (ff l)<|dG c x<|cz y 65536).rq2,u_<|(dp (ff l)<|dG c x<|cz y 65536).rq3,u_<|(dp (ff l)<|dG c x<|cz y 65536).rq4,u_<|(dp (ff l)<|dG c x<|cz y 65536).rq5,u_<|(dp (ff l)<|dG c x<|cz y 65536).rq6,u_<|(dp (ff l)<|dG c x<|cz y 65536).rq7,u_<|(dp (ff l)<|dG c x<|cz y 65536).rq8,b_<|(dp (ff l)<|dG c x<|cz y 65536).rq9,Bl l c x y] ?_
  show((I4 l c x y):Value)=(.agg (iD<|jf l c x y).toArray)
  unfold jf D6 dX;simp_all[iD]
 refine A.p<|A.d<|A.O [5] 6<|A.kd 1 [.ld 3,.ld 3,.p,.cq<|u_<|je (dG c x<|cz y 65536) y,.p] (rg 0 5) [3,4,9,16] [(25,I3 c x y)] [b4,b4] (o1<|qo<|fun ww ss=>Bj (dG c x<|cz y 65536) y ww) ?_
 refine A.F 5 rfl (A.sT 2 [b_ true,u_<|(dG c x<|cz y 65536).rq1,u_<|(dG c x<|cz y 65536).rq2,u_<|(dG c x<|cz y 65536).rq3,u_<|(dG c x<|cz y 65536).rq4,u_<|(dG c x<|cz y 65536).rq5,u_<|(dG c x<|cz y 65536).rq6,u_<|(dG c x<|cz y 65536).rq7,u_<|(dG c x<|cz y 65536).rq8,b_<|(dG c x<|cz y 65536).rq9,u_<|je (dG c x<|cz y 65536) y] rfl (A.E<|A.M ?_))
 refine A.e<|A.pc 2 [b_ true,u_<|(dG c x<|cz y 65536).rq1,u_<|(dG c x<|cz y 65536).rq2,u_<|(dG c x<|cz y 65536).rq3,u_<|(dG c x<|cz y 65536).rq4,u_<|(dG c x<|cz y 65536).rq5,u_<|(dG c x<|cz y 65536).rq6,u_<|(dG c x<|cz y 65536).rq7,u_<|(dG c x<|cz y 65536).rq8,b_<|(dG c x<|cz y 65536).rq9,u_<|je (dG c x<|cz y 65536) y] ?_
 show((I3 c x y):Value)=(.agg (iD<|jf l c x y).toArray)
 unfold jf D6 dX;simp_all[iD]
abbrev I6(p0)(p1:Sh)(p2):=(cw p0 [b_ p1.sq1,u_ p1.sq2,u_ p1.sq3,u_ p1.sq4,u_ p1.sq5,u_ p1.sq6,u_ p1.sq7,u_ p1.sq8,u_ p1.sq9,b_ p1.sq10,u_<|je (ff p1) p2] 221:V.dB)
abbrev Ro(p0:Sh)(p1):=(.agg #[b_ p0.sq1,u_ p0.sq2,u_ p0.sq3,u_ p0.sq4,u_ p0.sq5,u_ p0.sq6,u_ p0.sq7,u_ p0.sq8,u_ p0.sq9,b_ p0.sq10,u_<|je (ff p0) p1]:Value)
theorem Rq(l:Sh)(x:Int)(w:World):
  CW 154 #[.agg (iD l).toArray,u_ x] w (.agg (iD<|lS l x).toArray):=by
 refine A.C Tryz.func154 rfl (HS.nil w) (A.c<|A.n2 [.al,.al] [0] (fun b1 b2=>[(2,p_ b1),(4,p_ b2)]) (fun b1 b2=>[cw b1 (iD l) 221,xy b2]) ?_)
 intro b1 b2
 refine A.d<|A.c<|A.gl [.p,.ld 0] [] [(6,b_ l.sq1)] [b1]<|A.cn l.sq1 (fun e1=>?_)<|fun e1=>?_
 ·refine A.s<|A.ks [.p,.ld 0,.p,.cq<|u_<|je (ff l) x,.p,.st 0] [1,6] [] [(0,I6 b1 l x)] [b1,b1] (o1<|qo<|fun w s=>Bj (ff l) x w)<|A.c<|A.gs [.ld 0,.st 1] [2] [] [(1,I6 b2 l x)] [b1,b2]<|A.e<|A.pc 1 [b_ l.sq1,u_ l.sq2,u_ l.sq3,u_ l.sq4,u_ l.sq5,u_ l.sq6,u_ l.sq7,u_ l.sq8,u_ l.sq9,b_ l.sq10,u_<|je (ff l) x] ?_
  show((Ro l x):Value)=(.agg (iD<|lS l x).toArray)
  unfold lS;simp_all[iD]
 refine A.p<|A.c<|A.gs [.ld 0,.st 1] [1,2,6] [] [(1,cw b2 (iD l) 221)] [b1,b2]<|A.e<|A.pc 1 (iD l) ?_
 show((.agg (iD l).toArray):Value)=(.agg (iD<|lS l x).toArray)
 unfold lS;simp_all[iD]
def q7:Li:=⟨false,0,0,0,0,0,0,0,0,false,0⟩
def ej(l:Li):Rn:=⟨l.uq2,l.uq3,l.uq4,l.uq5,l.uq6,l.uq7,l.uq8,l.uq9,l.uq10⟩
def jI(l:Li)(x:Int):Li:=if l.uq1 then{l with uq11:=i8 (ej l)<|cz x 65536} else l
def D7(b:Bool)(r:Rn)(x:Int):Li:=⟨b,r.rq1,r.rq2,r.rq3,r.rq4,r.rq5,r.rq6,r.rq7,r.rq8,r.rq9,x⟩
def kz(l:Li)(c:Cv)(x y:Int):Li:=if kC c≤1 then q7 else jI (D7 true (dX l.uq1 (ej l)<|dG c x<|cz y 65536) 0) y
abbrev Rr(p0:Li)(p1):=(.agg #[b_ p0.uq1,u_ p0.uq2,u_ p0.uq3,u_ p0.uq4,u_ p0.uq5,u_ p0.uq6,u_ p0.uq7,u_ p0.uq8,u_ p0.uq9,b_ p0.uq10,u_<|i8 (ej p0)<|cz p1 65536]:Value)
abbrev Rt(p0)(p1:Li)(p2):=(cw p0 [b_ p1.uq1,u_ p1.uq2,u_ p1.uq3,u_ p1.uq4,u_ p1.uq5,u_ p1.uq6,u_ p1.uq7,u_ p1.uq8,u_ p1.uq9,b_ p1.uq10,u_<|i8 (ej p1)<|cz p2 65536] 223:V.dB)
theorem Bn(l:Li)(x:Int)(w:World):
  CW 155 #[.agg (gv l).toArray,u_ x] w (.agg (gv<|jI l x).toArray):=by
 refine A.C Tryz.func155 rfl (HS.nil w) (A.c<|A.n2 [.al,.al] [0] (fun b1 b2=>[(2,p_ b1),(4,p_ b2)]) (fun b1 b2=>[cw b1 (gv l) 223,cw b2 [b_ false,u_ 0,u_ 0,u_ 0,u_ 0,u_ 0,u_ 0,u_ 0,u_ 0,b_ false,u_ 0] 223]) ?_)
 intro b1 b2
 refine A.d<|A.c<|A.gl [.p,.ld 0] [] [(6,b_ l.uq1)] [b1]<|A.cn l.uq1 (fun e1=>?_)<|fun e1=>?_
 ·refine A.O [6] 7<|A.kd 1 [.p,.ld 0,.p,.cq<|.agg (eC<|cz x 65536).toArray,.cq<|u_<|i8 (ej l)<|cz x 65536,.p] (rg 0 6) [1,6] [(11,u_<|i8 (ej l)<|cz x 65536),(12,q_ b1 10)] [b1] (oc (qo<|fun w s=>qP x 65536 w)<|o1<|qo<|fun w s=>wz (ej l) (cz x 65536) w)<|A.F 6 rfl (A.sT 0 [u_<|i8 (ej l)<|cz x 65536] rfl (A.E<|A.M<|A.c<|A.gT [.ld 0,.st 1] [(4,p_ b2)] [(1,Rt b2 l x)] [b1,b2]<|A.e<|A.pc 1 [b_ l.uq1,u_ l.uq2,u_ l.uq3,u_ l.uq4,u_ l.uq5,u_ l.uq6,u_ l.uq7,u_ l.uq8,u_ l.uq9,b_ l.uq10,u_<|i8 (ej l)<|cz x 65536] ?_))
  show((Rr l x):Value)=(.agg (gv<|jI l x).toArray)
  unfold jI;simp_all[gv]
 refine A.p<|A.c<|A.gs [.ld 0,.st 1] [1,2,6] [] [(1,cw b2 (gv l) 223)] [b1,b2]<|A.e<|A.pc 1 (gv l) ?_
 show((.agg (gv l).toArray):Value)=(.agg (gv<|jI l x).toArray)
 unfold jI;simp_all[gv]
theorem I7(l:Li)(c:Cv)(x y:Int)(w:World):
  CW 150 #[.agg (gv l).toArray,.agg (fG c).toArray,u_ x,u_ y] w (.agg (gv<|kz l c x y).toArray):=by
 refine A.C Tryz.func150 rfl (HS.nil w) (A.c<|A.ag [.al,.al,.al] [2,3,4,5,8] (fun b1 b2 b3=>[(2,u_ x),(3,u_ y),(4,p_ b1),(5,p_ b2),(8,p_ b3)]) (fun b1 b2 b3=>[cw b1 (gv l) 223,cw b2 (fG c) 60,cw b3 [b_ false,u_ 0,u_ 0,u_ 0,u_ 0,u_ 0,u_ 0,u_ 0,u_ 0,b_ false,u_ 0] 223]) (fun b1 b2 b3=>[]) (fun _ _ _=>T0) (fun _ _ _=>by kernel_rfl) (fun b1 b2 b3=>trivial) ?_)
 intro b1 b2 b3
 refine A.d<|A.d3 [5,6] 7 [cw b1 (gv l) 223,cw b2 (fG c) 60,cw b3 [b_ false,u_ 0,u_ 0,u_ 0,u_ 0,u_ 0,u_ 0,u_ 0,u_ 0,b_ false,u_ 0] 223]<|A.bO 2 [.ld 1,.p,.p,.cq<|.agg (eC<|cz y 65536).toArray,.cq<|.agg (eD<|dG c x<|cz y 65536).toArray] (rg 0 5) [(3,u_ y),(4,p_ b1),(5,p_ b2),(8,p_ b3),(14,.agg (eD<|dG c x<|cz y 65536).toArray)] [b2] (.refl _) (oc (qo<|fun w s=>qP y 65536 w)<|o1<|qo<|fun w s=>Av c x (cz y 65536) w)<|A.o3 5 rfl (A.af 9 [u_ 0,u_ 0,u_ 0,u_ 0,u_ 0,u_ 0,u_ 0,u_ 0,b_ false] (by kernel_rfl) rfl (by kernel_rfl) (fun b4=>[cw b1 (gv l) 223,cw b2 (fG c) 60,cw b3 [b_ false,u_ 0,u_ 0,u_ 0,u_ 0,u_ 0,u_ 0,u_ 0,u_ 0,b_ false,u_ 0] 223,cw b4 [u_ 0,u_ 0,u_ 0,u_ 0,u_ 0,u_ 0,u_ 0,u_ 0,b_ false] 217]) (fun _=>rfl) ?_)
 intro b4
 refine A.aF (sd [3])<|A.o3 6 rfl (A.sT 3 (eD<|dG c x<|cz y 65536) rfl (A.aF (sd [3])<|A.f3<|A.d<|A.c<|A.hk [.ld 1,.cq<|i_<|dK c.ka c.kb c.kc] [(3,u_ y),(4,p_ b1),(8,p_ b3),(9,p_ b4),(16,i_<|dK c.ka c.kb c.kc)] [b2] (o1<|qo<|fun w s=>pZ c.ka c.kb c.kc w)<|A.y<|A.d<|A.y<|A.y<|A.d<|A.d<|A.c<|A.g [.p,.p] [] [(17,b_<|(dK c.ka c.kb c.kc)==0)]<|A.v rfl (fun e1=>?_) (fun e1=>?_)))
 ·refine A.aA (A.d<|A.c<|A.gT [.p,.st 2] [(8,p_ b3)] [(2,cw b3 [b_ false,u_ 0,u_ 0,u_ 0,u_ 0,u_ 0,u_ 0,u_ 0,u_ 0,b_ false,u_ 0] 223)] [b3]<|A.e<|A.pc 2 [b_ false,u_ 0,u_ 0,u_ 0,u_ 0,u_ 0,u_ 0,u_ 0,u_ 0,b_ false,u_ 0] ?_)
  (rw[show kz l c x y=_ from if_pos (by unfold kC;simp_all)];rfl)
 refine A.p<|A.c<|A.g [.p,.p] [16,17] [(19,b_<|(dK c.ka c.kb c.kc)==1)]<|A.v rfl (fun e2=>?_) (fun e2=>?_)
 ·have p2:=e2
  refine A.aA (A.te<|A.bm rfl (A.bh<|A.tn<|A.d<|A.c<|A.gT [.p,.st 2] [(8,p_ b3)] [(2,cw b3 [b_ false,u_ 0,u_ 0,u_ 0,u_ 0,u_ 0,u_ 0,u_ 0,u_ 0,b_ false,u_ 0] 223)] [b3]<|A.tn<|A.e<|A.tr<|A.br<|A.tr<|A.aL [.agg #[b_ false,u_ 0,u_ 0,u_ 0,u_ 0,u_ 0,u_ 0,u_ 0,u_ 0,b_ false,u_ 0]] (fun _ w r s=>⟨iF 2 r s,trivial⟩) ?_))
  (rw[show kz l c x y=_ from if_pos (by unfold kC;simp_all)];rfl)
 refine A.p<|A.aA<|A.bm rfl (A.bm rfl (A.d<|A.c<|A.gl [.p,.ld 0] [19] [(23,b_ l.uq1)] [b1]<|A.cn l.uq1 (fun e3=>?_)<|fun e3=>?_))
 ·refine A.s<|A.gU [.p,.ld 0,.ld 3,.cq<|.agg (eD<|dp (ej l)<|dG c x<|cz y 65536).toArray,.st 3] [(3,u_ y),(8,p_ b3),(9,p_ b4)] [(3,cw b4 (eD<|dp (ej l)<|dG c x<|cz y 65536) 217)] [b1,b4,b4] (o1<|qo<|fun w s=>xr (ej l) (dG c x<|cz y 65536) w)<|A.c<|A.ks [.ld 3,.p,.p,.cq<|.agg (gv<|jI (⟨true,(dp (ej l)<|dG c x<|cz y 65536).rq1,(dp (ej l)<|dG c x<|cz y 65536).rq2,(dp (ej l)<|dG c x<|cz y 65536).rq3,(dp (ej l)<|dG c x<|cz y 65536).rq4,(dp (ej l)<|dG c x<|cz y 65536).rq5,(dp (ej l)<|dG c x<|cz y 65536).rq6,(dp (ej l)<|dG c x<|cz y 65536).rq7,(dp (ej l)<|dG c x<|cz y 65536).rq8,(dp (ej l)<|dG c x<|cz y 65536).rq9,0⟩:Li) y).toArray,.st 2] [3,9] [] [(2,cw b3 (gv<|jI (⟨true,(dp (ej l)<|dG c x<|cz y 65536).rq1,(dp (ej l)<|dG c x<|cz y 65536).rq2,(dp (ej l)<|dG c x<|cz y 65536).rq3,(dp (ej l)<|dG c x<|cz y 65536).rq4,(dp (ej l)<|dG c x<|cz y 65536).rq5,(dp (ej l)<|dG c x<|cz y 65536).rq6,(dp (ej l)<|dG c x<|cz y 65536).rq7,(dp (ej l)<|dG c x<|cz y 65536).rq8,(dp (ej l)<|dG c x<|cz y 65536).rq9,0⟩:Li) y) 223)] [b4,b3] (o1<|qo<|fun w s=>Bn (⟨true,(dp (ej l)<|dG c x<|cz y 65536).rq1,(dp (ej l)<|dG c x<|cz y 65536).rq2,(dp (ej l)<|dG c x<|cz y 65536).rq3,(dp (ej l)<|dG c x<|cz y 65536).rq4,(dp (ej l)<|dG c x<|cz y 65536).rq5,(dp (ej l)<|dG c x<|cz y 65536).rq6,(dp (ej l)<|dG c x<|cz y 65536).rq7,(dp (ej l)<|dG c x<|cz y 65536).rq8,(dp (ej l)<|dG c x<|cz y 65536).rq9,0⟩:Li) y w)<|A.e<|A.pc 2 (gv<|jI (⟨true,(dp (ej l)<|dG c x<|cz y 65536).rq1,(dp (ej l)<|dG c x<|cz y 65536).rq2,(dp (ej l)<|dG c x<|cz y 65536).rq3,(dp (ej l)<|dG c x<|cz y 65536).rq4,(dp (ej l)<|dG c x<|cz y 65536).rq5,(dp (ej l)<|dG c x<|cz y 65536).rq6,(dp (ej l)<|dG c x<|cz y 65536).rq7,(dp (ej l)<|dG c x<|cz y 65536).rq8,(dp (ej l)<|dG c x<|cz y 65536).rq9,0⟩:Li) y) ?_
  show((.agg (gv<|jI (⟨true,(dp (ej l)<|dG c x<|cz y 65536).rq1,(dp (ej l)<|dG c x<|cz y 65536).rq2,(dp (ej l)<|dG c x<|cz y 65536).rq3,(dp (ej l)<|dG c x<|cz y 65536).rq4,(dp (ej l)<|dG c x<|cz y 65536).rq5,(dp (ej l)<|dG c x<|cz y 65536).rq6,(dp (ej l)<|dG c x<|cz y 65536).rq7,(dp (ej l)<|dG c x<|cz y 65536).rq8,(dp (ej l)<|dG c x<|cz y 65536).rq9,0⟩:Li) y).toArray):Value)=(.agg (gv<|kz l c x y).toArray)
  (rw[show kz l c x y=_ from if_neg (by unfold kC;have hr_:=uV c.ka c.kb c.kc;simp_all;omega)];unfold D7 dX;simp_all;done)
 refine A.p<|A.c<|A.gU [.ld 3,.p,.p,.cq<|.agg (gv<|jI (⟨true,(dG c x<|cz y 65536).rq1,(dG c x<|cz y 65536).rq2,(dG c x<|cz y 65536).rq3,(dG c x<|cz y 65536).rq4,(dG c x<|cz y 65536).rq5,(dG c x<|cz y 65536).rq6,(dG c x<|cz y 65536).rq7,(dG c x<|cz y 65536).rq8,(dG c x<|cz y 65536).rq9,0⟩:Li) y).toArray,.st 2] [(8,p_ b3)] [(2,cw b3 (gv<|jI (⟨true,(dG c x<|cz y 65536).rq1,(dG c x<|cz y 65536).rq2,(dG c x<|cz y 65536).rq3,(dG c x<|cz y 65536).rq4,(dG c x<|cz y 65536).rq5,(dG c x<|cz y 65536).rq6,(dG c x<|cz y 65536).rq7,(dG c x<|cz y 65536).rq8,(dG c x<|cz y 65536).rq9,0⟩:Li) y) 223)] [b4,b3] (o1<|qo<|fun w s=>Bn (⟨true,(dG c x<|cz y 65536).rq1,(dG c x<|cz y 65536).rq2,(dG c x<|cz y 65536).rq3,(dG c x<|cz y 65536).rq4,(dG c x<|cz y 65536).rq5,(dG c x<|cz y 65536).rq6,(dG c x<|cz y 65536).rq7,(dG c x<|cz y 65536).rq8,(dG c x<|cz y 65536).rq9,0⟩:Li) y w)<|A.e<|A.pc 2 (gv<|jI (⟨true,(dG c x<|cz y 65536).rq1,(dG c x<|cz y 65536).rq2,(dG c x<|cz y 65536).rq3,(dG c x<|cz y 65536).rq4,(dG c x<|cz y 65536).rq5,(dG c x<|cz y 65536).rq6,(dG c x<|cz y 65536).rq7,(dG c x<|cz y 65536).rq8,(dG c x<|cz y 65536).rq9,0⟩:Li) y) ?_
 show((.agg (gv<|jI (⟨true,(dG c x<|cz y 65536).rq1,(dG c x<|cz y 65536).rq2,(dG c x<|cz y 65536).rq3,(dG c x<|cz y 65536).rq4,(dG c x<|cz y 65536).rq5,(dG c x<|cz y 65536).rq6,(dG c x<|cz y 65536).rq7,(dG c x<|cz y 65536).rq8,(dG c x<|cz y 65536).rq9,0⟩:Li) y).toArray):Value)=(.agg (gv<|kz l c x y).toArray)
 (rw[show kz l c x y=_ from if_neg (by unfold kC;have hr_:=uV c.ka c.kb c.kc;simp_all;omega)];unfold D7 dX;simp_all;done)
abbrev xn(p0:Pk):=(b_ ((decide (p0.qn≥1))&&(decide (p0.qn≤16384))):Value)
theorem RL(p:Pk)(hp:1≤p.qn∧p.qn≤16384)(w:World):
  CW 158 #[.agg #[u_ p.qi,i_ p.qn,w_ p.qa,w_ p.qb,w_ p.qc,w_ p.qd],i_ 16384] w (i_ 0):=by
 refine A.C Tryz.func158 rfl (HS.nil w) (A.c<|A.n1 [.al,.p] [0] (fun b1=>[(2,p_ b1)]) (fun b1=>cw b1 [u_ p.qi,i_ p.qn,w_ p.qa,w_ p.qb,w_ p.qc,w_ p.qd] 45) ?_)
 intro b1
 refine A.d<|A.y<|A.c<|A.N [.p] [] [(6,i_ 16384)]<|A.j<|A.iX (some 7) [i_ 16384,i_ 16384] Tryz.func219 rfl (A.c<|A.g [.p] [] []<|(A.c<|A.g (ps 8) [0,1] [(4,b_ true)]<|A.e<|A.pb [b_ true]<|A.h [.p,.p] [(1,i_ 16384),(2,p_ b1),(5,b_ false)] []<|A.cf<|A.c<|A.gm [.p,.ld 0,.p] [1,2,5] [(11,i_ p.qn),(12,i_ 16384)] [b1]<|A.j<|A.iX (some 13) [i_ p.qn,i_ 16384] Tryz.func219 rfl (A.c<|A.g [.p] [] []<|A.c<|A.g [.p,.p,.p,.o,.p,.p,.p,.cl,.p] [0,1] [(4,xn p)]<|A.e<|A.pb [xn p]<|A.aJ [] (sd [0])<|A.h [.p,.p] [(9,b_ (!((decide (p.qn≥1))&&(decide (p.qn≤16384)))))] []<|A.v rfl (fun e1=>?_) (fun e1=>?_))))
 ·exact absurd e1<|by(intro h_;simp at h_;omega)
 refine A.p<|A.c<|A.g [.p] [9] [(4,i_ 0)]<|A.e<|A.W [i_ 0] ?_
 rfl
theorem NV(p:Pk)(t:Int)(hp:1≤p.qn∧p.qn≤16384)(ht:1≤t∧t≤65536)(w:World):
  CW 159 #[.agg #[u_ p.qi,i_ p.qn,w_ p.qa,w_ p.qb,w_ p.qc,w_ p.qd],i_ t] w (.tuple #[u_<|p.qn*t,i_ 0]):=by
 have h1_:p.qn*t≤16384*65536:=Int.mul_le_mul (by omega) (by omega) (by omega)<|by omega
 have h2_:0≤p.qn*t:=Int.mul_nonneg (by omega)<|by omega
 refine A.C Tryz.func159 rfl (HS.nil w) (A.c<|A.n1 [.al,.p,.p] [0] (fun b1=>[(2,p_ b1)]) (fun b1=>cw b1 [u_ p.qi,i_ p.qn,w_ p.qa,w_ p.qb,w_ p.qc,w_ p.qd] 45) ?_)
 intro b1
 refine A.d<|A.c<|A.N [.p] [] [(6,i_ t)]<|A.j<|A.iX (some 7) [i_ t,i_ 65536] Tryz.func219 rfl (A.c<|A.g [.p] [] []<|A.c<|A.g [.p,.p,.p,.o,.p,.p,.p,.cl,.p] [0,1] [(4,b_<|(decide (t≥1))&&(decide (t≤65536)))]<|A.e<|A.pb [b_<|(decide (t≥1))&&(decide (t≤65536))]<|A.hp [.p,.p] [(1,i_ t),(2,p_ b1),(9,b_ (!((decide (t≥1))&&(decide (t≤65536)))))] []<|A.aP (!((decide (t≥1))&&(decide (t≤65536)))) (fun e1=>?_)<|fun e1=>?_)
 ·refine A.D 9 (b_ true) (gu e1)<|A.g [.sk,.sk,.sk,.sk,.p] [9] [(14,b_ true)]<|A.ct<|A.c<|A.g [.p,.p] [1,2,14] [(4,u_ 0),(5,i_ 1)]<|A.e<|A.W [u_ 0,i_ 1] ?_
  simp_all
 refine A.D 9 (b_ false) (gu e1)<|A.gm [.p,.ld 0] [] [(11,i_ p.qn)] [b1]<|A.j<|A.iX (some 12) [i_ p.qn,i_ 16384] Tryz.func219 rfl (A.c<|A.g [.p] [] []<|A.c<|A.g [.p,.p,.p,.o,.p,.p,.p,.cl,.p] [0,1] [(4,xn p)]<|(A.e<|A.pb [xn p]<|A.h [.p,.p] [(1,i_ t),(2,p_ b1),(14,b_ (!((decide (p.qn≥1))&&(decide (p.qn≤16384)))))] []<|A.v rfl (fun e2=>?_) (fun e2=>?_)))
 ·refine A.c<|A.g [.p,.p] [1,2,14] [(4,u_ 0),(5,i_ 1)]<|A.e<|A.W [u_ 0,i_ 1] ?_
  simp_all
 refine A.p<|A.c<|A.k [.p,.ld 0,.w p.qn,.p,.w t,.w<|p.qn*t,.p,.p] [1,2,14] [(4,u_<|p.qn*t),(5,i_ 0)] [b1] (oc (wv p.qn<|by omega)<|oc (wv t<|by omega)<|o1<|wv (p.qn*t)<|by omega)<|A.e<|A.W [u_<|p.qn*t,i_ 0] ?_
 rfl
theorem RN(t:Int)(ht:1≤t∧t≤65536):
  CS 42 #[i_ t] [] (fun(bl:Nat)=>(.tuple #[p_ bl,i_ 0])) (fun _=>True) fun bl=>[cw bl [u_ 0,u_ 0,u_ 0,i_ t,u_ 0] 146]:=by
 intro w hs
 refine A.C Tryz.func42 rfl hs (A.c<|A.g [.p,.p] [] []<|A.d<|A.c<|A.g [.p,.p,.p,.o,.p,.p,.cl] [] [(9,b_<|(decide (t<1))||(decide (t>65536)))]<|A.v rfl (fun e1=>?_) (fun e1=>?_))
 ·exact absurd e1<|by(intro h_;simp at h_;omega)
 refine A.p<|A.c<|A.n1 [.p,.p,.al,.p,.p] [0,9] (fun b1=>[(2,p_ b1),(3,i_ 0)]) (fun b1=>cw b1 [u_ 0,u_ 0,u_ 0,i_ t,u_ 0] 146) ?_
 intro b1
 refine A.e<|A.Y [0] [p_ b1,i_ 0] (b1) ?_ ?_
 ·rfl
 trivial
theorem Ao(bl:Nat)(c1 c2 c3 t un:Int)(nw:Int)(w:World)(r0:(cw bl [u_ c1,u_ c2,u_ c3,i_ t,u_ un] 146).holds w):
  CW 47 #[p_ bl,u_ nw] w (b_<|decide (nw≥un)):=by
 refine A.C Tryz.func47 rfl (HS.nil w) (A.d ?_)
 refine A.s<|A.g [.p] [] []<|A.c<|A.k [.p,.p,.p,.p,.p,.p,.p,.rd [u_ un],.p,.p,.p] [0,1] [(4,b_<|decide (nw≥un))] [] (o1<|ro ⟨bl,4,none⟩ (vs:=[u_ un])<|df r0 rfl)<|A.e<|A.W [b_<|decide (nw≥un)] ?_
 rfl
theorem NW(bl:Nat)(c1 c2 c3 t un:Int)(w:World)(r0:(cw bl [u_ c1,u_ c2,u_ c3,i_ t,u_ un] 146).holds w):
  CW 118 #[p_ bl] w (u_ un):=by
 refine A.C Tryz.func118 rfl (HS.nil w) (A.c<|A.g [.p] [] []<|A.d<|A.c<|A.g [.p,.p] [] [(4,b_ false)]<|A.cf<|A.p<|A.c<|A.k [.p,.p,.p,.rd [u_ un],.p] [0,4] [(2,u_ un)] [] (o1<|ro ⟨bl,4,none⟩ (vs:=[u_ un])<|df r0 rfl)<|A.e<|A.W [u_ un] ?_)
 rfl
theorem Ot(bl:Nat)(c1 c2 c3 t un:Int)(nw:Int)(p:Pk)(hw:0≤nw∧nw≤4611686018427387904)(hp:1≤p.qn∧p.qn≤16384)(ht:1≤t∧t≤65536)(hu:un≤nw):
  CS 115 #[p_ bl,u_ nw,.agg #[u_ p.qi,i_ p.qn,w_ p.qa,w_ p.qb,w_ p.qc,w_ p.qd]] [cw bl [u_ c1,u_ c2,u_ c3,i_ t,u_ un] 146] (fun((z1,z2,z3):Int×Int×Int)=>(.tuple #[u_<|nw+p.qn*t,i_ 0])) (fun _=>True) fun(z1,z2,z3)=>[cw bl [u_ z1,u_ z2,u_ z3,i_ t,u_<|nw+p.qn*t] 146]:=by
 intro w hs
 have h1_:p.qn*t≤16384*65536:=Int.mul_le_mul (by omega) (by omega) (by omega)<|by omega
 have h2_:1≤p.qn*t:=Int.le_trans (by omega)<|Int.mul_le_mul hp.1 ht.1 (by omega)<|by omega
 refine A.C Tryz.func115 rfl hs (A.c<|A.n1 [.al,.p,.p] [2] (fun b1=>[(5,p_ b1)]) (fun b1=>cw b1 [u_ p.qi,i_ p.qn,w_ p.qa,w_ p.qb,w_ p.qc,w_ p.qd] 45) ?_)
 intro b1
 refine A.d<|A.y<|A.c<|A.g (ps 3) [] [(10,b_ false)]<|A.cf<|A.c<|A.g (ps 3) [10] [(13,b_<|decide (nw>4611686018427387904))]<|A.v rfl (fun e1=>?_) (fun e1=>?_)
 ·exact absurd e1<|by(intro h_;simp at h_;omega)
 have p1:=of_decide_eq_false e1
 refine A.c<|A.k [.ld 1,.cq<|i_ 0,.p,.p] [13] [(16,b_ false)] [b1] (o1<|qo<|fun w s=>RL p ‹_› w)<|A.cf<|A.c<|A.k [.p,.p,.cq<|b_<|decide (nw≥un),.p,.p] [16] [(20,b_ (!(decide (nw≥un))))] [] (o1<|qo<|fun w s=>Ao bl c1 c2 c3 t un nw w<|s.mem (i:=0) rfl)<|A.v rfl (fun e2=>?_) (fun e2=>?_)
 ·exact absurd e2<|by(intro h_;simp at h_;omega)
 refine A.p<|A.d<|A.ka [.ld 1,.p,.p,.p,.ld 0,.cq<|.tuple #[u_<|p.qn*t,i_ 0],.p,.p,.p,.p,.p] (rg 0 11) [20] [(8,u_<|p.qn*t)] [b1,bl] (o1<|qo<|fun w s=>NV p t ‹_› ‹_› w)<|A.c<|A.gs [.p,.p,.p,.p,.p,.p,.st 0] [1] [] [(0,cw bl [u_ c1,u_ c2,u_ c3,i_ t,u_<|IntKind.u64.wrap<|nw+(p.qn*t)] 146)] [bl]<|A.d<|A.O [6] 7<|A.dT 1 [.p,.p,.p,.p,.ld 1,.p] (rg 0 6) [5,8] [(42,p_ bl),(44,i_ p.qn),(45,u_<|p.qn*t)] [b1]<|A.F 6 rfl (A.iX (some 46) [p_ bl,i_ p.qn,u_<|p.qn*t] Tryz.func160 rfl (A.c<|A.gs [.p,.p,.p,.ld 0,.p,.p,.p,.st 0] [] [] [(0,cw bl [u_<|IntKind.u64.wrap<|c1+1,u_ c2,u_ c3,i_ t,u_<|IntKind.u64.wrap<|nw+(p.qn*t)] 146)] [bl,bl]<|A.c<|A.gs [.p,.p,.p,.ld 0,.p,.p,.p,.p,.p,.st 0] [1] [] [(0,cw bl [u_<|IntKind.u64.wrap<|c1+1,u_<|IntKind.u64.wrap<|c2+(IntKind.u64.wrap<|p.qn),u_ c3,i_ t,u_<|IntKind.u64.wrap<|nw+(p.qn*t)] 146)] [bl,bl]<|A.s<|A.gs [.p,.p,.p,.ld 0,.p,.p,.p,.p,.st 0] [0,2] [] [(0,cw bl [u_<|IntKind.u64.wrap<|c1+1,u_<|IntKind.u64.wrap<|c2+(IntKind.u64.wrap<|p.qn),u_<|IntKind.u64.wrap<|c3+(p.qn*t),i_ t,u_<|IntKind.u64.wrap<|nw+(p.qn*t)] 146)] [bl,bl]<|A.bC [] (fun _ w r s=>trivial)<|A.ae (by kernel_rfl)<|A.aJ [cw bl [u_<|IntKind.u64.wrap<|c1+1,u_<|IntKind.u64.wrap<|c2+(IntKind.u64.wrap<|p.qn),u_<|IntKind.u64.wrap<|c3+(p.qn*t),i_ t,u_<|IntKind.u64.wrap<|nw+(p.qn*t)] 146] (sd [1])<|A.E<|A.M<|A.c<|A.h [.p,.p,.p,.ld 0,.p,.p] [(6,u_<|IntKind.u64.wrap<|nw+(p.qn*t)),(7,i_ 0)] [bl]<|A.e<|A.su 0 (cw bl [u_<|IntKind.u64.wrap<|c1+1,u_<|IntKind.u64.wrap<|c2+(IntKind.u64.wrap<|p.qn),u_<|IntKind.u64.wrap<|c3+(p.qn*t),i_ t,u_<|nw+p.qn*t] 146) rfl (iL<|cc rfl (cc rfl (cc rfl (cc rfl (cc (congrArg u_ (by exact wrap_u64 (by constructor<;>omega):IntKind.u64.wrap (nw+(p.qn*t))=(nw+p.qn*t))) rfl))))) ?_))
 refine A.Y [0] [u_<|IntKind.u64.wrap<|nw+(p.qn*t),i_ 0] (IntKind.u64.wrap<|c1+1,IntKind.u64.wrap<|c2+(IntKind.u64.wrap<|p.qn),IntKind.u64.wrap<|c3+(p.qn*t)) ?_ ?_
 ·show((.tuple #[u_<|IntKind.u64.wrap<|nw+(p.qn*t),i_ 0]):Value)=(.tuple #[u_<|nw+p.qn*t,i_ 0])
  (rw[wrap_u64 (by constructor<;>omega)])
 trivial
def q8(a b:Int):Int:=if a<b then b else a
def nn(a b c:Int):Int:=dS 9223372036854775808<|q8 (q8 a b) c
abbrev qI(p0):=(.slice (some ⟨p0,0,none⟩) 2 2:Value)
abbrev qJ(p0):=(.slice (some ⟨p0,0,none⟩) 1 1:Value)
abbrev jW(p0):=(u_ (dS 9223372036854775808 p0):Value)
theorem Pg(a b c:Int):
  CS 117 #[u_ a,u_ b,u_ c] [] (fun(zz:Unit)=>(u_<|nn a b c)) (fun _=>True) fun _=>[]:=by
 intro w hs
 refine A.C Tryz.func117 rfl hs (A.c<|A.g [.p] [] []<|A.c<|A.N (ps 3) [0,1,2] [(7,u_ a),(8,u_ b),(9,u_ c)]<|A.j<|A.aE 10 (e:=40) [u_ b,u_ c] (by kernel_rfl) rfl (fun _=>by kernel_rfl) _ (fun _=>rfl) ?_)
 intro b1
 refine A.j<|A.iX (some 11) [u_ a,qI b1] Tryz.func162 rfl (A.c<|A.g [.p] [] []<|A.d<|A.c<|A.g (ps 3) [1] [(7,qI b1),(8,i_ 2),(9,i_ 0)]<|A.y<|A.aV 400<|A.aC (m:=399)<|A.c<|A.g [.p] [] [(10,b_ true)]<|A.d<|A.ct<|A.p<|A.d<|A.y<|A.c<|A.j<|A.u (some 11) (p_ b1) (kS (off:=0) (sz:=1) (el:=40) (e:=0) (len:=2) rfl rfl rfl (by kernel_rfl) (by kernel_rfl) (by omega))<|A.gl [.ld 0,.p] [10,11] [(6,u_ b)] [b1]<|A.c<|A.N [.p,.p] [] [(13,u_ a),(14,u_ b)]<|A.j<|A.iX (some 15) [u_ a,u_ b] Tryz.func220 rfl (A.c<|A.g [.p] [] []<|A.c<|A.N [.p] [] [(5,u_ a)]<|A.j<|A.iX (some 6) [u_ a] Tryz.func256 rfl (A.c<|A.g [.p] [] []<|(A.c<|A.g (ps 4) [0] [(2,b_<|a !=a)]<|A.e<|A.pb [b_<|a !=a]<|A.hp [.p] [(0,u_ a),(1,u_ b),(7,b_<|a !=a)] []<|A.aP (a !=a) (fun e1=>?_)<|fun e1=>?_))))
 ·exact absurd e1<|by simp
 refine A.D 7 (b_ false) (gu e1)<|A.g [.sk,.sk,.sk,.p,.p,.p,.p,.p,.p,.p] [0,1,7] [(4,b_<|decide (a<b))]<|A.e<|A.pb [b_<|decide (a<b)]<|A.aB<|A.v rfl (fun e2=>?_) (fun e2=>?_)
 ·have p2:=of_decide_eq_true e2
  refine A.s<|A.h [.p,.p] [(0,u_ b),(7,qI b1),(8,i_ 2),(9,i_ 0)] []<|A.s<|A.g [.p,.p] [] [(9,i_ 1)]<|A.aC (m:=398)<|A.c<|A.g [.p] [] [(10,b_ true)]<|(A.d<|A.ct<|A.p<|A.d<|A.y<|A.c<|A.j<|A.u (some 11) (q_ b1 1) (kS (off:=0) (sz:=1) (el:=40) (e:=1) (len:=2) rfl rfl rfl (by kernel_rfl) (by kernel_rfl) (by omega))<|A.gl [.ld 0,.p] [10,11] [(6,u_ c)] [b1]<|(A.c<|A.N [.p,.p] [] [(13,u_ b),(14,u_ c)]<|A.j<|A.iX (some 15) [u_ b,u_ c] Tryz.func220 rfl (A.c<|A.g [.p] [] []<|A.c<|A.N [.p] [] [(5,u_ b)]<|A.j<|A.iX (some 6) [u_ b] Tryz.func256 rfl (A.c<|A.g [.p] [] []<|A.c<|A.g (ps 4) [0] [(2,b_<|b !=b)]<|A.e<|A.pb [b_<|b !=b]<|A.hp [.p] [(0,u_ b),(1,u_ c),(7,b_<|b !=b)] []<|A.aP (b !=b) (fun e3=>?_)<|fun e3=>?_))))
  ·exact absurd e3<|by simp
  refine A.D 7 (b_ false) (gu e3)<|A.g [.sk,.sk,.sk,.p,.p,.p,.p,.p,.p,.p] [0,1,7] [(4,b_<|decide (b<c))]<|A.e<|A.pb [b_<|decide (b<c)]<|A.aB<|A.v rfl (fun e4=>?_) (fun e4=>?_)
  ·have p4:=of_decide_eq_true e4
   refine A.s<|A.h [.p,.p] [(0,u_ c),(7,qI b1),(8,i_ 2),(9,i_ 1)] []<|A.s<|A.g [.p,.p] [] [(9,i_ 2)]<|A.aC (m:=397)<|A.c<|A.g [.p] [] [(10,b_ false)]<|(A.d<|A.cf<|A.aA<|A.c<|A.g [.p,.p] [0,7,8,9,10] [(4,u_ c)]<|A.e<|A.pb [u_ c]<|A.j<|A.aE 12 (e:=40) [u_ c] (by kernel_rfl) rfl (fun _=>by kernel_rfl) _ (fun _=>rfl) ?_)
   intro b2
   refine A.j<|A.iX (some 13) [qJ b2] Tryz.func161 rfl (A.c<|A.g [.p] [] []<|A.c<|A.g [.p] [] [(3,u_ 9223372036854775808)]<|A.d<|A.c<|A.g (ps 3) [0] [(6,qJ b2),(7,i_ 1),(8,i_ 0)]<|A.y<|A.aV 400<|A.aC (m:=399)<|A.c<|A.g [.p] [] [(9,b_ true)]<|A.d<|A.ct<|A.p<|A.d<|A.y<|A.c<|A.j<|A.u (some 10) (p_ b2) (kS (off:=0) (sz:=1) (el:=40) (e:=0) (len:=1) rfl rfl rfl (by kernel_rfl) (by kernel_rfl) (by omega))<|A.gl [.ld 1,.p] [9,10] [(5,u_ c)] [b2]<|A.s<|A.g (ps 4) [5] [(3,jW c)]<|(A.s<|A.g [.p,.p] [] [(8,i_ 1)]<|A.aC (m:=398)<|A.c<|A.g [.p] [] [(9,b_ false)]<|A.d<|A.cf<|A.aA<|A.c<|A.g [.p,.p] [3,6,7,8,9] [(2,jW c)]<|A.e<|A.pb [jW c]<|A.h [.p] [(6,jW c)] []<|A.e<|A.Y [] [jW c] () ?_ ?_))
   ·unfold nn q8;(repeat(rw[if_pos<|by omega]));(try rfl)
   trivial
  have p4:=of_decide_eq_false e4
  refine A.p<|A.s<|A.h [.p,.p] [(0,u_ b),(7,qI b1),(8,i_ 2),(9,i_ 2)] []<|A.aC (m:=397)<|A.c<|A.g [.p] [] [(10,b_ false)]<|A.d<|A.cf<|A.aA<|A.c<|A.g [.p,.p] [0,7,8,9,10] [(4,u_ b)]<|A.e<|A.pb [u_ b]<|A.j<|A.aE 12 (e:=40) [u_ b] (by kernel_rfl) rfl (fun _=>by kernel_rfl) _ (fun _=>rfl) ?_
  intro b3
  refine A.j<|A.iX (some 13) [qJ b3] Tryz.func161 rfl (A.c<|A.g [.p] [] []<|A.c<|A.g [.p] [] [(3,u_ 9223372036854775808)]<|A.d<|A.c<|A.g (ps 3) [0] [(6,qJ b3),(7,i_ 1),(8,i_ 0)]<|A.y<|A.aV 400<|A.aC (m:=399)<|A.c<|A.g [.p] [] [(9,b_ true)]<|A.d<|A.ct<|A.p<|A.d<|A.y<|A.c<|A.j<|A.u (some 10) (p_ b3) (kS (off:=0) (sz:=1) (el:=40) (e:=0) (len:=1) rfl rfl rfl (by kernel_rfl) (by kernel_rfl) (by omega))<|A.gl [.ld 1,.p] [9,10] [(5,u_ b)] [b3]<|A.s<|A.g (ps 4) [5] [(3,jW b)]<|(A.s<|A.g [.p,.p] [] [(8,i_ 1)]<|A.aC (m:=398)<|A.c<|A.g [.p] [] [(9,b_ false)]<|A.d<|A.cf<|A.aA<|A.c<|A.g [.p,.p] [3,6,7,8,9] [(2,jW b)]<|A.e<|A.pb [jW b]<|A.h [.p] [(6,jW b)] []<|A.e<|A.Y [] [jW b] () ?_ ?_))
  ·unfold nn q8;(repeat(first|rw[if_pos ‹_›]|rw[if_neg<|by omega]));(try rfl)
  trivial
 have p2:=of_decide_eq_false e2
 refine A.p<|A.s<|A.h [.p,.p] [(0,u_ a),(7,qI b1),(8,i_ 2),(9,i_ 1)] []<|A.aC (m:=398)<|A.c<|A.g [.p] [] [(10,b_ true)]<|A.d<|A.ct<|A.p<|A.d<|A.y<|A.c<|A.j<|A.u (some 11) (q_ b1 1) (kS (off:=0) (sz:=1) (el:=40) (e:=1) (len:=2) rfl rfl rfl (by kernel_rfl) (by kernel_rfl) (by omega))<|A.gl [.ld 0,.p] [10,11] [(6,u_ c)] [b1]<|A.c<|A.N [.p,.p] [] [(13,u_ a),(14,u_ c)]<|A.j<|A.iX (some 15) [u_ a,u_ c] Tryz.func220 rfl (A.c<|A.g [.p] [] []<|A.c<|A.N [.p] [] [(5,u_ a)]<|A.j<|A.iX (some 6) [u_ a] Tryz.func256 rfl (A.c<|A.g [.p] [] []<|A.c<|A.g (ps 4) [0] [(2,b_<|a !=a)]<|A.e<|A.pb [b_<|a !=a]<|A.hp [.p] [(0,u_ a),(1,u_ c),(7,b_<|a !=a)] []<|A.aP (a !=a) (fun e5=>?_)<|fun e5=>?_))
 ·exact absurd e5<|by simp
 refine A.D 7 (b_ false) (gu e5)<|A.g [.sk,.sk,.sk,.p,.p,.p,.p,.p,.p,.p] [0,1,7] [(4,b_<|decide (a<c))]<|A.e<|A.pb [b_<|decide (a<c)]<|A.aB<|A.v rfl (fun e6=>?_) (fun e6=>?_)
 ·have p6:=of_decide_eq_true e6
  refine A.s<|A.h [.p,.p] [(0,u_ c),(7,qI b1),(8,i_ 2),(9,i_ 1)] []<|A.s<|A.g [.p,.p] [] [(9,i_ 2)]<|A.aC (m:=397)<|A.c<|A.g [.p] [] [(10,b_ false)]<|(A.d<|A.cf<|A.aA<|A.c<|A.g [.p,.p] [0,7,8,9,10] [(4,u_ c)]<|A.e<|A.pb [u_ c]<|A.j<|A.aE 12 (e:=40) [u_ c] (by kernel_rfl) rfl (fun _=>by kernel_rfl) _ (fun _=>rfl) ?_)
  intro b4
  refine A.j<|A.iX (some 13) [qJ b4] Tryz.func161 rfl (A.c<|A.g [.p] [] []<|A.c<|A.g [.p] [] [(3,u_ 9223372036854775808)]<|A.d<|A.c<|A.g (ps 3) [0] [(6,qJ b4),(7,i_ 1),(8,i_ 0)]<|A.y<|A.aV 400<|A.aC (m:=399)<|A.c<|A.g [.p] [] [(9,b_ true)]<|A.d<|A.ct<|A.p<|A.d<|A.y<|A.c<|A.j<|A.u (some 10) (p_ b4) (kS (off:=0) (sz:=1) (el:=40) (e:=0) (len:=1) rfl rfl rfl (by kernel_rfl) (by kernel_rfl) (by omega))<|A.gl [.ld 1,.p] [9,10] [(5,u_ c)] [b4]<|A.s<|A.g (ps 4) [5] [(3,jW c)]<|(A.s<|A.g [.p,.p] [] [(8,i_ 1)]<|A.aC (m:=398)<|A.c<|A.g [.p] [] [(9,b_ false)]<|A.d<|A.cf<|A.aA<|A.c<|A.g [.p,.p] [3,6,7,8,9] [(2,jW c)]<|A.e<|A.pb [jW c]<|A.h [.p] [(6,jW c)] []<|A.e<|A.Y [] [jW c] () ?_ ?_))
  ·unfold nn q8;(repeat(rw[if_pos<|by omega]));(try rfl)
  trivial
 have p6:=of_decide_eq_false e6
 refine A.p<|A.s<|A.h [.p,.p] [(0,u_ a),(7,qI b1),(8,i_ 2),(9,i_ 2)] []<|A.aC (m:=397)<|A.c<|A.g [.p] [] [(10,b_ false)]<|A.d<|A.cf<|A.aA<|A.c<|A.g [.p,.p] [0,7,8,9,10] [(4,u_ a)]<|A.e<|A.pb [u_ a]<|A.j<|A.aE 12 (e:=40) [u_ a] (by kernel_rfl) rfl (fun _=>by kernel_rfl) _ (fun _=>rfl) ?_
 intro b5
 refine A.j<|A.iX (some 13) [qJ b5] Tryz.func161 rfl (A.c<|A.g [.p] [] []<|A.c<|A.g [.p] [] [(3,u_ 9223372036854775808)]<|A.d<|A.c<|A.g (ps 3) [0] [(6,qJ b5),(7,i_ 1),(8,i_ 0)]<|A.y<|A.aV 400<|A.aC (m:=399)<|A.c<|A.g [.p] [] [(9,b_ true)]<|A.d<|A.ct<|A.p<|A.d<|A.y<|A.c<|A.j<|A.u (some 10) (p_ b5) (kS (off:=0) (sz:=1) (el:=40) (e:=0) (len:=1) rfl rfl rfl (by kernel_rfl) (by kernel_rfl) (by omega))<|A.gl [.ld 1,.p] [9,10] [(5,u_ a)] [b5]<|A.s<|A.g (ps 4) [5] [(3,jW a)]<|(A.s<|A.g [.p,.p] [] [(8,i_ 1)]<|A.aC (m:=398)<|A.c<|A.g [.p] [] [(9,b_ false)]<|A.d<|A.cf<|A.aA<|A.c<|A.g [.p,.p] [3,6,7,8,9] [(2,jW a)]<|A.e<|A.pb [jW a]<|A.h [.p] [(6,jW a)] []<|A.e<|A.Y [] [jW a] () ?_ ?_))
 ·unfold nn q8;(repeat(rw[if_neg<|by omega]));(try rfl)
 trivial
end Go.Proofs.YtobgjpigngoggaaGreat
namespace Go.Proofs.YtobgjpigngoggaaGreat
open Go V
def jj(x:Int):List Value:=[(i_ x)]
theorem fD(x:Int):(jj x).length=1:=rfl
theorem lg(x:Int):(jj x).all Value.oneCell'=true:=rfl
abbrev sI(A:Option Addr)(xs:List Int)(c:Nat):V.dB:=sl A xs.length c 3 1<|V.dF jj xs
structure Cl where
 hi:Int
 hp:Int
 hl:Bool
 ra:Int
 rb:Int
 rc:Int
 la:Int
 lb:Int
 lc:Int
 ua:Int
 ub:Int
 uc:Int
 hk:Int
 hq:Int
 deriving Inhabited,DecidableEq
def dx(x:Cl):List Value:=[(i_ x.hi),(i_ x.hp),(b_ x.hl),(u_ x.ra),(u_ x.rb),(u_ x.rc),(u_ x.la),(u_ x.lb),(u_ x.lc),(u_ x.ua),(u_ x.ub),(u_ x.uc),(i_ x.hk),(i_ x.hq)]
def dj:Cl:=⟨0,0,false,0,0,0,0,0,0,0,0,0,0,0⟩
theorem lj:jd Tryz.prog 3 (fun k:Int=>i_ k):=ee<|by kernel_rfl
def ga(l:List Int):List Int:=l.mergeSort fun x y=>decide (x≤y)
def de(kv:List (Int×Cl))(f:Cl→Bool)(seen:List Nat):List Int:=seen.filterMap fun j=>match kv[j]? with|some p=>if f p.2 then some p.1 else none|none=>none
variable{kv:List (Int×Cl)}{f:Cl→Bool}{seen:List Nat}{j:Nat}
theorem qG{k:Int}{v:Cl}(h:kv[j]? =some (k,v))(hf:f v=true):de kv f seen++[k]=de kv f (seen++[j]):=by unfold de;rw[List.filterMap_append];simp[h,hf]
theorem tC{k:Int}{v:Cl}(h:kv[j]? =some (k,v))(hf:f v=false):de kv f seen=de kv f (seen++[j]):=by unfold de;rw[List.filterMap_append];simp[h,hf]
theorem vz(kv:List (Int×Cl))(f:Cl→Bool)(seen:List Nat):(de kv f seen).length≤seen.length:=List.length_filterMap_le _ _
theorem sB: ∀{n:Nat}{l:List Nat},l.Nodup→(∀j∈l,j<n)→l.length≤n
 |0,l,_,h=>by
  cases l with
  |nil=>simp
  |cons a l=>exact absurd (h a<|by simp)<|by omega
 |n+1,l,hn,h=>by
  have h1:=sB (n:=n) (l:=l.erase n) (hn.erase n) (fun j hj=>by have h2:=(hn.mem_erase_iff).1 hj;have:=h j h2.2;have:=h2.1;omega)
  rw[List.length_erase] at h1;split at h1<;>omega
def dH(kv:List (Int×Cl))(f:Cl→Bool):List Int:=ga ((kv.filter fun p=>f p.2).map (·.1))
theorem EH{a b:List Int}(h:a.Perm b):ga a=ga b:=by
 have tr: ∀a b c:Int,decide (a≤b)=true→decide (b≤c)=true→decide (a≤c)=true:=fun a b c h1 h2=>by simp only[decide_eq_true_eq] at*;omega
 have to: ∀a b:Int,(decide (a≤b)||decide (b≤a))=true:=fun a b=>by simp only[Bool.or_eq_true,decide_eq_true_eq];omega
 unfold ga
 refine List.Perm.eq_of_pairwise (le:=fun a b:Int=>decide (a≤b)=true) (fun a b _ _ h1 h2=>?_) (List.pairwise_mergeSort tr to _) (List.pairwise_mergeSort tr to _)<|((List.mergeSort_perm _ _).trans h).trans (List.mergeSort_perm _ _).symm
 simp only[decide_eq_true_eq] at h1 h2;omega
theorem EI(f:Cl→Bool): ∀(kv:List (Int×Cl)),de kv f (List.range kv.length)=(kv.filter fun p=>f p.2).map (·.1)
 |[]=>rfl
 |p::kv=>by
  have ih:=EI f kv
  unfold de at ih⊢
  rw[List.length_cons,List.range_succ_eq_map,List.filterMap_cons,List.filterMap_map]
  have e:((fun j=>match(p::kv)[j]? with|some p=>if f p.2 then some p.1 else none|none=>none)∘Nat.succ)=fun j=>match kv[j]? with|some p=>if f p.2 then some p.1 else none|none=>none:=by
   funext j;simp
  rw[e,ih];simp only[List.getElem?_cons_zero,List.filter_cons]
  cases f p.2<;>simp
theorem qz(hn:seen.Nodup)(hb: ∀j∈seen,j<kv.length)(ha: ∀j,j<kv.length→j∈seen):ga (de kv f seen)=dH kv f:=by
 unfold dH;rw[←EI];refine EH ?_
 have hp:seen.Perm (List.range kv.length):=(List.perm_ext_iff_of_nodup hn List.nodup_range).2 fun j=>by rw[List.mem_range];exact⟨hb j,ha j⟩
 exact hp.filterMap _
theorem nU(l:List Int):(ga l).length=l.length:=by unfold ga;simp
theorem jO{p:Int×Cl}(hn:seen.Nodup)(hb: ∀j∈seen,j<kv.length)(hj:kv[j]? =some p)(hs:j∉seen):(seen++[j]).Nodup∧(∀i∈seen++[j],i<kv.length)∧seen.length<kv.length:=by
 have hl:=(List.getElem?_eq_some_iff.1 hj).1
 have h1:(seen++[j]).Nodup:=List.nodup_append.2 ⟨hn,by simp,fun a ha b hb e=>by simp at hb;subst hb;subst e;exact hs ha⟩
 have h2: ∀i∈seen++[j],i<kv.length:=fun i hi=>by
  rcases List.mem_append.1 hi with hi|hi
  ·exact hb i hi
  ·simp at hi;omega
 have:=sB h1 h2
 exact⟨h1,h2,by simp at this;omega⟩
theorem ND:ga []=[]:=by simp[ga]
abbrev dy(b:Nat)(kv:List (Int×Cl)):V.dB:=dY (fun k:Int=>i_ k) (fun v_:Cl=>(.agg (dx v_).toArray)) b kv
open Go.RowKit Go.Maps Go.Sort Go.Shelf
def Tryz.sortA_ren:Go.Shelf.Ren:=⟨fun|5=>96|8=>140|7=>139|19=>192|20=>193|10=>183|11=>184|12=>185|13=>186|14=>187|15=>188|16=>189|17=>190|18=>191|30=>236|31=>237|32=>238|33=>239|34=>240|35=>241|40=>260|n=>n,fun|23=>65|25=>3|3=>3|32=>263|22=>65|0=>0|44=>312|46=>40|4=>4|36=>305|35=>304|41=>152|5=>5|9=>9|53=>348|57=>351|63=>371|64=>372|n=>n,fun|n=>n⟩
theorem Tryz.sortA:Go.Proofs.SlLaysM.n5 Tryz.prog Tryz.sortA_ren:={
 mixed:=by kernel_rfl,
 f5:=⟨Tryz.f96.name,by decide,Tryz.func96.trans<|congrArg some<|by kernel_rfl⟩,
 f7:=⟨Tryz.f139.name,by decide,Tryz.func139.trans<|congrArg some<|by kernel_rfl⟩,
 f8:=Tryz.func140.trans<|congrArg some<|by kernel_rfl,
 f10:=⟨Tryz.f183.name,by decide,Tryz.func183.trans<|congrArg some<|by kernel_rfl⟩,
 f11:=⟨Tryz.f184.name,by decide,Tryz.func184.trans<|congrArg some<|by kernel_rfl⟩,
 f12:=⟨Tryz.f185.name,by decide,Tryz.func185.trans<|congrArg some<|by kernel_rfl⟩,
 f13:=⟨Tryz.f186.name,by decide,Tryz.func186.trans<|congrArg some<|by kernel_rfl⟩,
 f14:=⟨Tryz.f187.name,by decide,Tryz.func187.trans<|congrArg some<|by kernel_rfl⟩,
 f15:=⟨Tryz.f188.name,by decide,Tryz.func188.trans<|congrArg some<|by kernel_rfl⟩,
 f16:=⟨Tryz.f189.name,by decide,Tryz.func189.trans<|congrArg some<|by kernel_rfl⟩,
 f17:=⟨Tryz.f190.name,by decide,Tryz.func190.trans<|congrArg some<|by kernel_rfl⟩,
 f18:=⟨Tryz.f191.name,by decide,Tryz.func191.trans<|congrArg some<|by kernel_rfl⟩,
 f19:=Tryz.func192.trans<|congrArg some<|by kernel_rfl,
 f20:=Tryz.func193.trans<|congrArg some<|by kernel_rfl,
 f30:=⟨Tryz.f236.name,by decide,Tryz.func236.trans<|congrArg some<|by kernel_rfl⟩,
 f31:=Tryz.func237.trans<|congrArg some<|by kernel_rfl,
 f32:=Tryz.func238.trans<|congrArg some<|by kernel_rfl,
 f33:=⟨Tryz.f239.name,by decide,Tryz.func239.trans<|congrArg some<|by kernel_rfl⟩,
 f34:=⟨Tryz.f240.name,by decide,Tryz.func240.trans<|congrArg some<|by kernel_rfl⟩,
 f35:=⟨Tryz.f241.name,by decide,Tryz.func241.trans<|congrArg some<|by kernel_rfl⟩,
 f40:=⟨Tryz.f260.name,by decide,Tryz.func260.trans<|congrArg some<|by kernel_rfl⟩,
 t0:=Tryz.underlying0,
 a0:=Tryz.isAgg0,
 z0:=Tryz.sizeOf0,
 v0:=Tryz.zeroValue0,
 t3:=Tryz.underlying3,
 a3:=Tryz.isAgg3,
 z3:=Tryz.sizeOf3,
 v3:=Tryz.zeroValue3,
 t4:=Tryz.underlying4,
 a4:=Tryz.isAgg4,
 z4:=Tryz.sizeOf4,
 v4:=Tryz.zeroValue4,
 t5:=Tryz.underlying5,
 a5:=Tryz.isAgg5,
 z5:=Tryz.sizeOf5,
 v5:=Tryz.zeroValue5,
 t9:=Tryz.underlying9,
 a9:=Tryz.isAgg9,
 z9:=Tryz.sizeOf9,
 v9:=Tryz.zeroValue9,
 t22:=Tryz.underlying65,
 a22:=Tryz.isAgg65,
 z22:=Tryz.sizeOf65,
 v22:=Tryz.zeroValue65,
 t23:=Tryz.underlying65,
 a23:=Tryz.isAgg65,
 z23:=Tryz.sizeOf65,
 v23:=Tryz.zeroValue65,
 t25:=Tryz.underlying3,
 a25:=Tryz.isAgg3,
 z25:=Tryz.sizeOf3,
 v25:=Tryz.zeroValue3,
 t32:=Tryz.underlying263,
 a32:=Tryz.isAgg263,
 z32:=Tryz.sizeOf263,
 v32:=Tryz.zeroValue263,
 t35:=Tryz.underlying304,
 a35:=Tryz.isAgg304,
 z35:=Tryz.sizeOf304,
 v35:=Tryz.zeroValue304,
 t36:=Tryz.underlying305,
 a36:=Tryz.isAgg305,
 z36:=Tryz.sizeOf305,
 v36:=Tryz.zeroValue305,
 t41:=Tryz.underlying152,
 a41:=Tryz.isAgg152,
 z41:=Tryz.sizeOf152,
 v41:=Tryz.zeroValue152,
 t44:=Tryz.underlying312,
 a44:=Tryz.isAgg312,
 z44:=Tryz.sizeOf312,
 v44:=Tryz.zeroValue312,
 t46:=Tryz.underlying40,
 a46:=Tryz.isAgg40,
 z46:=Tryz.sizeOf40,
 v46:=Tryz.zeroValue40,
 t53:=Tryz.underlying348,
 a53:=Tryz.isAgg348,
 z53:=Tryz.sizeOf348,
 v53:=Tryz.zeroValue348,
 t57:=Tryz.underlying351,
 a57:=Tryz.isAgg351,
 z57:=Tryz.sizeOf351,
 v57:=Tryz.zeroValue351,
 t63:=Tryz.underlying371,
 a63:=Tryz.isAgg371,
 z63:=Tryz.sizeOf371,
 v63:=Tryz.zeroValue371,
 t64:=Tryz.underlying372,
 a64:=Tryz.isAgg372,
 z64:=Tryz.sizeOf372,
 v64:=Tryz.zeroValue372}
theorem uC(A:Option Addr)(l:List Int)(c:Nat)(hl:l.length≤100000):
  CS 96 #[vS A l c] [sI A l c] (fun(zz:Unit)=>(.tuple #[])) (fun _=>True) fun _=>[sI A (ga l) c]:=by
 intro w hs
 have h0:(sI A l c).holds w:=hs.all _<|by simp
 cases A with
 |none=>
  have hl0:l=[]:=by
   obtain⟨_,h2,_,⟨_,h4⟩|⟨_,_,_,h4,_⟩⟩:=h0
   ·exact List.eq_nil_of_length_eq_zero<|by omega
   ·cases h4
  subst hl0
  refine(AnyM.slices_Sort_int_none Tryz.sortA none c w).mono ?_
  rintro e w' ⟨rfl,rfl⟩
  refine⟨(),rfl,trivial,?_⟩
  rw[ND];exact Turn.of hs<|.refl _
 |some a=>
  obtain⟨g,off,rfl⟩: ∃g off,a=⟨g,off,none⟩:=by
   obtain⟨_,_,_,⟨h4,_⟩|⟨g,off,_,h4,_⟩⟩:=id h0
   ·cases h4
   ·cases h4;exact⟨g,off,rfl⟩
  obtain⟨hH,hlt⟩:=NM (fun _=>rfl) h0
  refine(AnyM.slices_Sort_int Tryz.sortA g off c l w hH hlt<|by omega).mono ?_
  rintro e w' ⟨rfl,k,os,rfl⟩
  exact⟨(),rfl,trivial,Lj (fun _=>rfl) (by simp[ga]) h0⟩
end Go.Proofs.YtobgjpigngoggaaGreat
namespace Go.Proofs.YtobgjpigngoggaaGreat
open Go V
def iC(n a b:Int):Bool:=decide (n≥a)&&decide (n≤b)
def fc(y:Cl):Int:=
 if y.hi<1∨y.hi>65536∨y.hp<0∨y.hp>65536∨y.hi=y.hp then 1
 else if(dK y.ra y.rb y.rc)=0∨(dK y.la y.lb y.lc)=0∨(dK y.ua y.ub y.uc)=0∨(dK y.la y.lb y.lc)=4∨(dK y.ua y.ub y.uc)=4 then 21
 else if(dK y.ua y.ub y.uc)>1∧(dK y.la y.lb y.lc)=1 then 29
 else if y.hl=true then(if y.hk<1∨y.hk>64∨y.hq<1∨y.hq>1048576∨((dK y.ra y.rb y.rc)=1∧(dK y.la y.lb y.lc)=1) then 29 else 0)
 else if y.hk≠0∨y.hq≠0∨(dK y.ra y.rb y.rc)≠1 then 29 else 0
def qF(y:Cl):Int:=
 if y.hi<1∨y.hi>65536∨y.hp<0∨y.hp>65536∨y.hi=y.hp then 1
 else if(jG y.ra y.rb y.rc)=0∨(jG y.la y.lb y.lc)=0∨(jG y.ua y.ub y.uc)=0∨(jG y.la y.lb y.lc)=4∨(jG y.ua y.ub y.uc)=4 then 21
 else if(jG y.ua y.ub y.uc)>1∧(jG y.la y.lb y.lc)=1 then 29
 else if y.hl=true then(if y.hk<1∨y.hk>64∨y.hq<1∨y.hq>1048576∨((jG y.ra y.rb y.rc)=1∧(jG y.la y.lb y.lc)=1) then 29 else 0)
 else if y.hk≠0∨y.hq≠0∨(jG y.ra y.rb y.rc)≠1 then 29 else 0
theorem zh(a b c:Int)(w:World):
  CW 130 #[.agg #[u_ a,u_ b,u_ c]] w (b_<|decide (dK a b c>1)):=by
 refine A.C Tryz.func130 rfl (HS.nil w) (A.c<|A.n1 [.al,.p] [0] (fun b1=>[(1,p_ b1)]) (fun b1=>cw b1 [u_ a,u_ b,u_ c] 60) ?_)
 intro b1
 refine A.c<|A.k [.ld 0,.cq<|i_<|dK a b c,.p,.p] [1] [(2,b_<|decide ((dK a b c)>1))] [b1] (o1<|qo<|fun w s=>pZ a b c w)<|A.e<|A.W [b_<|decide ((dK a b c)>1)] ?_
 rfl
abbrev AP(p0:Cl):=(b_ (decide (dK p0.ra p0.rb p0.rc>1)):Value)
theorem qg(y:Cl)(w:World):
  CW 103 #[.agg (dx y).toArray] w (b_<|decide ((dK y.ra y.rb y.rc)>1)):=by
 refine A.C Tryz.func103 rfl (HS.nil w) (A.c<|A.n1 [.al,.p] [0] (fun b1=>[(1,p_ b1)]) (fun b1=>cw b1 (dx y) 62) ?_)
 intro b1
 refine A.c<|A.k [.p,.ld 0,.cq<|AP y,.p] [1] [(2,AP y)] [b1] (o1<|qo<|fun w s=>zh y.ra y.rb y.rc w)<|A.e<|A.W [AP y] ?_
 rfl
abbrev AQ(p0:Cl):=(b_ (decide (dK p0.la p0.lb p0.lc>1)):Value)
theorem nP(y:Cl)(w:World):
  CW 90 #[.agg (dx y).toArray] w (b_<|decide ((dK y.la y.lb y.lc)>1)):=by
 refine A.C Tryz.func90 rfl (HS.nil w) (A.c<|A.n1 [.al,.p] [0] (fun b1=>[(1,p_ b1)]) (fun b1=>cw b1 (dx y) 62) ?_)
 intro b1
 refine A.c<|A.k [.p,.ld 0,.cq<|AQ y,.p] [1] [(2,AQ y)] [b1] (o1<|qo<|fun w s=>zh y.la y.lb y.lc w)<|A.e<|A.W [AQ y] ?_
 rfl
abbrev AS(p0:Cl):=(b_ (decide (dK p0.ua p0.ub p0.uc>1)):Value)
theorem KY(y:Cl)(w:World):
  CW 224 #[.agg (dx y).toArray] w (b_<|decide ((dK y.ua y.ub y.uc)>1)):=by
 refine A.C Tryz.func224 rfl (HS.nil w) (A.c<|A.n1 [.al,.p] [0] (fun b1=>[(1,p_ b1)]) (fun b1=>cw b1 (dx y) 62) ?_)
 intro b1
 refine A.c<|A.k [.p,.ld 0,.cq<|AS y,.p] [1] [(2,AS y)] [b1] (o1<|qo<|fun w s=>zh y.ua y.ub y.uc w)<|A.e<|A.W [AS y] ?_
 rfl
theorem vW(n a b:Int)(w:World):
  CW 223 #[i_ n,i_ a,i_ b] w (b_<|iC n a b):=by
 refine A.C Tryz.func223 rfl (HS.nil w) (A.c<|A.g [.p] [] []<|A.c<|A.g [.p,.p,.p,.p,.o,.p,.p,.p,.cl,.p] [0,1,2] [(6,b_<|(decide (n≥a))&&(decide (n≤b)))]<|A.e<|A.W [b_<|(decide (n≥a))&&(decide (n≤b))] ?_)
 rfl
def dD(kv:List (Int×Cl))(k:Int):Cl:=(cu kv k).getD dj
def fZ(kv:List (Int×Cl))(k:Int):Int:=if(cu kv k).isSome=true then 0 else 6
variable{kv:List (Int×Cl)}
theorem C2{k:Int}(h:fZ kv k=0):cu kv k≠none:=by unfold fZ at h;cases hm:cu kv k with|none=>simp[hm] at h|some v=>simp
theorem JS{k:Int}(h:fZ kv k≠0):cu kv k=none:=by unfold fZ at h;cases hm:cu kv k with|none=>rfl|some v=>simp[hm] at h
def iV(kv:List (Int×Cl))(k:Int):Bool:=k==0||decide ((dK (dD kv k).la (dD kv k).lb (dD kv k).lc)>1)
def fl(kv:List (Int×Cl))(ci:Int):Nat→Int
 |0=>ci
 |k+1=>(dD kv<|fl kv ci k).hp
def fx(kv:List (Int×Cl))(ci:Int)(k:Nat):List Int:=(List.range k).map (fl kv ci)
theorem FR(kv:List (Int×Cl))(ci:Int)(k:Nat):fx kv ci k++[fl kv ci k]=fx kv ci (k+1):=by unfold fx;rw[List.range_succ];simp
variable{k:Nat}
theorem IF{ci:Int}{d:Nat}(hd: ∀j,j<d→cu kv (fl kv ci j)≠none)(hk:k≤d)(h: ¬fZ kv (fl kv ci k)=0):k=d:=by
 rcases Nat.lt_or_ge k d with h1|h1
 ·exact absurd (JS h)<|hd k h1
 ·omega
theorem UC{ci:Int}{d:Nat}(he:cu kv (fl kv ci d)=none)(hk:k≤d)(h:fZ kv (fl kv ci k)=0):k<d:=by
 rcases Nat.lt_or_ge k d with h1|h1
 ·exact h1
 ·have:k=d:=by omega
  subst this;exact absurd he<|C2 h
theorem AT(kv:List (Int×Cl))(ci:Int)(k:Nat):(fx kv ci k).length=k:=by simp[fx]
theorem rK(bt mb:Nat)(kv:List (Int×Cl))(ci:Int)(w:World)(r0:(cw bt [.map<|some mb] 185).holds w)(r1:(dy mb kv).holds w):
  CW 72 #[p_ bt,i_ ci] w (.tuple #[.agg (dx<|dD kv ci).toArray,i_<|fZ kv ci]):=by
 refine A.C Tryz.func72 rfl (HS.nil w) (A.c<|A.n1 [.al,.p] [] (fun b1=>[(4,p_ b1)]) (fun b1=>cw b1 [i_ 0,i_ 0,b_ false,u_ 0,u_ 0,u_ 0,u_ 0,u_ 0,u_ 0,u_ 0,u_ 0,u_ 0,i_ 0,i_ 0] 62) ?_)
 intro b1
 refine A.d<|A.c<|A.g [.p,.p] [] [(9,b_ false)]<|A.cf<|A.p<|A.c<|A.kp [.p,.p,.p,.rd [.map<|some mb],.p] [0,1,9] [(15,.map<|some mb),(16,i_ ci)] [] (o1<|ro ⟨bt,0,none⟩ (vs:=[.map<|some mb])<|df r0 rfl)<|A.j<|A.u (some 17) _ (tf 3 62 ci dj (fun w s=>d6 s r1) lj)<|A.g1 [.p,.p,.p,.al,.st 1,.p] [15,16,17] (fun b2=>[(6,p_ b2),(7,b_<|(cu kv ci).isSome)]) (fun b2=>[]) (fun b2=>cw b2 (dx<|(cu kv ci).getD dj) 62) (fun b2=>[b2]) ?_
 intro b2
 refine A.d<|A.c<|A.g [.p,.p] [7] [(21,b_ (!((cu kv ci).isSome)))]<|A.v rfl (fun e1=>?_) (fun e1=>?_)
 ·refine A.c (A.gs [.p,.st 0,.p] [6,21] [(5,i_ 6)] [] [b1]<|A.e<|A.aj 0 [i_ 0,i_ 0,b_ false,u_ 0,u_ 0,u_ 0,u_ 0,u_ 0,u_ 0,u_ 0,u_ 0,u_ 0,i_ 0,i_ 0] (i_ 6) ?_)
  ((have hn_:cu kv ci=none:=by simp_all);simp[dD,fZ,hn_];rfl)
 refine A.p<|A.c<|A.gs [.ld 1,.st 0,.p] [6,21] [(5,i_ 0)] [(0,cw b1 (dx<|(cu kv ci).getD dj) 62)] [b2,b1]<|A.e<|A.aj 0 (dx<|(cu kv ci).getD dj) (i_ 0) ?_
 show((.tuple #[.agg (dx<|(cu kv ci).getD dj).toArray,i_ 0]):Value)=(.tuple #[.agg (dx<|dD kv ci).toArray,i_<|fZ kv ci])
 ((simp_all[dD,fZ];done))
theorem Dc(bt mb:Nat)(kv:List (Int×Cl))(ci:Int)(w:World)(r0:(cw bt [.map<|some mb] 185).holds w)(r1:(dy mb kv).holds w):
  CW 170 #[p_ bt,i_ ci] w (b_<|iV kv ci):=by
 refine A.C Tryz.func170 rfl (HS.nil w) (A.c<|A.g [.p] [] []<|A.c<|A.N (ps 3) [] [(7,b_<|ci==0)]<|A.aP (ci==0) (fun e1=>?_)<|fun e1=>?_)
 ·refine A.D 7 (b_ true) (gu e1)<|A.g [.sk,.sk,.sk,.sk,.sk,.sk,.sk,.p,.p] [0,1,7] [(4,b_ true)]<|A.e<|A.W [b_ true] ?_
  show((b_ true):Value)=(b_<|iV kv ci)
  simp_all[iV,dD]
 refine A.D 7 (b_ false) (gu e1)<|A.kp [.p,.p,.p,.rd [.map<|some mb],.p] [0,1] [(11,.map<|some mb),(12,i_ ci)] [] (o1<|ro ⟨bt,0,none⟩ (vs:=[.map<|some mb])<|df r0 rfl)<|A.j<|A.u (some 13) _ (qL 3 62 ci dj (fun w s=>d6 s r1) lj)<|A.k [.cq<|b_<|decide ((dK ((cu kv ci).getD dj).la ((cu kv ci).getD dj).lb ((cu kv ci).getD dj).lc)>1),.p,.p] [7,11,12,13] [(4,b_<|decide ((dK ((cu kv ci).getD dj).la ((cu kv ci).getD dj).lb ((cu kv ci).getD dj).lc)>1))] [] (o1<|qo<|fun w s=>nP ((cu kv ci).getD dj) w)<|A.e<|A.W [b_<|decide ((dK ((cu kv ci).getD dj).la ((cu kv ci).getD dj).lb ((cu kv ci).getD dj).lc)>1)] ?_
 show((b_<|decide ((dK ((cu kv ci).getD dj).la ((cu kv ci).getD dj).lb ((cu kv ci).getD dj).lc)>1)):Value)=(b_<|iV kv ci)
 simp_all[iV,dD]
theorem JU(bt mb:Nat)(kv:List (Int×Cl))(ci:Int)(d:Nat)(hd: ∀j,j<d→cu kv (fl kv ci j)≠none)(he:cu kv (fl kv ci d)=none)(hd7:d≤1000)(w:World)(r0:(cw bt [.map<|some mb] 185).holds w)(r1:(dy mb kv).holds w)(hs:HI w []):
  CV 101 #[p_ bt,i_ ci] w [] (fun((al',cl'):(Option Addr)×Nat)=>(vS al' (fx kv ci d) cl')) (fun _=>True) fun(al',cl')=>[sI al' (fx kv ci d) cl']:=by
 refine A.C Tryz.func101 rfl hs (A.c<|A.g [.p] [] []<|A.c<|A.g [.p] [] [(5,e_)]<|A.y<|A.aM 3 1 [sI none ([]:List Int) 0] rfl (A.D 1 (i_<|fl kv ci 0) (mE<|by rfl)<|A.su 0 (sI none (fx kv ci 0) 0) rfl (eI (by rfl:([]:List Int)=(fx kv ci 0))) (A.D 5 (vS none (fx kv ci 0) 0) (congrArg (fun z_:List Int=>some<|Value.slice none z_.length 0) (by rfl:([]:List Int)=(fx kv ci 0)))<|A.lp (σ:=Nat×(Option Addr)×Nat) [] (fun(k,ao,co)=>[(5,vS ao (fx kv ci k) co),(1,i_<|fl kv ci k)]) [0] (fun(k,ao,co)=>[sI ao (fx kv ci k) co]) (fun(k,ao,co)=>(k≤d)) (fun(k,ao,co)=>d+1-k) (0,none,0) (by omega) ?_ ?_)))
 ·exact A.J [0]
 rintro⟨k,ao,co⟩ hk
 have hk:k≤d:=hk
 refine A.y<|A.c<|A.no [.p,.p,.cq<|.tuple #[.agg (dx<|dD kv<|fl kv ci k).toArray,i_<|fZ kv<|fl kv ci k],.p,.p,.p,.al,.st 1,.p] [] (fun b2=>[(6,p_ b2),(7,i_<|fZ kv<|fl kv ci k)]) (fun b2=>[]) (fun b2=>cw b2 (dx<|dD kv<|fl kv ci k) 62) (fun b2=>[b2]) (fun b2=>o1<|qo<|fun w s=>rK bt mb kv (fl kv ci k) w (d6 s r0)<|d6 s r1) ?_
 intro b2
 refine A.d<|A.c<|A.g [.p,.p] [7] [(15,b_<|(fZ kv<|fl kv ci k)!=0)]<|A.v rfl (fun e1=>?_) (fun e1=>?_)
 ·have p1:=e1;try simp only[dc] at p1
  refine A.c<|A.g [.p,.p] [0,5,1,6,15] [(4,vS ao (fx kv ci k) co)]<|A.e<|A.su 0 (sI ao (fx kv ci d) co) rfl (eI (by rw[IF hd hk ‹_›]:(fx kv ci k)=(fx kv ci d))) (A.Y [0] [vS ao (fx kv ci k) co] (ao,co) ?_ ?_)
  ·show((vS ao (fx kv ci k) co):Value)=(vS ao (fx kv ci d) co)
   rw[IF hd hk ‹_›]
  trivial
 have p1:=e1;try simp only[dc] at p1
 refine A.p<|A.c<|A.N [.p,.p] [1,15] [(17,vS ao (fx kv ci k) co),(18,i_<|fl kv ci k)]<|A.j<|A.aE 19 (e:=3) [i_<|fl kv ci k] (by kernel_rfl) rfl (fun _=>by kernel_rfl) _ (fun _=>rfl) ?_
 intro b3
 refine A.j<|A.ap jj (fx kv ci k) ([fl kv ci k]) 0 20 (i_ 0) 8 fD lg (gG (i:=2) rfl) (by simp[AT];omega) ?_
 intro A4 c4
 refine A.g [.p] [17,18,19,20] [(5,vS A4 ((fx kv ci k)++([fl kv ci k])) c4)]<|A.s<|A.gl [.p,.ld 1,.p] [6] [(1,i_<|(dD kv<|fl kv ci k).hp)] [b2]<|A.D 1 (i_<|fl kv ci<|k+1) (mE<|by rfl)<|A.su 0 (sI A4 (fx kv ci<|k+1) c4) rfl (eI (FR _ _ _:(fx kv ci k)++([fl kv ci k])=(fx kv ci<|k+1))) (A.D 5 (vS A4 (fx kv ci<|k+1) c4) (fN<|FR _ _ _)<|A.Z (k+1,A4,c4) (UC he hk ‹_›) (by(show d+1-(k+1)<d+1-k;omega)) ?_)
 exact A.J [0]
theorem M9(bt mb:Nat)(kv:List (Int×Cl))(ci:Int)(d:Nat)(hd: ∀j,j<d→cu kv (fl kv ci j)≠none)(he:cu kv (fl kv ci d)=none)(hd7:d≤1000)(w:World)(r0:(cw bt [.map<|some mb] 185).holds w)(r1:(dy mb kv).holds w):
  CW 171 #[p_ bt,i_ ci] w (c_ d):=by
 refine A.C Tryz.func171 rfl (HS.nil w) (A.c<|A.g [.p] [] []<|A.c<|A.N [.p,.p] [0,1] [(5,p_ bt),(6,i_ ci)]<|A.j<|A.I (some 7) [] (fun w s h=>JU bt mb kv ci d ‹_› ‹_› ‹_› w (d6 s r0) (d6 s r1) h) ?_)
 rintro⟨al'1,cl'2⟩-
 refine A.g [.p,.p] [5,6,7] [(4,i_ ((fx kv ci d).length:Int))]<|A.e<|A.W [i_ ((fx kv ci d).length:Int)] ?_
 show((i_ ((fx kv ci d).length:Int)):Value)=(c_ d)
 rw[AT]
abbrev Gg(p0:Cl):=((30,.agg #[u_ p0.ra,u_ p0.rb,u_ p0.rc,u_ p0.la,u_ p0.lb,u_ p0.lc,u_ p0.ua,u_ p0.ub,u_ p0.uc]):Nat×Value)
abbrev uW(p0:Cl):=(b_ ((dK p0.la p0.lb p0.lc)==4):Value)
theorem EE(y:Cl)(w:World):
  CW 169 #[.agg (dx y).toArray] w (i_<|fc y):=by
 have q1:=uV y.ra y.rb y.rc;have q2:=uV y.la y.lb y.lc;have q3:=uV y.ua y.ub y.uc
 refine A.C Tryz.func169 rfl (HS.nil w) (A.c<|A.n1 [.al,.p] [0] (fun b1=>[(1,p_ b1)]) (fun b1=>cw b1 (dx y) 62) ?_)
 intro b1
 refine A.d<|A.c<|A.k [.p,.ld 0,.cq<|b_<|iC y.hi 1 65536,.p,.p,.o,.p,.ld 0,.cq<|b_<|iC y.hp 0 65536,.p,.cl,.p,.o,.p,.ld 0,.p,.ld 0,.p,.cl] [] [(23,b_<|((!(iC y.hi 1 65536))||(!(iC y.hp 0 65536)))||(y.hp==y.hi))] [b1,b1,b1,b1] (oc (qo<|fun w s=>vW y.hi 1 65536 w)<|o1<|go (true&&((!(iC y.hi 1 65536))==false)) fun h_=>(qo<|fun w s=>vW y.hp 0 65536 w))<|A.v rfl (fun e1=>?_) (fun e1=>?_)
 ·refine A.c<|A.g [.p] [1,23] [(2,i_ 1)]<|A.e<|A.W [i_ 1] ?_
  refine congrArg (Value.int .i64) ?_;unfold fc;unfold iC at*;grind
 refine A.p<|A.d<|A.c<|A.gl [.p,.ld 0,.p,.ld 0,.p,.ld 0,.p,.p] [23] [(Gg y),(31,i_ 0)] [b1,b1,b1]<|A.y<|A.aV 400<|A.aC (m:=399)<|A.c<|A.g [.p] [] [(32,b_ true)]<|A.d<|A.ct<|A.p<|A.d<|A.y<|A.c<|A.g1 [.p,.p,.al,.p,.st 1] [32] (fun b2=>[(4,p_ b2),(3,i_ 0)]) (fun b2=>[]) (fun b2=>cw b2 [u_ y.ra,u_ y.rb,u_ y.rc] 60) (fun b2=>[b2]) ?_
 intro b2
 refine A.c<|A.kp [.ld 1,.cq<|b_<|dK y.ra y.rb y.rc !=0,.p,.p] [] [(38,b_ (!(dK y.ra y.rb y.rc !=0)))] [b2] (o1<|qo<|fun w s=>qe y.ra y.rb y.rc w)<|A.aP (!(dK y.ra y.rb y.rc !=0)) (fun e2=>?_)<|fun e2=>?_
 ·refine A.D 38 (b_ true) (gu e2)<|A.g [.sk,.sk,.sk,.sk,.sk,.sk,.sk,.p] [4,3,38] [(46,b_ true)]<|A.ct<|A.c<|A.g [.p] [1,30,31,46] [(2,i_ 21)]<|A.e<|A.W [i_ 21] ?_
  refine congrArg (Value.int .i64) ?_;unfold fc;unfold iC at*;grind
 refine A.D 38 (b_ false) (gu e2)<|A.g [.p,.p,.p,.sk,.sk,.sk,.p,.p] [4,3,38] [(39,i_ 0),(40,b_ false),(41,b_ false),(45,b_ false),(46,b_ false)]<|A.cf<|A.p<|A.s<|A.g [.p,.p] [46] [(31,i_ 1)]<|A.aC (m:=398)<|A.c<|A.g [.p] [] [(32,b_ true)]<|A.d<|A.ct<|A.p<|A.d<|A.y<|A.c<|A.g1 [.p,.p,.al,.p,.st 2] [32] (fun b3=>[(4,p_ b3),(3,i_ 1)]) (fun b3=>[]) (fun b3=>cw b3 [u_ y.la,u_ y.lb,u_ y.lc] 60) (fun b3=>[b3]) ?_
 intro b3
 refine A.c<|A.kp [.ld 2,.cq<|b_<|dK y.la y.lb y.lc !=0,.p,.p] [] [(38,b_ (!(dK y.la y.lb y.lc !=0)))] [b3] (o1<|qo<|fun w s=>qe y.la y.lb y.lc w)<|A.aP (!(dK y.la y.lb y.lc !=0)) (fun e3=>?_)<|fun e3=>?_
 ·refine A.D 38 (b_ true) (gu e3)<|A.g [.sk,.sk,.sk,.sk,.sk,.sk,.sk,.p] [39,40,41,45,4,3,38] [(46,b_ true)]<|A.ct<|A.c<|A.g [.p] [1,30,31,46] [(2,i_ 21)]<|A.e<|A.W [i_ 21] ?_
  refine congrArg (Value.int .i64) ?_;unfold fc;unfold iC at*;grind
 refine A.D 38 (b_ false) (gu e3)<|A.k [.p,.p,.p,.ld 2,.cq<|i_<|dK y.la y.lb y.lc,.p,.p,.p] [4,3,38] [(39,i_ 1),(40,b_ true),(41,b_ true),(45,uW y),(42,.agg #[u_ y.la,u_ y.lb,u_ y.lc]),(43,i_<|dK y.la y.lb y.lc),(44,uW y),(46,uW y)] [b3] (o1<|qo<|fun w s=>pZ y.la y.lb y.lc w)<|A.v rfl (fun e4=>?_) (fun e4=>?_)
 ·refine A.c<|A.g [.p] [1,30,31,39,40,41,45,42,43,44,46] [(2,i_ 21)]<|A.e<|A.W [i_ 21] ?_
  refine congrArg (Value.int .i64) ?_;unfold fc;unfold iC at*;grind
 have p4:=e4
 refine A.p<|A.s<|A.g [.p,.p] [46] [(31,i_ 2)]<|A.aC (m:=397)<|A.c<|A.g [.p] [] [(32,b_ true)]<|A.d<|A.ct<|A.p<|A.d<|A.y<|A.c<|A.m1 [.p,.p,.al,.p,.st 3] (fun b4=>[(1,p_ b1),(Gg y),(31,i_ 2),(39,i_ 1),(40,b_ true),(41,b_ true),(45,uW y),(42,.agg #[u_ y.la,u_ y.lb,u_ y.lc]),(43,i_<|dK y.la y.lb y.lc),(44,uW y),(4,p_ b4),(3,i_ 2)]) (fun _=>[]) (fun b4=>cw b4 [u_ y.ua,u_ y.ub,u_ y.uc] 60) (fun b4=>[b4]) ?_
 intro b4
 refine A.c<|A.kp [.ld 3,.cq<|b_<|dK y.ua y.ub y.uc !=0,.p,.p] [] [(38,b_ (!(dK y.ua y.ub y.uc !=0)))] [b4] (o1<|qo<|fun w s=>qe y.ua y.ub y.uc w)<|A.aP (!(dK y.ua y.ub y.uc !=0)) (fun e5=>?_)<|fun e5=>?_
 ·refine A.D 38 (b_ true) (gu e5)<|A.g [.sk,.sk,.sk,.sk,.sk,.sk,.sk,.p] [39,40,41,45,42,43,44,4,3,38] [(46,b_ true)]<|A.ct<|A.c<|A.g [.p] [1,30,31,46] [(2,i_ 21)]<|A.e<|A.W [i_ 21] ?_
  refine congrArg (Value.int .i64) ?_;unfold fc;unfold iC at*;grind
 refine A.D 38 (b_ false) (gu e5)<|A.k [.p,.p,.p,.ld 3,.cq<|i_<|dK y.ua y.ub y.uc,.p,.p,.p] [4,3,38] [(39,i_ 2),(45,b_<|(dK y.ua y.ub y.uc)==4),(42,.agg #[u_ y.ua,u_ y.ub,u_ y.uc]),(43,i_<|dK y.ua y.ub y.uc),(44,b_<|(dK y.ua y.ub y.uc)==4),(46,b_<|(dK y.ua y.ub y.uc)==4)] [b4] (o1<|qo<|fun w s=>pZ y.ua y.ub y.uc w)<|A.v rfl (fun e6=>?_) (fun e6=>?_)
 ·refine A.c<|A.g [.p] [1,30,31,39,40,41,45,42,43,44,46] [(2,i_ 21)]<|A.e<|A.W [i_ 21] ?_
  refine congrArg (Value.int .i64) ?_;unfold fc;unfold iC at*;grind
 have p6:=e6
 refine A.p<|A.s<|A.g [.p,.p] [46] [(31,i_ 3)]<|A.aC (m:=396)<|A.c<|A.g [.p] [] [(32,b_ false)]<|A.d<|A.cf<|A.aA<|A.c<|A.k [.p,.ld 0,.cq<|b_<|iC y.hk 1 64,.p,.o,.p,.ld 0,.cq<|b_<|iC y.hq 1 1048576,.cl,.p,.o,.ld 0,.cq<|b_<|decide ((dK y.ra y.rb y.rc)>1),.p,.o,.ld 0,.cq<|b_<|decide ((dK y.la y.lb y.lc)>1),.cl,.cl,.p] [30,31,39,40,41,45,42,43,44,32] [(5,b_<|((iC y.hk 1 64)&&(iC y.hq 1 1048576))&&((decide ((dK y.ra y.rb y.rc)>1))||(decide ((dK y.la y.lb y.lc)>1))))] [b1,b1,b1,b1] (oc (qo<|fun w s=>vW y.hk 1 64 w)<|oc (go (true&&((iC y.hk 1 64)==true)) fun h_=>(qo<|fun w s=>vW y.hq 1 1048576 w))<|oc (go (true&&(((iC y.hk 1 64)&&(iC y.hq 1 1048576))==true)) fun h_=>(qo<|fun w s=>qg y w))<|o1<|go ((true&&(((iC y.hk 1 64)&&(iC y.hq 1 1048576))==true))&&((decide ((dK y.ra y.rb y.rc)>1))==false)) fun h_=>(qo<|fun w s=>nP y w))<|A.c<|A.k [.p,.ld 0,.p,.p,.o,.p,.ld 0,.p,.cl,.p,.o,.ld 0,.cq<|b_<|decide ((dK y.ra y.rb y.rc)>1),.p,.cl,.p] [] [(6,b_<|((y.hk==0)&&(y.hq==0))&&(!(decide ((dK y.ra y.rb y.rc)>1))))] [b1,b1,b1] (o1<|go (true&&(((y.hk==0)&&(y.hq==0))==true)) fun h_=>(qo<|fun w s=>qg y w))<|A.d<|A.c<|A.k [.p,.ld 0,.p,.o,.p,.p,.cl,.p,.o,.p,.ld 0,.p,.p,.o,.p,.p,.cl,.cl,.p,.o,.ld 0,.cq<|b_<|decide ((dK y.ua y.ub y.uc)>1),.p,.o,.ld 0,.cq<|b_<|decide ((dK y.la y.lb y.lc)>1),.p,.cl,.cl] [1,5,6] [(100,b_<|((y.hl&&(!(((iC y.hk 1 64)&&(iC y.hq 1 1048576))&&((decide ((dK y.ra y.rb y.rc)>1))||(decide ((dK y.la y.lb y.lc)>1))))))||((!y.hl)&&(!(((y.hk==0)&&(y.hq==0))&&(!(decide ((dK y.ra y.rb y.rc)>1)))))))||((decide ((dK y.ua y.ub y.uc)>1))&&(!(decide ((dK y.la y.lb y.lc)>1)))))] [b1,b1,b1,b1] (oc (go (true&&(((y.hl&&(!(((iC y.hk 1 64)&&(iC y.hq 1 1048576))&&((decide ((dK y.ra y.rb y.rc)>1))||(decide ((dK y.la y.lb y.lc)>1))))))||((!y.hl)&&(!(((y.hk==0)&&(y.hq==0))&&(!(decide ((dK y.ra y.rb y.rc)>1)))))))==false)) fun h_=>(qo<|fun w s=>KY y w))<|o1<|go ((true&&(((y.hl&&(!(((iC y.hk 1 64)&&(iC y.hq 1 1048576))&&((decide ((dK y.ra y.rb y.rc)>1))||(decide ((dK y.la y.lb y.lc)>1))))))||((!y.hl)&&(!(((y.hk==0)&&(y.hq==0))&&(!(decide ((dK y.ra y.rb y.rc)>1)))))))==false))&&((decide ((dK y.ua y.ub y.uc)>1))==true)) fun h_=>(qo<|fun w s=>nP y w))<|A.v rfl (fun e7=>?_) (fun e7=>?_)
 ·refine A.c<|A.g [.p] [100] [(2,i_ 29)]<|A.e<|A.W [i_ 29] ?_
  refine congrArg (Value.int .i64) ?_;unfold fc;unfold iC at*;grind
 refine A.p<|A.c<|A.g [.p] [100] [(2,i_ 0)]<|A.e<|A.W [i_ 0] ?_
 refine congrArg (Value.int .i64) ?_;unfold fc;unfold iC at*;grind
def fU(kv:List (Int×Cl)):Nat→Int→Nat
 |0,_=>0
 |n+1,k=>if(cu kv k).isSome then fU kv n (dD kv k).hp+1 else 0
def dep(kv:List (Int×Cl))(k:Int):Nat:=fU kv 17 k
theorem rz(kv:List (Int×Cl))(k:Int): ∀j,fl kv k (j+1)=fl kv (dD kv k).hp j
 |0=>rfl
 |j+1=>by show(dD kv<|fl kv k<|j+1).hp=(dD kv<|fl kv (dD kv k).hp j).hp;rw[rz kv k j]
theorem Gi(kv:List (Int×Cl)): ∀(n:Nat)(k:Int)(j:Nat),j<fU kv n k→cu kv (fl kv k j)≠none
 |0,k,j,h=>by simp[fU] at h
 |n+1,k,j,h=>by
  unfold fU at h
  split at h
  ·rename_i hs
   cases j with
   |zero=>intro e;simp only[fl] at e;rw[e] at hs;cases hs
   |succ j=>rw[rz];exact Gi kv n _ j<|by omega
  ·omega
theorem FU(kv:List (Int×Cl)): ∀(n:Nat)(k:Int),fU kv n k<n→cu kv (fl kv k<|fU kv n k)=none
 |0,k,h=>by omega
 |n+1,k,h=>by
  unfold fU at h⊢
  split
  ·rename_i hs;rw[if_pos hs] at h;rw[rz];exact FU kv n _<|by omega
  ·rename_i hs;simpa[fl] using hs
def HOk(kv:List (Int×Cl)):Prop:= ∀k,dep kv k≤16
theorem HOk.lt(h:HOk kv)(k:Int):(∀j,j<dep kv k→cu kv (fl kv k j)≠none)∧cu kv (fl kv k<|dep kv k)=none∧dep kv k≤1000:=
 ⟨fun j=>Gi kv 17 k j,FU kv 17 k (by have:=h k;unfold dep at this;omega),by have:=h k;omega⟩
def ia(kv:List (Int×Cl))(y:Cl):Int:=
 if fc y≠0 then fc y else if(cu kv y.hi).isSome=true then 8 else if(kv.length:Int)=64 then 5
 else if(y.hp≠0∧(cu kv y.hp).isSome=false)∨(dD kv y.hp).hl=true then 23
 else if(dK y.la y.lb y.lc)>1∧iV kv y.hp=false then 29 else if(dep kv y.hp:Int)=16 then 25 else 0
def ly(kv:List (Int×Cl))(y:Cl):List (Int×Cl):=if ia kv y=0 then dC kv y.hi y else kv
abbrev pe(p0)(p1):=(cw p0 [.map<|some p1] 185:V.dB)
theorem vX:
  CS 59 #[] [] (fun((bt,mb):Nat×Nat)=>(p_ bt)) (fun _=>True) fun(bt,mb)=>[pe bt mb,dy mb ([]:List (Int×Cl))]:=by
 intro w hs
 refine A.C Tryz.func59 rfl hs (A.c<|A.g [.p] [] []<|A.c<|A.j<|A.aY (fun k:Int=>i_ k) (fun v_:Cl=>(.agg (dx v_).toArray)) 1 (by kernel_rfl) rfl (fun m1=>[dy m1 ([]:List (Int×Cl))]) (fun _=>rfl) ?_)
 intro m1
 refine A.m1 [.p,.al,.p] (fun b2=>[(0,p_ b2)]) (fun _=>[]) (fun b2=>pe b2 m1) (fun b2=>[]) ?_
 intro b2
 refine A.e<|A.Y [1,0] [p_ b2] (b2,m1) ?_ ?_
 ·rfl
 trivial
abbrev Gj(p0):=(cw p0 [i_ 0,i_ 0,b_ false,u_ 0,u_ 0,u_ 0,u_ 0,u_ 0,u_ 0,u_ 0,u_ 0,u_ 0,i_ 0,i_ 0] 62:V.dB)
theorem Q9(bt mb:Nat)(kv:List (Int×Cl))(y:Cl)(hO:HOk kv)(hl:kv.length≤64):
  CS 132 #[p_ bt,.agg (dx y).toArray] [pe bt mb,dy mb kv] (fun(kv':(List<|Int×Cl))=>(i_<|ia kv y)) (fun kv'=>kv'=ly kv y) fun kv'=>[pe bt mb,dy mb kv']:=by
 intro w hs
 obtain⟨hd,he,hd7⟩:=hO.lt y.hp;have hwr:fc y≠0→ia kv y=fc y:=fun h=>by unfold ia;rw[if_pos h]
 refine A.C Tryz.func132 rfl hs (A.c<|A.n1 [.al,.p] [1] (fun b1=>[(3,p_ b1)]) (fun b1=>cw b1 (dx y) 62) ?_)
 intro b1
 refine A.d<|A.c<|A.g [.p,.p] [] [(11,b_ false)]<|A.cf<|A.p<|A.d<|A.c<|A.k [.ld 2,.cq<|i_<|fc y,.p] [11] [(5,i_<|fc y)] [b1] (o1<|qo<|fun w s=>EE y w)<|A.c<|A.g [.p,.p] [] [(15,b_<|(fc y)!=0)]<|A.v rfl (fun e1=>?_) (fun e1=>?_)
 ·refine A.c<|A.g [.p,.p] [0,3,5,15] [(4,i_<|fc y)]<|A.e<|A.Y [0,0] [i_<|fc y] (kv) ?_ ?_
  ·refine congrArg (Value.int .i64) ?_;unfold ia;cases hm_:cu kv y.hp<;>(simp_all[dD];done)
  unfold ly ia;cases hm_:cu kv y.hp<;>(simp_all[dD];done)
 refine A.p<|A.d<|A.d3 [10,11] 13 [pe bt mb,dy mb kv,cw b1 (dx y) 62]<|A.bT 7 [.p,.p,.p,.ld 0,.p,.ld 2] (rg 0 6) [(0,p_ bt),(3,p_ b1),(21,.map<|some mb),(23,i_ y.hi)] [bt,b1] (.refl _)<|A.bR 6 (some 24) (.tuple #[.agg (dx<|(cu kv y.hi).getD dj).toArray,b_<|(cu kv y.hi).isSome]) rfl (by kernel_rfl) (by kernel_rfl) (.refl _) (nQ (kt:=3) (et:=62) (enck:=(fun k:Int=>i_ k)) (encv:=(fun v_:Cl=>(.agg (dx v_).toArray))) (b:=mb) (kv:=kv) (k:=y.hi) (d0:=dj) (fun w s=>s.mem (i:=1) rfl) rfl rfl rfl (by kernel_rfl) lj (by kernel_rfl) rfl) (A.bT 3 (ps 3) [7,8,9] [(0,p_ bt),(3,p_ b1),(25,.agg (dx<|(cu kv y.hi).getD dj).toArray),(26,b_<|(cu kv y.hi).isSome)] [] (.refl _)<|A.o3 10 rfl (A.af 6 [i_ 0,i_ 0,b_ false,u_ 0,u_ 0,u_ 0,u_ 0,u_ 0,u_ 0,u_ 0,u_ 0,u_ 0,i_ 0,i_ 0] (by kernel_rfl) rfl (by kernel_rfl) (fun b2=>[pe bt mb,dy mb kv,cw b1 (dx y) 62,Gj b2]) (fun _=>rfl) ?_))
 intro b2
 refine A.aF (sd [3])<|A.o3 11 rfl (A.sT 3 (dx<|(cu kv y.hi).getD dj) rfl (A.aF (sd [3])<|A.bT 0 [.p] [12] [(0,p_ bt),(3,p_ b1),(7,b_<|(cu kv y.hi).isSome)] [] (sd [3])<|A.f3<|A.d<|A.d3 [10,11] 13 [pe bt mb,dy mb kv,cw b1 (dx y) 62,cw b2 (dx<|(cu kv y.hi).getD dj) 62]<|A.bT 7 [.p,.p,.p,.ld 0,.p,.ld 2] (rg 0 6) [(0,p_ bt),(3,p_ b1),(7,b_<|(cu kv y.hi).isSome),(31,.map<|some mb),(33,i_ y.hp)] [bt,b1] (.refl _)<|A.bR 6 (some 34) (.tuple #[.agg (dx<|(cu kv y.hp).getD dj).toArray,b_<|(cu kv y.hp).isSome]) rfl (by kernel_rfl) (by kernel_rfl) (.refl _) (nQ (kt:=3) (et:=62) (enck:=(fun k:Int=>i_ k)) (encv:=(fun v_:Cl=>(.agg (dx v_).toArray))) (b:=mb) (kv:=kv) (k:=y.hp) (d0:=dj) (fun w s=>s.mem (i:=1) rfl) rfl rfl rfl (by kernel_rfl) lj (by kernel_rfl) rfl) (A.bT 3 (ps 3) [7,8,9] [(0,p_ bt),(3,p_ b1),(7,b_<|(cu kv y.hi).isSome),(35,.agg (dx<|(cu kv y.hp).getD dj).toArray),(36,b_<|(cu kv y.hp).isSome)] [] (.refl _)<|A.o3 10 rfl (A.af 8 [i_ 0,i_ 0,b_ false,u_ 0,u_ 0,u_ 0,u_ 0,u_ 0,u_ 0,u_ 0,u_ 0,u_ 0,i_ 0,i_ 0] (by kernel_rfl) rfl (by kernel_rfl) (fun b3=>[pe bt mb,dy mb kv,cw b1 (dx y) 62,cw b2 (dx<|(cu kv y.hi).getD dj) 62,Gj b3]) (fun _=>rfl) ?_))))
 intro b3
 refine A.aF (sd [4])<|A.o3 11 rfl (A.sT 4 (dx<|(cu kv y.hp).getD dj) rfl (A.aF (sd [4])<|A.bT 0 [.p] [12] [(0,p_ bt),(3,p_ b1),(7,b_<|(cu kv y.hi).isSome),(8,p_ b3),(9,b_<|(cu kv y.hp).isSome)] [] (sd [4])<|A.f3<|A.d<|A.y<|A.c<|A.g [.p,.p] [7] [(37,b_<|(cu kv y.hi).isSome)]<|A.v rfl (fun e2=>?_) (fun e2=>?_)))
 ·refine A.c<|A.g [.p] [0,3,8,9,37] [(4,i_ 8)]<|A.e<|A.Y [0,0] [i_ 8] (kv) ?_ ?_
  ·refine congrArg (Value.int .i64) ?_;unfold ia;cases hm_:cu kv y.hp<;>(simp_all[dD];done)
  unfold ly ia;cases hm_:cu kv y.hp<;>(simp_all[dD];done)
 refine A.c<|A.gm [.p,.p,.p,.ld 0] [37] [(43,.map<|some mb)] [bt]<|A.j<|A.u (some 44) (c_ kv.length) (ru (kt:=3) (et:=62) (enck:=(fun k:Int=>i_ k)) (encv:=(fun v_:Cl=>(.agg (dx v_).toArray))) (b:=mb) (kv:=kv) (qM 1 rfl) rfl rfl (by kernel_rfl))<|A.g [.p,.p] [43,44] [(39,b_<|(kv.length:Int)==64)]<|A.v rfl (fun e3=>?_) (fun e3=>?_)
 ·refine A.c<|A.g [.p] [0,3,8,9,39] [(4,i_ 5)]<|A.e<|A.Y [0,0] [i_ 5] (kv) ?_ ?_
  ·refine congrArg (Value.int .i64) ?_;unfold ia;cases hm_:cu kv y.hp<;>(simp_all[dD];done)
  unfold ly ia;cases hm_:cu kv y.hp<;>(simp_all[dD];done)
 refine A.c<|A.gl [.p,.ld 2,.p,.p,.o,.p,.p,.cl,.p,.o,.p,.ld 4,.cl,.p] [8,9,39] [(46,b_<|((y.hp !=0)&&(!((cu kv y.hp).isSome)))||(((cu kv y.hp).getD dj).hl))] [b1,b3]<|A.v rfl (fun e4=>?_) (fun e4=>?_)
 ·refine A.c<|A.g [.p] [0,3,46] [(4,i_ 23)]<|A.e<|A.Y [0,0] [i_ 23] (kv) ?_ ?_
  ·refine congrArg (Value.int .i64) ?_;unfold ia;cases hm_:cu kv y.hp<;>(simp_all[dD];done)
  unfold ly ia;cases hm_:cu kv y.hp<;>(simp_all[dD];done)
 refine A.c<|A.k [.ld 2,.cq<|b_<|decide ((dK y.la y.lb y.lc)>1),.p,.o,.p,.p,.ld 2,.cq<|b_<|iV kv y.hp,.p,.cl,.p] [46] [(58,b_<|(decide ((dK y.la y.lb y.lc)>1))&&(!(iV kv y.hp)))] [b1,b1] (oc (qo<|fun w s=>nP y w)<|o1<|go (true&&((decide ((dK y.la y.lb y.lc)>1))==true)) fun h_=>(qo<|fun w s=>Dc bt mb kv y.hp w (s.mem (i:=0) rfl)<|s.mem (i:=1) rfl))<|A.v rfl (fun e5=>?_) (fun e5=>?_)
 ·refine A.c<|A.g [.p] [0,3,58] [(4,i_ 29)]<|A.e<|A.Y [0,0] [i_ 29] (kv) ?_ ?_
  ·refine congrArg (Value.int .i64) ?_;unfold ia;cases hm_:cu kv y.hp<;>(simp_all[dD];done)
  unfold ly ia;cases hm_:cu kv y.hp<;>(simp_all[dD];done)
 refine A.c<|A.k [.p,.p,.ld 2,.cq<|c_<|dep kv y.hp,.p,.p] [58] [(68,b_<|((dep kv y.hp):Int)==16)] [b1] (o1<|qo<|fun w s=>M9 bt mb kv y.hp (dep kv y.hp) ‹_› ‹_› ‹_› w (s.mem (i:=0) rfl) (s.mem (i:=1) rfl))<|A.v rfl (fun e6=>?_) (fun e6=>?_)
 ·refine A.c<|A.g [.p] [0,3,68] [(4,i_ 25)]<|A.e<|A.Y [0,0] [i_ 25] (kv) ?_ ?_
  ·refine congrArg (Value.int .i64) ?_;unfold ia;cases hm_:cu kv y.hp<;>(simp_all[dD];done)
  unfold ly ia;cases hm_:cu kv y.hp<;>grind[dD]
 refine A.p<|A.d<|A.O [7] 8<|A.dT 1 [.p,.p,.p,.ld 0,.p,.ld 2,.ld 2] (rg 0 7) [0,3,68] [(77,.map<|some mb),(79,i_ y.hi),(80,.agg (dx y).toArray)] [bt,b1,b1]<|A.F 7 rfl (A.mP 3 62 1 y.hi y rfl lj (A.E<|A.M<|A.c<|A.h [.p] [(4,i_ 0)] []<|A.e<|A.Y [0,0] [i_ 0] (dC kv y.hi y) ?_ ?_))
 ·refine congrArg (Value.int .i64) ?_;unfold ia;cases hm_:cu kv y.hp<;>(simp_all[dD];done)
 unfold ly ia;cases hm_:cu kv y.hp<;>(simp_all[dD];done)
def yX(y:Cl):Cv:=⟨y.ra,y.rb,y.rc⟩
def iq(kv:List (Int×Cl))(k:Nat):List Cv:=((dH kv<|fun v_=>decide ((dK v_.ra v_.rb v_.rc)>1)).take k).map fun i=>yX<|(cu kv i).getD dj
def ir(kv:List (Int×Cl)):List Cv:=(dH kv<|fun v_=>decide ((dK v_.ra v_.rb v_.rc)>1)).map fun i=>yX<|(cu kv i).getD dj
variable{i:Int}
theorem Dm(h:(dH kv<|fun v_=>decide ((dK v_.ra v_.rb v_.rc)>1))[k]? =some i):iq kv k++[(⟨((cu kv i).getD dj).ra,((cu kv i).getD dj).rb,((cu kv i).getD dj).rc⟩:Cv)]=iq kv (k+1):=by
 unfold iq;rw[List.take_add_one,h];simp[yX]
theorem EF(h:(dH kv<|fun v_=>decide ((dK v_.ra v_.rb v_.rc)>1)).length≤k):iq kv k=ir kv:=by unfold iq ir;rw[List.take_of_length_le h]
theorem Kw(kv:List (Int×Cl))(k:Nat):(iq kv k).length≤k:=by unfold iq;simp;omega
theorem oN(kv:List (Int×Cl))(f:Cl→Bool):(dH kv f).length≤kv.length:=by
 unfold dH;rw[nU,List.length_map];exact List.length_filter_le _ _
abbrev uX:=((1,.func (.func 129) #[] #[]):Nat×Value)
abbrev sL(p0):=((.agg (dx p0).toArray):Value)
abbrev pd(p0):=(.agg (dx p0).toArray:Value)
abbrev mN(p0)(p1)(p2)(p3):=(vS p0 (de p1 (fun v_=>true) p2) p3:Value)
theorem BV(bt mb:Nat)(kv:List (Int×Cl))(hl:kv.length≤1000)(w:World)(r0:(cw bt [.map<|some mb] 185).holds w)(r1:(dy mb kv).holds w)(hs:HI w []):
  CV 89 #[p_ bt] w [] (fun((al',cl'):(Option Addr)×Nat)=>(vS al' (dH kv<|fun v_=>true) cl')) (fun _=>True) fun(al',cl')=>[sI al' (dH kv<|fun v_=>true) cl']:=by
 refine A.C Tryz.func89 rfl hs (A.c<|A.g [.p] [] []<|A.c<|A.N [.p] [0] [(3,p_ bt)]<|A.j<|A.iX (some 4) [p_ bt,.func (.func 129) #[] #[]] Tryz.func128 rfl (A.c<|A.g [.p] [] []<|A.d<|A.c<|A.g [.p,.p] [] [(9,b_ false)]<|A.cf<|A.p<|A.c<|A.g [.p] [9] [(5,e_)]<|A.d<|A.c<|A.kp [.p,.p,.p,.rd [.map<|some mb]] [0] [(13,.map<|some mb)] [] (o1<|ro ⟨bt,0,none⟩ (vs:=[.map<|some mb])<|df r0 rfl) ?_))
 obtain⟨⟨es1,cl1,hhp1,hEn1,hbo1,hnd1⟩,hkn1⟩:=id r1
 refine A.j<|A.bL (kt:=3) (et:=62) (es:=es1) (clock:=cl1) 14 (by kernel_rfl) rfl rfl (by kernel_rfl) (fun w s=>mM s hhp1<|by simp[dE]) (fun b2=>[gb b2 mb es1 cl1 ([]:List Nat)]) (fun _=>rfl) ?_
 intro b2
 refine A.aB<|A.y<|A.aM 3 1 [gb b2 mb es1 cl1 ([]:List Nat),sI none ([]:List Int) 0] rfl (A.su 1 (sI none (de kv (fun v_=>true) ([]:List Nat)) 0) rfl (eI (by rfl:([]:List Int)=(de kv (fun v_=>true) ([]:List Nat)))) (A.aQ [uX,(5,vS none (de kv (fun v_=>true) ([]:List Nat)) 0),(13,.map<|some mb),(14,p_ b2)] ⟨rfl,congrArg (fun z_:List Int=>some<|Value.slice none z_.length 0) (by rfl:([]:List Int)=(de kv (fun v_=>true) ([]:List Nat))),rfl,rfl,trivial⟩<|A.lp (σ:=(List Nat)×(Option Addr)×Nat) [13] (fun(seen,ao,co)=>[(5,mN ao kv seen co)]) [0,0] (fun(seen,ao,co)=>[gb b2 mb es1 cl1 seen,sI ao (de kv (fun v_=>true) seen) co]) (fun(seen,ao,co)=>seen.Nodup∧(∀j∈seen,j<kv.length)) (fun(seen,ao,co)=>kv.length-seen.length) (([]:List Nat),none,0) ⟨(by simp),(by simp)⟩ ?_ ?_))
 ·exact A.J [0,0]
 rintro⟨seen,ao,co⟩ ⟨hn,hb⟩
 have hsl:=sB hn hb;have hsk:=vz kv (fun v_=>true) seen
 refine A.c<|A.j<|A.bJ (enck:=(fun k:Int=>i_ k)) (encv:=(fun v_:Cl=>(sL v_))) (kv:=kv) 0 15 (by kernel_rfl) rfl rfl rfl (fun w s=>mM s hhp1<|by simp[dE]) hEn1 hbo1 hnd1 ‹_› (fun j4=>[gb b2 mb es1 cl1<|seen++[j4],sI ao (de kv (fun v_=>true) seen) co]) (fun _=>rfl) (fun hall4=>?_) (fun j4 mk4 mv4 hj4 hn4=>?_)
 ·refine A.h [.p] [uX,(14,p_ b2),(5,mN ao kv seen co),(16,b_ false)] []<|A.d<|A.cf<|A.aA<|A.c<|A.N [.p] [1,14,16] [(27,mN ao kv seen co)]<|A.j<|A.I (some 28) [1] (fun w s h=>uC ao (de kv (fun v_=>true) seen) co (by omega) w h) ?_
  rintro⟨⟩-
  refine A.aB<|A.c<|A.g [.p,.p] [5,27,28] [(4,mN ao kv seen co)]<|A.e<|A.pb [mN ao kv seen co]<|A.h [.p] [(2,mN ao kv seen co)] []<|A.e<|A.su 0 (sI ao (dH kv<|fun v_=>true) co) rfl (eI (qz hn hb ‹_›:(ga<|de kv (fun v_=>true) seen)=(dH kv<|fun v_=>true))) (A.Y [0] [mN ao kv seen co] (ao,co) ?_ ?_)
  ·show((mN ao kv seen co):Value)=(vS ao (dH kv<|fun v_=>true) co)
   rw[←qz (f:=fun v_=>true) hn hb ‹_›];unfold vS;rw[nU]
  trivial
 refine A.h [.p] [uX,(14,p_ b2),(5,mN ao kv seen co),(16,b_ true)] []<|A.d<|A.ct<|A.p<|A.y<|A.c<|A.j<|A.u (some 17) (.tuple #[i_ mk4,pd mv4]) (wG (enck:=(fun k:Int=>i_ k)) (encv:=(fun v_:Cl=>(sL v_))) (kv:=kv) (k:=mk4) (v:=mv4) 0 j4 rfl rfl rfl (fun w s=>mM s hhp1<|by simp[dE]) hEn1 hnd1 hj4)<|A.m1 [.p,.p,.al,.p,.st 2] (fun b5=>[uX,(14,p_ b2),(5,mN ao kv seen co),(7,p_ b5),(6,i_ mk4)]) (fun _=>[]) (fun b5=>cw b5 (dx mv4) 62) (fun b5=>[b5]) ?_
 intro b5
 refine A.c<|A.gm [.p,.ld 2] [7] [(20,.func (.func 129) #[] #[]),(21,pd mv4)] [b5]<|A.j<|A.iX (some 22) [pd mv4] Tryz.func129 rfl (A.c<|A.n1 [.al,.p] [0] (fun b6=>[]) (fun b6=>cw b6 (dx mv4) 62) ?_)
 intro b6
 refine A.c<|A.g [.p] [] [(2,b_ true)]<|A.e<|A.pb [b_ true]<|A.aJ [gb b2 mb es1 cl1<|seen++[j4],sI ao (de kv (fun v_=>true) seen) co] (sd [3,2])<|A.aB<|A.ct<|A.s<|A.hp [.p,.p] [uX,(14,p_ b2),(5,mN ao kv seen co),(23,mN ao kv seen co),(24,i_ mk4)] []<|A.j<|A.aE 25 (e:=3) [i_ mk4] (by kernel_rfl) rfl (fun _=>by kernel_rfl) _ (fun _=>rfl) ?_
 intro b7
 refine A.j<|A.ap jj (de kv (fun v_=>true) seen) ([mk4]) 1 26 (i_ 0) 8 fD lg (gG (i:=2) rfl) (by simp;omega) ?_
 intro A8 c8
 refine A.g [.p] [23,24,25,26] [(5,vS A8 ((de kv (fun v_=>true) seen)++([mk4])) c8)]<|(A.su 1 (sI A8 (de kv (fun v_=>true)<|seen++[j4]) c8) rfl (eI (qG ‹_› (by rfl):(de kv (fun v_=>true) seen)++([mk4])=(de kv (fun v_=>true)<|seen++[j4]))) (A.D 5 (vS A8 (de kv (fun v_=>true)<|seen++[j4]) c8) (fN<|qG ‹_› (by rfl))<|A.Z ((seen++[j4]),A8,c8) ⟨((jO hn hb ‹_› ‹_›).1),((jO hn hb ‹_› ‹_›).2.1)⟩ (by((have h_:=(jO hn hb ‹_› ‹_›).2.2);simp;omega)) ?_))
 exact A.J [0,0]
abbrev sM:=((1,.func (.func 142) #[] #[]):Nat×Value)
theorem L2(bt mb:Nat)(kv:List (Int×Cl))(hl:kv.length≤1000)(w:World)(r0:(cw bt [.map<|some mb] 185).holds w)(r1:(dy mb kv).holds w)(hs:HI w []):
  CV 105 #[p_ bt] w [] (fun((al',cl'):(Option Addr)×Nat)=>(vS al' (dH kv<|fun v_=>v_.hl) cl')) (fun _=>True) fun(al',cl')=>[sI al' (dH kv<|fun v_=>v_.hl) cl']:=by
 refine A.C Tryz.func105 rfl hs (A.c<|A.g [.p] [] []<|A.c<|A.N [.p] [0] [(3,p_ bt)]<|A.j<|A.iX (some 4) [p_ bt,.func (.func 142) #[] #[]] Tryz.func128 rfl (A.c<|A.g [.p] [] []<|A.d<|A.c<|A.g [.p,.p] [] [(9,b_ false)]<|A.cf<|A.p<|A.c<|A.g [.p] [9] [(5,e_)]<|A.d<|A.c<|A.kp [.p,.p,.p,.rd [.map<|some mb]] [0] [(13,.map<|some mb)] [] (o1<|ro ⟨bt,0,none⟩ (vs:=[.map<|some mb])<|df r0 rfl) ?_))
 obtain⟨⟨es1,cl1,hhp1,hEn1,hbo1,hnd1⟩,hkn1⟩:=id r1
 refine A.j<|A.bL (kt:=3) (et:=62) (es:=es1) (clock:=cl1) 14 (by kernel_rfl) rfl rfl (by kernel_rfl) (fun w s=>mM s hhp1<|by simp[dE]) (fun b2=>[gb b2 mb es1 cl1 ([]:List Nat)]) (fun _=>rfl) ?_
 intro b2
 refine A.aB<|A.y<|A.aM 3 1 [gb b2 mb es1 cl1 ([]:List Nat),sI none ([]:List Int) 0] rfl (A.su 1 (sI none (de kv (fun v_=>v_.hl) ([]:List Nat)) 0) rfl (eI (by rfl:([]:List Int)=(de kv (fun v_=>v_.hl) ([]:List Nat)))) (A.aQ [sM,(5,vS none (de kv (fun v_=>v_.hl) ([]:List Nat)) 0),(13,.map<|some mb),(14,p_ b2)] ⟨rfl,congrArg (fun z_:List Int=>some<|Value.slice none z_.length 0) (by rfl:([]:List Int)=(de kv (fun v_=>v_.hl) ([]:List Nat))),rfl,rfl,trivial⟩<|A.lp (σ:=(List Nat)×(Option Addr)×Nat) [13] (fun(seen,ao,co)=>[(5,vS ao (de kv (fun v_=>v_.hl) seen) co)]) [0,0] (fun(seen,ao,co)=>[gb b2 mb es1 cl1 seen,sI ao (de kv (fun v_=>v_.hl) seen) co]) (fun(seen,ao,co)=>seen.Nodup∧(∀j∈seen,j<kv.length)) (fun(seen,ao,co)=>kv.length-seen.length) (([]:List Nat),none,0) ⟨(by simp),(by simp)⟩ ?_ ?_))
 ·exact A.J [0,0]
 rintro⟨seen,ao,co⟩ ⟨hn,hb⟩
 have hsl:=sB hn hb;have hsk:=vz kv (fun v_=>v_.hl) seen
 refine A.c<|A.j<|A.bJ (enck:=(fun k:Int=>i_ k)) (encv:=(fun v_:Cl=>(sL v_))) (kv:=kv) 0 15 (by kernel_rfl) rfl rfl rfl (fun w s=>mM s hhp1<|by simp[dE]) hEn1 hbo1 hnd1 ‹_› (fun j4=>[gb b2 mb es1 cl1<|seen++[j4],sI ao (de kv (fun v_=>v_.hl) seen) co]) (fun _=>rfl) (fun hall4=>?_) (fun j4 mk4 mv4 hj4 hn4=>?_)
 ·refine A.h [.p] [sM,(14,p_ b2),(5,vS ao (de kv (fun v_=>v_.hl) seen) co),(16,b_ false)] []<|A.d<|A.cf<|A.aA<|A.c<|A.N [.p] [1,14,16] [(27,vS ao (de kv (fun v_=>v_.hl) seen) co)]<|A.j<|A.I (some 28) [1] (fun w s h=>uC ao (de kv (fun v_=>v_.hl) seen) co (by omega) w h) ?_
  rintro⟨⟩-
  refine A.aB<|A.c<|A.g [.p,.p] [5,27,28] [(4,vS ao (de kv (fun v_=>v_.hl) seen) co)]<|A.e<|A.pb [vS ao (de kv (fun v_=>v_.hl) seen) co]<|A.h [.p] [(2,vS ao (de kv (fun v_=>v_.hl) seen) co)] []<|A.e<|A.su 0 (sI ao (dH kv<|fun v_=>v_.hl) co) rfl (eI (qz hn hb ‹_›:(ga<|de kv (fun v_=>v_.hl) seen)=(dH kv<|fun v_=>v_.hl))) (A.Y [0] [vS ao (de kv (fun v_=>v_.hl) seen) co] (ao,co) ?_ ?_)
  ·show((vS ao (de kv (fun v_=>v_.hl) seen) co):Value)=(vS ao (dH kv<|fun v_=>v_.hl) co)
   rw[←qz (f:=fun v_=>v_.hl) hn hb ‹_›];unfold vS;rw[nU]
  trivial
 refine A.h [.p] [sM,(14,p_ b2),(5,vS ao (de kv (fun v_=>v_.hl) seen) co),(16,b_ true)] []<|A.d<|A.ct<|A.p<|A.y<|A.c<|A.j<|A.u (some 17) (.tuple #[i_ mk4,pd mv4]) (wG (enck:=(fun k:Int=>i_ k)) (encv:=(fun v_:Cl=>(sL v_))) (kv:=kv) (k:=mk4) (v:=mv4) 0 j4 rfl rfl rfl (fun w s=>mM s hhp1<|by simp[dE]) hEn1 hnd1 hj4)<|A.m1 [.p,.p,.al,.p,.st 2] (fun b5=>[sM,(14,p_ b2),(5,vS ao (de kv (fun v_=>v_.hl) seen) co),(7,p_ b5),(6,i_ mk4)]) (fun _=>[]) (fun b5=>cw b5 (dx mv4) 62) (fun b5=>[b5]) ?_
 intro b5
 refine A.c<|A.gm [.p,.ld 2] [7] [(20,.func (.func 142) #[] #[]),(21,pd mv4)] [b5]<|A.j<|A.iX (some 22) [pd mv4] Tryz.func142 rfl (A.c<|A.n1 [.al,.p] [0] (fun b6=>[(1,p_ b6)]) (fun b6=>cw b6 (dx mv4) 62) ?_)
 intro b6
 refine A.c<|A.gl [.p,.ld 3,.p] [1] [(2,b_ mv4.hl)] [b6]<|A.e<|A.pb [b_ mv4.hl]<|A.aJ [gb b2 mb es1 cl1<|seen++[j4],sI ao (de kv (fun v_=>v_.hl) seen) co] (sd [3,2])<|A.aB<|A.cn mv4.hl (fun e2=>?_)<|fun e2=>?_
 ·refine A.s<|A.hp [.p,.p] [sM,(14,p_ b2),(5,vS ao (de kv (fun v_=>v_.hl) seen) co),(23,vS ao (de kv (fun v_=>v_.hl) seen) co),(24,i_ mk4)] []<|A.j<|A.aE 25 (e:=3) [i_ mk4] (by kernel_rfl) rfl (fun _=>by kernel_rfl) _ (fun _=>rfl) ?_
  intro b7
  refine A.j<|A.ap jj (de kv (fun v_=>v_.hl) seen) ([mk4]) 1 26 (i_ 0) 8 fD lg (gG (i:=2) rfl) (by simp;omega) ?_
  intro A8 c8
  refine A.g [.p] [23,24,25,26] [(5,vS A8 ((de kv (fun v_=>v_.hl) seen)++([mk4])) c8)]<|(A.su 1 (sI A8 (de kv (fun v_=>v_.hl)<|seen++[j4]) c8) rfl (eI (qG ‹_› ‹_›:(de kv (fun v_=>v_.hl) seen)++([mk4])=(de kv (fun v_=>v_.hl)<|seen++[j4]))) (A.D 5 (vS A8 (de kv (fun v_=>v_.hl)<|seen++[j4]) c8) (fN<|qG ‹_› ‹_›)<|A.Z ((seen++[j4]),A8,c8) ⟨((jO hn hb ‹_› ‹_›).1),((jO hn hb ‹_› ‹_›).2.1)⟩ (by((have h_:=(jO hn hb ‹_› ‹_›).2.2);simp;omega)) ?_))
  exact A.J [0,0]
 refine A.p<|A.su 1 (sI ao (de kv (fun v_=>v_.hl)<|seen++[j4]) co) rfl (eI (tC ‹_› ‹_›:(de kv (fun v_=>v_.hl) seen)=(de kv (fun v_=>v_.hl)<|seen++[j4]))) (A.aQ [sM,(14,p_ b2),(5,vS ao (de kv (fun v_=>v_.hl)<|seen++[j4]) co),(6,i_ mk4),(20,.func (.func 142) #[] #[]),(21,pd mv4),(22,b_ mv4.hl)] ⟨rfl,rfl,fN<|by exact tC ‹_› ‹_›,rfl,rfl,rfl,rfl,trivial⟩<|A.Z ((seen++[j4]),ao,co) ⟨((jO hn hb ‹_› ‹_›).1),((jO hn hb ‹_› ‹_›).2.1)⟩ (by((have h_:=(jO hn hb ‹_› ‹_›).2.2);simp;omega)) ?_)
 exact A.J [0,0]
abbrev Gh(p0)(p1)(p2)(p3):=(sI p0 (de p1 (fun v_=>decide ((dK v_.ra v_.rb v_.rc)>1)) p2) p3:V.dB)
abbrev wZ:=((1,.func (.func 103) #[] #[]):Nat×Value)
abbrev uY(p0)(p1)(p2):=(vS p0 (dH p1<|fun v_=>decide ((dK v_.ra v_.rb v_.rc)>1)) p2:Value)
abbrev sN(p0)(p1)(p2)(p3):=(vS p0 (de p1 (fun v_=>decide ((dK v_.ra v_.rb v_.rc)>1)) p2) p3:Value)
theorem FT(bt mb:Nat)(kv:List (Int×Cl))(hl:kv.length≤1000)(w:World)(r0:(cw bt [.map<|some mb] 185).holds w)(r1:(dy mb kv).holds w)(hs:HI w []):
  CV 94 #[p_ bt] w [] (fun((al',cl'):(Option Addr)×Nat)=>(vS al' (ir kv) cl')) (fun _=>True) fun(al',cl')=>[tc al' (ir kv) cl']:=by
 have hkl:=oN kv<|fun v_=>decide ((dK v_.ra v_.rb v_.rc)>1)
 refine A.C Tryz.func94 rfl hs (A.c<|A.g [.p] [] []<|A.c<|A.g [.p] [] [(3,e_)]<|A.d<|A.c<|A.N [.p] [] [(6,p_ bt)]<|A.j<|A.iX (some 7) [p_ bt,.func (.func 103) #[] #[]] Tryz.func128 rfl (A.c<|A.g [.p] [] []<|A.d<|A.c<|A.g [.p,.p] [] [(9,b_ false)]<|A.cf<|A.p<|A.c<|A.g [.p] [9] [(5,e_)]<|A.d<|A.c<|A.kp [.p,.p,.p,.rd [.map<|some mb]] [0] [(13,.map<|some mb)] [] (o1<|ro ⟨bt,0,none⟩ (vs:=[.map<|some mb])<|df r0 rfl) ?_))
 obtain⟨⟨es1,cl1,hhp1,hEn1,hbo1,hnd1⟩,hkn1⟩:=id r1
 refine A.j<|A.bL (kt:=3) (et:=62) (es:=es1) (clock:=cl1) 14 (by kernel_rfl) rfl rfl (by kernel_rfl) (fun w s=>mM s hhp1<|by simp[dE]) (fun b2=>[gb b2 mb es1 cl1 ([]:List Nat)]) (fun _=>rfl) ?_
 intro b2
 refine A.aB<|A.y<|A.aM 3 1 [gb b2 mb es1 cl1 ([]:List Nat),sI none ([]:List Int) 0] rfl (A.su 1 (sI none (de kv (fun v_=>decide ((dK v_.ra v_.rb v_.rc)>1)) ([]:List Nat)) 0) rfl (eI (by rfl:([]:List Int)=(de kv (fun v_=>decide ((dK v_.ra v_.rb v_.rc)>1)) ([]:List Nat)))) (A.aQ [wZ,(5,vS none (de kv (fun v_=>decide ((dK v_.ra v_.rb v_.rc)>1)) ([]:List Nat)) 0),(13,.map<|some mb),(14,p_ b2)] ⟨rfl,congrArg (fun z_:List Int=>some<|Value.slice none z_.length 0) (by rfl:([]:List Int)=(de kv (fun v_=>decide ((dK v_.ra v_.rb v_.rc)>1)) ([]:List Nat))),rfl,rfl,trivial⟩<|A.lp (σ:=(List Nat)×(Option Addr)×Nat) [13] (fun(seen,ao,co)=>[(5,sN ao kv seen co)]) [0,0] (fun(seen,ao,co)=>[gb b2 mb es1 cl1 seen,Gh ao kv seen co]) (fun(seen,ao,co)=>seen.Nodup∧(∀j∈seen,j<kv.length)) (fun(seen,ao,co)=>kv.length-seen.length) (([]:List Nat),none,0) ⟨(by simp),(by simp)⟩ ?_ ?_))
 ·exact A.J [0,0]
 rintro⟨seen,ao,co⟩ ⟨hn,hb⟩
 have hsl:=sB hn hb;have hsk:=vz kv (fun v_=>decide ((dK v_.ra v_.rb v_.rc)>1)) seen
 refine A.c<|A.j<|A.bJ (enck:=(fun k:Int=>i_ k)) (encv:=(fun v_:Cl=>(sL v_))) (kv:=kv) 0 15 (by kernel_rfl) rfl rfl rfl (fun w s=>mM s hhp1<|by simp[dE]) hEn1 hbo1 hnd1 ‹_› (fun j4=>[gb b2 mb es1 cl1<|seen++[j4],Gh ao kv seen co]) (fun _=>rfl) (fun hall4=>?_) (fun j4 mk4 mv4 hj4 hn4=>?_)
 ·refine A.h [.p] [wZ,(14,p_ b2),(5,sN ao kv seen co),(16,b_ false)] []<|A.d<|A.cf<|A.aA<|A.c<|A.N [.p] [1,14,16] [(27,sN ao kv seen co)]<|A.j<|A.I (some 28) [1] (fun w s h=>uC ao (de kv (fun v_=>decide ((dK v_.ra v_.rb v_.rc)>1)) seen) co (by omega) w h) ?_
  rintro⟨⟩-
  refine A.aB<|A.d ?_
  have hcv5:(ga<|de kv (fun v_=>decide ((dK v_.ra v_.rb v_.rc)>1)) seen)=(dH kv<|fun v_=>decide ((dK v_.ra v_.rb v_.rc)>1)):=qz hn hb ‹_›
  refine A.su 0 (sI ao (dH kv<|fun v_=>decide ((dK v_.ra v_.rb v_.rc)>1)) co) rfl (eI hcv5) (A.D 5 (uY ao kv co) (dh<|by rw[←hcv5,nU])<|A.D 27 (uY ao kv co) (dh<|by rw[←hcv5,nU])<|A.s<|A.g [.p,.p] [5,27,28] [(4,uY ao kv co)]<|A.e<|A.pb [uY ao kv co]<|A.h [.p,.p] [(0,p_ bt),(3,e_),(7,uY ao kv co),(8,i_ ((dH kv<|fun v_=>decide ((dK v_.ra v_.rb v_.rc)>1)).length:Int)),(9,i_ 0)] []<|A.y<|A.aM 60 3 [sI ao (dH kv<|fun v_=>decide ((dK v_.ra v_.rb v_.rc)>1)) co,gb b2 mb es1 cl1 seen,tc none ([]:List Cv) 0] rfl (A.su 2 (tc none (iq kv 0) 0) rfl (eI (by rfl:([]:List Cv)=(iq kv 0))) (A.D 3 (vS none (iq kv 0) 0) (congrArg (fun z_:List Cv=>some<|Value.slice none z_.length 0) (by rfl:([]:List Cv)=(iq kv 0)))<|A.lp (σ:=Nat×(Option Addr)×Nat) [] (fun(k,ar,cr)=>[(9,c_ k),(3,vS ar (iq kv k) cr)]) [2] (fun(k,ar,cr)=>[tc ar (iq kv k) cr]) (fun(k,ar,cr)=>(k≤(dH kv<|fun v_=>decide ((dK v_.ra v_.rb v_.rc)>1)).length)) (fun(k,ar,cr)=>(dH kv<|fun v_=>decide ((dK v_.ra v_.rb v_.rc)>1)).length-k) (0,none,0) (by omega) ?_ ?_)))
  ·exact A.J [2,0,0]
  rintro⟨k,ar,cr⟩ hk
  have hk:k≤(dH kv<|fun v_=>decide ((dK v_.ra v_.rb v_.rc)>1)).length:=hk
  have hrl:=Kw kv k
  refine A.c<|A.g [.p] [] [(10,b_<|decide ((k:Int)<((dH kv<|fun v_=>decide ((dK v_.ra v_.rb v_.rc)>1)).length:Int)))]<|A.d<|A.v rfl (fun e2=>?_) (fun e2=>?_)
  ·have p2:=of_decide_eq_true e2
   refine A.p<|A.d<|A.y<|A.c<|A.kp [.ix] [10] [(11,.pointer<|some<|(dR ao).add (k*1))] [] (o1<|dW 1 k fD rfl (by omega)) ?_
   obtain⟨x7,hx7⟩: ∃x,((dH kv<|fun v_=>decide ((dK v_.ra v_.rb v_.rc)>1)))[k]? =some x:=⟨_,List.getElem?_eq_getElem<|by omega⟩
   refine A.k [.rd [i_ x7],.p] [11] [(5,i_ x7)] [] (o1<|eJ 1 k [i_ x7] fD rfl hx7)<|A.s<|A.kp [.p,.p,.p,.p,.rd [.map<|some mb],.p] [5] [(13,vS ar (iq kv k) cr),(17,.map<|some mb),(18,i_ x7)] [] (o1<|ro ⟨bt,0,none⟩ (vs:=[.map<|some mb])<|df r0 rfl)<|A.j<|A.u (some 19) _ (qL 3 62 x7 dj (fun w s=>d6 s r1) lj)<|A.N [.p] [17,18,19] [(20,.agg #[u_<|((cu kv x7).getD dj).ra,u_<|((cu kv x7).getD dj).rb,u_<|((cu kv x7).getD dj).rc])]<|A.j<|A.aE 21 (e:=60) [u_<|((cu kv x7).getD dj).ra,u_<|((cu kv x7).getD dj).rb,u_<|((cu kv x7).getD dj).rc] (by kernel_rfl) rfl (fun _=>by kernel_rfl) _ (fun _=>rfl) ?_
   intro b8
   refine A.j<|A.ap fG (iq kv k) ([(⟨((cu kv x7).getD dj).ra,((cu kv x7).getD dj).rb,((cu kv x7).getD dj).rc⟩:Cv)]) 0 22 (.agg #[u_ 0,u_ 0,u_ 0]) 24 oM LZ (gG (i:=3) rfl) (by(simp only[List.length_append,List.length_cons,List.length_nil];omega)) ?_
   intro A9 c9
   refine A.g [.p] [13,20,21,22] [(3,vS A9 ((iq kv k)++([(⟨((cu kv x7).getD dj).ra,((cu kv x7).getD dj).rb,((cu kv x7).getD dj).rc⟩:Cv)])) c9)]<|A.s<|A.k [.w<|(k:Int)+1,.p] [] [(9,i_<|(k:Int)+1)] [] (o1<|wj ((k:Int)+1)<|by omega)<|A.su 0 (tc A9 (iq kv<|k+1) c9) rfl (eI (Dm ‹_›:(iq kv k)++([(⟨((cu kv x7).getD dj).ra,((cu kv x7).getD dj).rb,((cu kv x7).getD dj).rc⟩:Cv)])=(iq kv<|k+1))) (A.D 3 (vS A9 (iq kv<|k+1) c9) (fN<|Dm ‹_›)<|A.Z (k+1,A9,c9) (by omega) (by(simp_all;omega)) ?_)
   exact A.J [0,0,0]
  have p2:=of_decide_eq_false e2
  refine A.aA<|A.c<|A.g [.p,.p] [0,7,8,9,3,10] [(2,vS ar (iq kv k) cr)]<|A.e<|A.su 0 (tc ar (ir kv) cr) rfl (eI (EF (by omega):(iq kv k)=(ir kv))) (A.Y [0] [vS ar (iq kv k) cr] (ar,cr) ?_ ?_)
  ·show((vS ar (iq kv k) cr):Value)=(vS ar (ir kv) cr)
   rw[EF<|by omega]
  trivial
 refine A.h [.p] [wZ,(14,p_ b2),(5,sN ao kv seen co),(16,b_ true)] []<|A.d<|A.ct<|A.p<|A.y<|A.c<|A.j<|A.u (some 17) (.tuple #[i_ mk4,pd mv4]) (wG (enck:=(fun k:Int=>i_ k)) (encv:=(fun v_:Cl=>(sL v_))) (kv:=kv) (k:=mk4) (v:=mv4) 0 j4 rfl rfl rfl (fun w s=>mM s hhp1<|by simp[dE]) hEn1 hnd1 hj4)<|A.m1 [.p,.p,.al,.p,.st 2] (fun b10=>[wZ,(14,p_ b2),(5,sN ao kv seen co),(7,p_ b10),(6,i_ mk4)]) (fun _=>[]) (fun b10=>cw b10 (dx mv4) 62) (fun b10=>[b10]) ?_
 intro b10
 refine A.c<|A.k [.p,.ld 2,.cq<|b_<|decide ((dK mv4.ra mv4.rb mv4.rc)>1)] [7] [(22,b_<|decide ((dK mv4.ra mv4.rb mv4.rc)>1))] [b10] (o1<|qo<|fun w s=>qg mv4 w)<|A.v rfl (fun e3=>?_) (fun e3=>?_)
 ·have p3:=of_decide_eq_true e3
  refine A.s<|A.N [.p,.p] [6,22] [(23,sN ao kv seen co),(24,i_ mk4)]<|A.j<|A.aE 25 (e:=3) [i_ mk4] (by kernel_rfl) rfl (fun _=>by kernel_rfl) _ (fun _=>rfl) ?_
  intro b11
  refine A.j<|A.ap jj (de kv (fun v_=>decide ((dK v_.ra v_.rb v_.rc)>1)) seen) ([mk4]) 1 26 (i_ 0) 8 fD lg (gG (i:=3) rfl) (by(simp only[List.length_append,List.length_cons,List.length_nil];omega)) ?_
  intro A12 c12
  refine A.g [.p] [23,24,25,26] [(5,vS A12 ((de kv (fun v_=>decide ((dK v_.ra v_.rb v_.rc)>1)) seen)++([mk4])) c12)]<|(A.su 1 (sI A12 (de kv (fun v_=>decide ((dK v_.ra v_.rb v_.rc)>1))<|seen++[j4]) c12) rfl (eI (qG ‹_› ‹_›:(de kv (fun v_=>decide ((dK v_.ra v_.rb v_.rc)>1)) seen)++([mk4])=(de kv (fun v_=>decide ((dK v_.ra v_.rb v_.rc)>1))<|seen++[j4]))) (A.D 5 (vS A12 (de kv (fun v_=>decide ((dK v_.ra v_.rb v_.rc)>1))<|seen++[j4]) c12) (fN<|qG ‹_› ‹_›)<|A.Z ((seen++[j4]),A12,c12) ⟨((jO hn hb ‹_› ‹_›).1),((jO hn hb ‹_› ‹_›).2.1)⟩ (by((have h_:=(jO hn hb ‹_› ‹_›).2.2);simp;omega)) ?_))
  exact A.J [0,0]
 have p3:=of_decide_eq_false e3
 refine A.p<|A.su 1 (sI ao (de kv (fun v_=>decide ((dK v_.ra v_.rb v_.rc)>1))<|seen++[j4]) co) rfl (eI (tC ‹_› ‹_›:(de kv (fun v_=>decide ((dK v_.ra v_.rb v_.rc)>1)) seen)=(de kv (fun v_=>decide ((dK v_.ra v_.rb v_.rc)>1))<|seen++[j4]))) (A.D 5 (vS ao (de kv (fun v_=>decide ((dK v_.ra v_.rb v_.rc)>1))<|seen++[j4]) co) (fN<|tC ‹_› ‹_›)<|A.Z ((seen++[j4]),ao,co) ⟨((jO hn hb ‹_› ‹_›).1),((jO hn hb ‹_› ‹_›).2.1)⟩ (by((have h_:=(jO hn hb ‹_› ‹_›).2.2);simp;omega)) ?_)
 exact A.J [0,0]
abbrev sK(p0):=((1,.func (.func 225) #[] #[p_ p0]):Nat×Value)
theorem yl(bt mb:Nat)(kv:List (Int×Cl))(ci:Int)(hl:kv.length≤1000)(w:World)(r0:(cw bt [.map<|some mb] 185).holds w)(r1:(dy mb kv).holds w)(hs:HI w []):
  CV 173 #[p_ bt,i_ ci] w [] (fun((al',cl'):(Option Addr)×Nat)=>(vS al' (dH kv<|fun v_=>v_.hp==ci) cl')) (fun _=>True) fun(al',cl')=>[sI al' (dH kv<|fun v_=>v_.hp==ci) cl']:=by
 refine A.C Tryz.func173 rfl hs (A.c<|A.n1 [.al,.p] [1] (fun b1=>[(3,p_ b1)]) (fun b1=>cw b1 [i_ ci] 3) ?_)
 intro b1
 refine A.c<|A.N [.p,.p] [0,3] [(5,p_ bt),(6,.func (.func 225) #[] #[p_ b1])]<|A.j<|A.iX (some 7) [p_ bt,.func (.func 225) #[] #[p_ b1]] Tryz.func128 rfl (A.c<|A.g [.p] [] []<|A.d<|A.c<|A.g [.p,.p] [] [(9,b_ false)]<|A.cf<|A.p<|A.c<|A.g [.p] [9] [(5,e_)]<|A.d<|A.c<|A.kp [.p,.p,.p,.rd [.map<|some mb]] [0] [(13,.map<|some mb)] [] (o1<|ro ⟨bt,0,none⟩ (vs:=[.map<|some mb])<|df r0 rfl) ?_)
 obtain⟨⟨es2,cl2,hhp2,hEn2,hbo2,hnd2⟩,hkn2⟩:=id r1
 refine A.j<|A.bL (kt:=3) (et:=62) (es:=es2) (clock:=cl2) 14 (by kernel_rfl) rfl rfl (by kernel_rfl) (fun w s=>mM s hhp2<|by simp[dE]) (fun b3=>[cw b1 [i_ ci] 3,gb b3 mb es2 cl2 ([]:List Nat)]) (fun _=>rfl) ?_
 intro b3
 refine A.aB<|A.y<|A.aM 3 1 [cw b1 [i_ ci] 3,gb b3 mb es2 cl2 ([]:List Nat),sI none ([]:List Int) 0] rfl (A.su 2 (sI none (de kv (fun v_=>v_.hp==ci) ([]:List Nat)) 0) rfl (eI (by rfl:([]:List Int)=(de kv (fun v_=>v_.hp==ci) ([]:List Nat)))) (A.aQ [(sK b1),(5,vS none (de kv (fun v_=>v_.hp==ci) ([]:List Nat)) 0),(13,.map<|some mb),(14,p_ b3)] ⟨rfl,congrArg (fun z_:List Int=>some<|Value.slice none z_.length 0) (by rfl:([]:List Int)=(de kv (fun v_=>v_.hp==ci) ([]:List Nat))),rfl,rfl,trivial⟩<|A.lp (σ:=(List Nat)×(Option Addr)×Nat) [13] (fun(seen,ao,co)=>[(5,vS ao (de kv (fun v_=>v_.hp==ci) seen) co)]) [1,1] (fun(seen,ao,co)=>[gb b3 mb es2 cl2 seen,sI ao (de kv (fun v_=>v_.hp==ci) seen) co]) (fun(seen,ao,co)=>seen.Nodup∧(∀j∈seen,j<kv.length)) (fun(seen,ao,co)=>kv.length-seen.length) (([]:List Nat),none,0) ⟨(by simp),(by simp)⟩ ?_ ?_))
 ·exact A.J [1,1,0]
 rintro⟨seen,ao,co⟩ ⟨hn,hb⟩
 have hsl:=sB hn hb;have hsk:=vz kv (fun v_=>v_.hp==ci) seen
 refine A.c<|A.j<|A.bJ (enck:=(fun k:Int=>i_ k)) (encv:=(fun v_:Cl=>(.agg (dx v_).toArray))) (kv:=kv) 0 15 (by kernel_rfl) rfl rfl rfl (fun w s=>mM s hhp2<|by simp[dE]) hEn2 hbo2 hnd2 ‹_› (fun j5=>[gb b3 mb es2 cl2<|seen++[j5],sI ao (de kv (fun v_=>v_.hp==ci) seen) co,cw b1 [i_ ci] 3]) (fun _=>rfl) (fun hall5=>?_) (fun j5 mk5 mv5 hj5 hn5=>?_)
 ·refine A.h [.p] [(sK b1),(14,p_ b3),(5,vS ao (de kv (fun v_=>v_.hp==ci) seen) co),(16,b_ false)] []<|A.d<|A.cf<|A.aA<|A.c<|A.N [.p] [1,14,16] [(27,vS ao (de kv (fun v_=>v_.hp==ci) seen) co)]<|A.j<|A.I (some 28) [1] (fun w s h=>uC ao (de kv (fun v_=>v_.hp==ci) seen) co (by omega) w h) ?_
  rintro⟨⟩-
  refine A.aB<|A.c<|A.g [.p,.p] [5,27,28] [(4,vS ao (de kv (fun v_=>v_.hp==ci) seen) co)]<|A.e<|A.pb [vS ao (de kv (fun v_=>v_.hp==ci) seen) co]<|A.h [.p] [(4,vS ao (de kv (fun v_=>v_.hp==ci) seen) co)] []<|A.e<|A.su 0 (sI ao (dH kv<|fun v_=>v_.hp==ci) co) rfl (eI (qz hn hb ‹_›:(ga<|de kv (fun v_=>v_.hp==ci) seen)=(dH kv<|fun v_=>v_.hp==ci))) (A.Y [0] [vS ao (de kv (fun v_=>v_.hp==ci) seen) co] (ao,co) ?_ ?_)
  ·show((vS ao (de kv (fun v_=>v_.hp==ci) seen) co):Value)=(vS ao (dH kv<|fun v_=>v_.hp==ci) co)
   rw[←qz (f:=fun v_=>v_.hp==ci) hn hb ‹_›];unfold vS;rw[nU]
  trivial
 refine A.h [.p] [(sK b1),(14,p_ b3),(5,vS ao (de kv (fun v_=>v_.hp==ci) seen) co),(16,b_ true)] []<|A.d<|A.ct<|A.p<|A.y<|A.c<|A.j<|A.u (some 17) (.tuple #[i_ mk5,.agg (dx mv5).toArray]) (wG (enck:=(fun k:Int=>i_ k)) (encv:=(fun v_:Cl=>(.agg (dx v_).toArray))) (kv:=kv) (k:=mk5) (v:=mv5) 0 j5 rfl rfl rfl (fun w s=>mM s hhp2<|by simp[dE]) hEn2 hnd2 hj5)<|A.m1 [.p,.p,.al,.p,.st 3] (fun b6=>[(sK b1),(14,p_ b3),(5,vS ao (de kv (fun v_=>v_.hp==ci) seen) co),(7,p_ b6),(6,i_ mk5)]) (fun _=>[]) (fun b6=>cw b6 (dx mv5) 62) (fun b6=>[b6]) ?_
 intro b6
 refine A.c<|A.gm [.p,.ld 3] [7] [(20,.func (.func 225) #[] #[p_ b1]),(21,.agg (dx mv5).toArray)] [b6]<|A.j<|A.iX (some 22) [.agg (dx mv5).toArray,p_ b1] Tryz.func225 rfl (A.c<|A.n1 [.al,.p] [0] (fun b7=>[(2,p_ b7)]) (fun b7=>cw b7 (dx mv5) 62) ?_)
 intro b7
 refine A.c<|A.gl [.p,.ld 4,.ld 2,.p,.p] [1,2] [(3,b_<|mv5.hp==ci)] [b7,b1]<|A.e<|A.pb [b_<|mv5.hp==ci]<|A.aJ [gb b3 mb es2 cl2<|seen++[j5],sI ao (de kv (fun v_=>v_.hp==ci) seen) co,cw b1 [i_ ci] 3] (sd [4,3])<|A.aB<|A.v rfl (fun e2=>?_) (fun e2=>?_)
 ·refine A.s<|A.hp [.p,.p] [(sK b1),(14,p_ b3),(5,vS ao (de kv (fun v_=>v_.hp==ci) seen) co),(23,vS ao (de kv (fun v_=>v_.hp==ci) seen) co),(24,i_ mk5)] []<|A.j<|A.aE 25 (e:=3) [i_ mk5] (by kernel_rfl) rfl (fun _=>by kernel_rfl) _ (fun _=>rfl) ?_
  intro b8
  refine A.j<|A.ap jj (de kv (fun v_=>v_.hp==ci) seen) ([mk5]) 1 26 (i_ 0) 8 fD lg (gG (i:=3) rfl) (by simp;omega) ?_
  intro A9 c9
  refine A.g [.p] [23,24,25,26] [(5,vS A9 ((de kv (fun v_=>v_.hp==ci) seen)++([mk5])) c9)]<|(A.su 1 (sI A9 (de kv (fun v_=>v_.hp==ci)<|seen++[j5]) c9) rfl (eI (qG ‹_› ‹_›:(de kv (fun v_=>v_.hp==ci) seen)++([mk5])=(de kv (fun v_=>v_.hp==ci)<|seen++[j5]))) (A.D 5 (vS A9 (de kv (fun v_=>v_.hp==ci)<|seen++[j5]) c9) (fN<|qG ‹_› ‹_›)<|A.Z ((seen++[j5]),A9,c9) ⟨((jO hn hb ‹_› ‹_›).1),((jO hn hb ‹_› ‹_›).2.1)⟩ (by((have h_:=(jO hn hb ‹_› ‹_›).2.2);simp;omega)) ?_))
  exact A.J [0,0,0]
 refine A.p<|A.su 1 (sI ao (de kv (fun v_=>v_.hp==ci)<|seen++[j5]) co) rfl (eI (tC ‹_› ‹_›:(de kv (fun v_=>v_.hp==ci) seen)=(de kv (fun v_=>v_.hp==ci)<|seen++[j5]))) (A.aQ [(sK b1),(14,p_ b3),(5,vS ao (de kv (fun v_=>v_.hp==ci)<|seen++[j5]) co),(6,i_ mk5),(20,.func (.func 225) #[] #[p_ b1]),(21,.agg (dx mv5).toArray),(22,b_<|mv5.hp==ci)] ⟨rfl,rfl,fN<|by exact tC ‹_› ‹_›,rfl,rfl,rfl,rfl,trivial⟩<|A.Z ((seen++[j5]),ao,co) ⟨((jO hn hb ‹_› ‹_›).1),((jO hn hb ‹_› ‹_›).2.1)⟩ (by((have h_:=(jO hn hb ‹_› ‹_›).2.2);simp;omega)) ?_)
 exact A.J [0,0,0]
theorem UD:HOk []:=fun k=>by simp[dep,fU,cu]
def ji(kv:List (Int×Cl))(ci:Int):Int:=if(cu kv ci).isSome=false then 6 else if(((dH kv<|fun v_=>v_.hp==ci)).length:Int)>0 then 23 else 0
def oz(kv:List (Int×Cl))(ci:Int):List (Int×Cl):=if ji kv ci=0 then dJ kv ci else kv
theorem Qa(bt mb:Nat)(kv:List (Int×Cl))(ci:Int)(hl:kv.length≤1000):
  CS 135 #[p_ bt,i_ ci] [cw bt [.map<|some mb] 185,dy mb kv] (fun(kv':(List<|Int×Cl))=>(i_<|ji kv ci)) (fun kv'=>kv'=oz kv ci) fun kv'=>[cw bt [.map<|some mb] 185,dy mb kv']:=by
 intro w hs
 refine A.C Tryz.func135 rfl hs (A.c<|A.g [.p] [] []<|A.d<|A.c<|A.g [.p,.p] [] [(8,b_ false)]<|A.cf<|A.p<|A.d<|A.c<|A.gm [.p,.p,.p,.ld 0,.p] [8] [(13,.map<|some mb),(14,i_ ci)] [bt]<|A.j<|A.u (some 15) _ (nQ (kt:=3) (et:=62) (enck:=(fun k:Int=>i_ k)) (encv:=(fun v_:Cl=>(.agg (dx v_).toArray))) (b:=mb) (kv:=kv) (k:=ci) (d0:=dj) (fun w s=>s.mem (i:=1) rfl) rfl rfl rfl (by kernel_rfl) lj (by kernel_rfl) rfl)<|A.g1 [.p,.p,.p,.al,.st 2,.p] [13,14,15] (fun b1=>[(6,b_<|(cu kv ci).isSome)]) (fun b1=>[]) (fun b1=>cw b1 (dx<|(cu kv ci).getD dj) 62) (fun b1=>[b1]) ?_)
 intro b1
 refine A.c<|A.g [.p,.p] [6] [(19,b_ (!((cu kv ci).isSome)))]<|A.v rfl (fun e1=>?_) (fun e1=>?_)
 ·refine A.c<|A.g [.p] [0,1,19] [(4,i_ 6)]<|A.e<|A.Y [0,0] [i_ 6] (kv) ?_ ?_
  ·refine congrArg (Value.int .i64) ?_;unfold ji;(simp_all;done)
  unfold oz ji;(simp_all;done)
 refine A.p<|A.d<|A.c<|A.N [.p,.p] [19] [(20,p_ bt),(21,i_ ci)]<|A.j<|A.I (some 22) [] (fun w s h=>yl bt mb kv ci ‹_› w (s.mem (i:=0) rfl) (s.mem (i:=1) rfl) h) ?_
 rintro⟨al'2,cl'3⟩-
 refine A.g [.p,.p] [20,21,22] [(24,b_<|decide (((dH kv<|fun v_=>v_.hp==ci).length:Int)>0))]<|A.v rfl (fun e3=>?_) (fun e3=>?_)
 ·have p3:=of_decide_eq_true e3
  refine A.c<|A.g [.p] [0,1,24] [(4,i_ 23)]<|A.e<|A.Y [1,1] [i_ 23] (kv) ?_ ?_
  ·refine congrArg (Value.int .i64) ?_;unfold ji;(simp_all;done)
  unfold oz ji;(simp_all;done)
 have p3:=of_decide_eq_false e3
 refine A.p<|A.c<|A.gm [.p,.p,.p,.ld 1,.p] [0,1,24] [(28,.map<|some mb),(29,i_ ci)] [bt]<|A.j<|A.bD (kt:=3) (et:=62) (enck:=(fun k:Int=>i_ k)) (encv:=(fun v_:Cl=>(.agg (dx v_).toArray))) (kv:=kv) (k:=ci) 2 [sI al'2 (dH kv<|fun v_=>v_.hp==ci) cl'3,cw bt [.map<|some mb] 185,dy mb<|dJ kv ci,cw b1 (dx<|(cu kv ci).getD dj) 62] (by kernel_rfl) rfl rfl rfl (by kernel_rfl) lj rfl rfl (A.aB<|A.c<|A.h [.p] [(4,i_ 0)] []<|A.e<|A.Y [1,1] [i_ 0] (dJ kv ci) ?_ ?_)
 ·refine congrArg (Value.int .i64) ?_;unfold ji;(simp_all;done)
 unfold oz ji;(simp_all;done)
def kR(kv:List (Int×Cl))(i:Int):Bool:=decide ((dK ((cu kv i).getD dj).la ((cu kv i).getD dj).lb ((cu kv i).getD dj).lc)>1)
def ib(kv:List (Int×Cl))(y:Cl):Int:=
 if fc y≠0 then fc y else if(cu kv y.hi).isSome=false then 6
 else if y.hp≠(dD kv y.hi).hp∨y.hl≠(dD kv y.hi).hl then 1
 else if((dK y.la y.lb y.lc)>1∧iV kv y.hp=false)∨((dK y.la y.lb y.lc)≤1∧((dH kv<|fun v_=>v_.hp==y.hi)).any (kR kv)=true) then 29 else 0
def lU(kv:List (Int×Cl))(y:Cl):List (Int×Cl):=if ib kv y=0 then dC kv y.hi y else kv
variable{l:List Int}{f:Int→Bool}
theorem xf(h:l[k]? =some i)(hf:f i=true):l.any f=true:=List.any_eq_true.2 ⟨i,List.mem_of_getElem? h,hf⟩
theorem IG(hn: ∀x∈l.take k,f x=false)(hk:l.length≤k):l.any f=false:=by
 rw[List.take_of_length_le hk] at hn;rw[List.any_eq_false];intro x hx;simp[hn x hx]
theorem Qb(hn: ∀x∈l.take k,f x=false)(h:l[k]? =some i)(hf:f i=false): ∀x∈l.take (k+1),f x=false:=by
 rw[List.take_add_one,h];intro x hx;rcases List.mem_append.1 hx with hx|hx
 ·exact hn x hx
 ·simp at hx;rw[hx];exact hf
abbrev Gk(p0:Cl):=((b_<|decide ((dK p0.la p0.lb p0.lc)>1)):Value)
abbrev w8(p0)(p1):=(cw p0 [.map<|some p1] 185:V.dB)
abbrev w9(p0):=((1,.func (.func 172) #[] #[p_ p0]):Nat×Value)
abbrev sO(p0):=((8,.func (.func 172) #[] #[p_ p0]):Nat×Value)
abbrev pg(p0):=((1,.agg (dx p0).toArray):Nat×Value)
abbrev oS(p0):=((14,b_<|(fc p0)!=0):Nat×Value)
theorem Qc(bt mb:Nat)(kv:List (Int×Cl))(y:Cl)(hl:kv.length≤1000):
  CS 133 #[p_ bt,.agg (dx y).toArray] [w8 bt mb,dy mb kv] (fun(kv':(List<|Int×Cl))=>(i_<|ib kv y)) (fun kv'=>kv'=lU kv y) fun kv'=>[w8 bt mb,dy mb kv']:=by
 intro w hs
 have hkl:=oN kv<|fun v_=>v_.hp==y.hi
 refine A.C Tryz.func133 rfl hs (A.c<|A.n2 [.al,.al,.p] [] (fun b1 b2=>[(2,p_ b1),(3,p_ b2),(4,i_ 0)]) (fun b1 b2=>[cw b1 [p_ bt] 131,cw b2 (dx y) 62]) ?_)
 intro b1 b2
 refine A.d<|A.c<|A.gl [.ld 2,.p] [] [(10,b_ false)] [b1]<|A.cf<|A.p<|A.d<|A.c<|A.k [.ld 3,.cq<|i_<|fc y,.p] [] [(5,i_<|fc y)] [b2] (o1<|qo<|fun w s=>EE y w)<|A.c<|A.g [.p,.p] [] [(oS y)]<|A.v rfl (fun e1=>?_) (fun e1=>?_)
 ·refine A.c<|A.g [.p,.p] [] [(4,i_<|fc y)]<|A.e<|A.Y [0,0] [i_<|fc y] (kv) ?_ ?_
  ·refine congrArg (Value.int .i64) ?_;unfold ib;(simp_all[dD];done)
  unfold lU ib;(simp_all[dD];done)
 refine A.p<|A.d<|A.d3 [10,11] 13 [w8 bt mb,dy mb kv,cw b1 [p_ bt] 131,cw b2 (dx y) 62]<|A.bT 7 [.ld 2,.p,.p,.ld 0,.p,.ld 3] (rg 0 6) [(0,p_ bt),(pg y),(2,p_ b1),(3,p_ b2),(4,i_ 0),(10,b_ false),(5,i_<|fc y),(oS y),(20,.map<|some mb),(22,i_ y.hi)] [b1,bt,b2] (.refl _)<|A.bR 6 (some 23) (.tuple #[.agg (dx<|(cu kv y.hi).getD dj).toArray,b_<|(cu kv y.hi).isSome]) rfl (by kernel_rfl) (by kernel_rfl) (.refl _) (nQ (kt:=3) (et:=62) (enck:=(fun k:Int=>i_ k)) (encv:=(fun v_:Cl=>(.agg (dx v_).toArray))) (b:=mb) (kv:=kv) (k:=y.hi) (d0:=dj) (fun w s=>s.mem (i:=1) rfl) rfl rfl rfl (by kernel_rfl) lj (by kernel_rfl) rfl) (A.bT 3 (ps 3) [7,8,9] [(0,p_ bt),(pg y),(2,p_ b1),(3,p_ b2),(4,i_ 0),(10,b_ false),(5,i_<|fc y),(oS y),(24,.agg (dx<|(cu kv y.hi).getD dj).toArray),(25,b_<|(cu kv y.hi).isSome)] [] (.refl _)<|A.o3 10 rfl (A.af 6 [i_ 0,i_ 0,b_ false,u_ 0,u_ 0,u_ 0,u_ 0,u_ 0,u_ 0,u_ 0,u_ 0,u_ 0,i_ 0,i_ 0] (by kernel_rfl) rfl (by kernel_rfl) (fun b3=>[w8 bt mb,dy mb kv,cw b1 [p_ bt] 131,cw b2 (dx y) 62,cw b3 [i_ 0,i_ 0,b_ false,u_ 0,u_ 0,u_ 0,u_ 0,u_ 0,u_ 0,u_ 0,u_ 0,u_ 0,i_ 0,i_ 0] 62]) (fun _=>rfl) ?_))
 intro b3
 refine A.aF (sd [4])<|A.o3 11 rfl (A.sT 4 (dx<|(cu kv y.hi).getD dj) rfl (A.aF (sd [4])<|A.bT 0 [.p] [12] [(0,p_ bt),(pg y),(2,p_ b1),(3,p_ b2),(4,i_ 0),(10,b_ false),(5,i_<|fc y),(oS y),(6,p_ b3),(7,b_<|(cu kv y.hi).isSome)] [] (sd [4])<|A.f3<|A.c<|A.g [.p,.p] [] [(sO b1)]<|A.d<|A.y<|A.c<|A.g (ps 3) [] [(27,b_ (!((cu kv y.hi).isSome)))]<|A.v rfl (fun e2=>?_) (fun e2=>?_)))
 ·refine A.c<|A.g [.p] [] [(4,i_ 6)]<|A.e<|A.Y [0,0] [i_ 6] (kv) ?_ ?_
  ·refine congrArg (Value.int .i64) ?_;unfold ib;(simp_all[dD];done)
  unfold lU ib;(simp_all[dD];done)
 refine A.c<|A.gl [.p,.ld 3,.p,.ld 4,.p,.p,.o,.p,.ld 3,.p,.ld 4,.eq,.cl,.p] [] [(30,b_<|(y.hp !=(((cu kv y.hi).getD dj).hp))||(!(y.hl==(((cu kv y.hi).getD dj).hl))))] [b2,b3,b2,b3]<|A.v rfl (fun e3=>?_) (fun e3=>?_)
 ·refine A.c<|A.g [.p] [] [(4,i_ 1)]<|A.e<|A.Y [0,0] [i_ 1] (kv) ?_ ?_
  ·refine congrArg (Value.int .i64) ?_;unfold ib;(simp_all[dD];done)
  unfold lU ib;(simp_all[dD];done)
 refine A.c<|A.kp [.ld 3,.cq<|Gk y,.p,.o,.ld 2,.p,.ld 3,.cq<|b_<|iV kv y.hp,.p,.cl,.p] [] [(53,b_<|(decide ((dK y.la y.lb y.lc)>1))&&(!(iV kv y.hp)))] [b2,b1,b2] (oc (qo<|fun w s=>nP y w)<|o1<|go (true&&((decide ((dK y.la y.lb y.lc)>1))==true)) fun h_=>(qo<|fun w s=>Dc bt mb kv y.hp w (s.mem (i:=0) rfl)<|s.mem (i:=1) rfl))<|A.aP ((decide ((dK y.la y.lb y.lc)>1))&&(!(iV kv y.hp))) (fun e4=>?_)<|fun e4=>?_
 ·refine A.D 53 (b_ true) (gu e4)<|A.g [.sk,.sk,.sk,.sk,.sk,.sk,.sk,.sk,.sk,.sk,.sk,.p,.p] [53] [(43,b_ true)]<|A.ct<|A.c<|A.g [.p] [] [(4,i_ 29)]<|A.e<|A.Y [0,0] [i_ 29] (kv) ?_ ?_
  ·refine congrArg (Value.int .i64) ?_;unfold ib;(simp_all[dD];done)
  unfold lU ib;(simp_all[dD];done)
 refine A.D 53 (b_ false) (gu e4)<|A.kp [.ld 3,.cq<|Gk y,.p,.p] [] [(57,b_ (!(decide ((dK y.la y.lb y.lc)>1))))] [b2] (o1<|qo<|fun w s=>nP y w)<|A.aP (!(decide ((dK y.la y.lb y.lc)>1))) (fun e5=>?_)<|fun e5=>?_
 ·refine A.D 57 (b_ true) (gu e5)<|A.gm [.ld 2,.p,.ld 3] [] [(58,p_ bt),(60,i_ y.hi)] [b1,b2]<|A.j<|A.I (some 61) [] (fun w s h=>yl bt mb kv y.hi ‹_› w (s.mem (i:=0) rfl) (s.mem (i:=1) rfl) h) ?_
  rintro⟨al'4,cl'5⟩-
  refine A.N [.p] [58,60] [(61,vS al'4 (dH kv<|fun v_=>v_.hp==y.hi) cl'5),(62,.func (.func 172) #[] #[p_ b1])]<|A.j<|A.iX (some 63) [vS al'4 (dH kv<|fun v_=>v_.hp==y.hi) cl'5,.func (.func 172) #[] #[p_ b1]] Tryz.func68 rfl (A.c<|A.g [.p] [] [(4,b_ false)]<|A.c<|A.N [.p,.p] [] [(5,vS al'4 (dH kv<|fun v_=>v_.hp==y.hi) cl'5),(6,.func (.func 172) #[] #[p_ b1])]<|A.j<|A.iX (some 7) [vS al'4 (dH kv<|fun v_=>v_.hp==y.hi) cl'5,.func (.func 172) #[] #[p_ b1]] Tryz.func98 rfl (A.c<|A.g [.p] [] [(4,i_ 0)]<|A.d<|A.c<|A.g (ps 3) [] [(7,i_ ((dH kv<|fun v_=>v_.hp==y.hi).length:Int)),(8,i_ 0)]<|A.y<|A.lp (σ:=Nat) [4] (fun k=>[(8,c_ k)]) [] (fun k=>[]) (fun k=>(k≤(dH kv<|fun v_=>v_.hp==y.hi).length)∧(∀x∈(dH kv<|fun v_=>v_.hp==y.hi).take k,kR kv x=false)) (fun k=>(dH kv<|fun v_=>v_.hp==y.hi).length-k) (0:Nat) ⟨(by omega),(by simp)⟩ ?_ ?_))
  ·exact A.J [0,0,0,0,0,0]
  rintro k ⟨hk,hn⟩
  refine A.c<|A.h [.p] [(0,vS al'4 (dH kv<|fun v_=>v_.hp==y.hi) cl'5),(w9 b1),(7,i_ ((dH kv<|fun v_=>v_.hp==y.hi).length:Int)),(8,c_ k),(9,b_<|decide ((k:Int)<((dH kv<|fun v_=>v_.hp==y.hi).length:Int)))] []<|A.d<|A.v rfl (fun e7=>?_) (fun e7=>?_)
  ·have p7:=of_decide_eq_true e7
   refine A.p<|A.d<|A.y<|A.c<|A.g [.p,.p] [] [(5,c_ k)]<|A.c<|A.kp [.p,.p,.p,.ix] [] [(11,.func (.func 172) #[] #[p_ b1]),(14,.pointer<|some<|(dR al'4).add (k*1))] [] (o1<|dW 0 k fD rfl (by omega)) ?_
   obtain⟨x7,hx7⟩: ∃x,((dH kv<|fun v_=>v_.hp==y.hi))[k]? =some x:=⟨_,List.getElem?_eq_getElem<|by omega⟩
   refine A.kp [.rd [i_ x7]] [14] [(15,i_ x7)] [] (o1<|ro ((dR al'4).add (k*1))<|fS (vs:=[i_ x7]) fD (fM (i:=0) rfl) hx7 (Nat.le_of_ble_eq_true rfl) rfl)<|A.j<|A.iX (some 16) [i_ x7,p_ b1] Tryz.func172 rfl (A.c<|A.g [.p] [] [(3,b_ false)]<|A.c<|A.gm [.ld 3,.p,.p,.ld 1,.p] [] [(7,.map<|some mb),(8,i_ x7)] [b1,bt]<|A.j<|A.u (some 9) _ (kD (kt:=3) (et:=62) (enck:=(fun k:Int=>i_ k)) (encv:=(fun v_:Cl=>(.agg (dx v_).toArray))) (b:=mb) (kv:=kv) (k:=x7) (d0:=dj) (fun w s=>s.mem (i:=2) rfl) rfl rfl rfl (by kernel_rfl) lj (by kernel_rfl) rfl)<|A.k [.cq<|b_<|decide ((dK ((cu kv x7).getD dj).la ((cu kv x7).getD dj).lb ((cu kv x7).getD dj).lc)>1),.p] [7,8,9] [(3,b_<|decide ((dK ((cu kv x7).getD dj).la ((cu kv x7).getD dj).lb ((cu kv x7).getD dj).lc)>1))] [] (o1<|qo<|fun w s=>nP ((cu kv x7).getD dj) w)<|A.e<|A.pb [b_<|decide ((dK ((cu kv x7).getD dj).la ((cu kv x7).getD dj).lb ((cu kv x7).getD dj).lc)>1)]<|A.aB<|A.aQ [(0,vS al'4 (dH kv<|fun v_=>v_.hp==y.hi) cl'5),(w9 b1),(7,i_ ((dH kv<|fun v_=>v_.hp==y.hi).length:Int)),(8,c_ k),(9,b_<|decide ((k:Int)<((dH kv<|fun v_=>v_.hp==y.hi).length:Int))),(5,c_ k),(16,b_<|decide ((dK ((cu kv x7).getD dj).la ((cu kv x7).getD dj).lb ((cu kv x7).getD dj).lc)>1))] ⟨rfl,rfl,rfl,rfl,rfl,rfl,rfl,trivial⟩<|A.v rfl (fun e8=>?_) (fun e8=>?_))
   ·have p8:=of_decide_eq_true e8
    refine A.c<|A.g [.p,.p] [] [(4,c_ k)]<|A.e<|A.pb [c_ k]<|A.h [.p,.p] [(0,vS al'4 (dH kv<|fun v_=>v_.hp==y.hi) cl'5),(w9 b1),(4,b_<|decide ((k:Int)≥0))] []<|A.e<|A.pb [b_<|decide ((k:Int)≥0)]<|A.h (ps 3) [(0,p_ bt),(pg y),(2,p_ b1),(3,p_ b2),(4,i_ 0),(10,b_ false),(5,i_<|fc y),(oS y),(6,p_ b3),(7,b_<|(cu kv y.hi).isSome),(sO b1),(27,b_ (!((cu kv y.hi).isSome))),(30,b_<|(y.hp !=(((cu kv y.hi).getD dj).hp))||(!(y.hl==(((cu kv y.hi).getD dj).hl)))),(43,b_<|decide ((k:Int)≥0))] []<|A.v rfl (fun e9=>?_) (fun e9=>?_)
    ·have p9:=of_decide_eq_true e9
     refine A.c<|A.g [.p] [] [(4,i_ 29)]<|A.e<|A.Y [1,1] [i_ 29] (kv) ?_ ?_
     ·refine congrArg (Value.int .i64) ?_;unfold ib;(have hq_:=xf (f:=kR kv) ‹_› (by unfold kR;assumption);simp only[hq_];simp_all[dD];done)
     unfold lU ib;(have hq_:=xf (f:=kR kv) ‹_› (by unfold kR;assumption);simp only[hq_];simp_all[dD];done)
    have p9:=of_decide_eq_false e9
    refine A.p<|A.d<|A.O [7] 8<|A.dT 1 [.ld 3,.p,.p,.ld 1,.p,.ld 4,.ld 4] (rg 0 7) [] [(69,.map<|some mb),(71,i_ y.hi),(72,.agg (dx y).toArray)] [b1,bt,b2,b2]<|A.F 7 rfl (A.mP 3 62 2 y.hi y rfl lj (A.E<|A.M<|A.aQ [(0,p_ bt),(pg y),(2,p_ b1),(3,p_ b2),(4,i_ 0),(10,b_ false),(5,i_<|fc y),(oS y),(6,p_ b3),(7,b_<|(cu kv y.hi).isSome),(sO b1),(27,b_ (!((cu kv y.hi).isSome))),(30,b_<|(y.hp !=(((cu kv y.hi).getD dj).hp))||(!(y.hl==(((cu kv y.hi).getD dj).hl)))),(43,b_<|decide ((k:Int)≥0))] ⟨rfl,rfl,rfl,rfl,rfl,rfl,rfl,rfl,rfl,rfl,rfl,rfl,rfl,rfl,trivial⟩<|A.c<|A.g [.p] [] []<|A.e<|A.Y [1,1] [i_ 0] (dC kv y.hi y) ?_ ?_))
    ·refine congrArg (Value.int .i64) ?_;unfold ib;(have hq_:=xf (f:=kR kv) ‹_› (by unfold kR;assumption);simp only[hq_];simp_all[dD];done)
    unfold lU ib;(have hq_:=xf (f:=kR kv) ‹_› (by unfold kR;assumption);simp only[hq_];simp_all[dD];done)
   have p8:=of_decide_eq_false e8
   refine A.p<|A.s<|A.k [.w<|(k:Int)+1,.p] [] [(8,i_<|(k:Int)+1)] [] (o1<|wj ((k:Int)+1)<|by omega)<|A.Z (k+1) ⟨(by omega),(Qb hn ‹_› ‹_›)⟩ (by omega) ?_
   exact A.J [0,0,0,0,0,0]
  have p7:=of_decide_eq_false e7
  refine A.aA<|A.c<|A.g [.p] [] [(4,i_ (-1))]<|A.e<|A.pb [i_ (-1)]<|A.h [.p,.p] [(0,vS al'4 (dH kv<|fun v_=>v_.hp==y.hi) cl'5),(w9 b1),(4,b_ false)] []<|A.e<|A.pb [b_ false]<|A.h (ps 3) [(0,p_ bt),(pg y),(2,p_ b1),(3,p_ b2),(4,i_ 0),(10,b_ false),(5,i_<|fc y),(oS y),(6,p_ b3),(7,b_<|(cu kv y.hi).isSome),(sO b1),(27,b_ (!((cu kv y.hi).isSome))),(30,b_<|(y.hp !=(((cu kv y.hi).getD dj).hp))||(!(y.hl==(((cu kv y.hi).getD dj).hl)))),(43,b_ false)] []<|A.cf<|A.p<|A.d<|A.O [7] 8<|A.dT 1 [.ld 3,.p,.p,.ld 1,.p,.ld 4,.ld 4] (rg 0 7) [] [(69,.map<|some mb),(71,i_ y.hi),(72,.agg (dx y).toArray)] [b1,bt,b2,b2]<|A.F 7 rfl (A.mP 3 62 2 y.hi y rfl lj (A.E<|A.M<|A.aQ [(0,p_ bt),(pg y),(2,p_ b1),(3,p_ b2),(4,i_ 0),(10,b_ false),(5,i_<|fc y),(oS y),(6,p_ b3),(7,b_<|(cu kv y.hi).isSome),(sO b1),(27,b_ (!((cu kv y.hi).isSome))),(30,b_<|(y.hp !=(((cu kv y.hi).getD dj).hp))||(!(y.hl==(((cu kv y.hi).getD dj).hl)))),(43,b_ false)] ⟨rfl,rfl,rfl,rfl,rfl,rfl,rfl,rfl,rfl,rfl,rfl,rfl,rfl,rfl,trivial⟩<|A.c<|A.g [.p] [] []<|A.e<|A.Y [1,1] [i_ 0] (dC kv y.hi y) ?_ ?_))
  ·refine congrArg (Value.int .i64) ?_;unfold ib;(have hq_:=IG hn (by omega);simp only[hq_];simp_all[dD];done)
  unfold lU ib;(have hq_:=IG hn (by omega);simp only[hq_];simp_all[dD];done)
 refine A.D 57 (b_ false) (gu e5)<|A.g [.sk,.sk,.sk,.sk,.sk,.sk,.p,.p,.p] [53,57] [(43,b_ false)]<|A.cf<|A.p<|A.d<|A.O [7] 8<|A.dT 1 [.ld 2,.p,.p,.ld 0,.p,.ld 3,.ld 3] (rg 0 7) [] [(69,.map<|some mb),(71,i_ y.hi),(72,.agg (dx y).toArray)] [b1,bt,b2,b2]<|A.F 7 rfl (A.mP 3 62 1 y.hi y rfl lj (A.E<|A.M<|A.aQ [(0,p_ bt),(pg y),(2,p_ b1),(3,p_ b2),(4,i_ 0),(10,b_ false),(5,i_<|fc y),(oS y),(6,p_ b3),(7,b_<|(cu kv y.hi).isSome),(sO b1),(27,b_ (!((cu kv y.hi).isSome))),(30,b_<|(y.hp !=(((cu kv y.hi).getD dj).hp))||(!(y.hl==(((cu kv y.hi).getD dj).hl)))),(43,b_ false)] ⟨rfl,rfl,rfl,rfl,rfl,rfl,rfl,rfl,rfl,rfl,rfl,rfl,rfl,rfl,trivial⟩<|A.c<|A.g [.p] [] []<|A.e<|A.Y [0,0] [i_ 0] (dC kv y.hi y) ?_ ?_))
 ·refine congrArg (Value.int .i64) ?_;unfold ib;grind[dD]
 unfold lU ib;grind[dD]
theorem Kx{α:Type}{l:List α}{x:α}(hx:l[k]? =some x):l.take (k+1)=l.take k++[x]:=by rw[List.take_add_one,hx];rfl
def jy(l:List Cl):List (Int×Cl):=l.map fun c=>(c.hi,c)
def td(l:List Cl)(a:Int):Bool:=a==0||decide ((jG (dD (jy l) a).la (dD (jy l) a).lb (dD (jy l) a).lc)>1)
def D3(l:List Cl)(a:Int):Nat:=fU (jy l) 70 a
def qY(l:List Cl)(a:Int):List Int:=(l.filter fun c=>decide (c.hp=a)).map (·.hi)
def Jp(a:Int)(l:List Cl):List Cl:=l.filter<|fun r=> !decide (r.hi=a)
def f9(x:Cl)(l:List Cl):Nat→List Cl×Bool
 |0=>([],false)
 |k+1=>match l[k]? with
  |none=>f9 x l k
  |some r=>
   (if r.hi≠x.hi then(if !(f9 x l k).2&&decide (r.hi≥x.hi) then(f9 x l k).1++[x] else(f9 x l k).1)++[r] else(if !(f9 x l k).2&&decide (r.hi≥x.hi) then(f9 x l k).1++[x] else(f9 x l k).1),
    (f9 x l k).2||(!(f9 x l k).2&&decide (r.hi≥x.hi)))
variable{x:Cl}
theorem Mc{r:Cl}{l:List Cl}(h:l[k]? =some r):f9 x l (k+1)=
 (if r.hi≠x.hi then(if !(f9 x l k).2&&decide (r.hi≥x.hi) then(f9 x l k).1++[x] else(f9 x l k).1)++[r] else(if !(f9 x l k).2&&decide (r.hi≥x.hi) then(f9 x l k).1++[x] else(f9 x l k).1),
  (f9 x l k).2||(!(f9 x l k).2&&decide (r.hi≥x.hi))):=by rw[f9,h]
def rU(x:Cl)(l:List Cl):List Cl:=if(f9 x l l.length).2 then(f9 x l l.length).1 else(f9 x l l.length).1++[x]
def C3(l:List Cl)(y:Cl):Int:=if qF y≠0 then qF y else if(cu (jy l) y.hi).isSome=true then 8 else if(l.length:Int)=64 then 5
 else if y.hp≠0∧(cu (jy l) y.hp=none∨(dD (jy l) y.hp).hl=true) then 23
 else if(jG y.la y.lb y.lc)>1∧td l y.hp=false then 29 else if(D3 l y.hp:Int)≥16 then 25 else 0
def JV(l:List Cl)(y:Cl):List Cl:=if C3 l y=0 then rU y l else l
def C4(l:List Cl)(a:Int):Int:=if cu (jy l) a=none then 6 else if((qY l a).length:Int)>0 then 23 else 0
def JW(l:List Cl)(a:Int):List Cl:=if C4 l a=0 then Jp a l else l
def ye(l:List Cl)(y:Cl)(i:Int):Bool:= !decide ((jG y.la y.lb y.lc)>1)&&td l i
def C5(l:List Cl)(y:Cl):Int:=if qF y≠0 then qF y else if cu (jy l) y.hi=none then 6
 else if(dD (jy l) y.hi).hp≠y.hp∨(dD (jy l) y.hi).hl≠y.hl then 1
 else if(jG y.la y.lb y.lc)>1∧td l y.hp=false then 29 else if(qY l y.hi).any (ye l y)=true then 29 else 0
def JX(l:List Cl)(y:Cl):List Cl:=if C5 l y=0 then rU y l else l
def lD(x:Cl):Prop:=((-9223372036854775808)≤x.hi∧x.hi≤9223372036854775807)∧((-9223372036854775808)≤x.hp∧x.hp≤9223372036854775807)∧True∧(0≤x.ra∧x.ra≤18446744073709551615)∧(0≤x.rb∧x.rb≤18446744073709551615)∧(0≤x.rc∧x.rc≤18446744073709551615)∧(0≤x.la∧x.la≤18446744073709551615)∧(0≤x.lb∧x.lb≤18446744073709551615)∧(0≤x.lc∧x.lc≤18446744073709551615)∧(0≤x.ua∧x.ua≤18446744073709551615)∧(0≤x.ub∧x.ub≤18446744073709551615)∧(0≤x.uc∧x.uc≤18446744073709551615)∧((-9223372036854775808)≤x.hk∧x.hk≤9223372036854775807)∧((-9223372036854775808)≤x.hq∧x.hq≤9223372036854775807)
def RS(R:List Cl):Prop:=R.Pairwise<|fun a b=>a.hi<b.hi
structure SF(x:Cl)(R:List Cl)(k:Nat):Prop where
 mem: ∀y,y∈(f9 x R k).1↔((f9 x R k).2=true∧y=x)∨(y∈R.take k∧y.hi≠x.hi)
 lo:(f9 x R k).2=false→ ∀r∈R.take k,r.hi<x.hi
 hi:(f9 x R k).2=true→ ∃r∈R.take k,x.hi≤r.hi
 srt:RS (f9 x R k).1
variable{y:Cl}
theorem sP{A:List Cl}(h:RS A)(hy: ∀a∈A,a.hi<y.hi):RS (A++[y]):=List.pairwise_append.2 ⟨h,by simp,fun a ha b hb=>by simp at hb;subst hb;exact hy a ha⟩
variable{R:List Cl}
theorem BW(x:Cl)(h:RS R): ∀k,SF x R k
 |0=>⟨by simp[f9],by simp,by simp[f9],by simp[f9,RS]⟩
 |k+1=>by
  have ih:=BW x h k
  cases hr:R[k]? with
  |none=>
   have e1:f9 x R (k+1)=f9 x R k:=by rw[f9,hr]
   have e2:R.take (k+1)=R.take k:=by rw[List.take_add_one,hr];simp
   exact⟨by rw[e1,e2];exact ih.mem,by rw[e1,e2];exact ih.lo,by rw[e1,e2];exact ih.hi,by rw[e1];exact ih.srt⟩
  |some r=>
   have et:R.take (k+1)=R.take k++[r]:=Kx hr
   have hlt: ∀a∈R.take k,a.hi<r.hi:=fun a ha=>by
    obtain⟨i,hi⟩:=List.mem_iff_getElem?.1 ha
    rw[List.getElem?_take] at hi;split at hi
    ·obtain⟨h1,h2⟩:=List.getElem?_eq_some_iff.1 hi
     obtain⟨h3,h4⟩:=List.getElem?_eq_some_iff.1 hr
     have:=List.pairwise_iff_getElem.1 h i k h1 h3 ‹_›;rw[h2,h4] at this;exact this
    ·cases hi
   have es:=Mc (x:=x) hr
   have keep: ∀a∈(f9 x R k).1,a=x∨a.hi<r.hi:=fun a ha=>by
    rcases(ih.mem a).1 ha with⟨_,e⟩|⟨e,_⟩
    ·exact .inl e
    ·exact .inr<|hlt a e
   cases hp:(f9 x R k).2 with
   |true=>
    obtain⟨q,hq,hqx⟩:=ih.hi hp
    have hxr:x.hi<r.hi:=by have:=hlt q hq;omega
    have hne:r.hi≠x.hi:=by omega
    have e:f9 x R (k+1)=((f9 x R k).1++[r],true):=by rw[es,hp];simp[hne]
    refine⟨fun y=>?_,?_,?_,?_⟩
    ·rw[e,et];simp only[List.mem_append,List.mem_singleton,ih.mem y,hp];constructor
     ·rintro((h1|⟨h1,h2⟩)|h1)
      ·exact .inl h1
      ·exact .inr ⟨.inl h1,h2⟩
      ·exact .inr ⟨.inr h1,by rw[h1];exact hne⟩
     ·rintro(h1|⟨h1|h1,h2⟩)
      ·exact .inl<|.inl h1
      ·exact .inl<|.inr ⟨h1,h2⟩
      ·exact .inr h1
    ·rw[e];intro g;cases g
    ·rw[e,et];intro _;exact⟨q,by simp[hq],hqx⟩
    ·rw[e];exact sP ih.srt fun a ha=>by
      rcases keep a ha with rfl|g
      ·exact hxr
      ·exact g
   |false=>
    have hlo:=ih.lo hp
    have hsub: ∀a∈(f9 x R k).1,a.hi<x.hi∧a.hi<r.hi:=fun a ha=>by
     rcases(ih.mem a).1 ha with⟨e,_⟩|⟨e,_⟩
     ·rw[hp] at e;cases e
     ·exact⟨hlo a e,hlt a e⟩
    by_cases hge:x.hi≤r.hi
    ·by_cases hne:r.hi=x.hi
     ·have e:f9 x R (k+1)=((f9 x R k).1++[x],true):=by rw[es,hp];simp[hne]
      refine⟨fun y=>?_,?_,?_,?_⟩
      ·rw[e,et];simp only[List.mem_append,List.mem_singleton,ih.mem y,hp];constructor
       ·rintro((⟨h1,_⟩|⟨h1,h2⟩)|h1)
        ·cases h1
        ·exact .inr ⟨.inl h1,h2⟩
        ·exact .inl ⟨trivial,h1⟩
       ·rintro(⟨_,h1⟩|⟨h1|h1,h2⟩)
        ·exact .inr h1
        ·exact .inl<|.inr ⟨h1,h2⟩
        ·exact absurd (by rw[h1];exact hne) h2
      ·rw[e];intro g;cases g
      ·rw[e,et];intro _;exact⟨r,by simp,hge⟩
      ·rw[e];exact sP ih.srt fun a ha=>(hsub a ha).1
     ·have e:f9 x R (k+1)=(((f9 x R k).1++[x])++[r],true):=by rw[es,hp];simp[hne,hge]
      refine⟨fun y=>?_,?_,?_,?_⟩
      ·rw[e,et];simp only[List.mem_append,List.mem_singleton,ih.mem y,hp];constructor
       ·rintro(((⟨h1,_⟩|⟨h1,h2⟩)|h1)|h1)
        ·cases h1
        ·exact .inr ⟨.inl h1,h2⟩
        ·exact .inl ⟨trivial,h1⟩
        ·exact .inr ⟨.inr h1,by rw[h1];exact hne⟩
       ·rintro(⟨_,h1⟩|⟨h1|h1,h2⟩)
        ·exact .inl<|.inr h1
        ·exact .inl<|.inl<|.inr ⟨h1,h2⟩
        ·exact .inr h1
      ·rw[e];intro g;cases g
      ·rw[e,et];intro _;exact⟨r,by simp,hge⟩
      ·rw[e];refine sP (sP ih.srt fun a ha=>(hsub a ha).1) fun a ha=>?_
       rcases List.mem_append.1 ha with ha|ha
       ·exact(hsub a ha).2
       ·simp at ha;subst ha;omega
    ·have hne:r.hi≠x.hi:=by omega
     have e:f9 x R (k+1)=((f9 x R k).1++[r],false):=by rw[es,hp];simp[hne,hge]
     refine⟨fun y=>?_,?_,?_,?_⟩
     ·rw[e,et];simp only[List.mem_append,List.mem_singleton,ih.mem y,hp];constructor
      ·rintro((⟨h1,_⟩|⟨h1,h2⟩)|h1)
       ·cases h1
       ·exact .inr ⟨.inl h1,h2⟩
       ·exact .inr ⟨.inr h1,by rw[h1];exact hne⟩
      ·rintro(⟨h1,_⟩|⟨h1|h1,h2⟩)
       ·cases h1
       ·exact .inl<|.inr ⟨h1,h2⟩
       ·exact .inr h1
     ·rw[e,et];intro _ a ha
      rcases List.mem_append.1 ha with ha|ha
      ·exact hlo a ha
      ·simp at ha;subst ha;omega
     ·rw[e];intro g;cases g
     ·rw[e];exact sP ih.srt fun a ha=>(hsub a ha).2
theorem uO(h:RS R)(y:Cl):y∈rU x R↔y=x∨(y∈R∧y.hi≠x.hi):=by
 have s:=(BW x h R.length).mem y
 rw[List.take_length] at s
 unfold rU;split
 ·rename_i hp;rw[s,hp];simp
 ·rename_i hp;rw[List.mem_append,s];simp[hp];exact or_comm
theorem Md(h:RS R):RS (rU x R):=by
 have s:=BW x h R.length
 unfold rU;split
 ·exact s.srt
 ·rename_i hp;refine sP s.srt fun a ha=>?_
  rcases(s.mem a).1 ha with⟨e,_⟩|⟨e,_⟩
  ·exact absurd e hp
  ·exact s.lo (by simpa using hp) a e
structure KR(kv:List (Int×Cl))(R:List Cl):Prop where
 srt:RS R
 get: ∀k y,cu kv k=some y↔y∈R∧y.hi=k
 nd:(kv.map (·.1)).Nodup
 rng: ∀y∈R,lD y
theorem Qd:KR [] []:=⟨by simp[RS],fun k y=>by simp[cu],by simp,by simp⟩
theorem Gl(h:RS R)(k:Int)(y:Cl):cu (jy R) k=some y↔y∈R∧y.hi=k:=by
 have hn:((jy R).map (·.1)).Nodup:=by
  unfold jy;rw[List.map_map];exact List.pairwise_map.2 (h.imp fun h1 e=>by simp at e;omega)
 constructor
 ·intro e
  obtain⟨z,hz,e2⟩:=List.mem_map.1<|nC e;cases e2;exact⟨hz,rfl⟩
 ·rintro⟨hy,rfl⟩;exact vO hn<|List.mem_map.2 ⟨y,hy,rfl⟩
theorem tB(h:KR kv R)(k:Int):cu kv k=cu (jy R) k:=by
 cases e:cu (jy R) k with
 |some y=>exact(h.get k y).2 ((Gl h.srt k y).1 e)
 |none=>
  cases e2:cu kv k with
  |none=>rfl
  |some y=>have:=(Gl h.srt k y).2 ((h.get k y).1 e2);rw[e] at this;cases this
theorem xg(h:KR kv R)(k:Int):dD kv k=dD (jy R) k:=by unfold dD;rw[tB h]
theorem Gm(h:KR kv R): ∀n k,fU kv n k=fU (jy R) n k
 |0,_=>rfl
 |n+1,k=>by unfold fU;rw[tB h,xg h,Gm h n]
theorem zI(kv:List (Int×Cl))(m:Nat): ∀(n:Nat)(k:Int),fU kv n k<n→fU kv (n+m) k=fU kv n k
 |0,k,h=>by omega
 |n+1,k,h=>by
  rw[show n+1+m=(n+m)+1 by omega]
  unfold fU at h⊢
  split
  ·rename_i hs;rw[if_pos hs] at h;rw[zI kv m n _<|by omega]
  ·rfl
theorem Qe(h:KR kv R)(hO:HOk kv)(k:Int):D3 R k=dep kv k:=by
 unfold D3 dep;rw[←Gm h]
 exact zI kv 53 17 k (by have:=hO k;unfold dep at this;omega)
theorem JY(h:KR kv R)(hy:y∈R):cu kv y.hi=some y:=(h.get _ _).2 ⟨hy,rfl⟩
theorem KL(h:l.Pairwise (· < ·)):ga l=l:=by
 have tr: ∀a b c:Int,decide (a≤b)=true→decide (b≤c)=true→decide (a≤c)=true:=fun a b c h1 h2=>by simp only[decide_eq_true_eq] at*;omega
 have to: ∀a b:Int,(decide (a≤b)||decide (b≤a))=true:=fun a b=>by simp only[Bool.or_eq_true,decide_eq_true_eq];omega
 unfold ga
 refine List.Perm.eq_of_pairwise (le:=fun a b:Int=>decide (a≤b)=true) (fun a b _ _ h1 h2=>?_) (List.pairwise_mergeSort tr to _) (h.imp fun h1=>by simp;omega)<|List.mergeSort_perm _ _
 simp only[decide_eq_true_eq] at h1 h2;omega
theorem OY(h:KR kv R)(f:Cl→Bool):dH kv f=(R.filter f).map (·.hi):=by
 have hs:((R.filter f).map (·.hi)).Pairwise (· < ·):=List.pairwise_map.2<|h.srt.filter f
 unfold dH;rw[←KL hs];refine EH ?_
 refine(List.perm_ext_iff_of_nodup ((h.nd).sublist (List.Sublist.map _ List.filter_sublist))<|hs.imp fun h1 e=>by omega).2 fun k=>?_
 rw[List.mem_map,List.mem_map];constructor
 ·rintro⟨p,hp,rfl⟩
  obtain⟨h1,h2⟩:=List.mem_filter.1 hp
  obtain⟨h3,h4⟩:=(h.get p.1 p.2).1 (vO h.nd h1)
  exact⟨p.2,List.mem_filter.2 ⟨h3,h2⟩,h4⟩
 ·rintro⟨r,hr,rfl⟩
  obtain⟨h1,h2⟩:=List.mem_filter.1 hr
  exact⟨_,List.mem_filter.2 ⟨nC<|JY h h1,h2⟩,rfl⟩
theorem OZ(h:KR kv R):(kv.map (·.1)).Perm (R.map (·.hi)):=by
 have hs:(R.map (·.hi)).Nodup:=List.pairwise_map.2<|h.srt.imp fun h1 e=>by omega
 refine(List.perm_ext_iff_of_nodup h.nd hs).2 fun k=>?_
 rw[List.mem_map,List.mem_map];constructor
 ·rintro⟨p,hp,rfl⟩
  obtain⟨h3,h4⟩:=(h.get p.1 p.2).1 (vO h.nd hp);exact⟨p.2,h3,h4⟩
 ·rintro⟨r,hr,rfl⟩;exact⟨_,nC<|JY h hr,rfl⟩
theorem Qg(h:KR kv R):kv.length=R.length:=by simpa using(OZ h).length_eq
theorem yS(h:lD y):(0≤y.ra∧0≤y.rb∧0≤y.rc)∧(0≤y.la∧0≤y.lb∧0≤y.lc)∧0≤y.ua∧0≤y.ub∧0≤y.uc:=by
 unfold lD at h;omega
theorem FV(h:lD y):fc y=qF y:=by
 obtain⟨⟨h1,h2,h3⟩,⟨h4,h5,h6⟩,h7,h8,h9⟩:=yS h
 unfold fc qF;rw[wY h1 h2 h3,wY h4 h5 h6,wY h7 h8 h9]
theorem C6(h:lD y):dK y.la y.lb y.lc=jG y.la y.lb y.lc:=wY (yS h).2.1.1 (yS h).2.1.2.1 (yS h).2.1.2.2
theorem Qh:lD dj:=by unfold lD dj;decide
theorem IH(h:KR kv R)(k:Int):lD (dD kv k):=by
 unfold dD;cases e:cu kv k with
 |none=>exact Qh
 |some y=>exact h.rng y ((h.get k y).1 e).1
theorem zJ(h:KR kv R)(k:Int):iV kv k=td R k:=by
 unfold iV td;rw[C6<|IH h k,xg h]
theorem C7(h:KR kv R)(a:Int):dH kv (fun v_=>v_.hp==a)=qY R a:=by
 rw[OY h];unfold qY;congr 1
theorem II(h:KR kv R)(hx:lD x):KR (dC kv x.hi x) (rU x R):=by
 refine⟨Md h.srt,fun k y=>?_,kj h.nd _ _,fun r hr=>?_⟩
 ·rw[i7];by_cases e:x.hi=k
  ·rw[if_pos e];subst e;constructor
   ·intro g;cases g;exact⟨(uO h.srt x).2 (.inl rfl),rfl⟩
   ·rintro⟨hr,e1⟩
    rcases(uO h.srt y).1 hr with rfl|⟨_,g⟩
    ·rfl
    ·exact absurd e1 g
  ·rw[if_neg e,h.get];constructor
   ·rintro⟨hr,e1⟩;exact⟨(uO h.srt y).2 (.inr ⟨hr,fun g=>e<|by rw[←g,e1]⟩),e1⟩
   ·rintro⟨hr,e1⟩
    rcases(uO h.srt y).1 hr with rfl|⟨g,_⟩
    ·exact absurd e1 e
    ·exact⟨g,e1⟩
 ·rcases(uO h.srt r).1 hr with rfl|⟨g,_⟩
  ·exact hx
  ·exact h.rng r g
theorem Qi(h:KR kv R)(a:Int):KR (dJ kv a) (Jp a R):=by
 refine⟨List.Pairwise.filter _ h.srt,fun k y=>?_,kB h.nd a,fun r hr=>h.rng r (List.mem_filter.1 hr).1⟩
 rw[iG h.nd]
 by_cases e:a=k
 ·rw[if_pos e];subst e;constructor
  ·intro g;cases g
  ·rintro⟨hr,e1⟩;have:=(List.mem_filter.1 hr).2;simp[e1] at this
 ·rw[if_neg e,h.get];constructor
  ·rintro⟨hr,e1⟩;exact⟨List.mem_filter.2 ⟨hr,by simp[e1];exact fun g=>e g.symm⟩,e1⟩
  ·rintro⟨hr,e1⟩;exact⟨(List.mem_filter.1 hr).1,e1⟩
structure dr(kv:List (Int×Cl)):Prop where
 nd:(kv.map (·.1)).Nodup
 key: ∀k y,cu kv k=some y→y.hi=k∧fc y=0
 par: ∀k y,cu kv k=some y→y.hp=0∨ ∃p,cu kv y.hp=some p∧p.hl=false
 shr: ∀k y,cu kv k=some y→(dK y.la y.lb y.lc)>1→iV kv y.hp=true
 dep:HOk kv
 len:kv.length≤64
theorem Me:dr []:=⟨by simp,fun k y h=>by simp[cu] at h,fun k y h=>by simp[cu] at h,fun k y h=>by simp[cu] at h,UD,by simp⟩
theorem sA(h:fc y=0):1≤y.hi∧0≤y.hp∧y.hi≠y.hp:=by
 unfold fc at h;split at h
 ·omega
 ·omega
theorem mU(h:dr kv):cu kv 0=none:=by
 cases e:cu kv 0 with
 |none=>rfl
 |some y=>obtain⟨h1,h2⟩:=h.key 0 y e;have:=sA h2;omega
variable{k:Int}
theorem iu(h:cu kv k=some y):dD kv k=y:=by unfold dD;rw[h];rfl
theorem BX(h:cu kv k=none):dD kv k=dj:=by unfold dD;rw[h];rfl
theorem E5(kv:List (Int×Cl)): ∀(n:Nat)(k:Int),fU kv n k≤fU kv (n+1) k
 |0,k=>by simp[fU]
 |n+1,k=>by
  rw[fU,fU];split
  ·have:=E5 kv n (dD kv k).hp;omega
  ·exact Nat.le_refl _
theorem Qj(h:ia kv y=0):fc y=0∧cu kv y.hi=none∧(kv.length:Int)≠64∧(y.hp=0∨cu kv y.hp≠none)∧(dD kv y.hp).hl=false∧((dK y.la y.lb y.lc)>1→iV kv y.hp=true)∧(dep kv y.hp:Int)≠16:=by
 unfold ia at h
 repeat' split at h
 all_goals first|omega|skip
 rename_i h1 h2 h3 h4 h5 h6
 refine⟨by omega,?_,h3,?_,?_,?_,h6⟩
 ·cases e:cu kv y.hi with
  |none=>rfl
  |some z=>rw[e] at h2;simp at h2
 ·by_cases e:y.hp=0
  ·exact .inl e
  ·right;intro e2;apply h4;left;exact⟨e,by rw[e2];rfl⟩
 ·cases e:(dD kv y.hp).hl with
  |false=>rfl
  |true=>exact absurd (.inr e) h4
 ·intro g;cases e:iV kv y.hp with
  |true=>rfl
  |false=>exact absurd ⟨g,e⟩ h5
theorem O0(h:dr kv)(hk:k=0∨cu kv k≠none):(dD kv k).hp=0∨cu kv (dD kv k).hp≠none:=by
 cases e:cu kv k with
 |none=>rw[BX e];exact .inl rfl
 |some y=>rw[iu e];rcases h.par k y e with g|⟨p,g,_⟩
          ·exact .inl g
          ·right;rw[g];simp
theorem zj(h:dr kv)(hn:cu kv y.hi=none)(h0:y.hi≠0): ∀(n:Nat)(k:Int),(k=0∨cu kv k≠none)→fU (dC kv y.hi y) n k=fU kv n k
 |0,_,_=>rfl
 |n+1,k,hk=>by
  have hne: ¬y.hi=k:=by
   rcases hk with rfl|hk
   ·exact h0
   ·rintro rfl;exact hk hn
  have eg:cu (dC kv y.hi y) k=cu kv k:=by rw[i7,if_neg hne]
  rw[fU,fU,eg,show dD (dC kv y.hi y) k=dD kv k by unfold dD;rw[eg],zj h hn h0 n _<|O0 h hk]
theorem vN(hne: ¬y.hi=k):iV (dC kv y.hi y) k=iV kv k:=by
 unfold iV dD;rw[i7,if_neg hne]
theorem NA(h:dr kv)(hE:ia kv y=0):dr (dC kv y.hi y):=by
 obtain⟨h1,h2,h3,h4,h5,h6,h7⟩:=Qj hE
 obtain⟨w1,w2,w3⟩:=sA h1
 have old: ∀k z,cu kv k=some z→ ¬y.hi=z.hp:=fun k z hz e=>by
  rcases h.par k z hz with g|⟨p,g,_⟩
  ·omega
  ·rw[←e,h2] at g;cases g
 refine⟨kj h.nd _ _,fun k z hz=>?_,fun k z hz=>?_,fun k z hz hs=>?_,fun k=>?_,?_⟩
 ·rw[i7] at hz;split at hz
  ·cases hz;exact⟨by assumption,h1⟩
  ·exact h.key k z hz
 ·rw[i7] at hz;split at hz
  ·cases hz
   rcases h4 with g|g
   ·exact .inl g
   ·right;cases e:cu kv y.hp with
    |none=>exact absurd e g
    |some p=>exact⟨p,by rw[i7,if_neg w3];exact e,by rw[←iu e];exact h5⟩
  ·rcases h.par k z hz with g|⟨p,g,g2⟩
   ·exact .inl g
   ·exact .inr ⟨p,by rw[i7,if_neg<|old k z hz];exact g,g2⟩
 ·rw[i7] at hz;split at hz
  ·cases hz;rw[vN w3];exact h6 hs
  ·rw[vN<|old k z hz];exact h.shr k z hz hs
 ·unfold dep
  by_cases e:y.hi=k
  ·subst e
   have eg:cu (dC kv y.hi y) y.hi=some y:=by rw[i7,if_pos rfl]
   rw[fU,eg,iu eg,zj h h2 (by omega) 16 _ h4]
   have q1:fU kv 16 y.hp≤fU kv 17 y.hp:=E5 kv 16 y.hp
   have q2:=h.dep y.hp
   unfold dep at*
   simp only[Option.isSome_some,if_true]
   omega
  ·cases hm:cu kv k with
   |none=>
    rw[fU,i7,if_neg e,hm];simp
   |some z=>rw[zj h h2 (by omega) 17 k<|.inr (by rw[hm];simp)];exact h.dep k
 ·rw[yk _ h2];have:=h.len;omega
theorem E6{kv':List (Int×Cl)}(h1: ∀k,(cu kv' k).isSome=(cu kv k).isSome)(h2: ∀k,(dD kv' k).hp=(dD kv k).hp): ∀(n:Nat)(k:Int),fU kv' n k=fU kv n k
 |0,_=>rfl
 |n+1,k=>by rw[fU,fU,h1,h2,E6 h1 h2 n]
theorem Qk(h:ib kv y=0):fc y=0∧cu kv y.hi≠none∧y.hp=(dD kv y.hi).hp∧y.hl=(dD kv y.hi).hl∧((dK y.la y.lb y.lc)>1→iV kv y.hp=true)∧((dK y.la y.lb y.lc)≤1→(dH kv<|fun v_=>v_.hp==y.hi).any (kR kv)=false):=by
 unfold ib at h
 repeat' split at h
 all_goals first|omega|skip
 rename_i h1 h2 h3 h4
 refine⟨by omega,?_,?_,?_,?_,?_⟩
 ·intro e;apply h2;rw[e];rfl
 ·exact Classical.byContradiction fun g=>h3<|.inl g
 ·exact Classical.byContradiction fun g=>h3<|.inr g
 ·intro g;cases e:iV kv y.hp with
  |true=>rfl
  |false=>exact absurd (.inl ⟨g,e⟩) h4
 ·intro g;cases e:(dH kv<|fun v_=>v_.hp==y.hi).any (kR kv) with
  |false=>rfl
  |true=>exact absurd (.inr ⟨g,e⟩) h4
theorem rj{f:Cl→Bool}{v:Cl}(h:cu kv k=some v)(hf:f v=true):k∈dH kv f:=by
 unfold dH ga;rw[(List.mergeSort_perm _ _).mem_iff,List.mem_map]
 exact⟨(k,v),List.mem_filter.2 ⟨nC h,hf⟩,rfl⟩
theorem NB(h:dr kv)(hE:ib kv y=0):dr (dC kv y.hi y):=by
 obtain⟨h1,h2,h3,h4,h5,h6⟩:=Qk hE
 obtain⟨w1,w2,w3⟩:=sA h1
 obtain⟨x,hx⟩: ∃x,cu kv y.hi=some x:=by
  cases e:cu kv y.hi with
  |none=>exact absurd e h2
  |some x=>exact⟨x,rfl⟩
 rw[iu hx] at h3 h4
 have hsh: ∀z:Cl,z.hp=y.hi→ ∀k,cu kv k=some z→(dK z.la z.lb z.lc)>1→(dK y.la y.lb y.lc)>1:=fun z e k hz hs=>by
  rcases Classical.em ((dK y.la y.lb y.lc)>1) with g|g
  ·exact g
  ·have:=List.any_eq_false.1 (h6<|by omega) k<|rj hz<|by simp[e]
   unfold kR at this;rw[hz] at this;simp at this;omega
 refine⟨kj h.nd _ _,fun k z hz=>?_,fun k z hz=>?_,fun k z hz hs=>?_,fun k=>?_,?_⟩
 ·rw[i7] at hz;split at hz
  ·cases hz;exact⟨by assumption,h1⟩
  ·exact h.key k z hz
 ·have par:z.hp=0∨ ∃p,cu kv z.hp=some p∧p.hl=false:=by
   rw[i7] at hz;split at hz
   ·cases hz;rw[h3];exact h.par _ _ hx
   ·exact h.par k z hz
  rcases par with g|⟨p,g,g2⟩
  ·exact .inl g
  ·right;by_cases e:y.hi=z.hp
   ·refine⟨y,by rw[i7,if_pos e],?_⟩
    rw[←e,hx] at g;cases g;rw[h4];exact g2
   ·exact⟨p,by rw[i7,if_neg e];exact g,g2⟩
 ·rw[i7] at hz;split at hz
  ·cases hz;rw[vN w3];exact h5 hs
  ·by_cases e:y.hi=z.hp
   ·unfold iV dD;rw[i7,if_pos e]
    have:=hsh z e.symm k hz hs
    simp;right;omega
   ·rw[vN e];exact h.shr k z hz hs
 ·unfold dep;rw[E6 (kv:=kv) (fun q=>?_)<|fun q=>?_]
  ·exact h.dep k
  ·rw[i7];split
   ·rename_i e;subst e;rw[hx];rfl
   ·rfl
  ·unfold dD;rw[i7];split
   ·rename_i e;subst e;rw[hx];exact h3
   ·rfl
 ·rw[Dj _ h2];exact h.len
theorem Ql{a:Int}(h:ji kv a=0):cu kv a≠none∧ ∀k z,cu kv k=some z→z.hp≠a:=by
 unfold ji at h
 repeat' split at h
 all_goals first|omega|skip
 rename_i h1 h2
 refine⟨fun e=>h1 (by rw[e];rfl),fun k z hz e=>?_⟩
 have:k∈dH kv (fun v_=>v_.hp==a):=rj hz<|by simp[e]
 have:=List.length_pos_of_mem this;omega
theorem NC(h:dr kv){a:Int}(hE:ji kv a=0):dr (dJ kv a):=by
 obtain⟨h1,h2⟩:=Ql hE
 have gt: ∀k z,cu (dJ kv a) k=some z→cu kv k=some z:=fun k z hz=>by
  rw[iG h.nd] at hz;split at hz
  ·cases hz
  ·exact hz
 have same: ∀k,¬a=k→cu (dJ kv a) k=cu kv k:=fun k hk=>by rw[iG h.nd,if_neg hk]
 have dn: ∀(n:Nat)(k:Int),fU (dJ kv a) n k≤fU kv n k:=by
  intro n;induction n with
  |zero=>intro k;simp[fU]
  |succ n ih=>
   intro k;by_cases e:a=k
   ·rw[fU];rw[iG h.nd,if_pos e];simp
   ·rw[fU,fU,same k e,show dD (dJ kv a) k=dD kv k by unfold dD;rw[same k e]]
    split
    ·have:=ih (dD kv k).hp;omega
    ·exact Nat.le_refl _
 refine⟨kB h.nd a,fun k z hz=>h.key k z<|gt k z hz,fun k z hz=>?_,fun k z hz hs=>?_,fun k=>Nat.le_trans (dn 17 k)<|h.dep k,?_⟩
 ·rcases h.par k z (gt k z hz) with g|⟨p,g,g2⟩
  ·exact .inl g
  ·exact .inr ⟨p,by rw[same _<|Ne.symm<|h2 k z<|gt k z hz];exact g,g2⟩
 ·have:=h.shr k z (gt k z hz) hs
  unfold iV dD at this⊢;rw[same _<|Ne.symm<|h2 k z<|gt k z hz];exact this
 ·have:=wE h1;have:=h.len;omega
theorem EG{g:Int→Bool}: ∀{l:List Int},(∀i∈l,f i=g i)→l.any f=l.any g
 |[],_=>rfl
 |x::l,h=>by rw[List.any_cons,List.any_cons,h x<|by simp,EG fun i hi=>h i<|by simp[hi]]
theorem O1(h:KR kv R)(hi:i≠0):kR kv i=td R i:=by
 rw[←zJ h];unfold kR iV;rw[show((cu kv i).getD dj)=dD kv i from rfl]
 have:(i==0)=false:=by simpa using hi
 rw[this];simp
theorem Qm(h:KR kv R)(hL:dr kv)(hy:lD y):ia kv y=C3 R y:=by
 unfold ia C3
 rw[FV hy,zJ h,C6 hy,Qe h hL.dep,←Qg h,←xg h,←tB h,←tB h]
 have hd:=hL.dep y.hp
 by_cases c1:qF y≠0
 ·rw[if_pos c1,if_pos c1]
 rw[if_neg c1,if_neg c1]
 by_cases c2:(cu kv y.hi).isSome=true
 ·rw[if_pos c2,if_pos c2]
 rw[if_neg c2,if_neg c2]
 by_cases c3:(kv.length:Int)=64
 ·rw[if_pos c3,if_pos c3]
 rw[if_neg c3,if_neg c3]
 have e4:((y.hp≠0∧(cu kv y.hp).isSome=false)∨(dD kv y.hp).hl=true)↔(y.hp≠0∧(cu kv y.hp=none∨(dD kv y.hp).hl=true)):=by
  by_cases e0:y.hp=0
  ·rw[e0,BX<|mU hL];simp[dj]
  ·simp[e0]
 simp only[e4]
 have e6:((dep kv y.hp:Int)=16)↔((dep kv y.hp:Int)≥16):=by omega
 simp only[e6]
theorem Qn(h:KR kv R)(a:Int):ji kv a=C4 R a:=by
 unfold ji C4;rw[C7 h,←tB h];cases cu kv a<;>simp
theorem Qo(h:KR kv R)(hL:dr kv)(hy:lD y):ib kv y=C5 R y:=by
 unfold ib C5
 have ea:(qY R y.hi).any (ye R y)=(!decide ((jG y.la y.lb y.lc)>1)&&(qY R y.hi).any (kR kv)):=by
  have e1:(qY R y.hi).any (ye R y)=(qY R y.hi).any (fun i=> !decide ((jG y.la y.lb y.lc)>1)&&kR kv i):=by
   refine EG fun i hi=>?_
   rw[←C7 h] at hi
   have hi2:i∈kv.map (·.1):=by
    unfold dH ga at hi;rw[(List.mergeSort_perm _ _).mem_iff] at hi
    obtain⟨p,hp,rfl⟩:=List.mem_map.1 hi;exact List.mem_map_of_mem (List.mem_filter.1 hp).1
   obtain⟨p,hp,rfl⟩:=List.mem_map.1 hi2
   obtain⟨k1,k2⟩:=hL.key p.1 p.2<|vO h.nd hp
   have:=sA k2
   unfold ye;rw[O1 h<|by omega]
  rw[e1];cases decide ((jG y.la y.lb y.lc)>1)<;>simp
 rw[FV hy,zJ h,C6 hy,C7 h,ea,←xg h,←tB h]
 by_cases c1:qF y≠0
 ·rw[if_pos c1,if_pos c1]
 rw[if_neg c1,if_neg c1]
 cases c2:cu kv y.hi with
 |none=>simp
 |some x=>
  simp only[Option.isSome_some,reduceCtorEq,if_false]
  have e3:(y.hp≠(dD kv y.hi).hp∨y.hl≠(dD kv y.hi).hl)↔((dD kv y.hi).hp≠y.hp∨(dD kv y.hi).hl≠y.hl):=by rw[ne_comm,ne_comm (a:=y.hl)]
  simp only[e3]
  by_cases c4:(jG y.la y.lb y.lc)>1
  ·have: ¬(jG y.la y.lb y.lc)≤1:=by omega
   simp[c4,this]
  ·have:(jG y.la y.lb y.lc)≤1:=by omega
   simp[c4,this]
theorem L6(h:dr kv)(y:Cl):dr (ly kv y):=by
 unfold ly;split
 ·exact NA h ‹_›
 ·exact h
theorem L8(h:dr kv)(y:Cl):dr (lU kv y):=by
 unfold lU;split
 ·exact NB h ‹_›
 ·exact h
theorem L9(h:dr kv)(a:Int):dr (oz kv a):=by
 unfold oz;split
 ·exact NC h ‹_›
 ·exact h
theorem O2(h:KR kv R)(hL:dr kv)(hy:lD y):KR (ly kv y) (JV R y):=by
 unfold ly JV;rw[Qm h hL hy];split
 ·exact II h hy
 ·exact h
theorem O3(h:KR kv R)(hL:dr kv)(hy:lD y):KR (lU kv y) (JX R y):=by
 unfold lU JX;rw[Qo h hL hy];split
 ·exact II h hy
 ·exact h
theorem O4(h:KR kv R)(a:Int):KR (oz kv a) (JW R a):=by
 unfold oz JW;rw[Qn h];split
 ·exact Qi h a
 ·exact h
structure Pl where
 pp:Int
 pf:Int
 deriving Inhabited,DecidableEq
def qK(x:Pl):List Value:=[(i_ x.pp),(i_ x.pf)]
def dQ:Pl:=⟨0,0⟩
def fR(on:List (Int×Int))(kv:List (Int×MB))(i:Int):Bool:=(cu on i).isSome||decide ((kx kv i).length>0)
def da(ym:List (Int×Pl))(i:Int):Int:=((cu ym i).getD dQ).pp
def jF(ym:List (Int×Pl))(i:Int):Bool:=decide (((cu ym i).getD dQ).pf≠0)
def lT(F:Int→List (Int×Int))(p i:Int):Int→List (Int×Int):=fun q=>if p=q then dC (F p) i 1 else F q
def iK(F:Int→List (Int×Int))(p i:Int):Int→List (Int×Int):=fun q=>if p=q then dJ (F p) i else F q
def jE(ym:List (Int×Pl)):Nat→Int→Prop
 |0,_=>False
 |n+1,i=>da ym i=0∨jE ym n (da ym i)
def fV(ym:List (Int×Pl))(F:Int→List (Int×Int)):Nat→Int→List Int×(Int→List (Int×Int))
 |0,i=>([i],F)
 |n+1,i=>if F (da ym i)≠[]∨da ym i=0 then([i],lT F (da ym i) i) else
  (i::(fV ym (lT F (da ym i) i) n<|da ym i).1,(fV ym (lT F (da ym i) i) n<|da ym i).2)
def fp(ym:List (Int×Pl))(F:Int→List (Int×Int)):Nat→Int→List Int×(Int→List (Int×Int))
 |0,i=>([i],F)
 |n+1,i=>if iK F (da ym i) i (da ym i)≠[]∨da ym i=0 then([i],iK F (da ym i) i) else
  (i::(fp ym (iK F (da ym i) i) n<|da ym i).1,(fp ym (iK F (da ym i) i) n<|da ym i).2)
variable{ym:List (Int×Pl)}{F:Int→List (Int×Int)}{n:Nat}
theorem nY(h:F (da ym i)≠[]∨da ym i=0):fV ym F (n+1) i=([i],lT F (da ym i) i):=by rw[fV,if_pos h]
theorem yJ(h: ¬(F (da ym i)≠[]∨da ym i=0)):fV ym F (n+1) i=(i::(fV ym (lT F (da ym i) i) n<|da ym i).1,(fV ym (lT F (da ym i) i) n<|da ym i).2):=by rw[fV,if_neg h]
theorem qj(h:iK F (da ym i) i (da ym i)≠[]∨da ym i=0):fp ym F (n+1) i=([i],iK F (da ym i) i):=by rw[fp,if_pos h]
theorem BI(h: ¬(iK F (da ym i) i (da ym i)≠[]∨da ym i=0)):fp ym F (n+1) i=(i::(fp ym (iK F (da ym i) i) n<|da ym i).1,(fp ym (iK F (da ym i) i) n<|da ym i).2):=by rw[fp,if_neg h]
theorem ET{p:Int}(h:F p=[]):iK F p i=F:=by
 funext q;unfold iK;split
 ·rename_i e;subst e;rw[h];rfl
 ·rfl
abbrev iT(b:Nat)(kv:List (Int×Pl)):V.dB:=dY (fun k:Int=>i_ k) (fun v_:Pl=>(.agg (qK v_).toArray)) b kv
abbrev gK(b:Nat)(kv:List (Int×Int)):V.dB:=dY (fun k:Int=>i_ k) (fun x:Int=>i_ x) b kv
abbrev gx(b:Nat)(kv:List (Int×MB)):V.dB:=dY (fun k:Int=>i_ k) nm b kv
theorem uo(bs mb mo mk:Nat)(ym:List (Int×Pl))(on:List (Int×Int))(kv:List (Int×MB))(ci:Int)(w:World)(r0:(cw bs [.map<|some mb,.map<|some mo,.map<|some mk] 197).holds w)(r1:(iT mb ym).holds w)(r2:(gK mo on).holds w)(r3:(gx mk kv).holds w)(r4:(fJ kv).holds w):
  CW 109 #[p_ bs,i_ ci] w (b_<|fR on kv ci):=by
 refine A.C Tryz.func109 rfl (HS.nil w) (A.c<|A.g [.p] [] []<|A.d<|A.c<|A.g [.p,.p] [] [(8,b_ false)]<|A.cf<|A.p<|A.c<|A.kp [.p,.p,.p,.rd [.map<|some mo],.p] [8] [(13,.map<|some mo),(14,i_ ci)] [] (o1<|ro ⟨bs,1,none⟩ (vs:=[.map<|some mo])<|df r0 rfl)<|A.j<|A.u (some 15) _ (tf 3 3 ci 0 (fun w s=>d6 s r2)<|ee<|by kernel_rfl)<|A.g (ps 5) [13,14,15] [(6,b_<|(cu on ci).isSome)]<|A.d<|A.aP ((cu on ci).isSome) (fun e1=>?_)<|fun e1=>?_)
 ·refine A.D 6 (b_ true) (gu e1) ?_
  refine A.s<|A.g [.p,.p,.sk,.sk,.sk,.sk,.sk,.sk,.sk,.sk,.p,.p] [0,1,6] [(4,b_ true)] ?_
  refine A.e<|A.W [b_ true] ?_
  refine congrArg Value.bool ?_;unfold fR;simp_all
 refine A.D 6 (b_ false) (gu e1)<|A.s<|A.kp [.p,.p,.p,.p,.p,.rd [.map<|some mk],.p] [0,1,6] [(19,b_ false),(23,.map<|some mk),(24,i_ ci)] [] (o1<|ro ⟨bs,2,none⟩ (vs:=[.map<|some mk])<|df r0 rfl) ?_
 rcases hk1:cu kv ci with _|m1
 ·have hx1:=AW hk1
  refine A.j<|A.u (some 25) (.map none) (iw (wt hk1)<|qL 3 194 ci m0 (fun ww ss=>d6 ss r3)<|ee<|by kernel_rfl) ?_
  refine A.j<|A.u (some 26) (i_ 0) (zv (kt:=3) (et:=3) rfl rfl (by kernel_rfl)) ?_
  refine A.g (ps 3) [19,23,24,25,26] [(4,b_ false)] ?_
  refine A.e<|A.W [b_ false] ?_
  refine congrArg Value.bool ?_;unfold fR;simp_all
 have hx1:=AX hk1
 obtain⟨b1,hm1,hb1⟩:=Qw r4 hk1
 refine A.j<|A.u (some 25) (.map<|some b1) (iw (rE hk1 hm1)<|qL 3 194 ci m0 (fun ww ss=>d6 ss r3)<|ee<|by kernel_rfl) ?_
 refine A.j<|A.u (some 26) (c_ m1.mx.length) (ru (kt:=3) (et:=3) (enck:=(fun k:Int=>i_ k)) (encv:=(fun x:Int=>i_ x)) (b:=b1) (kv:=m1.mx) (fun ww ss=>d6 ss hb1) rfl rfl (by kernel_rfl)) ?_
 refine A.g (ps 3) [19,23,24,25,26] [(4,b_<|decide ((m1.mx.length:Int)>0))] ?_
 refine A.e<|A.W [b_<|decide ((m1.mx.length:Int)>0)] ?_
 refine congrArg Value.bool ?_;unfold fR;simp_all
abbrev rH(p0)(p1)(p2)(p3):=(cw p0 [.map<|some p1,.map<|some p2,.map<|some p3] 197:V.dB)
theorem MK(bs mb mo mk:Nat)(ym:List (Int×Pl))(on:List (Int×Int))(kv:List (Int×MB))(ci:Int)(hno:jF ym ci=false∨fR on kv ci=false)(w:World)(r0:(rH bs mb mo mk).holds w)(r1:(iT mb ym).holds w)(r2:(gK mo on).holds w)(r3:(gx mk kv).holds w)(r4:(fJ kv).holds w):
  CW 216 #[p_ bs,i_ ci] w (.tuple #[e_,i_ 6]):=by
 refine A.C Tryz.func216 rfl (HS.nil w) (A.c<|A.g [.p,.p] [] []<|A.d<|A.y<|A.c<|A.g (ps 3) [] [(9,b_ false)]<|A.cf<|A.c<|A.kp [.p,.p,.p,.rd [.map<|some mb],.p] [9] [(16,.map<|some mb),(17,i_ ci)] [] (o1<|ro ⟨bs,0,none⟩ (vs:=[.map<|some mb])<|df r0 rfl)<|A.j<|A.u (some 18) _ (qL 3 200 ci dQ (fun w s=>d6 s r1)<|ee<|by kernel_rfl)<|A.k [.p,.p,.p,.o,.p,.p,.cq<|b_<|fR on kv ci,.p,.cl,.p] [16,17,18] [(12,b_<|((((cu ym ci).getD dQ).pf)==0)||(!(fR on kv ci)))] [] (o1<|go (true&&(((((cu ym ci).getD dQ).pf)==0)==false)) fun h_=>(qo<|fun w s=>uo bs mb mo mk ym on kv ci w (d6 s r0) (d6 s r1) (d6 s r2) (d6 s r3)<|d6 s r4))<|A.v rfl (fun e1=>?_) (fun e1=>?_))
 ·refine A.c<|A.g [.p,.p] [0,1,12] [(4,e_),(5,i_ 6)]<|A.e<|A.W [e_,i_ 6] ?_
  rfl
 exact absurd e1<|by(intro h_;unfold jF at hno;simp at h_;rcases hno with hno|hno;exact h_.1 (by simpa using hno);exact absurd h_.2 (by rw[hno];decide))
theorem Pm(bs mb mo mk:Nat)(ym:List (Int×Pl))(on:List (Int×Int))(kv:List (Int×MB))(ci:Int)(hlf:jF ym ci=true)(his:fR on kv ci=true)(hd0:jE ym 40 ci):
  CS 216 #[p_ bs,i_ ci] [rH bs mb mo mk,iT mb ym,gK mo on,gx mk kv,fJ kv] (fun((kv',al',cl'):(List<|Int×MB)×(Option Addr)×Nat)=>(.tuple #[vS al' ((fp ym (kx kv) 40 ci).1) cl',i_ 0])) (fun(kv',al',cl')=>kx kv'=(fp ym (kx kv) 40 ci).2) fun(kv',al',cl')=>[rH bs mb mo mk,iT mb ym,gK mo<|dJ on ci,gx mk kv',fJ kv',sI al' ((fp ym (kx kv) 40 ci).1) cl']:=by
 intro w hs
 refine A.C Tryz.func216 rfl hs (A.c<|A.g [.p,.p] [] []<|A.d<|A.y<|A.c<|A.g (ps 3) [] [(9,b_ false)]<|A.cf<|A.c<|A.gm [.p,.p,.p,.ld 0,.p] [9] [(16,.map<|some mb),(17,i_ ci)] [bs]<|A.j<|A.u (some 18) _ (kD (kt:=3) (et:=200) (enck:=(fun k:Int=>i_ k)) (encv:=(fun v_:Pl=>(.agg (qK v_).toArray))) (b:=mb) (kv:=ym) (k:=ci) (d0:=dQ) (fun w s=>s.mem (i:=1) rfl) rfl rfl rfl (by kernel_rfl) (ee<|by kernel_rfl) (by kernel_rfl) rfl)<|A.k [.p,.p,.p,.o,.p,.p,.cq<|b_<|fR on kv ci,.p,.cl,.p] [16,17,18] [(12,b_<|((((cu ym ci).getD dQ).pf)==0)||(!(fR on kv ci)))] [] (o1<|go (true&&(((((cu ym ci).getD dQ).pf)==0)==false)) fun h_=>(qo<|fun w s=>uo bs mb mo mk ym on kv ci w (s.mem (i:=0) rfl) (s.mem (i:=1) rfl) (s.mem (i:=2) rfl) (s.mem (i:=3) rfl)<|s.mem (i:=4) rfl))<|A.v rfl (fun e1=>?_) (fun e1=>?_))
 ·exact absurd e1<|by(intro h_;unfold jF at hlf;simp at h_ hlf;simp_all)
 have p1:=e1
 refine A.p<|A.c<|A.gm [.p,.p,.p,.ld 0,.p] [12] [(30,.map<|some mo),(31,i_ ci)] [bs]<|A.j<|A.bD (kt:=3) (et:=3) (enck:=(fun k:Int=>i_ k)) (encv:=(fun x:Int=>i_ x)) (kv:=on) (k:=ci) 2 [rH bs mb mo mk,iT mb ym,gK mo<|dJ on ci,gx mk kv,fJ kv] (by kernel_rfl) rfl rfl rfl (by kernel_rfl) (ee<|by kernel_rfl) rfl rfl (A.aB<|A.c<|A.hp [.p] [(0,p_ bs),(1,i_ ci),(32,i_ ci)] []<|A.j<|A.aE 33 (e:=3) [i_ ci] (by kernel_rfl) rfl (fun _=>by kernel_rfl) _ (fun _=>rfl) ?_)
 intro b1
 refine A.g [.p] [32,33] [(6,.slice (some ⟨b1,0,none⟩) 1 1)]<|A.d<|A.bM 5 (b:=b1) 1 1 [rH bs mb mo mk,iT mb ym,gK mo<|dJ on ci,gx mk kv,fJ kv,sI (some ⟨b1,0,none⟩) ([ci]) 1] rfl rfl (by decide) rfl (A.s<|A.h [.p,.p] [(0,p_ bs),(6,vS (some ⟨b1,0,none⟩) ([ci]) 1),(7,i_ ci)] []<|A.y<|A.su 5 (sI (some ⟨b1,0,none⟩) (([]:List Int)++[ci]) 1) rfl (eI (by rfl:[ci]=(([]:List Int)++[ci]))) (A.D 6 (vS (some ⟨b1,0,none⟩) (([]:List Int)++[ci]) 1) (fN<|by rfl)<|A.lp (σ:=Int×Nat×(List Int)×(List<|Int×MB)×(Option Addr)×Nat) [] (fun(i,n,pre,kvk,ao,co)=>[(7,i_ i),(6,vS ao (pre++[i]) co)]) [0,0,0,0,0,0] (fun(i,n,pre,kvk,ao,co)=>[rH bs mb mo mk,iT mb ym,gK mo<|dJ on ci,gx mk kvk,fJ kvk,sI ao (pre++[i]) co]) (fun(i,n,pre,kvk,ao,co)=>((pre++(fp ym (kx kvk) n i).1,(fp ym (kx kvk) n i).2)=fp ym (kx kv) 40 ci)∧(jE ym n i)∧(pre.length+n≤40)) (fun(i,n,pre,kvk,ao,co)=>n) (ci,40,([]:List Int),kv,some ⟨b1,0,none⟩,1) ⟨(by rfl),‹_›,(by simp)⟩ ?_ ?_))
 ·exact A.J [0,0,0,0,0,0]
 rintro⟨i,n,pre,kvk,ao,co⟩ ⟨hp,hd,hl⟩
 obtain⟨n,rfl⟩: ∃m,n=m+1:=by cases n with|zero=>exact hd.elim|succ m=>exact⟨m,rfl⟩
 refine A.y<|A.c<|A.gm [.p,.p,.p,.ld 0,.p] [] [(38,.map<|some mb),(39,i_ i)] [bs]<|A.j<|A.u (some 40) _ (kD (kt:=3) (et:=200) (enck:=(fun k:Int=>i_ k)) (encv:=(fun v_:Pl=>(.agg (qK v_).toArray))) (b:=mb) (kv:=ym) (k:=i) (d0:=dQ) (fun w s=>s.mem (i:=1) rfl) rfl rfl rfl (by kernel_rfl) (ee<|by kernel_rfl) (by kernel_rfl) rfl)<|A.g [.p,.p] [38,39,40] [(8,i_<|((cu ym i).getD dQ).pp)]<|A.c<|A.gm [.p,.p,.p,.ld 0,.p] [] [(45,.map<|some mk),(46,i_<|((cu ym i).getD dQ).pp)] [bs] ?_
 rcases hk2:cu kvk (((cu ym i).getD dQ).pp) with _|m2
 ·have hx2:=AW hk2
  refine A.j<|A.u (some 47) (.map none) (iw (wt hk2)<|qL 3 194 (((cu ym i).getD dQ).pp) m0 (qM 3 rfl)<|ee<|by kernel_rfl)<|A.N [.p] [7,45,46] [(48,i_ i)]<|A.j<|A.u none (.tuple #[]) (NP (kt:=3) (et:=3) (enck:=(fun k:Int=>i_ k)) rfl rfl rfl (by kernel_rfl) (ee<|by kernel_rfl))<|A.aB<|A.d<|A.c<|A.gm [.p,.p,.p,.ld 0,.p] [47,48] [(52,.map<|some mk),(53,i_<|((cu ym i).getD dQ).pp)] [bs]<|A.j<|A.u (some 54) (.map none) (iw (wt hk2)<|qL 3 194 (((cu ym i).getD dQ).pp) m0 (qM 3 rfl)<|ee<|by kernel_rfl)<|A.j<|A.u (some 55) (i_ 0) (zv (kt:=3) (et:=3) rfl rfl (by kernel_rfl))<|A.g (ps 5) [52,53,54,55] [(58,i_<|((cu ym i).getD dQ).pp),(59,b_<|(((cu ym i).getD dQ).pp)==0),(60,b_<|(((cu ym i).getD dQ).pp)==0)]<|A.v rfl (fun e2=>?_) (fun e2=>?_)
  ·have p2:=e2;try simp only[dc] at p2
   refine A.d ?_
   have hq:kx kvk=iK (kx kvk) (da ym i) i:=(ET (by unfold da;exact hx2)).symm
   have hs_:iK (kx kvk) (da ym i) i (da ym i)≠[]∨da ym i=0:=by unfold iK da;rw[if_pos rfl,hx2];(right;assumption)
   refine A.s<|A.g (ps 3) [0,6,8,58,59,60] [(4,vS ao (pre++[i]) co),(5,i_ 0)]<|A.e<|A.su 5 (sI ao ((fp ym (kx kv) 40 ci).1) co) rfl (eI (by(rw[←hp,qj hs_]):(pre++[i])=((fp ym (kx kv) 40 ci).1))) (A.Y [0,0,0,0,0,0] [vS ao (pre++[i]) co,i_ 0] (kvk,ao,co) ?_ ?_)
   ·show((.tuple #[vS ao (pre++[i]) co,i_ 0]):Value)=(.tuple #[vS ao ((fp ym (kx kv) 40 ci).1) co,i_ 0])
    (rw[←hp,qj hs_])
   show kx kvk=(fp ym (kx kv) 40 ci).2
   (rw[hq,←hp,qj hs_])
  have p2:=e2;try simp only[dc] at p2
  refine A.p<|A.d ?_
  have hq:kx kvk=iK (kx kvk) (da ym i) i:=(ET (by unfold da;exact hx2)).symm
  have hg_: ¬(iK (kx kvk) (da ym i) i (da ym i)≠[]∨da ym i=0):=by unfold iK da;rw[if_pos rfl,hx2];rintro(h_|h_)<;>first|exact h_ rfl|contradiction
  refine A.s<|A.N [.p,.p] [60] [(62,vS ao (pre++[i]) co),(63,i_<|((cu ym i).getD dQ).pp)]<|A.j<|A.aE 64 (e:=3) [i_<|((cu ym i).getD dQ).pp] (by kernel_rfl) rfl (fun _=>by kernel_rfl) _ (fun _=>rfl) ?_
  intro b3
  refine A.j<|A.ap jj (pre++[i]) ([((cu ym i).getD dQ).pp]) 5 65 (i_ 0) 8 fD lg (gG (i:=6) rfl) (by(simp;omega)) ?_
  intro A4 c4
  refine A.g [.p] [62,63,64,65] [(6,vS A4 ((pre++[i])++([((cu ym i).getD dQ).pp])) c4)]<|A.s<|A.g [.p,.p] [8] [(7,i_<|((cu ym i).getD dQ).pp)]<|?_
  have hnx:((pre++[i])++(fp ym (kx kvk) n<|da ym i).1,(fp ym (kx kvk) n<|da ym i).2)=fp ym (kx kv) 40 ci∧jE ym n (da ym i):=by rw[hq,←hp,BI hg_];exact⟨by simp,hd.resolve_left fun h_=>hg_<|.inr h_⟩
  refine A.su 5 (sI A4 ((pre++[i])++[((cu ym i).getD dQ).pp]) c4) rfl (eI (by rfl:(pre++[i])++([((cu ym i).getD dQ).pp])=((pre++[i])++[((cu ym i).getD dQ).pp]))) (A.D 6 (vS A4 ((pre++[i])++[((cu ym i).getD dQ).pp]) c4) (fN<|by rfl)<|A.Z (((cu ym i).getD dQ).pp,n,pre++[i],kvk,A4,c4) ⟨hnx.1,hnx.2,(by(simp;omega))⟩ (by(simp;done)) ?_)
  exact A.J [0,0,0,0,0,0]
 have hx2:=AX hk2
 refine A.rs [4] (fun b2:Nat=>m2.mb=some b2) (fun b2=>[fJ<|dJ kvk<|((cu ym i).getD dQ).pp,gK b2 m2.mx]) (fun w hs=>F8 kvk (((cu ym i).getD dQ).pp) hk2 hs) rfl (fun b2 hm2=>(A.j<|A.u (some 47) (.map<|some b2) (iw (rE hk2 hm2)<|qL 3 194 (((cu ym i).getD dQ).pp) m0 (qM 5 rfl)<|ee<|by kernel_rfl)<|A.hp [.p] [(0,p_ bs),(6,vS ao (pre++[i]) co),(8,i_<|((cu ym i).getD dQ).pp),(47,.map<|some b2),(48,i_ i)] []<|A.j<|A.bD (kt:=3) (et:=3) (enck:=(fun k:Int=>i_ k)) (encv:=(fun x:Int=>i_ x)) (kv:=m2.mx) (k:=i) 1 [fJ<|dJ kvk<|((cu ym i).getD dQ).pp,gK b2<|dJ m2.mx i,rH bs mb mo mk,iT mb ym,gK mo<|dJ on ci,gx mk kvk,sI ao (pre++[i]) co] (by kernel_rfl) rfl rfl rfl (by kernel_rfl) (ee<|by kernel_rfl) rfl rfl (A.aB ?_)))
 refine A.d<|A.c<|A.hp [.p,.p,.p,.ld 2,.p] [(0,p_ bs),(6,vS ao (pre++[i]) co),(8,i_<|((cu ym i).getD dQ).pp),(52,.map<|some mk),(53,i_<|((cu ym i).getD dQ).pp)] [bs]<|A.j<|A.u (some 54) (.map<|some b2) (iw (rE hk2 hm2)<|qL 3 194 (((cu ym i).getD dQ).pp) m0 (qM 5 rfl)<|ee<|by kernel_rfl)<|A.j<|A.u (some 55) (i_ ((dJ m2.mx i).length:Int)) (ru (kt:=3) (et:=3) (enck:=(fun k:Int=>i_ k)) (encv:=(fun x:Int=>i_ x)) (b:=b2) (kv:=dJ m2.mx i) (qM 1 rfl) rfl rfl (by kernel_rfl))<|A.g [.p,.p,.o,.p,.p,.cl] [52,53,54,55] [(60,b_<|(decide (((dJ m2.mx i).length:Int)>0))||((((cu ym i).getD dQ).pp)==0))]<|A.v rfl (fun e3=>?_) (fun e3=>?_)
 ·refine A.d<|A.r0 [5,0,0] [gx mk<|dC kvk (((cu ym i).getD dQ).pp) (⟨some b2,dJ m2.mx i⟩:MB),fJ<|dC kvk (((cu ym i).getD dQ).pp) (⟨some b2,dJ m2.mx i⟩:MB)] rfl (fun w hs=>uP mk kvk kvk (((cu ym i).getD dQ).pp) b2 (dJ m2.mx i) _ (by rfl) (hk2.trans<|congrArg some<|BZ hm2) hs) ?_
  have hq:kx (dC kvk (((cu ym i).getD dQ).pp) (⟨some b2,dJ m2.mx i⟩:MB))=iK (kx kvk) (da ym i) i:=by funext q;rw[ue];unfold iK;simp only[];split<;>simp_all[da]
  have hs_:iK (kx kvk) (da ym i) i (da ym i)≠[]∨da ym i=0:=by unfold iK da;rw[if_pos rfl,hx2];grind
  refine A.s<|A.h (ps 3) [(4,vS ao (pre++[i]) co),(5,i_ 0)] []<|A.e<|A.su 5 (sI ao ((fp ym (kx kv) 40 ci).1) co) rfl (eI (by(rw[←hp,qj hs_]):(pre++[i])=((fp ym (kx kv) 40 ci).1))) (A.Y [2,2,2,0,0,0] [vS ao (pre++[i]) co,i_ 0] ((dC kvk (((cu ym i).getD dQ).pp) (⟨some b2,dJ m2.mx i⟩:MB)),ao,co) ?_ ?_)
  ·show((.tuple #[vS ao (pre++[i]) co,i_ 0]):Value)=(.tuple #[vS ao ((fp ym (kx kv) 40 ci).1) co,i_ 0])
   (rw[←hp,qj hs_])
  show kx (dC kvk (((cu ym i).getD dQ).pp) (⟨some b2,dJ m2.mx i⟩:MB))=(fp ym (kx kv) 40 ci).2
  (rw[hq,←hp,qj hs_])
 refine A.p<|A.d<|A.r0 [5,0,0] [gx mk<|dC kvk (((cu ym i).getD dQ).pp) (⟨some b2,dJ m2.mx i⟩:MB),fJ<|dC kvk (((cu ym i).getD dQ).pp) (⟨some b2,dJ m2.mx i⟩:MB)] rfl (fun w hs=>uP mk kvk kvk (((cu ym i).getD dQ).pp) b2 (dJ m2.mx i) _ (by rfl) (hk2.trans<|congrArg some<|BZ hm2) hs) ?_
 have hq:kx (dC kvk (((cu ym i).getD dQ).pp) (⟨some b2,dJ m2.mx i⟩:MB))=iK (kx kvk) (da ym i) i:=by funext q;rw[ue];unfold iK;simp only[];split<;>simp_all[da]
 have hg_: ¬(iK (kx kvk) (da ym i) i (da ym i)≠[]∨da ym i=0):=by unfold iK da;rw[if_pos rfl,hx2];rintro(h_|h_)<;>first|exact h_ (List.eq_nil_of_length_eq_zero<|by omega)|(simp_all;done)
 refine A.s<|A.hp [.p,.p] [(0,p_ bs),(6,vS ao (pre++[i]) co),(8,i_<|((cu ym i).getD dQ).pp),(62,vS ao (pre++[i]) co),(63,i_<|((cu ym i).getD dQ).pp)] []<|A.j<|A.aE 64 (e:=3) [i_<|((cu ym i).getD dQ).pp] (by kernel_rfl) rfl (fun _=>by kernel_rfl) _ (fun _=>rfl) ?_
 intro b5
 refine A.j<|A.ap jj (pre++[i]) ([((cu ym i).getD dQ).pp]) 5 65 (i_ 0) 8 fD lg (gG (i:=6) rfl) (by(simp;omega)) ?_
 intro A6 c6
 refine A.g [.p] [62,63,64,65] [(6,vS A6 ((pre++[i])++([((cu ym i).getD dQ).pp])) c6)]<|A.s<|A.g [.p,.p] [8] [(7,i_<|((cu ym i).getD dQ).pp)]<|?_
 have hnx:((pre++[i])++(fp ym (kx<|dC kvk (((cu ym i).getD dQ).pp) (⟨some b2,dJ m2.mx i⟩:MB)) n<|da ym i).1,(fp ym (kx<|dC kvk (((cu ym i).getD dQ).pp) (⟨some b2,dJ m2.mx i⟩:MB)) n<|da ym i).2)=fp ym (kx kv) 40 ci∧jE ym n (da ym i):=by rw[hq,←hp,BI hg_];exact⟨by simp,hd.resolve_left fun h_=>hg_<|.inr h_⟩
 refine A.su 5 (sI A6 ((pre++[i])++[((cu ym i).getD dQ).pp]) c6) rfl (eI (by rfl:(pre++[i])++([((cu ym i).getD dQ).pp])=((pre++[i])++[((cu ym i).getD dQ).pp]))) (A.D 6 (vS A6 ((pre++[i])++[((cu ym i).getD dQ).pp]) c6) (fN<|by rfl)<|A.Z (((cu ym i).getD dQ).pp,n,pre++[i],dC kvk (((cu ym i).getD dQ).pp) (⟨some b2,dJ m2.mx i⟩:MB),A6,c6) ⟨hnx.1,hnx.2,(by(simp;omega))⟩ (by(simp;done)) ?_)
 exact A.J [2,2,2,0,0,0]
structure It where
 ka:Int
 ki:Int
 va:Int
 vi:Int
 deriving DecidableEq,Inhabited
inductive T where
 |nil
 |node (b:Nat) (x m:It) (h n:Int) (l r:T)
def T.ptr:T→Option Addr
 | .nil=>none
 | .node b .. =>some ⟨b,0,none⟩
def T.blocks:T→List Nat
 | .nil=>[]
 | .node b _ _ _ _ l r=>b::(l.blocks++r.blocks)
def T.hgt:T→Int
 | .nil=>0
 | .node _ _ _ h .. =>h
def T.cnt:T→Int
 | .nil=>0
 | .node _ _ _ _ n .. =>n
variable{b:Nat}{x m:It}{h n:Int}{l r:T}
theorem im:(T.node b x m h n l r).hgt=h:=rfl
theorem oQ:(T.node b x m h n l r).cnt=n:=rfl
theorem jb:T.nil.hgt=0:=rfl
theorem wS:T.nil.cnt=0:=rfl
def T.Bd(t:T):Prop:=0≤t.hgt∧t.hgt≤100000∧0≤t.cnt∧t.cnt≤100000
def T.Sm(t:T):Prop:=0≤t.hgt∧t.hgt≤1000∧0≤t.cnt∧t.cnt≤1000
def T.toL:T→List It
 | .nil=>[]
 | .node _ x _ _ _ l r=>l.toL++x::r.toL
def qw(x m:It)(h n:Int)(l r:T):List Value:=[u_ x.ka,i_ x.ki,u_ x.va,i_ x.vi,.pointer l.ptr,.pointer r.ptr,u_ m.ka,i_ m.ki,u_ m.va,i_ m.vi,i_ h,i_ n]
def T.H(TN:TypeId):T→World→Prop
 | .nil,_=>True
 | .node b x m h n l r,w=>w.heap[b]? =some (.cells (qw x m h n l r).toArray TN (0,0))∧T.H TN l w∧T.H TN r w
variable{TN:TypeId}
theorem T.H_loc: ∀(t:T)(w w':World),(∀b∈t.blocks,w'.heap[b]? =w.heap[b]?)→T.H TN t w→T.H TN t w'
 | .nil,_,_,_,_=>trivial
 | .node b x m h n l r,w,w',hb,⟨h1,h2,h3⟩=>⟨by rw[hb b<|by simp[T.blocks]];exact h1,T.H_loc l w w' (fun c hc=>hb c<|by simp[T.blocks,hc]) h2,T.H_loc r w w' (fun c hc=>hb c<|by simp[T.blocks,hc]) h3⟩
theorem T.H_here: ∀(t:T)(w:World),T.H TN t w→ ∀b∈t.blocks,b<w.heap.size
 | .nil,_,_,b,hb=>by simp[T.blocks] at hb
 | .node c x m h n l r,w,⟨h1,h2,h3⟩,b,hb=>by
   simp only[T.blocks,List.mem_cons,List.mem_append] at hb
   rcases hb with rfl|hb|hb
   ·exact(Array.getElem?_eq_some_iff.1 h1).1
   ·exact T.H_here l w h2 b hb
   ·exact T.H_here r w h3 b hb
def dU(TN:TypeId)(t:T):V.dB where
 foot:=t.blocks
 holds:=T.H TN t
 loc w w' h hw:=T.H_loc t w w' h hw
 here w hw b hb:=T.H_here t w hw b hb
theorem nT{w:World}(hs:HS w (dE [dU TN<|.node b x m h n l r]) [dU TN<|.node b x m h n l r] w):
  ∃_:Unit,True∧(∀it∈[cw b (qw x m h n l r) TN,dU TN l,dU TN r],it.holds w)∧(dE [cw b (qw x m h n l r) TN,dU TN l,dU TN r]).Nodup∧ ∀c∈dE [cw b (qw x m h n l r) TN,dU TN l,dU TN r],c∈dE [dU TN<|.node b x m h n l r]:=by
 have h1:=hs.mem (i:=0) rfl
 have h2:=hs.nodup
 obtain⟨a1,a2,a3⟩:=h1
 refine⟨(),trivial,?_,?_,?_⟩
 ·intro it hi;simp only[List.mem_cons,List.not_mem_nil,or_false] at hi;rcases hi with rfl|rfl|rfl;exact a1;exact a2;exact a3
 ·simpa[dE,cw,dU,T.blocks] using h2
 ·intro c hc;simpa[dE,cw,dU,T.blocks] using hc
theorem lZ{w:World}(hs:HS w (dE [cw b (qw x m h n l r) TN,dU TN l,dU TN r]) [cw b (qw x m h n l r) TN,dU TN l,dU TN r] w):
  ∃_:Unit,True∧(∀it∈[dU TN<|.node b x m h n l r],it.holds w)∧(dE [dU TN<|.node b x m h n l r]).Nodup∧ ∀c∈dE [dU TN<|.node b x m h n l r],c∈dE [cw b (qw x m h n l r) TN,dU TN l,dU TN r]:=by
 have a1:=hs.mem (i:=0) rfl
 have a2:=hs.mem (i:=1) rfl
 have a3:=hs.mem (i:=2) rfl
 have h2:=hs.nodup
 refine⟨(),trivial,?_,?_,?_⟩
 ·intro it hi;simp only[List.mem_cons,List.not_mem_nil,or_false] at hi;subst hi;exact⟨a1,a2,a3⟩
 ·simpa[dE,cw,dU,T.blocks] using h2
 ·intro c hc;simpa[dE,cw,dU,T.blocks] using hc
theorem A.bg{n:Nat}{env:dM}{w0:World}{S:List Nat}{H:List V.dB}{G:Act→World→Prop}(H':List V.dB)(hH:H++[dU TN .nil]=H')(h:V.A n env w0 S H' G):V.A n env w0 S H G:=fun a w r s=>
 h a w r (by rw[←hH];exact s.add (Fr.refl _ _) trivial (by simp[dU,T.blocks])<|by simp[dU,T.blocks])
def ie(x i y j:Int):Int:=if x=y∧i=j then 0 else if x<y∨x=y∧i<j then-1 else 1
def ei(x i y j:Int):Prop:=x<y∨x=y∧i<j
instance(x i y j:Int):Decidable (ei x i y j):=by unfold ei;infer_instance
theorem GN(x i y j:Int):ie x i y j<0↔ei x i y j:=by unfold ie ei;grind
theorem GO(x i y j:Int):0<ie x i y j↔ei y j x i:=by unfold ie ei;grind
theorem FB(x i y j:Int):ie x i y j=0↔(x=y∧i=j):=by unfold ie;grind
def dO(a b:It):It:=if ei b.va b.vi a.va a.vi∨(b.va=a.va∧b.vi=a.vi)∧ei b.ka b.ki a.ka a.ki then b else a
def T.low:T→It→It
 | .nil,a=>a
 | .node _ _ m ..,a=>dO a m
def eB(x:It)(l r:T):It:=r.low<|l.low x
def eK(l r:T):Int:=1+max l.hgt r.hgt
def eO(l r:T):Int:=1+l.cnt+r.cnt
def mk(b:Nat)(x:It)(l r:T):T:= .node b x (eB x l r) (eK l r) (eO l r) l r
def T.Right:T→Prop
 | .nil=>True
 | .node _ x m h n l r=>m=eB x l r∧h=eK l r∧n=eO l r∧l.Right∧r.Right
theorem EY:T.nil.Right:=trivial
theorem lM(hl:l.Right)(hr:r.Right):(mk b x l r).Right:=⟨rfl,rfl,rfl,hl,hr⟩
theorem T.Right.pos: ∀{t:T},t.Right→0≤t.hgt∧t.hgt≤t.cnt∧t.cnt=t.toL.length
 | .nil,_=>by simp[T.hgt,T.cnt,T.toL]
 | .node b x m h n l r,⟨_,hh,hn,hl,hr⟩=>by
   have h1:=T.Right.pos hl;have h2:=T.Right.pos hr
   simp only[T.hgt,T.cnt,T.toL,List.length_append,List.length_cons]
   rw[hh,hn];unfold eK eO;omega
theorem y6{t:T}(h:t.Right)(hc:t.cnt≤100000):t.Bd:=by have:=h.pos;unfold T.Bd;omega
def DJ(b:Nat)(x:It):T→T→T
 | .node bl y _ _ _ p q,r=>if q.hgt>p.hgt then(match q with| .node bz z _ _ _ a c=>mk bz z (mk bl y p a) (mk b x c r)| .nil=> .nil) else mk bl y p<|mk b x q r
 | .nil,_=> .nil
def DK(b:Nat)(x:It)(l:T):T→T
 | .node br y _ _ _ p q=>if p.hgt>q.hgt then(match p with| .node bz z _ _ _ a c=>mk bz z (mk b x l a) (mk br y c q)| .nil=> .nil) else mk br y (mk b x l p) q
 | .nil=> .nil
def iz(b:Nat)(x:It)(l r:T):T:=
 if l.hgt≤r.hgt+1 then(if r.hgt≤l.hgt+1 then mk b x l r else DK b x l r) else DJ b x l r
theorem JG(h1:l.hgt≤r.hgt+1)(h2:r.hgt≤l.hgt+1):iz b x l r=mk b x l r:=by
 unfold iz;rw[if_pos h1,if_pos h2]
variable{bl:Nat}{y my:It}{hy ny:Int}{p q:T}
theorem He(h1: ¬(T.node bl y my hy ny p q).hgt≤r.hgt+1)(h2: ¬q.hgt>p.hgt):iz b x (.node bl y my hy ny p q) r=mk bl y p (mk b x q r):=by
 unfold iz;rw[if_neg h1];simp only[DJ];rw[if_neg h2]
theorem Hg{bz:Nat}{z mz:It}{hz nz:Int}{a c:T}(h1: ¬(T.node bl y my hy ny p<|.node bz z mz hz nz a c).hgt≤r.hgt+1)(h2:(T.node bz z mz hz nz a c).hgt>p.hgt):
  iz b x (.node bl y my hy ny p<|.node bz z mz hz nz a c) r=mk bz z (mk bl y p a) (mk b x c r):=by
 unfold iz;rw[if_neg h1];simp only[DJ];rw[if_pos h2]
theorem Hh(h0:l.hgt≤(T.node bl y my hy ny p q).hgt+1)(h1: ¬(T.node bl y my hy ny p q).hgt≤l.hgt+1)(h2: ¬p.hgt>q.hgt):iz b x l (.node bl y my hy ny p q)=mk bl y (mk b x l p) q:=by
 unfold iz;rw[if_pos h0,if_neg h1];simp only[DK];rw[if_neg h2]
theorem Hi{bz:Nat}{z mz:It}{hz nz:Int}{a c:T}(h0:l.hgt≤(T.node bl y my hy ny (.node bz z mz hz nz a c) q).hgt+1)(h1: ¬(T.node bl y my hy ny (.node bz z mz hz nz a c) q).hgt≤l.hgt+1)(h2:(T.node bz z mz hz nz a c).hgt>q.hgt):
  iz b x l (.node bl y my hy ny (.node bz z mz hz nz a c) q)=mk bz z (mk b x l a) (mk bl y c q):=by
 unfold iz;rw[if_pos h0,if_neg h1];simp only[DK];rw[if_pos h2]
theorem vL(x i y j:Int)(w:World):
  CW 271 #[.agg #[u_ x,i_ i],.agg #[u_ y,i_ j]] w (i_<|ie x i y j):=by
 refine A.C Tryz.func271 rfl (HS.nil w) (A.c<|A.n2 [.al,.al,.p] [0,1] (fun b1 b2=>[(2,p_ b1),(3,p_ b2)]) (fun b1 b2=>[cw b1 [u_ x,i_ i] 322,cw b2 [u_ y,i_ j] 322]) ?_)
 intro b1 b2
 refine A.d<|A.y<|A.c<|A.gl [.ld 0,.ld 1,.eq,.p] [] [(5,b_<|(x==y)&&(i==j))] [b1,b2]<|A.v rfl (fun e1=>?_) (fun e1=>?_)
 ·refine A.c<|A.g [.p] [2,3,5] [(4,i_ 0)]<|A.e<|A.W [i_ 0] ?_
  show((i_ 0):Value)=(i_<|ie x i y j)
  simp[ie] at*;try simp_all;try omega
 have p1:=e1
 refine A.c<|A.gl [.p,.ld 0,.p,.ld 1,.p,.p,.o,.p,.ld 0,.p,.ld 1,.p,.p,.o,.p,.ld 0,.p,.ld 1,.p,.cl,.cl,.p] [2,3,5] [(9,b_<|(decide (x<y))||((x==y)&&(decide (i<j))))] [b1,b2,b1,b2,b1,b2]<|A.v rfl (fun e2=>?_) (fun e2=>?_)
 ·refine A.c<|A.g [.p] [9] [(4,i_ (-1))]<|A.e<|A.W [i_ (-1)] ?_
  show((i_ (-1)):Value)=(i_<|ie x i y j)
  simp[ie] at*;try simp_all;try omega
 refine A.p<|A.c<|A.g [.p] [9] [(4,i_ 1)]<|A.e<|A.W [i_ 1] ?_
 show((i_ 1):Value)=(i_<|ie x i y j)
 simp[ie] at*;try simp_all;try omega
theorem q9(a b:It)(w:World):
  CW 258 #[.agg #[u_ a.ka,i_ a.ki,u_ a.va,i_ a.vi],.agg #[u_ b.ka,i_ b.ki,u_ b.va,i_ b.vi]] w (.agg #[u_<|(dO a b).ka,i_<|(dO a b).ki,u_<|(dO a b).va,i_<|(dO a b).vi]):=by
 refine A.C Tryz.func258 rfl (HS.nil w) (A.c<|A.ag [.al,.al,.al] [2,3,4] (fun b1 b2 b3=>[(2,p_ b1),(3,p_ b2),(4,p_ b3)]) (fun b1 b2 b3=>[cw b1 [u_ a.ka,i_ a.ki,u_ a.va,i_ a.vi] 324,cw b2 [u_ b.ka,i_ b.ki,u_ b.va,i_ b.vi] 324,cw b3 [u_ 0,i_ 0,u_ 0,i_ 0] 324]) (fun b1 b2 b3=>[]) (fun _ _ _=>T0) (fun _ _ _=>by kernel_rfl) (fun b1 b2 b3=>trivial) ?_)
 intro b1 b2 b3
 refine A.c<|A.k [.p,.ld 1,.p,.ld 0,.cq<|i_<|ie b.va b.vi a.va a.vi,.p] [] [(5,i_<|ie b.va b.vi a.va a.vi)] [b2,b1] (o1<|qo<|fun w s=>vL b.va b.vi a.va a.vi w)<|A.d<|A.c<|A.k [.p,.p,.p,.o,.p,.p,.p,.o,.p,.ld 1,.p,.ld 0,.cq<|i_<|ie b.ka b.ki a.ka a.ki,.p,.cl,.cl] [5] [(24,b_<|(decide ((ie b.va b.vi a.va a.vi)<0))||(((ie b.va b.vi a.va a.vi)==0)&&(decide ((ie b.ka b.ki a.ka a.ki)<0))))] [b2,b1] (o1<|go ((true&&((decide ((ie b.va b.vi a.va a.vi)<0))==false))&&(((ie b.va b.vi a.va a.vi)==0)==true)) fun h_=>(qo<|fun w s=>vL b.ka b.ki a.ka a.ki w))<|A.v rfl (fun e1=>?_) (fun e1=>?_)
 ·refine A.c<|A.gs [.ld 1,.st 2] [2,3,24] [] [(2,cw b3 [u_ b.ka,i_ b.ki,u_ b.va,i_ b.vi] 324)] [b2,b3]<|A.e<|A.pc 2 [u_ b.ka,i_ b.ki,u_ b.va,i_ b.vi] ?_
  show((.agg #[u_ b.ka,i_ b.ki,u_ b.va,i_ b.vi]):Value)=(.agg #[u_<|(dO a b).ka,i_<|(dO a b).ki,u_<|(dO a b).va,i_<|(dO a b).vi])
  rw[show dO a b=b from by unfold dO;grind[GN,FB]]
 refine A.p<|A.c<|A.gs [.ld 0,.st 2] [2,3,24] [] [(2,cw b3 [u_ a.ka,i_ a.ki,u_ a.va,i_ a.vi] 324)] [b1,b3]<|A.e<|A.pc 2 [u_ a.ka,i_ a.ki,u_ a.va,i_ a.vi] ?_
 show((.agg #[u_ a.ka,i_ a.ki,u_ a.va,i_ a.vi]):Value)=(.agg #[u_<|(dO a b).ka,i_<|(dO a b).ki,u_<|(dO a b).va,i_<|(dO a b).vi])
 rw[show dO a b=a from by unfold dO;grind[GN,FB]]
theorem nS(t:T)(w:World)(r0:(dU 361 t).holds w):
  CW 266 #[.pointer<|T.ptr t] w (i_<|T.hgt t):=by
 refine A.C Tryz.func266 rfl (HS.nil w) (A.c<|A.g [.p] [] []<|A.d<|A.c<|A.N [.p] [] [(3,.pointer<|T.ptr t)] ?_)
 rcases t with _|⟨b1,x2,m3,h4,n5,l6,r7⟩
 ·refine A.g [.p] [3] [(0,n_),(4,b_ true)]<|A.ct<|A.c<|A.g [.p] [0,4] [(2,i_ 0)]<|A.e<|A.W [i_ 0] ?_
  rfl
 refine A.g [.p] [3] [(0,p_ b1),(4,b_ false)]<|A.cf<|A.p<|A.c<|A.k [.p,.p,.p,.rd [i_ h4],.p] [0,4] [(2,i_ h4)] [] (o1<|ro ⟨b1,10,none⟩ (vs:=[i_ h4])<|df r0.1 rfl)<|A.e<|A.W [i_ h4] ?_
 rfl
theorem zD(t:T)(w:World)(r0:(dU 361 t).holds w):
  CW 267 #[.pointer<|T.ptr t] w (i_<|T.cnt t):=by
 refine A.C Tryz.func267 rfl (HS.nil w) (A.c<|A.g [.p] [] []<|A.d<|A.c<|A.N [.p] [] [(3,.pointer<|T.ptr t)] ?_)
 rcases t with _|⟨b1,x2,m3,h4,n5,l6,r7⟩
 ·refine A.g [.p] [3] [(0,n_),(4,b_ true)]<|A.ct<|A.c<|A.g [.p] [0,4] [(2,i_ 0)]<|A.e<|A.W [i_ 0] ?_
  rfl
 refine A.g [.p] [3] [(0,p_ b1),(4,b_ false)]<|A.cf<|A.p<|A.c<|A.k [.p,.p,.p,.rd [i_ n5],.p] [0,4] [(2,i_ n5)] [] (o1<|ro ⟨b1,11,none⟩ (vs:=[i_ n5])<|df r0.1 rfl)<|A.e<|A.W [i_ n5] ?_
 rfl
abbrev H8(p0)(p1:It)(p2)(p3)(p4:It)(p5)(p6):=([cw p0 [u_ p1.ka,i_ p1.ki,u_ p1.va,i_ p1.vi,.pointer<|T.ptr p2,.pointer<|T.ptr p3,u_ p4.ka,i_ p4.ki,u_ p4.va,i_ p4.vi,i_ p5,i_ p6] 361,dU 361 p2,dU 361 p3]:List V.dB)
theorem ri(b:Nat)(x m:It)(h n:Int)(l r:T)(hl:l.Bd)(hr:r.Bd)(w:World)(hs:HI w (H8 b x l r m h n)):
  CV 248 #[p_ b] w (H8 b x l r m h n) (fun(zz:Unit)=>(.tuple #[])) (fun _=>True) fun _=>[cw b [u_ x.ka,i_ x.ki,u_ x.va,i_ x.vi,.pointer<|T.ptr l,.pointer<|T.ptr r,u_<|(eB x l r).ka,i_<|(eB x l r).ki,u_<|(eB x l r).va,i_<|(eB x l r).vi,i_<|eK l r,i_<|eO l r] 361,dU 361 l,dU 361 r]:=by
 have hl1:=hl.1;have hl2:=hl.2.1;have hl3:=hl.2.2.1;have hl4:=hl.2.2.2;have hr1:=hr.1;have hr2:=hr.2.1;have hr3:=hr.2.2.1;have hr4:=hr.2.2.2
 refine A.C Tryz.func248 rfl hs (A.d<|A.O [17] 18<|A.kd 1 [.p,.p,.p,.p,.p,.ld 0,.cq<|i_<|T.hgt l,.p,.p,.p,.p,.ld 0,.cq<|i_<|T.hgt r,.p,.w<|1+(eE (T.hgt l)<|T.hgt r),.p,.p] (rg 0 17) [] [(18,i_<|1+(eE (T.hgt l)<|T.hgt r)),(20,q_ b 10)] [b,b] (oc (qo<|fun w s=>nS l w<|s.mem (i:=1) rfl)<|oc (qo<|fun w s=>nS r w<|s.mem (i:=2) rfl)<|o1<|wo<|km (e:=1+(eE (T.hgt l)<|T.hgt r))<|by(simp only[uZ];constructor<;>omega)) ?_)
 refine A.F 17 rfl (A.sT 0 [i_<|1+(eE (T.hgt l)<|T.hgt r)] rfl (A.E<|A.M<|A.d<|A.O [17] 18<|A.pO 1 [.p,.p,.p,.p,.p,.ld 0,.cq<|i_<|T.cnt l,.w<|1+(T.cnt l),.p,.p,.p,.p,.ld 0,.cq<|i_<|T.cnt r,.w<|(1+(T.cnt l))+(T.cnt r),.p,.p] (rg 0 17) [(0,p_ b),(35,i_<|(1+(T.cnt l))+(T.cnt r)),(37,q_ b 11)] [b,b] (oc (qo<|fun ww ss=>zD l ww<|ss.mem (i:=1) rfl)<|oc (wj (1+(T.cnt l))<|by omega)<|oc (qo<|fun ww ss=>zD r ww<|ss.mem (i:=2) rfl)<|o1<|wj ((1+(T.cnt l))+(T.cnt r))<|by omega) ?_))
 refine A.F 17 rfl (A.sT 0 [i_<|(1+(T.cnt l))+(T.cnt r)] rfl (A.E<|A.M<|A.c<|A.gT [.p,.p,.p,.p,.ld 0,.p,.p,.st 0] [(0,p_ b)] [(0,cw b [u_ x.ka,i_ x.ki,u_ x.va,i_ x.vi,.pointer<|T.ptr l,.pointer<|T.ptr r,u_ x.ka,i_ x.ki,u_ x.va,i_ x.vi,i_<|1+(eE (T.hgt l)<|T.hgt r),i_<|(1+(T.cnt l))+(T.cnt r)] 361)] [b,b]<|A.c<|A.gl [.p,.p,.p,.ld 0,.p] [] [(48,.agg #[.pointer<|T.ptr l,.pointer<|T.ptr r]),(49,i_ 0)] [b]<|A.y<|A.aV 400<|A.aC (m:=399)<|A.c<|A.g [.p] [] [(50,b_ true)]<|A.d<|A.ct<|A.p<|A.d<|A.y<|A.c<|A.g [.p,.p] [50] [(3,.pointer<|T.ptr l)]<|A.c<|A.N [.p] [] [(52,.pointer<|T.ptr l)] ?_))
 rcases l with _|⟨b1,x2,m3,h4,n5,l6,r7⟩
 ·refine A.g [.p] [52] [(48,.agg #[n_,.pointer<|T.ptr r]),(3,n_),(53,b_ false)]<|A.cf<|A.p<|A.s<|A.g [.p,.p] [3,53] [(49,i_ 1)]<|A.aC (m:=398)<|A.c<|A.g [.p] [] [(50,b_ true)]<|A.d<|A.ct<|A.p<|A.d<|A.y<|A.c<|A.g [.p,.p] [50] [(3,.pointer<|T.ptr r)]<|A.c<|A.N [.p] [] [(52,.pointer<|T.ptr r)] ?_
  rcases r with _|⟨b8,x9,m10,h11,n12,l13,r14⟩
  ·refine A.g [.p] [52] [(48,.agg #[n_,n_]),(3,n_),(53,b_ false)]<|A.cf<|A.p<|A.s<|A.g [.p,.p] [3,53] [(49,i_ 2)]<|A.aC (m:=397)<|A.c<|A.g [.p] [] [(50,b_ false)]<|A.d<|A.cf<|A.aA<|A.su 0 (cw b [u_ x.ka,i_ x.ki,u_ x.va,i_ x.vi,n_,n_,u_<|(eB x T.nil T.nil).ka,i_<|(eB x T.nil T.nil).ki,u_<|(eB x T.nil T.nil).va,i_<|(eB x T.nil T.nil).vi,i_<|eK T.nil T.nil,i_<|eO T.nil T.nil] 361) rfl (iL<|cc rfl (cc rfl (cc rfl (cc rfl (cc rfl (cc rfl (cc (congrArg u_ (by rfl:x.ka=(eB x T.nil T.nil).ka))<|cc (congrArg i_ (by rfl:x.ki=(eB x T.nil T.nil).ki))<|cc (congrArg u_ (by rfl:x.va=(eB x T.nil T.nil).va))<|cc (congrArg i_ (by rfl:x.vi=(eB x T.nil T.nil).vi))<|cc (congrArg i_ (by rfl:1+(eE (T.hgt T.nil)<|T.hgt T.nil)=eK T.nil T.nil))<|cc (congrArg i_ (by rfl:(1+(T.cnt T.nil))+(T.cnt T.nil)=eO T.nil T.nil)) rfl))))))) (A.aN [0,0,0] [] (fun _ w r s=>trivial) () ?_ ?_<|by kernel_rfl)
   ·rfl
   trivial
  refine A.g [.p] [52] [(48,.agg #[n_,p_ b8]),(3,p_ b8),(53,b_ true)] ?_
  refine A.ct ?_
  refine A.r0 [2] [cw b8 [u_ x9.ka,i_ x9.ki,u_ x9.va,i_ x9.vi,.pointer<|T.ptr l13,.pointer<|T.ptr r14,u_ m10.ka,i_ m10.ki,u_ m10.va,i_ m10.vi,i_ h11,i_ n12] 361,dU 361 l13,dU 361 r14] rfl (fun w hs=>nT hs) ?_
  refine A.O [12] 13 ?_
  refine A.pO 1 [.p,.p,.p,.p,.ld 3,.p,.p,.p,.ld 0,.cq<|.agg #[u_<|(dO x m10).ka,i_<|(dO x m10).ki,u_<|(dO x m10).va,i_<|(dO x m10).vi],.p,.p] (rg 0 12) [(0,p_ b),(48,.agg #[n_,p_ b8]),(49,i_ 1),(63,.agg #[u_<|(dO x m10).ka,i_<|(dO x m10).ki,u_<|(dO x m10).va,i_<|(dO x m10).vi]),(65,q_ b 6)] [b,b8] (o1<|qo<|fun ww ss=>q9 x m10 ww) ?_
  refine A.F 12 rfl (A.sT 3 [u_<|(dO x m10).ka,i_<|(dO x m10).ki,u_<|(dO x m10).va,i_<|(dO x m10).vi] rfl ?_)
  refine A.E ?_
  refine A.M ?_
  refine A.s<|A.h [.p,.p] [(0,p_ b),(48,.agg #[n_,p_ b8]),(49,i_ 2)] [] ?_
  refine A.aC (m:=397) ?_
  refine A.d ?_
  refine A.s<|A.g [.p] [] [(50,b_ false)] ?_
  refine A.d ?_
  refine A.cf ?_
  refine A.aA ?_
  refine A.r0 [0,0,0] [dU 361<|T.node b8 x9 m10 h11 n12 l13 r14] rfl (fun w hs=>lZ hs) ?_
  refine A.su 1 (cw b [u_ x.ka,i_ x.ki,u_ x.va,i_ x.vi,n_,p_ b8,u_<|(eB x T.nil<|T.node b8 x9 m10 h11 n12 l13 r14).ka,i_<|(eB x T.nil<|T.node b8 x9 m10 h11 n12 l13 r14).ki,u_<|(eB x T.nil<|T.node b8 x9 m10 h11 n12 l13 r14).va,i_<|(eB x T.nil<|T.node b8 x9 m10 h11 n12 l13 r14).vi,i_<|eK T.nil<|T.node b8 x9 m10 h11 n12 l13 r14,i_<|eO T.nil<|T.node b8 x9 m10 h11 n12 l13 r14] 361) rfl (iL<|cc rfl (cc rfl (cc rfl (cc rfl (cc rfl (cc rfl (cc (congrArg u_ (by rfl:(dO x m10).ka=(eB x T.nil<|T.node b8 x9 m10 h11 n12 l13 r14).ka))<|cc (congrArg i_ (by rfl:(dO x m10).ki=(eB x T.nil<|T.node b8 x9 m10 h11 n12 l13 r14).ki))<|cc (congrArg u_ (by rfl:(dO x m10).va=(eB x T.nil<|T.node b8 x9 m10 h11 n12 l13 r14).va))<|cc (congrArg i_ (by rfl:(dO x m10).vi=(eB x T.nil<|T.node b8 x9 m10 h11 n12 l13 r14).vi))<|cc (congrArg i_ (by(simp[uZ,eK,eO,eB,T.low];done):1+(eE (T.hgt T.nil)<|T.hgt<|T.node b8 x9 m10 h11 n12 l13 r14)=eK T.nil (T.node b8 x9 m10 h11 n12 l13 r14)))<|cc (congrArg i_ (by rfl:(1+(T.cnt T.nil))+(T.cnt<|T.node b8 x9 m10 h11 n12 l13 r14)=eO T.nil (T.node b8 x9 m10 h11 n12 l13 r14))) rfl))))))) ?_
  refine A.aN [1,1,0] [] (fun aa ww rr ss=>trivial) () ?_ ?_<|by kernel_rfl
  ·rfl
  trivial
 refine A.g [.p] [52] [(48,.agg #[p_ b1,.pointer<|T.ptr r]),(3,p_ b1),(53,b_ true)]<|A.ct<|A.r0 [1] [cw b1 [u_ x2.ka,i_ x2.ki,u_ x2.va,i_ x2.vi,.pointer<|T.ptr l6,.pointer<|T.ptr r7,u_ m3.ka,i_ m3.ki,u_ m3.va,i_ m3.vi,i_ h4,i_ n5] 361,dU 361 l6,dU 361 r7] rfl (fun w hs=>nT hs) (A.O [12] 13<|A.pO 1 [.p,.p,.p,.p,.ld 3,.p,.p,.p,.ld 0,.cq<|.agg #[u_<|(dO x m3).ka,i_<|(dO x m3).ki,u_<|(dO x m3).va,i_<|(dO x m3).vi],.p,.p] (rg 0 12) [(0,p_ b),(48,.agg #[p_ b1,.pointer<|T.ptr r]),(49,i_ 0),(63,.agg #[u_<|(dO x m3).ka,i_<|(dO x m3).ki,u_<|(dO x m3).va,i_<|(dO x m3).vi]),(65,q_ b 6)] [b,b1] (o1<|qo<|fun w s=>q9 x m3 w)<|A.F 12 rfl (A.sT 3 [u_<|(dO x m3).ka,i_<|(dO x m3).ki,u_<|(dO x m3).va,i_<|(dO x m3).vi] rfl (A.E<|A.M<|A.s<|A.h [.p,.p] [(0,p_ b),(48,.agg #[p_ b1,.pointer<|T.ptr r]),(49,i_ 1)] []<|A.aC (m:=398)<|A.c<|A.g [.p] [] [(50,b_ true)]<|A.d<|A.ct<|A.p<|A.d<|A.y<|A.c<|A.g [.p,.p] [50] [(3,.pointer<|T.ptr r)]<|A.c<|A.N [.p] [] [(52,.pointer<|T.ptr r)] ?_)))
 rcases r with _|⟨b15,x16,m17,h18,n19,l20,r21⟩
 ·refine A.g [.p] [52] [(48,.agg #[p_ b1,n_]),(3,n_),(53,b_ false)]<|A.cf<|A.p<|A.s<|A.g [.p,.p] [3,53] [(49,i_ 2)]<|A.aC (m:=397)<|A.c<|A.g [.p] [] [(50,b_ false)]<|A.d<|A.cf<|A.aA<|A.r0 [0,0,0] [dU 361<|T.node b1 x2 m3 h4 n5 l6 r7] rfl (fun w hs=>lZ hs) (A.su 1 (cw b [u_ x.ka,i_ x.ki,u_ x.va,i_ x.vi,p_ b1,n_,u_<|(eB x (T.node b1 x2 m3 h4 n5 l6 r7) T.nil).ka,i_<|(eB x (T.node b1 x2 m3 h4 n5 l6 r7) T.nil).ki,u_<|(eB x (T.node b1 x2 m3 h4 n5 l6 r7) T.nil).va,i_<|(eB x (T.node b1 x2 m3 h4 n5 l6 r7) T.nil).vi,i_<|eK (T.node b1 x2 m3 h4 n5 l6 r7) T.nil,i_<|eO (T.node b1 x2 m3 h4 n5 l6 r7) T.nil] 361) rfl (iL<|cc rfl (cc rfl (cc rfl (cc rfl (cc rfl (cc rfl (cc (congrArg u_ (by rfl:(dO x m3).ka=(eB x (T.node b1 x2 m3 h4 n5 l6 r7) T.nil).ka))<|cc (congrArg i_ (by rfl:(dO x m3).ki=(eB x (T.node b1 x2 m3 h4 n5 l6 r7) T.nil).ki))<|cc (congrArg u_ (by rfl:(dO x m3).va=(eB x (T.node b1 x2 m3 h4 n5 l6 r7) T.nil).va))<|cc (congrArg i_ (by rfl:(dO x m3).vi=(eB x (T.node b1 x2 m3 h4 n5 l6 r7) T.nil).vi))<|cc (congrArg i_ (by(simp[uZ,eK,eO,eB,T.low];done):1+(eE (T.hgt<|T.node b1 x2 m3 h4 n5 l6 r7)<|T.hgt T.nil)=eK (T.node b1 x2 m3 h4 n5 l6 r7) T.nil))<|cc (congrArg i_ (by rfl:(1+(T.cnt<|T.node b1 x2 m3 h4 n5 l6 r7))+(T.cnt T.nil)=eO (T.node b1 x2 m3 h4 n5 l6 r7) T.nil)) rfl))))))) (A.aN [1,0,0] [] (fun _ w r s=>trivial) () ?_ ?_<|by kernel_rfl))
  ·rfl
  trivial
 refine A.g [.p] [52] [(48,.agg #[p_ b1,p_ b15]),(3,p_ b15),(53,b_ true)] ?_
 refine A.ct ?_
 refine A.r0 [4] [cw b15 [u_ x16.ka,i_ x16.ki,u_ x16.va,i_ x16.vi,.pointer<|T.ptr l20,.pointer<|T.ptr r21,u_ m17.ka,i_ m17.ki,u_ m17.va,i_ m17.vi,i_ h18,i_ n19] 361,dU 361 l20,dU 361 r21] rfl (fun w hs=>nT hs) ?_
 refine A.O [12] 13 ?_
 refine A.pO 1 [.p,.p,.p,.p,.ld 6,.p,.p,.p,.ld 0,.cq<|.agg #[u_<|(dO (dO x m3) m17).ka,i_<|(dO (dO x m3) m17).ki,u_<|(dO (dO x m3) m17).va,i_<|(dO (dO x m3) m17).vi],.p,.p] (rg 0 12) [(0,p_ b),(48,.agg #[p_ b1,p_ b15]),(49,i_ 1),(63,.agg #[u_<|(dO (dO x m3) m17).ka,i_<|(dO (dO x m3) m17).ki,u_<|(dO (dO x m3) m17).va,i_<|(dO (dO x m3) m17).vi]),(65,q_ b 6)] [b,b15] (o1<|qo<|fun ww ss=>q9 (dO x m3) m17 ww) ?_
 refine A.F 12 rfl (A.sT 6 [u_<|(dO (dO x m3) m17).ka,i_<|(dO (dO x m3) m17).ki,u_<|(dO (dO x m3) m17).va,i_<|(dO (dO x m3) m17).vi] rfl ?_)
 refine A.E ?_
 refine A.M ?_
 refine A.s<|A.h [.p,.p] [(0,p_ b),(48,.agg #[p_ b1,p_ b15]),(49,i_ 2)] [] ?_
 refine A.aC (m:=397) ?_
 refine A.d ?_
 refine A.s<|A.g [.p] [] [(50,b_ false)] ?_
 refine A.d ?_
 refine A.cf ?_
 refine A.aA ?_
 refine A.r0 [3,3,3] [dU 361<|T.node b1 x2 m3 h4 n5 l6 r7] rfl (fun w hs=>lZ hs) ?_
 refine A.r0 [1,1,1] [dU 361<|T.node b15 x16 m17 h18 n19 l20 r21] rfl (fun w hs=>lZ hs) ?_
 refine A.su 2 (cw b [u_ x.ka,i_ x.ki,u_ x.va,i_ x.vi,p_ b1,p_ b15,u_<|(eB x (T.node b1 x2 m3 h4 n5 l6 r7)<|T.node b15 x16 m17 h18 n19 l20 r21).ka,i_<|(eB x (T.node b1 x2 m3 h4 n5 l6 r7)<|T.node b15 x16 m17 h18 n19 l20 r21).ki,u_<|(eB x (T.node b1 x2 m3 h4 n5 l6 r7)<|T.node b15 x16 m17 h18 n19 l20 r21).va,i_<|(eB x (T.node b1 x2 m3 h4 n5 l6 r7)<|T.node b15 x16 m17 h18 n19 l20 r21).vi,i_<|eK (T.node b1 x2 m3 h4 n5 l6 r7)<|T.node b15 x16 m17 h18 n19 l20 r21,i_<|eO (T.node b1 x2 m3 h4 n5 l6 r7)<|T.node b15 x16 m17 h18 n19 l20 r21] 361) rfl (iL<|cc rfl (cc rfl (cc rfl (cc rfl (cc rfl (cc rfl (cc (congrArg u_ (by rfl:(dO (dO x m3) m17).ka=(eB x (T.node b1 x2 m3 h4 n5 l6 r7)<|T.node b15 x16 m17 h18 n19 l20 r21).ka))<|cc (congrArg i_ (by rfl:(dO (dO x m3) m17).ki=(eB x (T.node b1 x2 m3 h4 n5 l6 r7)<|T.node b15 x16 m17 h18 n19 l20 r21).ki))<|cc (congrArg u_ (by rfl:(dO (dO x m3) m17).va=(eB x (T.node b1 x2 m3 h4 n5 l6 r7)<|T.node b15 x16 m17 h18 n19 l20 r21).va))<|cc (congrArg i_ (by rfl:(dO (dO x m3) m17).vi=(eB x (T.node b1 x2 m3 h4 n5 l6 r7)<|T.node b15 x16 m17 h18 n19 l20 r21).vi))<|cc (congrArg i_ (by(simp[uZ,eK,eO,eB,T.low];done):1+(eE (T.hgt<|T.node b1 x2 m3 h4 n5 l6 r7)<|T.hgt<|T.node b15 x16 m17 h18 n19 l20 r21)=eK (T.node b1 x2 m3 h4 n5 l6 r7) (T.node b15 x16 m17 h18 n19 l20 r21)))<|cc (congrArg i_ (by rfl:(1+(T.cnt<|T.node b1 x2 m3 h4 n5 l6 r7))+(T.cnt<|T.node b15 x16 m17 h18 n19 l20 r21)=eO (T.node b1 x2 m3 h4 n5 l6 r7) (T.node b15 x16 m17 h18 n19 l20 r21))) rfl))))))) ?_
 refine A.aN [2,1,0] [] (fun aa ww rr ss=>trivial) () ?_ ?_<|by kernel_rfl
 ·rfl
 trivial
end Go.Proofs.YtobgjpigngoggaaGreat
