/- The functions of the scheduler, layer by layer, proved operation by operation for all arguments, under the conditions that each theorem states: part 2. -/
import Derived.Test.YtobgjpigngoggaaGreatProg
import Derived.Shelf.SortM.Plain
import Derived.Shelf.SortM.SortNone
import Derived.Ground.SlgmProg
import Derived.Test.YtobgjpigngoggaaGreatJ1
set_option linter.unusedVariables false
set_option linter.unusedSimpArgs false
set_option maxHeartbeats 4000000
set_option maxRecDepth 100000
namespace Go.Proofs.YtobgjpigngoggaaGreat.V
open Go
section
variable{P:Program}{n:Nat}{env:aT}{w0:World}{S:bO}{H:List aH}{ops:cI}{o:Oper}{K:cf}
theorem X4{α:Type}(enc:α→cn)(d0:α)(d:Nat){t e:TypeId}{x y:Operand}{z:Value}{sz by_:Nat}(len:Nat)(hb:by_*len≤281474976710656)(hm:len≤maxLen)(hs: ∀x,(enc x).length=sz)(H':Nat→List aH)
  (h: ∀b,V.A n ((d,.slice (some ⟨b,0,none⟩) (List.replicate len d0).length len)::env) w0 S (H' b) K)(hH: ∀b,H++[sl (some ⟨b,0,none⟩) (List.replicate len d0).length len e sz (aQ enc<|List.replicate len d0)]=H' b:=by intro _;rfl)
  (hok:f9 ops n env o (some d)=true:=by kernel_rfl)(ho:o.op= .makeSlice t x y:=by rfl)(hx:ev env x=some (.int .i64 (len:Int)):=by kernel_rfl)(hy:ev env y=some (.int .i64 (len:Int)):=by kernel_rfl)
  (ht:P.underlying t=some (.slice e):=by kernel_rfl)(hinf:(P.info? e).map (fun i=>(i.zero,i.size,i.bytes))=some (some z,sz,by_):=by kernel_rfl)(hzs:z.cells.size=sz:=by rfl)(hd0:enc d0=z.cells.toList:=by rfl):V.A n env w0 S H (dB P ops o K):=by
 refine Xe enc d0 d len hok ho hx hy ht hinf hzs hd0 hb (Nat.le_trans hm<|by decide) _ (fun _=>rfl) fun b=>?_
 have hl:(aQ enc<|List.replicate len d0).length=len*sz:=by
  have: ∀m:Nat,(aQ enc<|List.replicate m d0).length=m*sz:=fun m=>by
   induction m with
   |zero=>simp[aQ]
   |succ m ih=>simp only[List.replicate_succ,aQ,List.flatMap_cons,List.length_append,hs] at ih⊢;rw[ih,Nat.succ_mul];omega
  exact this len
 refine xO H.length (b:=b) (t:=e) (cs:=aQ enc<|List.replicate len d0) len sz (H' b) (by simp) hl hm ?_ ?_
 ·rw[←hH b];simp
 ·have:=h b
  rw[List.length_replicate] at this
  exact this
end
section
variable{P:Program}{Q:Exit→cf}{n:Nat}{env:aT}{w0:World}{S:bO}{H:List aH}{ops:cI}{rest:List Oper}{K:cf}
theorem X9(hs:List Hn)(ii:bO)(E:Nat→Nat→Nat→aT)(H':Nat→Nat→Nat→List aH)(l:Nat→Nat→Nat→bO)(C:Nat→Nat→Nat→Cx→Prop)(hx: ∀b c d,(nb hs,X P ops n ii hs (rest.take<|kL hs) [b,c,d] env [] H true)=(3,some ⟨E b c d,H' b c d,nf<|l b c d,C b c d⟩))(hc: ∀b c d,C b c d ⟨P,w0,S,H⟩)(h: ∀b c d,A n (E b c d) w0 S (H' b c d)<|wpList P ops Q<|rest.drop<|kL hs):A n env w0 S H (wpList P ops Q rest):=
 sG (m:=3) (k:=kL hs) hs ii (fun bs=>E (bs.getD 0 0) (bs.getD 1 0)<|bs.getD 2 0) (fun bs=>H' (bs.getD 0 0) (bs.getD 1 0)<|bs.getD 2 0) (fun bs=>l (bs.getD 0 0) (bs.getD 1 0)<|bs.getD 2 0) (fun bs=>C (bs.getD 0 0) (bs.getD 1 0)<|bs.getD 2 0) (fun bs hb=>by
  match bs,hb with
  |[b,c,d],_=>exact hx b c d) (fun _ _=>hc _ _ _) (fun _ _=>h _ _ _)
end
end Go.Proofs.YtobgjpigngoggaaGreat.V
namespace Go.Proofs.YtobgjpigngoggaaGreat
open Go V
structure Pk where
 qi:Int
 qn:Int
 qa:Int
 qb:Int
 qc:Int
 qd:Int
 deriving Inhabited,DecidableEq
def gZ(x:Pk):List Value:=[(u_ x.qi),(i_ x.qn),(w_ x.qa),(w_ x.qb),(w_ x.qc),(w_ x.qd)]
theorem rf(x:Pk):(gZ x).length=6:=rfl
theorem VL(br:Nat)(ar:bn)(sx:List Pk)(cp f n:Nat)(w:World)(r0:(aA br [.slice ar sx.length cp,i_ (f:Int),i_ (n:Int)] 315).holds w):
  CW 143 #[p_ br] w (i_ (n:Int)):=by
 refine aU Tryz.func143 rfl (HS.nil w) (aD []<|aE<|aD [(4,b_ false)]<|bY<|aP<|bW [.rd [i_ (n:Int)]] [(2,i_ (n:Int))] (o1<|ro ⟨br,2,none⟩ (vs:=[i_ (n:Int)])<|cB r0 rfl)<|aF<|bK [i_ (n:Int)] ?_)
 rfl
abbrev VM(p0)(p1):=(sl (some ⟨p0,0,none⟩) ((List.replicate p1 (default:Pk)).length) p1 45 6 (V.aQ gZ<|List.replicate p1 (default:Pk)):V.aH)
theorem VN(m:Nat)(h1:1≤m)(h2:m≤64):
  CS 144 #[i_ (m:Int)] [] (fun((br,al'):Nat×(bn))=>(.tuple #[p_ br,i_ 0])) (fun _=>True) fun(br,al')=>[aA br [.slice al' ((List.replicate m (default:Pk)).length) m,i_ 0,i_ 0] 315,sl al' ((List.replicate m (default:Pk)).length) m 45 6<|V.aQ gZ<|List.replicate m (default:Pk)]:=by
 intro w hs
 refine aU Tryz.func144 rfl hs (aD []<|cS<|bF [.o,.cl] [(9,b_<|(decide ((m:Int)<1))||(decide ((m:Int)>64)))]<|aI rfl (fun e1=>?_) (fun e1=>?_))
 ·exact absurd e1<|by(intro h_;simp at h_;omega)
 refine aP<|aC<|cP [.p] [(10,i_ (m:Int))]<|aG<|X4 gZ (default:Pk) 11 (sz:=6) (by_:=24) (z:=(.agg #[u_ 0,i_ 0,w_ 0,w_ 0,w_ 0,w_ 0])) m (by omega) (by unfold maxLen;omega) rf (fun b1=>[VM b1 m]) ?_
 intro b1
 refine dS [.al] [] (fun b2=>[(2,p_ b2),(3,i_ 0)]) (fun _=>[]) (fun b2=>aA b2 [.slice (some ⟨b1,0,none⟩) ((List.replicate m (default:Pk)).length) m,i_ 0,i_ 0] 315) ?_
 intro b2
 refine aF<|bJ [1,0] [p_ b2,i_ 0] (b2,some ⟨b1,0,none⟩) ?_ ?_
 ·rfl
 trivial
abbrev EG(p0)(p1)(p2:List Pk):=(i_ (((p0:Int)+(p1:Int)).tmod (p2.length:Int)):Value)
abbrev EH(p0)(p1)(p2:List Pk)(p3)(p4)(p5):=(aA p0 [.slice p1 p2.length p3,i_ (p4:Int),i_ (p5:Int)] 315:V.aH)
theorem CC(br:Nat)(ar:bn)(sx:List Pk)(cp f n:Nat)(i:Nat)(hf:f<sx.length)(hn:n≤sx.length)(hl:sx.length≤64)(hi:i≤64)(w:World)(r0:(EH br ar sx cp f n).holds w):
  CW 195 #[p_ br,i_ (i:Int)] w (i_ (((f+i)%sx.length:Nat):Int)):=by
 refine aU Tryz.func195 rfl (HS.nil w) (aD []<|aE<|bL [] 13<|cO 2 [.rd [i_ (f:Int)],.w<|(f:Int)+(i:Int),.rd [.slice ar sx.length cp]] (rg 0 11) [(10,i_<|(f:Int)+(i:Int)),(15,i_ (sx.length:Int))] (oc (ro ⟨br,1,none⟩ (vs:=[i_ (f:Int)])<|cB r0 rfl)<|oc (wj ((f:Int)+(i:Int))<|by omega)<|o1<|ro ⟨br,0,none⟩ (vs:=[.slice ar sx.length cp])<|cB r0 rfl)<|kQ 11 (some 16) (EG f i sx) rfl (by kernel_rfl) (by kernel_rfl) (UZ rfl rfl rfl (by omega)) (cL 0 [] [12] [(4,EG f i sx)]<|dj<|aF<|bK [EG f i sx] ?_))
 rfl
abbrev EI(p0:Pk):=(.agg #[u_ p0.qi,i_ p0.qn,w_ p0.qa,w_ p0.qb,w_ p0.qc,w_ p0.qd]:Value)
theorem Rz(br:Nat)(ar:bn)(sx:List Pk)(cp f n:Nat)(p:Pk)(hn:n=sx.length)(w:World)(r0:(EH br ar sx cp f n).holds w)(r1:(sl ar (sx.length) cp 45 6<|V.aQ gZ sx).holds w):
  CW 145 #[p_ br,EI p] w (i_ 5):=by
 refine aU Tryz.func145 rfl (HS.nil w) (aC<|dD [.al] [] (fun b1=>[(3,p_ b1)]) (fun b1=>aA b1 [u_ p.qi,i_ p.qn,w_ p.qa,w_ p.qb,w_ p.qc,w_ p.qd] 45) ?_)
 intro b1
 refine aE<|aO<|aD [(5,b_ false)]<|bY<|aC<|cP [.p] [(9,p_ br)]<|aG<|dx (some 10) [p_ br] Tryz.func194 rfl (aD []<|aE<|aD [(4,b_ false)]<|bY<|au<|fS [.rd [.slice ar sx.length cp],.rd [i_ (n:Int)],.w<|(sx.length:Int)-(n:Int)] (rg 0 11) [] [(2,i_<|(sx.length:Int)-(n:Int))] (oc (ro ⟨br,0,none⟩ (vs:=[.slice ar sx.length cp])<|cB r0 rfl)<|oc (ro ⟨br,2,none⟩ (vs:=[i_ (n:Int)])<|cB r0 rfl)<|o1<|wj ((sx.length:Int)-(n:Int))<|by omega)<|aF<|dO [i_<|(sx.length:Int)-(n:Int)]<|ak [(3,p_ b1),(8,b_<|((sx.length:Int)-(n:Int))==0)]<|aI rfl (fun e1=>?_) (fun e1=>?_))
 ·refine aD [(4,i_ 5)]<|aF<|bK [i_ 5] ?_
  rfl
 exact absurd e1<|by(intro h_;simp at h_;omega)
theorem SA(br:Nat)(ar:bn)(sx:List Pk)(cp f n:Nat)(p:Pk)(hf:f<sx.length)(hn:n<sx.length)(hl:sx.length≤64):
  CS 145 #[p_ br,EI p] [EH br ar sx cp f n,sl ar (sx.length) cp 45 6<|V.aQ gZ sx] (fun(zz:Unit)=>(i_ 0)) (fun _=>True) fun _=>[aA br [.slice ar ((sx.set ((f+n)%sx.length) p).length) cp,i_ (f:Int),i_ ((n+1:Nat):Int)] 315,sl ar ((sx.set ((f+n)%sx.length) p).length) cp 45 6<|V.aQ gZ<|sx.set ((f+n)%sx.length) p]:=by
 intro w hs
 have hm_:=Nat.mod_lt (f+n) (show 0<sx.length by omega)
 refine aU Tryz.func145 rfl hs (aC<|dD [.al] [] (fun b1=>[(3,p_ b1)]) (fun b1=>aA b1 [u_ p.qi,i_ p.qn,w_ p.qa,w_ p.qb,w_ p.qc,w_ p.qd] 45) ?_)
 intro b1
 refine aE<|aO<|aD [(5,b_ false)]<|bY<|aC<|cP [.p] [(9,p_ br)]<|aG<|dx (some 10) [p_ br] Tryz.func194 rfl (aD []<|aE<|aD [(4,b_ false)]<|bY<|aP<|(aE<|fS [.ld 0,.ld 0,.w<|(sx.length:Int)-(n:Int)] (rg 0 11) [] [(2,i_<|(sx.length:Int)-(n:Int))] (o1<|wj ((sx.length:Int)-(n:Int))<|by omega)<|aF<|dO [i_<|(sx.length:Int)-(n:Int)]<|ak [(3,p_ b1),(8,b_<|((sx.length:Int)-(n:Int))==0)]<|aI rfl (fun e1=>?_) (fun e1=>?_)))
 ·exact absurd e1<|by(intro h_;simp at h_;omega)
 refine aP<|aE<|bL [12] 13<|cO 1 [.ld 0,.ld 0,.cq<|i_ (((f+n)%sx.length:Nat):Int),.ld 2,.ix] (rg 0 12) [(22,EI p),(23,.pointer<|some<|(aZ ar).add (((f+n)%sx.length:Nat)*6))] (oc (qo<|fun w s=>CC br ar sx cp f n n ‹_› (by omega) ‹_› (by omega) w (s.mem (i:=0) rfl))<|o1<|bH 1 ((f+n)%sx.length:Nat) rf rfl (by omega))<|an 12 rfl (fB 1 ((f+n)%sx.length:Nat) p rfl rf (by omega) (cD<|dj<|aC<|gA [.ld 0,.w<|(n:Int)+1,.st 0] [] [] [(0,aA br [.slice ar sx.length cp,i_ (f:Int),i_<|(n:Int)+1] 315)] (o1<|wj ((n:Int)+1)<|by omega)<|aD [(4,i_ 0)]<|aF<|bj 0 (aA br [.slice ar ((sx.set ((f+n)%sx.length) p).length) cp,i_ (f:Int),i_ ((n+1:Nat):Int)] 315) rfl (iD<|cc (congrArg (fun z_:Nat=>Value.slice ar z_ cp) (by simp:sx.length=(sx.set ((f+n)%sx.length) p).length))<|cc rfl (cc (congrArg i_ (by rfl:(n:Int)+1=((n+1:Nat):Int))) rfl)) (bj 1 (sl ar ((sx.set ((f+n)%sx.length) p).length) cp 45 6<|V.aQ gZ<|sx.set ((f+n)%sx.length) p) rfl (cw (by rfl:(sx.set ((f+n)%sx.length:Nat) p)=(sx.set ((f+n)%sx.length) p))) (bJ [0,0] [i_ 0] () ?_ ?_))))
 ·rfl
 trivial
abbrev Kr(p0:List Pk)(p1)(p2):=((.tuple #[.agg #[u_<|(p0.getD ((p1+p2)%p0.length) default).qi,i_<|(p0.getD ((p1+p2)%p0.length) default).qn,w_<|(p0.getD ((p1+p2)%p0.length) default).qa,w_<|(p0.getD ((p1+p2)%p0.length) default).qb,w_<|(p0.getD ((p1+p2)%p0.length) default).qc,w_<|(p0.getD ((p1+p2)%p0.length) default).qd],i_ 0]):Value)
theorem Ll(br:Nat)(ar:bn)(sx:List Pk)(cp f n:Nat)(i:Nat)(hf:f<sx.length)(hn:n≤sx.length)(hl:sx.length≤64)(hi:i<n)(w:World)(r0:(aA br [.slice ar sx.length cp,i_ (f:Int),i_ (n:Int)] 315).holds w)(r1:dR w ar (V.aQ gZ sx)):
  CW 253 #[p_ br,i_ (i:Int)] w (Kr sx f i):=by
 have hm_:=Nat.mod_lt (f+i) (show 0<sx.length by omega)
 refine aU Tryz.func253 rfl (HS.nil w) (aC<|dD [.al] [] (fun b1=>[(4,p_ b1)]) (fun b1=>aA b1 [u_ 0,i_ 0,w_ 0,w_ 0,w_ 0,w_ 0] 45) ?_)
 intro b1
 refine aC<|dD [.al] [] (fun b2=>[(6,p_ b2)]) (fun b2=>aA b2 [u_ 0,i_ 0,w_ 0,w_ 0,w_ 0,w_ 0] 45) ?_
 intro b2
 refine aE<|aO<|aD [(7,b_ false)]<|bY<|bW [.o,.rd [i_ (n:Int)],.cl] [(11,b_<|(decide ((i:Int)<0))||(decide ((i:Int)≥(n:Int))))] (o1<|go (true&&((decide ((i:Int)<0))==false)) fun h_=>(ro ⟨br,2,none⟩ (vs:=[i_ (n:Int)])<|cB r0 rfl))<|aI rfl (fun e1=>?_) (fun e1=>?_)
 ·exact absurd e1<|by(intro h_;simp at h_;omega)
 refine aP<|aE<|bL [9] 11 ?_
 obtain⟨x3,hx3⟩: ∃x,(sx)[((f+i)%sx.length:Nat)]? =some x:=⟨_,dA<|by omega⟩
 refine cO 2 [.rd [.slice ar sx.length cp],.cq<|i_ (((f+i)%sx.length:Nat):Int),.ix,.rd [u_ x3.qi,i_ x3.qn,w_ x3.qa,w_ x3.qb,w_ x3.qc,w_ x3.qd]] (rg 0 9) [(31,.agg #[u_ x3.qi,i_ x3.qn,w_ x3.qa,w_ x3.qb,w_ x3.qc,w_ x3.qd])] (oc (ro ⟨br,0,none⟩ (vs:=[.slice ar sx.length cp])<|cB r0 rfl)<|oc (qo<|fun ww ss=>CC br ar sx cp f n i ‹_› ‹_› ‹_› (by omega) ww (bV ss r0))<|oc (io (((f+i)%sx.length:Nat):Int)<|dh rf (by decide) (bg r1<|by simp[aL])<|by omega)<|o1<|ro ((aZ ar).add (((f+i)%sx.length:Nat)*6))<|dY (vs:=[u_ x3.qi,i_ x3.qn,w_ x3.qa,w_ x3.qb,w_ x3.qc,w_ x3.qd]) rf (bg r1<|by simp[aL]) hx3 (Nat.le_of_ble_eq_true rfl) rfl) ?_
 refine an 9 rfl (dN 0 [u_ x3.qi,i_ x3.qn,w_ x3.qa,w_ x3.qb,w_ x3.qc,w_ x3.qd] rfl ?_)
 refine cD ?_
 refine cL 0 [] [10] [(4,p_ b1),(5,i_ 0)] ?_
 refine dj ?_
 refine aF ?_
 refine oJ 0 [u_ x3.qi,i_ x3.qn,w_ x3.qa,w_ x3.qb,w_ x3.qc,w_ x3.qd] (i_ 0) ?_
 show((.tuple #[.agg #[u_ x3.qi,i_ x3.qn,w_ x3.qa,w_ x3.qb,w_ x3.qc,w_ x3.qd],i_ 0]):Value)=(Kr sx f i)
 simp_all[List.getD]
theorem VO(br:Nat)(ar:bn)(sx:List Pk)(cp f n:Nat)(hf:f<sx.length)(hn:n≤sx.length)(hl:sx.length≤64)(h0:0<n):
  CS 211 #[p_ br] [aA br [.slice ar sx.length cp,i_ (f:Int),i_ (n:Int)] 315,sl ar (sx.length) cp 45 6<|V.aQ gZ sx] (fun(x:Pk)=>(.tuple #[.agg #[u_ x.qi,i_ x.qn,w_ x.qa,w_ x.qb,w_ x.qc,w_ x.qd],i_ 0])) (fun x=>sx[f]? =some x) fun _=>[aA br [.slice ar ((sx.set f default).length) cp,i_ (((f+1)%sx.length:Nat):Int),i_ ((n-1:Nat):Int)] 315,sl ar ((sx.set f default).length) cp 45 6<|V.aQ gZ<|sx.set f default]:=by
 intro w hs
 refine aU Tryz.func211 rfl hs (aC<|dD [.al] [] (fun b1=>[(2,p_ b1)]) (fun b1=>aA b1 [u_ 0,i_ 0,w_ 0,w_ 0,w_ 0,w_ 0] 45) ?_)
 intro b1
 refine aC<|iE [.cq<|.tuple #[.agg #[u_<|(sx.getD ((f+0)%sx.length) default).qi,i_<|(sx.getD ((f+0)%sx.length) default).qn,w_<|(sx.getD ((f+0)%sx.length) default).qa,w_<|(sx.getD ((f+0)%sx.length) default).qb,w_<|(sx.getD ((f+0)%sx.length) default).qc,w_<|(sx.getD ((f+0)%sx.length) default).qd],i_ 0],.al,.st 3] [] (fun b2=>[(4,p_ b2),(5,i_ 0)]) (fun b2=>[]) (fun b2=>aA b2 [u_<|(sx.getD ((f+0)%sx.length) default).qi,i_<|(sx.getD ((f+0)%sx.length) default).qn,w_<|(sx.getD ((f+0)%sx.length) default).qa,w_<|(sx.getD ((f+0)%sx.length) default).qb,w_<|(sx.getD ((f+0)%sx.length) default).qc,w_<|(sx.getD ((f+0)%sx.length) default).qd] 45) (fun b2=>o1<|qo<|fun w s=>Ll br ar sx cp f n 0 ‹_› ‹_› ‹_› ‹_› w (s.mem (i:=0) rfl) ((cV (i:=1) rfl) w s)) ?_
 intro b2
 refine aE<|aD [(13,b_ false)]<|bY<|aP<|aC<|dD [.al] [] (fun b3=>[(6,p_ b3)]) (fun b3=>aA b3 [u_ 0,i_ 0,w_ 0,w_ 0,w_ 0,w_ 0] 45) ?_
 intro b3
 refine aE<|bL [10] 11<|cO 1 [.ld 0,.ld 0,.ld 4,.ix] (rg 0 10) [(24,.agg #[u_ 0,i_ 0,w_ 0,w_ 0,w_ 0,w_ 0]),(25,.pointer<|some<|(aZ ar).add (f*6))] (o1<|bH 1 f rf rfl (by omega))<|an 10 rfl (fB 1 f (⟨0,0,0,0,0,0⟩:Pk) rfl rf (by omega) (cD<|dj<|aC<|gA [.cq<|i_ (((f+1)%sx.length:Nat):Int),.st 0] [] [] [(0,aA br [.slice ar sx.length cp,i_ (((f+1)%sx.length:Nat):Int),i_ (n:Int)] 315)] (o1<|qo<|fun w s=>CC br ar sx cp f n 1 ‹_› ‹_› ‹_› (by omega) w (s.mem (i:=0) rfl))<|aC<|gA [.ld 0,.w<|(n:Int)-1,.st 0] [] [] [(0,aA br [.slice ar sx.length cp,i_ (((f+1)%sx.length:Nat):Int),i_<|(n:Int)-1] 315)] (o1<|wj ((n:Int)-1)<|by omega)<|aC<|bU [.ld 3,.st 2] [(3,i_ 0)] [(2,aA b1 [u_<|(sx.getD ((f+0)%sx.length) default).qi,i_<|(sx.getD ((f+0)%sx.length) default).qn,w_<|(sx.getD ((f+0)%sx.length) default).qa,w_<|(sx.getD ((f+0)%sx.length) default).qb,w_<|(sx.getD ((f+0)%sx.length) default).qc,w_<|(sx.getD ((f+0)%sx.length) default).qd] 45)]<|aF<|bj 0 (aA br [.slice ar ((sx.set f default).length) cp,i_ (((f+1)%sx.length:Nat):Int),i_ ((n-1:Nat):Int)] 315) rfl (iD<|cc (congrArg (fun z_:Nat=>Value.slice ar z_ cp) (by simp:sx.length=(sx.set f default).length))<|cc rfl (cc (congrArg i_ (by omega:(n:Int)-1=((n-1:Nat):Int))) rfl)) (bj 1 (sl ar ((sx.set f default).length) cp 45 6<|V.aQ gZ<|sx.set f default) rfl (cw (by rfl:(sx.set f (⟨0,0,0,0,0,0⟩:Pk))=(sx.set f default))) (cN [0,0] [.agg #[u_<|(sx.getD ((f+0)%sx.length) default).qi,i_<|(sx.getD ((f+0)%sx.length) default).qn,w_<|(sx.getD ((f+0)%sx.length) default).qa,w_<|(sx.getD ((f+0)%sx.length) default).qb,w_<|(sx.getD ((f+0)%sx.length) default).qc,w_<|(sx.getD ((f+0)%sx.length) default).qd],i_ 0] (fun _ w r s=>⟨dU 2 r s,dM r rfl,trivial⟩) ((sx.getD ((f+0)%sx.length) default)) ?_ ?_<|by kernel_rfl))))
 ·rfl
 (simp[List.getD,Nat.mod_eq_of_lt hf,dA hf];done)
theorem GR(w:World):
  CW 107 #[n_] w (i_ 0):=by
 refine aU Tryz.func107 rfl (HS.nil w) (aD []<|aE<|aD [(4,b_ true)]<|dX<|aD [(2,i_ 0)]<|aF<|bK [i_ 0] ?_)
 rfl
theorem EJ(bq br:Nat)(ar:bn)(sx:List Pk)(cp f n:Nat)(rm bs k1 k2 k3 k4 k5 k6:Int)(w:World)(r0:(aA bq [p_ br,i_ rm,i_ bs,u_ k1,u_ k2,u_ k3,u_ k4,u_ k5,u_ k6] 269).holds w)(r1:(aA br [.slice ar sx.length cp,i_ (f:Int),i_ (n:Int)] 315).holds w):
  CW 107 #[p_ bq] w (i_ (n:Int)):=by
 refine aU Tryz.func107 rfl (HS.nil w) (aD []<|aE<|aD [(4,b_ false)]<|bY<|aP<|bW [.rd [p_ br],.cq<|i_ (n:Int)] [(2,i_ (n:Int))] (oc (ro ⟨bq,0,none⟩ (vs:=[p_ br])<|cB r0 rfl)<|o1<|qo<|fun w s=>VL br ar sx cp f n w<|bV s r1)<|aF<|bK [i_ (n:Int)] ?_)
 rfl
theorem VP(m:Nat)(rm:Int)(h1:1≤m)(h2:m≤64)(h3:1≤rm∧rm≤1048576):
  CS 108 #[i_ (m:Int),i_ rm] [] (fun((bq,br,al'):Nat×Nat×(bn))=>(.tuple #[p_ bq,i_ 0])) (fun _=>True) fun(bq,br,al')=>[aA bq [p_ br,i_ rm,i_ 0,u_ 0,u_ 0,u_ 0,u_ 0,u_ 0,u_ 0] 269,aA br [.slice al' ((List.replicate m (default:Pk)).length) m,i_ 0,i_ 0] 315,sl al' ((List.replicate m (default:Pk)).length) m 45 6<|V.aQ gZ<|List.replicate m (default:Pk)]:=by
 intro w hs
 refine aU Tryz.func108 rfl hs (aD []<|aC<|cP [.p] [(9,i_ (m:Int))]<|aG<|bM (some 10) [] (VN m ‹_› ‹_›) ?_)
 rintro⟨br1,al'2⟩-
 refine ak [(6,p_ br1),(7,i_ 0)]<|cS<|bF [.p,.p,.p,.p,.p,.p,.p,.o,.p,.p,.cl] [(22,b_<|(decide (rm<1))||(decide (rm>1048576)))]<|aI rfl (fun e2=>?_) (fun e2=>?_)
 ·exact absurd e2<|by(intro h_;simp at h_;omega)
 refine aP<|aC<|dD [.al] [] (fun b4=>[(4,p_ b4),(5,i_ 0)]) (fun b4=>aA b4 [p_ br1,i_ rm,i_ 0,u_ 0,u_ 0,u_ 0,u_ 0,u_ 0,u_ 0] 269) ?_
 intro b4
 refine aF<|bJ [2,0,0] [p_ b4,i_ 0] (b4,br1,al'2) ?_ ?_
 ·rfl
 trivial
abbrev Ks(p0)(p1:Pk):=(u_ (IntKind.u64.wrap<|p0+(IntKind.u64.wrap<|p1.qn)):Value)
abbrev zr(p0)(p1:Pk):=(i_ (IntKind.i64.wrap<|p0-p1.qn):Value)
abbrev VQ(p0)(p1:List Pk)(p2)(p3):=(sl p0 ((p1.set p2 default).length) p3 45 6 (V.aQ gZ<|p1.set p2 default):V.aH)
abbrev VR(p0)(p1:Pk):=(aA p0 [u_ p1.qi,i_ p1.qn,w_ p1.qa,w_ p1.qb,w_ p1.qc,w_ p1.qd] 45:V.aH)
abbrev VS(p0)(p1)(p2:List Pk)(p3)(p4)(p5):=(aA p0 [.slice p1 ((p2.set p3 default).length) p4,i_ (((p3+1)%p2.length:Nat):Int),i_ ((p5-1:Nat):Int)] 315:V.aH)
theorem VT(bq br:Nat)(ar:bn)(sx:List Pk)(cp f n:Nat)(rm bs k1 k2 k3 k4 k5 k6:Int)(hf:f<sx.length)(hn:n≤sx.length)(hl:sx.length≤64)(h0:0<n):
  CS 153 #[p_ bq] [aA bq [p_ br,i_ rm,i_ bs,u_ k1,u_ k2,u_ k3,u_ k4,u_ k5,u_ k6] 269,aA br [.slice ar sx.length cp,i_ (f:Int),i_ (n:Int)] 315,sl ar (sx.length) cp 45 6<|V.aQ gZ sx] (fun((x,z2,z5):Pk×Int×Int)=>(.tuple #[.agg #[u_ x.qi,i_ x.qn,w_ x.qa,w_ x.qb,w_ x.qc,w_ x.qd],i_ 0])) (fun(x,z2,z5)=>sx[f]? =some x) fun(x,z2,z5)=>[aA bq [p_ br,i_ rm,zr bs x,u_ k1,u_ z2,u_ k3,u_ k4,u_ z5,u_ k6] 269,VS br ar sx f cp n,VQ ar sx f cp]:=by
 intro w hs
 refine aU Tryz.func153 rfl hs (aC<|dD [.al] [] (fun b1=>[(2,p_ b1)]) (fun b1=>aA b1 [u_ 0,i_ 0,w_ 0,w_ 0,w_ 0,w_ 0] 45) ?_)
 intro b1
 refine aE<|aD [(7,b_ false)]<|bY<|aP<|aC<|bA 4 [.ld 0] [(13,p_ br)]<|aG<|bM (some 14) [1,1] (VO br ar sx cp f n ‹_› ‹_› ‹_› ‹_›) ?_
 rintro x2 hz1
 refine dS [.al,.st 4] [] (fun b3=>[(4,p_ b3),(5,i_ 0)]) (fun b3=>[]) (fun b3=>aA b3 [u_ x2.qi,i_ x2.qn,w_ x2.qa,w_ x2.qb,w_ x2.qc,w_ x2.qd] 45) ?_
 intro b3
 refine aE<|aD [(18,b_ false)]<|bY<|aP<|aE<|bL [9] 10<|cL 1 [.ld 2,.ld 4] (rg 0 9) [(27,zr bs x2),(29,q_ bq 2)]<|an 9 rfl (dN 2 [zr bs x2] rfl (cD<|dj<|aC<|bU [.ld 2,.st 2] [(2,p_ b1),(4,p_ b3)] [(2,aA bq [p_ br,i_ rm,zr bs x2,u_ k1,u_<|wU<|k2+1,u_ k3,u_ k4,u_ k5,u_ k6] 269)]<|aE<|bL [12] 13<|cL 1 [.ld 2,.ld 4] (rg 0 12) [(47,Ks k5 x2),(50,q_ bq 7)]<|an 12 rfl (dN 2 [Ks k5 x2] rfl (cD<|dj<|aC<|bU [.ld 4,.st 3] [(3,i_ 0)] [(3,VR b1 x2)]<|aF<|cN [2,0,0] [.agg #[u_ x2.qi,i_ x2.qn,w_ x2.qa,w_ x2.qb,w_ x2.qc,w_ x2.qd],i_ 0] (fun _ w r s=>⟨dU 3 r s,dM r rfl,trivial⟩) (x2,wU<|k2+1,wU<|k5+(wU<|x2.qn)) ?_ ?_<|by kernel_rfl))))
 ·rfl
 assumption
theorem N1(w:World):
  CW 214 #[n_] w (i_ 0):=by
 refine aU Tryz.func214 rfl (HS.nil w) (aD []<|aE<|bW [.cq<|i_ 0] [(7,b_ true)] (o1<|qw GR)<|dX<|aD [(2,i_ 0)]<|aF<|bK [i_ 0] ?_)
 rfl
theorem NP(bq br:Nat)(ar:bn)(sx:List Pk)(cp f n:Nat)(rm bs k1 k2 k3 k4 k5 k6:Int)(hn:n=0)(w:World)(r0:(aA bq [p_ br,i_ rm,i_ bs,u_ k1,u_ k2,u_ k3,u_ k4,u_ k5,u_ k6] 269).holds w)(r1:(aA br [.slice ar sx.length cp,i_ (f:Int),i_ (n:Int)] 315).holds w)(r2:(sl ar (sx.length) cp 45 6<|V.aQ gZ sx).holds w):
  CW 214 #[p_ bq] w (i_ 0):=by
 refine aU Tryz.func214 rfl (HS.nil w) (aD []<|aE<|bW [.cq<|i_ (n:Int)] [(7,b_<|(n:Int)==0)] (o1<|qo<|fun w s=>EJ bq br ar sx cp f n rm bs k1 k2 k3 k4 k5 k6 w (bV s r0)<|bV s r1)<|aI rfl (fun e1=>?_) (fun e1=>?_))
 ·refine aD [(2,i_ 0)]<|aF<|bK [i_ 0] ?_
  rfl
 exact absurd e1<|by(intro h_;simp at h_;omega)
theorem SB(bq br:Nat)(ar:bn)(sx:List Pk)(cp f n:Nat)(rm bs k1 k2 k3 k4 k5 k6:Int)(hf:f<sx.length)(hn:n≤sx.length)(hl:sx.length≤64)(h0:0<n)(w:World)(r0:(aA bq [p_ br,i_ rm,i_ bs,u_ k1,u_ k2,u_ k3,u_ k4,u_ k5,u_ k6] 269).holds w)(r1:(aA br [.slice ar sx.length cp,i_ (f:Int),i_ (n:Int)] 315).holds w)(r2:dR w ar (V.aQ gZ sx)):
  CW 214 #[p_ bq] w (i_<|(sx.getD f default).qn):=by
 refine aU Tryz.func214 rfl (HS.nil w) (aD []<|aE<|bW [.cq<|i_ (n:Int)] [(7,b_<|(n:Int)==0)] (o1<|qo<|fun w s=>EJ bq br ar sx cp f n rm bs k1 k2 k3 k4 k5 k6 w (bV s r0)<|bV s r1)<|aI rfl (fun e1=>?_) (fun e1=>?_))
 ·exact absurd e1<|by(intro h_;simp at h_;omega)
 refine au<|aM<|iE [.rd [p_ br],.cq<|.tuple #[.agg #[u_<|(sx.getD ((f+0)%sx.length) default).qi,i_<|(sx.getD ((f+0)%sx.length) default).qn,w_<|(sx.getD ((f+0)%sx.length) default).qa,w_<|(sx.getD ((f+0)%sx.length) default).qb,w_<|(sx.getD ((f+0)%sx.length) default).qc,w_<|(sx.getD ((f+0)%sx.length) default).qd],i_ 0],.al,.st 0] [] (fun b1=>[(3,p_ b1)]) (fun b1=>[]) (fun b1=>aA b1 [u_<|(sx.getD ((f+0)%sx.length) default).qi,i_<|(sx.getD ((f+0)%sx.length) default).qn,w_<|(sx.getD ((f+0)%sx.length) default).qa,w_<|(sx.getD ((f+0)%sx.length) default).qb,w_<|(sx.getD ((f+0)%sx.length) default).qc,w_<|(sx.getD ((f+0)%sx.length) default).qd] 45) (fun b1=>oc (ro ⟨bq,0,none⟩ (vs:=[p_ br])<|cB r0 rfl)<|o1<|qo<|fun w s=>Ll br ar sx cp f n 0 (by assumption) (by assumption) (by assumption) (by assumption) w (bV s r1)<|(bg r2<|by simp[aL]) w s) ?_
 intro b1
 refine aC<|bF [.ld 0] [(2,i_<|(sx.getD ((f+0)%sx.length) default).qn)]<|aF<|bK [i_<|(sx.getD ((f+0)%sx.length) default).qn] ?_
 show((i_<|(sx.getD ((f+0)%sx.length) default).qn):Value)=(i_<|(sx.getD f default).qn)
 rw[Nat.add_zero,Nat.mod_eq_of_lt hf]
abbrev EK(p0:Pk):=([(8,b_<|(decide (p0.qn<1))||(decide (p0.qn>16384)))]:aT)
abbrev EL(p0):=(u_ (IntKind.u64.wrap<|p0+1):Value)
abbrev Xs(p0)(p1:Pk):=(aA p0 [u_ p1.qi,i_ p1.qn,w_ p1.qa,w_ p1.qb,w_ p1.qc,w_ p1.qd] 45:V.aH)
abbrev zu(p0:Pk):=(.agg #[u_ p0.qi,i_ p0.qn,w_ p0.qa,w_ p0.qb,w_ p0.qc,w_ p0.qd]:Value)
abbrev uU(p0)(p1:Pk):=(u_ (IntKind.u64.wrap<|p0+(IntKind.u64.wrap<|p1.qn)):Value)
abbrev rB(p0)(p1)(p2)(p3)(p4)(p5)(p6)(p7)(p8)(p9)(p10)(p11:List Pk)(p12)(p13)(p14):=([aA p0 [p_ p1,i_ p2,i_ p3,u_ p4,u_ p5,u_ p6,u_ p7,u_ p8,u_ p9] 269,aA p1 [.slice p10 p11.length p12,i_ (p13:Int),i_ (p14:Int)] 315,sl p10 (p11.length) p12 45 6<|V.aQ gZ p11]:List V.aH)
theorem NQ(bq br:Nat)(ar:bn)(sx:List Pk)(cp f n:Nat)(rm bs k1 k2 k3 k4 k5 k6:Int)(p:Pk)(hp:1≤p.qn∧p.qn≤16384)(hd:IntKind.i64.wrap (rm-bs)<p.qn)(w:World)(hs:HI w (rB bq br rm bs k1 k2 k3 k4 k5 k6 ar sx cp f n)):
  CV 112 #[p_ bq,zu p] w (rB bq br rm bs k1 k2 k3 k4 k5 k6 ar sx cp f n) (fun((z3,z6):Int×Int)=>(i_ 30)) (fun _=>True) fun(z3,z6)=>(rB bq br rm bs k1 k2 z3 k4 k5 z6 ar sx cp f n):=by
 refine aU Tryz.func112 rfl hs (aC<|dD [.al] [] (fun b1=>[(3,p_ b1)]) (fun b1=>aA b1 [u_ p.qi,i_ p.qn,w_ p.qa,w_ p.qb,w_ p.qc,w_ p.qd] 45) ?_)
 intro b1
 refine aE<|aO<|aD [(5,b_ false)]<|bY<|aC<|bF [.ld 3,.o,.ld 3,.cl] (EK p)<|aI rfl (fun e1=>?_) (fun e1=>?_)
 ·exact absurd e1<|by(intro h_;simp at h_;omega)
 refine aE<|bL [] 22<|cL 9 [.ld 3,.ld 0,.ld 0] (rg 0 13) [(30,b_<|decide (p.qn>(IntKind.i64.wrap<|rm-bs)))]<|iM (decide (p.qn>(IntKind.i64.wrap<|rm-bs))) (fun e2=>?_)<|fun e2=>?_
 ·refine aW 30 (b_ true) (fM e2)<|cL 0 [.sk,.sk,.sk,.sk,.sk,.sk,.sk] (rg 13 9) [(17,b_ true)]<|dj<|dX<|aC<|bU [.ld 0,.st 0] [] [(0,aA bq [p_ br,i_ rm,i_ bs,u_ k1,u_ k2,EL k3,u_ k4,u_ k5,u_ k6] 269)]<|aE<|bL [12] 13<|cL 1 [.ld 0,.ld 3] (rg 0 12) [(56,uU k6 p),(59,q_ bq 8)]<|an 12 rfl (dN 0 [uU k6 p] rfl (cD<|dj<|aD [(4,i_ 30)]<|aF<|bJ [0,0,0] [i_ 30] (wU<|k3+1,wU<|k6+(wU<|p.qn)) ?_ ?_))
  ·rfl
  trivial
 exact absurd e2<|by(intro h_;simp at h_;omega)
theorem NR(bq br:Nat)(ar:bn)(sx:List Pk)(cp f n:Nat)(rm bs k1 k2 k3 k4 k5 k6:Int)(p:Pk)(hp:1≤p.qn∧p.qn≤16384)(hd:p.qn≤IntKind.i64.wrap (rm-bs))(hn:n=sx.length)(w:World)(hs:HI w (rB bq br rm bs k1 k2 k3 k4 k5 k6 ar sx cp f n)):
  CV 112 #[p_ bq,zu p] w (rB bq br rm bs k1 k2 k3 k4 k5 k6 ar sx cp f n) (fun((z3,z6):Int×Int)=>(i_ 30)) (fun _=>True) fun(z3,z6)=>(rB bq br rm bs k1 k2 z3 k4 k5 z6 ar sx cp f n):=by
 refine aU Tryz.func112 rfl hs (aC<|dD [.al] [] (fun b1=>[(3,p_ b1)]) (fun b1=>aA b1 [u_ p.qi,i_ p.qn,w_ p.qa,w_ p.qb,w_ p.qc,w_ p.qd] 45) ?_)
 intro b1
 refine aE<|aO<|aD [(5,b_ false)]<|bY<|aC<|bF [.ld 3,.o,.ld 3,.cl] (EK p)<|aI rfl (fun e1=>?_) (fun e1=>?_)
 ·exact absurd e1<|by(intro h_;simp at h_;omega)
 refine aE<|fS [.ld 3,.ld 0,.ld 0,.o,.ld 0,.ld 3,.cq<|i_ 5,.cl] (rg 0 22) [] [(17,b_<|(decide (p.qn>(IntKind.i64.wrap<|rm-bs)))||true)] (o1<|go (true&&((decide (p.qn>(IntKind.i64.wrap<|rm-bs)))==false)) fun h_=>(qo<|fun w s=>Rz br ar sx cp f n p ‹_› w (s.mem (i:=1) rfl) (s.mem (i:=2) rfl)))<|aI rfl (fun e2=>?_) (fun e2=>?_)
 ·refine aC<|bU [.ld 0,.st 0] [] [(0,aA bq [p_ br,i_ rm,i_ bs,u_ k1,u_ k2,EL k3,u_ k4,u_ k5,u_ k6] 269)]<|aE<|bL [12] 13<|cL 1 [.ld 0,.ld 3] (rg 0 12) [(56,uU k6 p),(59,q_ bq 8)]<|an 12 rfl (dN 0 [uU k6 p] rfl (cD<|dj<|aD [(4,i_ 30)]<|aF<|bJ [0,0,0] [i_ 30] (wU<|k3+1,wU<|k6+(wU<|p.qn)) ?_ ?_))
  ·rfl
  trivial
 exact absurd e2<|by(intro h_;simp at h_)
abbrev zv(p0)(p1:Pk):=(i_ (IntKind.i64.wrap<|p0+p1.qn):Value)
abbrev VU(p0)(p1)(p2:List Pk)(p3)(p4)(p5)(p6):=(aA p0 [.slice p1 ((p2.set ((p3+p4)%p2.length) p5).length) p6,i_ (p3:Int),i_ ((p4+1:Nat):Int)] 315:V.aH)
abbrev VV(p0)(p1:List Pk)(p2)(p3)(p4)(p5):=(sl p0 ((p1.set ((p2+p3)%p1.length) p4).length) p5 45 6 (V.aQ gZ<|p1.set ((p2+p3)%p1.length) p4):V.aH)
theorem SC(bq br:Nat)(ar:bn)(sx:List Pk)(cp f n:Nat)(rm bs k1 k2 k3 k4 k5 k6:Int)(p:Pk)(hp:1≤p.qn∧p.qn≤16384)(hd:p.qn≤IntKind.i64.wrap (rm-bs))(hf:f<sx.length)(hn:n<sx.length)(hl:sx.length≤64)(w:World)(hs:HI w (rB bq br rm bs k1 k2 k3 k4 k5 k6 ar sx cp f n)):
  CV 112 #[p_ bq,zu p] w (rB bq br rm bs k1 k2 k3 k4 k5 k6 ar sx cp f n) (fun((z1,z4):Int×Int)=>(i_ 0)) (fun _=>True) fun(z1,z4)=>[aA bq [p_ br,i_ rm,zv bs p,u_ z1,u_ k2,u_ k3,u_ z4,u_ k5,u_ k6] 269,VU br ar sx f n p cp,VV ar sx f n p cp]:=by
 refine aU Tryz.func112 rfl hs (aC<|dD [.al] [] (fun b1=>[(3,p_ b1)]) (fun b1=>aA b1 [u_ p.qi,i_ p.qn,w_ p.qa,w_ p.qb,w_ p.qc,w_ p.qd] 45) ?_)
 intro b1
 refine aE<|aO<|aD [(5,b_ false)]<|bY<|aC<|bF [.ld 3,.o,.ld 3,.cl] (EK p)<|aI rfl (fun e1=>?_) (fun e1=>?_)
 ·exact absurd e1<|by(intro h_;simp at h_;omega)
 refine aE<|bL [18] 22<|cL 9 [.ld 3,.ld 0,.ld 0] (rg 0 13) [(30,b_<|decide (p.qn>(IntKind.i64.wrap<|rm-bs)))]<|iM (decide (p.qn>(IntKind.i64.wrap<|rm-bs))) (fun e2=>?_)<|fun e2=>?_
 ·exact absurd e2<|by(intro h_;simp at h_;omega)
 refine aW 30 (b_ false) (fM e2)<|cL 4 [.ld 0,.ld 3] (rg 13 5) [(34,p_ br),(35,zu p)]<|an 18 rfl (bM (some 36) [1,1] (SA br ar sx cp f n p ‹_› ‹_› ‹_›) ?_)
 rintro⟨⟩-
 refine cD<|cL 0 [] [19,20,21] [(17,b_ false)]<|dj<|bY<|aP<|aE<|bL [9] 10<|cL 1 [.ld 2,.ld 3] (rg 0 9) [(66,zv bs p),(68,q_ bq 2)]<|an 9 rfl (dN 2 [zv bs p] rfl (cD<|dj<|aC<|bU [.ld 2,.st 2] [(3,p_ b1)] [(2,aA bq [p_ br,i_ rm,zv bs p,EL k1,u_ k2,u_ k3,u_ k4,u_ k5,u_ k6] 269)]<|aE<|bL [12] 13<|cL 1 [.ld 2,.ld 3] (rg 0 12) [(86,uU k4 p),(89,q_ bq 6)]<|an 12 rfl (dN 2 [uU k4 p] rfl (cD<|dj<|aD [(4,i_ 0)]<|aF<|bJ [2,0,0] [i_ 0] (wU<|k1+1,wU<|k4+(wU<|p.qn)) ?_ ?_))))
 ·rfl
 trivial
structure Cv where
 ka:Int
 kb:Int
 kc:Int
 deriving Inhabited,DecidableEq
def cZ(x:Cv):List Value:=[(u_ x.ka),(u_ x.kb),(u_ x.kc)]
theorem kG(x:Cv):(cZ x).length=3:=rfl
theorem G8(x:Cv):(cZ x).all Value.oneCell'=true:=rfl
abbrev mm(A:bn)(xs:List Cv)(c:Nat):V.aH:=sl A xs.length c 60 3<|V.aQ cZ xs
def aV(a b c:Int):Int:=if a=0∧b=0∧c=0 then 1 else if(a>4294967295∨c>4294967295)∨b>1048576 then 0 else if b=0∧a=c then 2 else if b>0∧a>c then 3 else if(b>0∧a=0)∧c>0 then 4 else 0
def cR(a b c:Int):Int:=if(a>4294967295∨c>4294967295)∨b>1048576 then 0 else if(a=0∧c=0)∧b=0 then 1 else if b=0∧a=c then 2 else if b=0 then 0 else if a>c then 3 else if a=0∧c>0 then 4 else 0
theorem vh(a b c:Int):0≤aV a b c∧aV a b c≤4:=by unfold aV;grind
theorem td{a b c:Int}(ha:0≤a)(hb:0≤b)(hc:0≤c):aV a b c=cR a b c:=by unfold aV cR;grind
set_option maxHeartbeats 4000000 in
set_option maxRecDepth 100000 in
theorem qV(a b c:Int)(w:World):
  CW 167 #[.agg #[u_ a,u_ b,u_ c]] w (i_<|aV a b c):=by
 refine aU Tryz.func167 rfl (HS.nil w) (eo [(0,.agg #[u_ a,u_ b,u_ c])] [] ⟨rfl,trivial⟩ rfl (aC<|dS [.al] [] (fun b1=>[(1,p_ b1)]) (fun _=>[]) (fun b1=>aA b1 [u_ a,u_ b,u_ c] 60) ?_))
 intro b1
 refine aE<|aO<|aC<|bF [.ld 0,.eq] [(3,b_<|(a==0)&&((b==0)&&(c==0)))]<|aI (E:=(a==0)&&((b==0)&&(c==0))) rfl (fun e1=>?_) (fun e1=>?_)
 ·skip
  refine aD [(2,i_ 1)] ?_
  refine aF<|gX [i_ 1] (fun aa ww rr ss=>⟨dM rr rfl,trivial⟩) ?_
  refine congrArg (Value.int .i64) ?_;unfold aV;grind[cX]
 ·skip
  refine aC<|bF [.ld 0,.ld 0,.o,.ld 0,.cl] [(7,b_<|(decide ((cX a c)>4294967295))||(decide (b>1048576)))]<|aI (E:=(decide ((cX a c)>4294967295))||(decide (b>1048576))) rfl (fun e2=>?_) (fun e2=>?_)
  ·skip
   refine aD [(2,i_ 0)] ?_
   refine aF<|gX [i_ 0] (fun aa ww rr ss=>⟨dM rr rfl,trivial⟩) ?_
   refine congrArg (Value.int .i64) ?_;unfold aV;grind[cX]
  ·skip
   refine aC<|bF [.ld 0,.o,.ld 0,.ld 0,.cl] [(19,b_<|(b==0)&&(a==c))]<|aI (E:=(b==0)&&(a==c)) rfl (fun e3=>?_) (fun e3=>?_)
   ·skip
    refine aD [(2,i_ 2)] ?_
    refine aF<|gX [i_ 2] (fun aa ww rr ss=>⟨dM rr rfl,trivial⟩) ?_
    refine congrArg (Value.int .i64) ?_;unfold aV;grind[cX]
   ·skip
    refine aC<|bF [.ld 0,.o,.ld 0,.ld 0,.cl] [(30,b_<|(decide (b>0))&&(decide (a>c)))]<|aI (E:=(decide (b>0))&&(decide (a>c))) rfl (fun e4=>?_) (fun e4=>?_)
    ·skip
     refine aC<|dQ [] [(2,i_ 3)] ?_
     refine aF<|gX [i_ 3] (fun aa ww rr ss=>⟨dM rr rfl,trivial⟩) ?_
     refine congrArg (Value.int .i64) ?_;unfold aV;grind[cX]
    ·skip
     refine aC<|dQ [.ld 0,.o,.ld 0,.cl,.o,.ld 0,.cl] [(41,b_<|((decide (b>0))&&(a==0))&&(decide (c>0)))]<|aI (E:=((decide (b>0))&&(a==0))&&(decide (c>0))) rfl (fun e5=>?_) (fun e5=>?_)
     ·skip
      refine aD [(2,i_ 4)] ?_
      refine aF<|gX [i_ 4] (fun aa ww rr ss=>⟨dM rr rfl,trivial⟩) ?_
      refine congrArg (Value.int .i64) ?_;unfold aV;grind[cX]
     ·skip
      refine aP<|aD [(2,i_ 0)] ?_
      refine aF<|gX [i_ 0] (fun aa ww rr ss=>⟨dM rr rfl,trivial⟩) ?_
      refine congrArg (Value.int .i64) ?_;unfold aV;grind[cX]
set_option maxHeartbeats 4000000 in
set_option maxRecDepth 100000 in
theorem rY(a b c:Int)(w:World):
  CW 176 #[.agg #[u_ a,u_ b,u_ c]] w (b_<|aV a b c !=0):=by
 refine aU Tryz.func176 rfl (HS.nil w) (eo [(0,.agg #[u_ a,u_ b,u_ c])] [] ⟨rfl,trivial⟩ rfl (aC<|dS [.al] [] (fun b1=>[(1,p_ b1)]) (fun _=>[]) (fun b1=>aA b1 [u_ a,u_ b,u_ c] 60) ?_))
 intro b1
 refine bW [.ld 0,.cq<|i_<|aV a b c] [(2,b_<|(aV a b c)!=0)] (o1<|qw<|qV a b c)<|aF<|gX [b_<|(aV a b c)!=0] (fun _ w r s=>⟨dM r rfl,trivial⟩) ?_
 first|rfl|simp_all
structure Nm where
 nq1:Int
 nq2:Int
 deriving Inhabited,DecidableEq
def cg(x:Nm):List Value:=[(u_ x.nq1),(u_ x.nq2)]
structure Ln where
 lq1:Int
 lq2:Int
 lq3:Int
 lq4:Int
 deriving Inhabited,DecidableEq
def jW(x:Ln):List Value:=[(u_ x.lq1),(u_ x.lq2),(u_ x.lq3),(u_ x.lq4)]
structure Rn where
 rq1:Int
 rq2:Int
 rq3:Int
 rq4:Int
 rq5:Int
 rq6:Int
 rq7:Int
 rq8:Int
 rq9:Bool
 deriving Inhabited,DecidableEq
def cu(x:Rn):List Value:=[(u_ x.rq1),(u_ x.rq2),(u_ x.rq3),(u_ x.rq4),(u_ x.rq5),(u_ x.rq6),(u_ x.rq7),(u_ x.rq8),(b_ x.rq9)]
structure Du where
 dq1:Bool
 dq2:Int
 dq3:Int
 dq4:Int
 dq5:Int
 dq6:Int
 dq7:Int
 dq8:Int
 dq9:Int
 dq10:Bool
 dq11:Int
 dq12:Int
 dq13:Int
 dq14:Int
 dq15:Int
 dq16:Int
 dq17:Int
 dq18:Int
 dq19:Bool
 dq20:Int
 dq21:Int
 dq22:Int
 deriving Inhabited,DecidableEq
def fG(x:Du):List Value:=[(b_ x.dq1),(u_ x.dq2),(u_ x.dq3),(u_ x.dq4),(u_ x.dq5),(u_ x.dq6),(u_ x.dq7),(u_ x.dq8),(u_ x.dq9),(b_ x.dq10),(u_ x.dq11),(u_ x.dq12),(u_ x.dq13),(u_ x.dq14),(u_ x.dq15),(u_ x.dq16),(u_ x.dq17),(u_ x.dq18),(b_ x.dq19),(u_ x.dq20),(u_ x.dq21),(u_ x.dq22)]
structure Sh where
 sq1:Bool
 sq2:Int
 sq3:Int
 sq4:Int
 sq5:Int
 sq6:Int
 sq7:Int
 sq8:Int
 sq9:Int
 sq10:Bool
 sq11:Int
 deriving Inhabited,DecidableEq
def gu(x:Sh):List Value:=[(b_ x.sq1),(u_ x.sq2),(u_ x.sq3),(u_ x.sq4),(u_ x.sq5),(u_ x.sq6),(u_ x.sq7),(u_ x.sq8),(u_ x.sq9),(b_ x.sq10),(u_ x.sq11)]
structure Li where
 uq1:Bool
 uq2:Int
 uq3:Int
 uq4:Int
 uq5:Int
 uq6:Int
 uq7:Int
 uq8:Int
 uq9:Int
 uq10:Bool
 uq11:Int
 deriving Inhabited,DecidableEq
def gh(x:Li):List Value:=[(b_ x.uq1),(u_ x.uq2),(u_ x.uq3),(u_ x.uq4),(u_ x.uq5),(u_ x.uq6),(u_ x.uq7),(u_ x.uq8),(u_ x.uq9),(b_ x.uq10),(u_ x.uq11)]
def mJ(a b c:Int):Int:=IntKind.u64.wrap<|(IntKind.u64.wrap<|a+b)+c
def je(a b c:Int):Int:=(af .or .u64 (af .and .u64 a b)<|af .andNot .u64 (af .or .u64 a b)<|mJ a b c)/9223372036854775808
def nZ(a b c:Int):Int:=IntKind.u64.wrap<|(IntKind.u64.wrap<|a-b)-c
def jy(a b c:Int):Int:=(af .or .u64 (af .and .u64 (af .xor .u64 18446744073709551615 a) b)<|af .and .u64 (af .xor .u64 18446744073709551615<|af .xor .u64 a b)<|nZ a b c)/9223372036854775808
def gf(a b:Nm):Nm:=⟨mJ a.nq1 b.nq1<|je a.nq2 b.nq2 0,mJ a.nq2 b.nq2 0⟩
def tB(a b:Nm):Bool:=je a.nq1 b.nq1 (je a.nq2 b.nq2 0)!=0
def mK(a b:Nm):Nm:=⟨nZ a.nq1 b.nq1<|jy a.nq2 b.nq2 0,nZ a.nq2 b.nq2 0⟩
def Lu(a b:Nm):Bool:=jy a.nq1 b.nq1 (jy a.nq2 b.nq2 0)!=0
def n0(a b:Nm):Int:=if a.nq1<b.nq1∨a.nq1=b.nq1∧a.nq2<b.nq2 then-1 else if a.nq1=b.nq1∧a.nq2=b.nq2 then 0 else 1
def oC(a b:Int):Int:=IntKind.u64.wrap<|(af .and .u64 a 4294967295)*(af .and .u64 b 4294967295)
def mh(a b:Int):Int:=IntKind.u64.wrap<|(IntKind.u64.wrap<|(a/4294967296)*(af .and .u64 b 4294967295))+((oC a b)/4294967296)
def pw(a b:Int):Int:=IntKind.u64.wrap<|(IntKind.u64.wrap<|(af .and .u64 a 4294967295)*(b/4294967296))+(af .and .u64 (mh a b) 4294967295)
def aJ(a b:Int):Nm:=⟨IntKind.u64.wrap<|(IntKind.u64.wrap<|(IntKind.u64.wrap<|(a/4294967296)*(b/4294967296))+((mh a b)/4294967296))+((pw a b)/4294967296),af .or .u64 (IntKind.u64.wrap<|(pw a b)*4294967296)<|af .and .u64 (oC a b) 4294967295⟩
abbrev zY(p0)(p1)(p2):=(u_ (IntKind.u64.wrap<|(IntKind.u64.wrap<|p0+p1)+p2):Value)
abbrev Dw(p0)(p1)(p2):=(u_ ((af .or .u64 (af .and .u64 p0 p1)<|af .andNot .u64 (af .or .u64 p0 p1)<|IntKind.u64.wrap<|(IntKind.u64.wrap<|p0+p1)+p2)/9223372036854775808):Value)
theorem K1(a b c:Int)(w:World):
  CW 262 #[u_ a,u_ b,u_ c] w (.tuple #[u_<|mJ a b c,u_<|je a b c]):=by
 refine aU Tryz.func262 rfl (HS.nil w) (aD []<|aD [(8,zY a b c)]<|aC<|bA 10 [] [(14,zY a b c),(23,u_<|af .or .u64 (af .and .u64 a b)<|af .andNot .u64 (af .or .u64 a b)<|wU<|(wU<|a+b)+c)]<|aG<|cC (some 24) (Dw a b c) (ip (congrArg (Value.int .u64)<|Int.fdiv_eq_ediv_of_nonneg (af .or .u64 (af .and .u64 a b)<|af .andNot .u64 (af .or .u64 a b)<|wU<|(wU<|a+b)+c)<|by decide)<|jJ (v:= .int .u64 ((af .or .u64 (af .and .u64 a b)<|af .andNot .u64 (af .or .u64 a b)<|wU<|(wU<|a+b)+c).fdiv 9223372036854775808)) (by kernel_rfl) fun _=>by kernel_rfl)<|ak [(6,zY a b c),(7,Dw a b c)]<|aF<|bK [zY a b c,Dw a b c] ?_)
 rfl
abbrev zZ(p0)(p1)(p2):=(u_ (IntKind.u64.wrap<|(IntKind.u64.wrap<|p0-p1)-p2):Value)
abbrev Dx(p0)(p1)(p2):=(u_ ((af .or .u64 (af .and .u64 (af .xor .u64 18446744073709551615 p0) p1)<|af .and .u64 (af .xor .u64 18446744073709551615<|af .xor .u64 p0 p1)<|IntKind.u64.wrap<|(IntKind.u64.wrap<|p0-p1)-p2)/9223372036854775808):Value)
theorem K2(a b c:Int)(w:World):
  CW 281 #[u_ a,u_ b,u_ c] w (.tuple #[u_<|nZ a b c,u_<|jy a b c]):=by
 refine aU Tryz.func281 rfl (HS.nil w) (aD []<|aD [(8,zZ a b c)]<|aC<|bA 12 [] [(14,zZ a b c),(25,u_<|af .or .u64 (af .and .u64 (af .xor .u64 18446744073709551615 a) b)<|af .and .u64 (af .xor .u64 18446744073709551615<|af .xor .u64 a b)<|wU<|(wU<|a-b)-c)]<|aG<|cC (some 26) (Dx a b c) (ip (congrArg (Value.int .u64)<|Int.fdiv_eq_ediv_of_nonneg (af .or .u64 (af .and .u64 (af .xor .u64 18446744073709551615 a) b)<|af .and .u64 (af .xor .u64 18446744073709551615<|af .xor .u64 a b)<|wU<|(wU<|a-b)-c)<|by decide)<|jJ (v:= .int .u64 ((af .or .u64 (af .and .u64 (af .xor .u64 18446744073709551615 a) b)<|af .and .u64 (af .xor .u64 18446744073709551615<|af .xor .u64 a b)<|wU<|(wU<|a-b)-c).fdiv 9223372036854775808)) (by kernel_rfl) fun _=>by kernel_rfl)<|ak [(6,zZ a b c),(7,Dx a b c)]<|aF<|bK [zZ a b c,Dx a b c] ?_)
 rfl
theorem wX(a b:Nm)(w:World):
  CW 243 #[.agg (cg a).toArray,.agg (cg b).toArray] w (.tuple #[.agg (cg<|gf a b).toArray,b_<|tB a b]):=by
 refine aU Tryz.func243 rfl (HS.nil w) (aC<|nj [.al,.al,.al,.p] [2,3,4] (fun b1 b2 b3=>[(2,p_ b1),(3,p_ b2),(4,p_ b3)]) (fun b1 b2 b3=>[aA b1 (cg a) 213,aA b2 (cg b) 213,aA b3 [u_ 0,u_ 0] 213]) (fun b1 b2 b3=>[]) (fun _ _ _=>T0) (fun _ _ _=>by kernel_rfl) (fun b1 b2 b3=>trivial) ?_)
 intro b1 b2 b3
 refine bW [.ld 0,.ld 1,.cq<|.tuple #[u_<|mJ a.nq2 b.nq2 0,u_<|je a.nq2 b.nq2 0]] [(6,u_<|mJ a.nq2 b.nq2 0),(7,u_<|je a.nq2 b.nq2 0)] (o1<|qw<|K1 a.nq2 b.nq2 0)<|bW [.ld 0,.ld 1,.cq<|.tuple #[u_<|mJ a.nq1 b.nq1<|je a.nq2 b.nq2 0,u_<|je a.nq1 b.nq1<|je a.nq2 b.nq2 0]] [(8,u_<|mJ a.nq1 b.nq1<|je a.nq2 b.nq2 0),(9,u_<|je a.nq1 b.nq1<|je a.nq2 b.nq2 0)] (o1<|qw<|K1 a.nq1 b.nq1<|je a.nq2 b.nq2 0)<|aC<|bU [.st 2] [(5,b_<|(je a.nq1 b.nq1<|je a.nq2 b.nq2 0)!=0)] [(2,aA b3 [u_<|mJ a.nq1 b.nq1<|je a.nq2 b.nq2 0,u_<|mJ a.nq2 b.nq2 0] 213)]<|aF<|oJ 2 [u_<|mJ a.nq1 b.nq1<|je a.nq2 b.nq2 0,u_<|mJ a.nq2 b.nq2 0] (b_<|(je a.nq1 b.nq1<|je a.nq2 b.nq2 0)!=0) ?_
 rfl
theorem W7(a b:Nm)(w:World):
  CW 269 #[.agg (cg a).toArray,.agg (cg b).toArray] w (.tuple #[.agg (cg<|mK a b).toArray,b_<|Lu a b]):=by
 refine aU Tryz.func269 rfl (HS.nil w) (aC<|nj [.al,.al,.al,.p] [2,3,4] (fun b1 b2 b3=>[(2,p_ b1),(3,p_ b2),(4,p_ b3)]) (fun b1 b2 b3=>[aA b1 (cg a) 213,aA b2 (cg b) 213,aA b3 [u_ 0,u_ 0] 213]) (fun b1 b2 b3=>[]) (fun _ _ _=>T0) (fun _ _ _=>by kernel_rfl) (fun b1 b2 b3=>trivial) ?_)
 intro b1 b2 b3
 refine bW [.ld 0,.ld 1,.cq<|.tuple #[u_<|nZ a.nq2 b.nq2 0,u_<|jy a.nq2 b.nq2 0]] [(6,u_<|nZ a.nq2 b.nq2 0),(7,u_<|jy a.nq2 b.nq2 0)] (o1<|qw<|K2 a.nq2 b.nq2 0)<|bW [.ld 0,.ld 1,.cq<|.tuple #[u_<|nZ a.nq1 b.nq1<|jy a.nq2 b.nq2 0,u_<|jy a.nq1 b.nq1<|jy a.nq2 b.nq2 0]] [(8,u_<|nZ a.nq1 b.nq1<|jy a.nq2 b.nq2 0),(9,u_<|jy a.nq1 b.nq1<|jy a.nq2 b.nq2 0)] (o1<|qw<|K2 a.nq1 b.nq1<|jy a.nq2 b.nq2 0)<|aC<|bU [.st 2] [(5,b_<|(jy a.nq1 b.nq1<|jy a.nq2 b.nq2 0)!=0)] [(2,aA b3 [u_<|nZ a.nq1 b.nq1<|jy a.nq2 b.nq2 0,u_<|nZ a.nq2 b.nq2 0] 213)]<|aF<|oJ 2 [u_<|nZ a.nq1 b.nq1<|jy a.nq2 b.nq2 0,u_<|nZ a.nq2 b.nq2 0] (b_<|(jy a.nq1 b.nq1<|jy a.nq2 b.nq2 0)!=0) ?_
 rfl
theorem Ec(a b:Nm)(w:World):
  CW 229 #[.agg (cg a).toArray,.agg (cg b).toArray] w (i_<|n0 a b):=by
 refine aU Tryz.func229 rfl (HS.nil w) (aC<|fz [.al,.al] [] (fun b1 b2=>[(2,p_ b1),(3,p_ b2)]) (fun b1 b2=>[aA b1 (cg a) 213,aA b2 (cg b) 213]) ?_)
 intro b1 b2
 refine aE<|aO<|aC<|bF [.ld 0,.ld 1,.p,.p,.o,.ld 0,.ld 1,.p,.p,.o,.ld 0,.ld 1,.p,.cl,.cl] [(5,b_<|(decide (a.nq1<b.nq1))||((a.nq1==b.nq1)&&(decide (a.nq2<b.nq2))))]<|aI rfl (fun e1=>?_) (fun e1=>?_)
 ·refine aD [(4,i_ (-1))]<|aF<|bK [i_ (-1)] ?_
  refine congrArg (Value.int .i64) ?_;unfold n0;grind
 refine aC<|bF [.ld 0,.ld 1,.eq] [(25,b_<|(a.nq1==b.nq1)&&(a.nq2==b.nq2))]<|aI rfl (fun e2=>?_) (fun e2=>?_)
 ·refine aD [(4,i_ 0)]<|aF<|bK [i_ 0] ?_
  refine congrArg (Value.int .i64) ?_;unfold n0;grind
 have p2:=e2
 refine aP<|aD [(4,i_ 1)]<|aF<|bK [i_ 1] ?_
 refine congrArg (Value.int .i64) ?_;unfold n0;grind
theorem rG(a b:Int)(w:World):
  CW 205 #[u_ a,u_ b] w (.agg (cg<|aJ a b).toArray):=by
 refine aU Tryz.func205 rfl (HS.nil w) (aC<|dD [.al] [] (fun b1=>[(4,p_ b1)]) (fun b1=>aA b1 [u_ 0,u_ 0] 213) ?_)
 intro b1
 refine aC<|cP [.p] [(12,u_ a)]<|aG<|cC (some 13) (u_<|a/4294967296) (ip (congrArg (Value.int .u64)<|Int.fdiv_eq_ediv_of_nonneg a<|by decide)<|jJ (v:= .int .u64 (a.fdiv 4294967296)) (by kernel_rfl) fun _=>by kernel_rfl)<|ak [(5,u_<|a/4294967296),(6,u_<|af .and .u64 a 4294967295)]<|aC<|cP [.p] [(16,u_ b)]<|aG<|cC (some 17) (u_<|b/4294967296) (ip (congrArg (Value.int .u64)<|Int.fdiv_eq_ediv_of_nonneg b<|by decide)<|jJ (v:= .int .u64 (b.fdiv 4294967296)) (by kernel_rfl) fun _=>by kernel_rfl)<|ak [(7,u_<|b/4294967296),(8,u_<|af .and .u64 b 4294967295)]<|aD [(9,u_<|oC a b)]<|aC<|bA 4 [] [(25,u_<|wU<|(a/4294967296)*(af .and .u64 b 4294967295)),(26,u_<|oC a b)]<|aG<|cC (some 27) (u_<|(oC a b)/4294967296) (ip (congrArg (Value.int .u64)<|Int.fdiv_eq_ediv_of_nonneg (oC a b)<|by decide)<|jJ (v:= .int .u64 ((oC a b).fdiv 4294967296)) (by kernel_rfl) fun _=>by kernel_rfl)<|ak [(10,u_<|mh a b)]<|aD [(11,u_<|pw a b)]<|aC<|bA 4 [] [(37,u_<|wU<|(a/4294967296)*(b/4294967296)),(38,u_<|mh a b)]<|aG<|cC (some 39) (u_<|(mh a b)/4294967296) (ip (congrArg (Value.int .u64)<|Int.fdiv_eq_ediv_of_nonneg (mh a b)<|by decide)<|jJ (v:= .int .u64 ((mh a b).fdiv 4294967296)) (by kernel_rfl) fun _=>by kernel_rfl)<|bA 2 [] [(40,u_<|wU<|(wU<|(a/4294967296)*(b/4294967296))+((mh a b)/4294967296)),(41,u_<|pw a b)]<|aG<|cC (some 42) (u_<|(pw a b)/4294967296) (ip (congrArg (Value.int .u64)<|Int.fdiv_eq_ediv_of_nonneg (pw a b)<|by decide)<|jJ (v:= .int .u64 ((pw a b).fdiv 4294967296)) (by kernel_rfl) fun _=>by kernel_rfl)<|bU [.st 0] [] [(0,aA b1 (cg<|aJ a b) 213)]<|aF<|eY 0 (cg<|aJ a b) ?_
 rfl
structure Dv where
 av:Nm
 qv:Nm
 rv:Int
def uv(b:Int)(s:Dv):Bool:=(s.rv/9223372036854775808 !=0)||decide (af .or .u64 (IntKind.u64.wrap<|s.rv*2) (s.av.nq1/9223372036854775808)≥b)
def uw(b:Int)(s:Dv):Dv:=
 ⟨⟨af .or .u64 (IntKind.u64.wrap<|s.av.nq1*2)<|s.av.nq2/9223372036854775808,IntKind.u64.wrap<|s.av.nq2*2⟩,
  ⟨af .or .u64 (IntKind.u64.wrap<|s.qv.nq1*2)<|s.qv.nq2/9223372036854775808,if uv b s then af .or .u64 (IntKind.u64.wrap<|s.qv.nq2*2) 1 else IntKind.u64.wrap<|s.qv.nq2*2⟩,
  if uv b s then IntKind.u64.wrap ((af .or .u64 (IntKind.u64.wrap<|s.rv*2)<|s.av.nq1/9223372036854775808)-b) else af .or .u64 (IntKind.u64.wrap<|s.rv*2)<|s.av.nq1/9223372036854775808⟩
def cH(a:Nm)(b:Int):Nat→Dv
 |0=>⟨a,⟨0,0⟩,0⟩
 |k+1=>uw b<|cH a b k
theorem yO(a:Nm)(b:Int)(k:Nat):cH a b (k+1)=uw b (cH a b k):=rfl
def fD(a:Nm)(b:Int):Nm:=if b=0 then⟨0,0⟩ else(cH a b 128).qv
def px(a:Nm)(b:Int):Int:=if b=0 then 0 else(cH a b 128).rv
def lG(b:Int):Int:=if b=0 then 1 else 0
def rH(a:Nm)(b:Int):Nm:=if px a b=0 then fD a b else gf (fD a b) ⟨0,1⟩
def lP(a:Nm)(b:Int):Int:=if b=0 then 1 else if(rH a b).nq1=0 then 0 else 20
def kW(a:Nm)(b:Int):Int:=if b=0 then 0 else if(rH a b).nq1=0 then(rH a b).nq2 else 0
theorem W8(a:Nm)(b:Int)(w:World):
  CW 282 #[.agg (cg a).toArray,u_ b] w (.tuple #[.agg (cg<|fD a b).toArray,u_<|px a b,i_<|lG b]):=by
 refine aU Tryz.func282 rfl (HS.nil w) (aC<|fz [.al,.al] [] (fun b1 b2=>[(2,p_ b1),(4,p_ b2)]) (fun b1 b2=>[aA b1 (cg a) 213,aA b2 [u_ 0,u_ 0] 213]) ?_)
 intro b1 b2
 refine aE<|aD [(11,b_<|b==0)]<|fx (b==0) (fun e1=>?_)<|fun e1=>?_
 ·refine aC<|bU [.st 1] [(5,u_ 0),(6,i_ 1)] []<|aF<|gX [.agg #[u_ 0,u_ 0],u_ 0,i_ 1] (fun _ w r s=>⟨dU 1 r s,dM r rfl,dM r rfl,trivial⟩) ?_
  show((.tuple #[.agg #[u_ 0,u_ 0],u_ 0,i_ 1]):Value)=(.tuple #[.agg (cg<|fD a b).toArray,u_<|px a b,i_<|lG b])
  (unfold fD px lG;simp_all[cg];done)
 refine aP<|aC<|dD [.al] [] (fun b3=>[(7,p_ b3)]) (fun b3=>aA b3 [u_ 0,u_ 0] 213) ?_
 intro b3
 refine aD [(8,u_ 0)]<|aE<|aD [(13,i_ 0)]<|aO<|aW 8 (u_<|(cH a b 0).rv) (ko<|by rfl)<|bj 0 (aA b1 [u_<|(cH a b 0).av.nq1,u_<|(cH a b 0).av.nq2] 213) rfl (iD<|cc (congrArg u_ (by rfl:a.nq1=(cH a b 0).av.nq1))<|cc (congrArg u_ (by rfl:a.nq2=(cH a b 0).av.nq2)) rfl) (bj 2 (aA b3 [u_<|(cH a b 0).qv.nq1,u_<|(cH a b 0).qv.nq2] 213) rfl (iD<|cc (congrArg u_ (by rfl:0=(cH a b 0).qv.nq1))<|cc (congrArg u_ (by rfl:0=(cH a b 0).qv.nq2)) rfl) (eA (σ:=Nat) [] (fun k=>[(13,c_ k),(8,u_<|(cH a b k).rv)]) [0,1] (fun k=>[aA b1 [u_<|(cH a b k).av.nq1,u_<|(cH a b k).av.nq2] 213,aA b3 [u_<|(cH a b k).qv.nq1,u_<|(cH a b k).qv.nq2] 213]) (fun k=>(k≤128)) (fun k=>128-k) (0:Nat) (by omega) ?_ ?_))
 ·exact bB [0,1,0]
 rintro k hk
 have hk:k≤128:=hk
 refine aD [(14,b_<|decide ((k:Int)<128))]<|aE<|aI rfl (fun e2=>?_) (fun e2=>?_)
 ·have p2:=dZ e2
  refine au<|aO<|aC<|cP [.p] [(15,u_<|(cH a b k).rv)]<|aG<|cC (some 16) (u_<|((cH a b k).rv)/9223372036854775808) (ip (congrArg (Value.int .u64)<|Int.fdiv_eq_ediv_of_nonneg ((cH a b k).rv)<|by decide)<|jJ (v:= .int .u64 (((cH a b k).rv).fdiv 9223372036854775808)) (by kernel_rfl) fun _=>by kernel_rfl)<|ak [(9,u_<|((cH a b k).rv)/9223372036854775808)]<|aC<|bA 4 [.ld 0] [(18,u_<|IntKind.u64.wrap<|((cH a b k).rv)*2),(20,u_<|(cH a b k).av.nq1)]<|aG<|cC (some 21) (u_<|((cH a b k).av.nq1)/9223372036854775808) (ip (congrArg (Value.int .u64)<|Int.fdiv_eq_ediv_of_nonneg ((cH a b k).av.nq1)<|by decide)<|jJ (v:= .int .u64 (((cH a b k).av.nq1).fdiv 9223372036854775808)) (by kernel_rfl) fun _=>by kernel_rfl)<|ak [(8,u_<|af .or .u64 (IntKind.u64.wrap<|((cH a b k).rv)*2)<|((cH a b k).av.nq1)/9223372036854775808)]<|aC<|bA 5 [.ld 0,.ld 0] [(25,u_<|IntKind.u64.wrap<|((cH a b k).av.nq1)*2),(27,u_<|(cH a b k).av.nq2)]<|aG<|cC (some 28) (u_<|((cH a b k).av.nq2)/9223372036854775808) (ip (congrArg (Value.int .u64)<|Int.fdiv_eq_ediv_of_nonneg ((cH a b k).av.nq2)<|by decide)<|jJ (v:= .int .u64 (((cH a b k).av.nq2).fdiv 9223372036854775808)) (by kernel_rfl) fun _=>by kernel_rfl)<|bU [.ld 0,.st 0] [] [(0,aA b1 [u_<|af .or .u64 (IntKind.u64.wrap<|((cH a b k).av.nq1)*2)<|((cH a b k).av.nq2)/9223372036854775808,u_<|IntKind.u64.wrap<|((cH a b k).av.nq2)*2] 213)]<|aC<|bA 5 [.ld 1,.ld 1] [(36,u_<|IntKind.u64.wrap<|((cH a b k).qv.nq1)*2),(38,u_<|(cH a b k).qv.nq2)]<|aG<|cC (some 39) (u_<|((cH a b k).qv.nq2)/9223372036854775808) (ip (congrArg (Value.int .u64)<|Int.fdiv_eq_ediv_of_nonneg ((cH a b k).qv.nq2)<|by decide)<|jJ (v:= .int .u64 (((cH a b k).qv.nq2).fdiv 9223372036854775808)) (by kernel_rfl) fun _=>by kernel_rfl)<|bU [.ld 1,.st 1] [] [(1,aA b3 [u_<|af .or .u64 (IntKind.u64.wrap<|((cH a b k).qv.nq1)*2)<|((cH a b k).qv.nq2)/9223372036854775808,u_<|IntKind.u64.wrap<|((cH a b k).qv.nq2)*2] 213)]<|aC<|bF [.o,.cl] [(2,p_ b1),(4,p_ b2),(7,p_ b3),(13,c_ k),(8,u_<|af .or .u64 (IntKind.u64.wrap<|((cH a b k).rv)*2)<|((cH a b k).av.nq1)/9223372036854775808),(51,b_<|((((cH a b k).rv)/9223372036854775808)!=0)||(decide ((af .or .u64 (IntKind.u64.wrap<|((cH a b k).rv)*2)<|((cH a b k).av.nq1)/9223372036854775808)≥b)))]<|aI rfl (fun e3=>?_) (fun e3=>?_)
  ·have p3:=e3
   refine aD [(8,u_<|IntKind.u64.wrap<|(af .or .u64 (IntKind.u64.wrap<|((cH a b k).rv)*2)<|((cH a b k).av.nq1)/9223372036854775808)-b)]<|aM<|bU [.ld 1,.st 1] [] [(1,aA b3 [u_<|af .or .u64 (IntKind.u64.wrap<|((cH a b k).qv.nq1)*2)<|((cH a b k).qv.nq2)/9223372036854775808,u_<|af .or .u64 (IntKind.u64.wrap<|((cH a b k).qv.nq2)*2) 1] 213)]<|aM<|az [.w<|(k:Int)+1] [(13,i_<|(k:Int)+1)] (o1<|wj ((k:Int)+1)<|by omega)<|aW 8 (u_<|(cH a b<|k+1).rv) (ko<|by(rw[yO];unfold uw uv;simp_all;done))<|bj 0 (aA b1 [u_<|(cH a b<|k+1).av.nq1,u_<|(cH a b<|k+1).av.nq2] 213) rfl (iD<|cc (congrArg u_ (by rfl:af .or .u64 (IntKind.u64.wrap<|((cH a b k).av.nq1)*2) (((cH a b k).av.nq2)/9223372036854775808)=(cH a b<|k+1).av.nq1))<|cc (congrArg u_ (by rfl:IntKind.u64.wrap (((cH a b k).av.nq2)*2)=(cH a b<|k+1).av.nq2)) rfl) (bj 1 (aA b3 [u_<|(cH a b<|k+1).qv.nq1,u_<|(cH a b<|k+1).qv.nq2] 213) rfl (iD<|cc (congrArg u_ (by rfl:af .or .u64 (IntKind.u64.wrap<|((cH a b k).qv.nq1)*2) (((cH a b k).qv.nq2)/9223372036854775808)=(cH a b<|k+1).qv.nq1))<|cc (congrArg u_ (by(rw[yO];unfold uw uv;simp_all;done):af .or .u64 (IntKind.u64.wrap<|((cH a b k).qv.nq2)*2) 1=(cH a b<|k+1).qv.nq2)) rfl) (bC ((k+1)) (by omega) (by omega) ?_))
   exact bB [0,0,0]
  have p3:=e3
  refine aP<|aM<|az [.w<|(k:Int)+1] [(13,i_<|(k:Int)+1)] (o1<|wj ((k:Int)+1)<|by omega)<|aW 8 (u_<|(cH a b<|k+1).rv) (ko<|by(rw[yO];unfold uw uv;simp_all;intro h_;omega))<|bj 0 (aA b1 [u_<|(cH a b<|k+1).av.nq1,u_<|(cH a b<|k+1).av.nq2] 213) rfl (iD<|cc (congrArg u_ (by rfl:af .or .u64 (IntKind.u64.wrap<|((cH a b k).av.nq1)*2) (((cH a b k).av.nq2)/9223372036854775808)=(cH a b<|k+1).av.nq1))<|cc (congrArg u_ (by rfl:IntKind.u64.wrap (((cH a b k).av.nq2)*2)=(cH a b<|k+1).av.nq2)) rfl) (bj 1 (aA b3 [u_<|(cH a b<|k+1).qv.nq1,u_<|(cH a b<|k+1).qv.nq2] 213) rfl (iD<|cc (congrArg u_ (by rfl:af .or .u64 (IntKind.u64.wrap<|((cH a b k).qv.nq1)*2) (((cH a b k).qv.nq2)/9223372036854775808)=(cH a b<|k+1).qv.nq1))<|cc (congrArg u_ (by(rw[yO];unfold uw uv;simp_all;intro h_;omega):IntKind.u64.wrap (((cH a b k).qv.nq2)*2)=(cH a b<|k+1).qv.nq2)) rfl) (bC ((k+1)) (by omega) (by omega) ?_))
  exact bB [0,0,0]
 have p2:=ga e2
 refine bR<|aC<|bU [.ld 1,.st 2] [(5,u_<|(cH a b k).rv),(6,i_ 0)] [(2,aA b2 [u_<|(cH a b k).qv.nq1,u_<|(cH a b k).qv.nq2] 213)]<|aF<|gX [.agg #[u_<|(cH a b k).qv.nq1,u_<|(cH a b k).qv.nq2],u_<|(cH a b k).rv,i_ 0] (fun _ w r s=>⟨dU 2 r s,dM r rfl,dM r rfl,trivial⟩) ?_
 show((.tuple #[.agg #[u_<|(cH a b k).qv.nq1,u_<|(cH a b k).qv.nq2],u_<|(cH a b k).rv,i_ 0]):Value)=(.tuple #[.agg (cg<|fD a b).toArray,u_<|px a b,i_<|lG b])
 (have hk_:k=128:=(by omega);subst hk_;unfold fD px lG;simp_all[cg];done)
theorem Uk(a:Nm)(b:Int)(w:World):
  CW 270 #[.agg (cg a).toArray,u_ b] w (.tuple #[u_<|kW a b,i_<|lP a b]):=by
 refine aU Tryz.func270 rfl (HS.nil w) (aC<|dD [.al] [] (fun b1=>[(2,p_ b1)]) (fun b1=>aA b1 (cg a) 213) ?_)
 intro b1
 refine aC<|iE [.ld 0,.cq<|.tuple #[.agg (cg<|fD a b).toArray,u_<|px a b,i_<|lG b],.al,.st 1] [] (fun b2=>[(6,p_ b2),(7,u_<|px a b),(8,i_<|lG b)]) (fun b2=>[]) (fun b2=>aA b2 (cg<|fD a b) 213) (fun b2=>o1<|qw<|W8 a b) ?_
 intro b2
 refine aE<|aD [(17,b_<|(lG b)!=0)]<|aI rfl (fun e1=>?_) (fun e1=>?_)
 ·refine aD [(4,u_ 0),(5,i_<|lG b)]<|aF<|bK [u_ 0,i_<|lG b] ?_
  show((.tuple #[u_ 0,i_<|lG b]):Value)=(.tuple #[u_<|kW a b,i_<|lP a b])
  (try unfold lG at*);unfold lP kW rH;simp_all[cg]
 refine au<|aD [(20,b_<|(px a b)!=0)]<|aI rfl (fun e2=>?_) (fun e2=>?_)
 ·refine MQ (fun _:Unit=>[(6,p_ b2)]) (fun _:Unit=>[aA b2 (cg<|gf (fD a b) (⟨0,1⟩:Nm)) 213]) (fun _=>True) ?_<|fun zz_ _=>?_
  ·refine bL [1,6] 7<|rW 0 1 rfl rfl (by kernel_rfl) ?_ ?_
   ·refine cC (some 22) (.agg (cg<|fD a b).toArray) (yE (vs:=(cg<|fD a b)) rfl rfl (by kernel_rfl) (ky (i:=1) rfl rfl))<|eU (.refl _)<|an 1 rfl (dx (some 23) [u_ 1] Tryz.func235 rfl (aC<|dD [.al] [] (fun b3=>[(2,p_ b3)]) (fun b3=>aA b3 [u_ 0,u_ 0] 213) ?_))
    intro b3
    refine aC<|bU [.st 2] [] [(2,aA b3 [u_ 0,u_ 1] 213)]<|aF<|qR [.agg #[u_ 0,u_ 1]] (fun _ w r s=>⟨dU 2 r s,trivial⟩)<|nk (by kernel_rfl)<|jB [aA b2 (cg<|fD a b) 213] (sd [2,0])<|cD<|cO 1 [.cq<|.tuple #[.agg (cg<|gf (fD a b) (⟨0,1⟩:Nm)).toArray,b_<|tB (fD a b) (⟨0,1⟩:Nm)]] (rg 2 4) [(6,p_ b2),(25,.agg (cg<|gf (fD a b) (⟨0,1⟩:Nm)).toArray)] (o1<|qw<|wX (fD a b) (⟨0,1⟩:Nm))<|an 6 rfl (dN 0 (cg<|gf (fD a b) (⟨0,1⟩:Nm)) rfl (cb ?_))
    exact jR () trivial<|lk (by exact⟨rfl,trivial⟩)<|.refl _
   refine dx (some 23) [u_ 1] Tryz.func235 rfl (aC<|dD [.al] [] (fun b4=>[(2,p_ b4)]) (fun b4=>aA b4 [u_ 0,u_ 0] 213) ?_)
   intro b4
   refine aC<|bU [.st 2] [] [(2,aA b4 [u_ 0,u_ 1] 213)]<|aF<|qR [.agg #[u_ 0,u_ 1]] (fun _ w r s=>⟨dU 2 r s,trivial⟩)<|nk (by kernel_rfl)<|jB [aA b2 (cg<|fD a b) 213] (sd [2,0])<|cD<|cO 1 [.ld 0,.cq<|.tuple #[.agg (cg<|gf (fD a b) (⟨0,1⟩:Nm)).toArray,b_<|tB (fD a b) (⟨0,1⟩:Nm)]] [0,2,3,4,5] [(6,p_ b2),(25,.agg (cg<|gf (fD a b) (⟨0,1⟩:Nm)).toArray)] (o1<|qw<|wX (fD a b) (⟨0,1⟩:Nm))<|an 6 rfl (dN 0 (cg<|gf (fD a b) (⟨0,1⟩:Nm)) rfl (cb ?_))
   exact jR () trivial<|lk (by exact⟨rfl,trivial⟩)<|.refl _
  refine aC<|cP [.ld 0] [(27,.agg (cg<|gf (fD a b) (⟨0,1⟩:Nm)).toArray)]<|aG<|dx (some 28) [.agg (cg<|gf (fD a b) (⟨0,1⟩:Nm)).toArray] Tryz.func283 rfl (aC<|dS [.al] [] (fun b5=>[(1,p_ b5)]) (fun _=>[]) (fun b5=>aA b5 (cg<|gf (fD a b) (⟨0,1⟩:Nm)) 213) ?_)
  intro b5
  refine cS<|bF [.ld 1] [(6,b_<|((gf (fD a b) (⟨0,1⟩:Nm)).nq1)!=0)]<|aI rfl (fun e3=>?_) (fun e3=>?_)
  ·refine aD [(2,u_ 0),(3,i_ 20)]<|aF<|dO [u_ 0,i_ 20]<|jB [] (sd [1,0])<|ak [(4,u_ 0),(5,i_ 20)]<|aF<|bK [u_ 0,i_ 20] ?_
   show((.tuple #[u_ 0,i_ 20]):Value)=(.tuple #[u_<|kW a b,i_<|lP a b])
   (try unfold lG at*);unfold lP kW rH;simp_all[cg]
  refine aP<|aC<|bF [.ld 1] [(2,u_<|(gf (fD a b) (⟨0,1⟩:Nm)).nq2),(3,i_ 0)]<|aF<|dO [u_<|(gf (fD a b) (⟨0,1⟩:Nm)).nq2,i_ 0]<|jB [] (sd [1,0])<|ak [(4,u_<|(gf (fD a b) (⟨0,1⟩:Nm)).nq2),(5,i_ 0)]<|aF<|bK [u_<|(gf (fD a b) (⟨0,1⟩:Nm)).nq2,i_ 0] ?_
  show((.tuple #[u_<|(gf (fD a b) (⟨0,1⟩:Nm)).nq2,i_ 0]):Value)=(.tuple #[u_<|kW a b,i_<|lP a b])
  (try unfold lG at*);unfold lP kW rH;simp_all[cg]
 have p2:=e2
 refine aP<|aC<|cP [.ld 1] [(27,.agg (cg<|fD a b).toArray)]<|aG<|dx (some 28) [.agg (cg<|fD a b).toArray] Tryz.func283 rfl (aC<|dD [.al] [] (fun b6=>[(1,p_ b6)]) (fun b6=>aA b6 (cg<|fD a b) 213) ?_)
 intro b6
 refine cS<|bF [.ld 2] [(6,b_<|((fD a b).nq1)!=0)]<|aI rfl (fun e4=>?_) (fun e4=>?_)
 ·refine aD [(2,u_ 0),(3,i_ 20)]<|aF<|dO [u_ 0,i_ 20]<|jB [] (sd [2,1,0])<|ak [(4,u_ 0),(5,i_ 20)]<|aF<|bK [u_ 0,i_ 20] ?_
  show((.tuple #[u_ 0,i_ 20]):Value)=(.tuple #[u_<|kW a b,i_<|lP a b])
  (try unfold lG at*);unfold lP kW rH;simp_all[cg]
 refine aP<|aC<|bF [.ld 2] [(2,u_<|(fD a b).nq2),(3,i_ 0)]<|aF<|dO [u_<|(fD a b).nq2,i_ 0]<|jB [] (sd [2,1,0])<|ak [(4,u_<|(fD a b).nq2),(5,i_ 0)]<|aF<|bK [u_<|(fD a b).nq2,i_ 0] ?_
 show((.tuple #[u_<|(fD a b).nq2,i_ 0]):Value)=(.tuple #[u_<|kW a b,i_<|lP a b])
 (try unfold lG at*);unfold lP kW rH;simp_all[cg]
def yL(l:Ln):Nm:=⟨l.lq2,l.lq3⟩
def mn(l:Ln)(x:Int):Nm:=if x≤l.lq1 then yL l else gf (yL l)<|aJ l.lq4<|IntKind.u64.wrap<|x-l.lq1
def jE(l:Ln)(a:Nm):Int:=if n0 a (yL l)≤0 then 0 else if(lP (mK a<|yL l) l.lq4≠0∨l.lq1≥9223372036854775808)∨kW (mK a<|yL l) l.lq4≥IntKind.u64.wrap (9223372036854775808-l.lq1) then 9223372036854775808 else IntKind.u64.wrap<|l.lq1+kW (mK a<|yL l) l.lq4
def dW(l m:Ln):Ln:=if n0 (mn m<|cX l.lq1 m.lq1) (mn l<|cX l.lq1 m.lq1)<0 then m else l
abbrev K3(p0:Ln)(p1):=(b_ (tB (yL p0)<|aJ p0.lq4<|IntKind.u64.wrap<|p1-p0.lq1):Value)
abbrev Ul(p0:Ln)(p1):=(.agg (cg<|aJ p0.lq4<|IntKind.u64.wrap<|p1-p0.lq1).toArray:Value)
abbrev wN(p0:Ln)(p1):=(cg<|gf (yL p0)<|aJ p0.lq4<|IntKind.u64.wrap<|p1-p0.lq1)
theorem Lx(l:Ln)(x:Int)(w:World):
  CW 261 #[.agg (jW l).toArray,u_ x] w (.agg (cg<|mn l x).toArray):=by
 refine aU Tryz.func261 rfl (HS.nil w) (aC<|fz [.al,.al] [] (fun b1 b2=>[(2,p_ b1),(4,p_ b2)]) (fun b1 b2=>[aA b1 (jW l) 215,aA b2 [u_ 0,u_ 0] 213]) ?_)
 intro b1 b2
 refine cS<|bF [.ld 0] [(10,b_<|decide (x≤l.lq1))]<|aI rfl (fun e1=>?_) (fun e1=>?_)
 ·have p1:=dZ e1
  refine aC<|bU [.ld 0,.st 1] [] [(1,aA b2 [u_ l.lq2,u_ l.lq3] 213)]<|aF<|eY 1 [u_ l.lq2,u_ l.lq3] ?_
  unfold mn;split<;>rfl
 have p1:=ga e1
 refine au<|j6 [13,14] 16 [aA b1 (jW l) 215,aA b2 [u_ 0,u_ 0] 213]<|qQ 3 [.ld 0,.ld 0,.ld 0,.cq<|Ul l x,.cq<|.tuple #[.agg (wN l x).toArray,K3 l x]] (rg 0 13) [(4,p_ b2),(24,.agg (wN l x).toArray),(25,K3 l x)] (.refl _) (oc (qw<|rG l.lq4<|wU<|x-l.lq1)<|o1<|qw<|wX (yL l)<|aJ l.lq4<|wU<|x-l.lq1)<|fk 13 rfl (mL 5 [u_ 0,u_ 0] (by kernel_rfl) rfl (by kernel_rfl) (fun b3=>[aA b1 (jW l) 215,aA b2 [u_ 0,u_ 0] 213,aA b3 [u_ 0,u_ 0] 213]) (fun _=>rfl) ?_)
 intro b3
 refine ff (sd [2])<|fk 14 rfl (dN 2 (wN l x) rfl (ff (sd [2])<|gq 0 [] [15] [(4,p_ b2),(5,p_ b3)] (sd [2])<|jP<|aC<|bU [.ld 2,.st 1] [(4,p_ b2)] [(1,aA b2 (wN l x) 213)]<|aF<|eY 1 (wN l x) ?_))
 unfold mn;split<;>first|rfl|(simp_all;done)
abbrev Dy(p0:Ln)(p1):=(u_ (IntKind.u64.wrap<|p0.lq1+(kW (mK p1<|yL p0) p0.lq4)):Value)
theorem yg(l:Ln)(a:Nm)(w:World):
  CW 255 #[.agg (jW l).toArray,.agg (cg a).toArray] w (u_<|jE l a):=by
 refine aU Tryz.func255 rfl (HS.nil w) (aC<|fz [.al,.al] [] (fun b1 b2=>[(2,p_ b1),(3,p_ b2)]) (fun b1 b2=>[aA b1 (jW l) 215,aA b2 (cg a) 213]) ?_)
 intro b1 b2
 refine aE<|bW [.ld 1,.ld 0,.cq<|i_<|n0 a<|yL l] [(13,b_<|decide ((n0 a<|yL l)≤0))] (o1<|qw<|Ec a<|yL l)<|aI rfl (fun e1=>?_) (fun e1=>?_)
 ·have p1:=dZ e1
  refine aD [(4,u_ 0)]<|aF<|bK [u_ 0] ?_
  show((u_ 0):Value)=(u_<|jE l a)
  unfold jE;simp_all;(try(intros;omega))
 have p1:=ga e1
 refine aP<|aC<|iE [.ld 1,.ld 0,.cq<|.tuple #[.agg (cg<|mK a<|yL l).toArray,b_<|Lu a<|yL l],.al,.st 2] [] (fun b3=>[(5,p_ b3)]) (fun b3=>[]) (fun b3=>aA b3 (cg<|mK a<|yL l) 213) (fun b3=>o1<|qw<|W7 a<|yL l) ?_
 intro b3
 refine bW [.ld 2,.ld 0,.cq<|.tuple #[u_<|kW (mK a<|yL l) l.lq4,i_<|lP (mK a<|yL l) l.lq4]] [(7,u_<|kW (mK a<|yL l) l.lq4),(8,i_<|lP (mK a<|yL l) l.lq4)] (o1<|qw<|Uk (mK a<|yL l) l.lq4)<|cS<|bF [.o,.ld 0,.cl,.o,.ld 0,.cl] [(41,b_<|(((lP (mK a<|yL l) l.lq4)!=0)||(decide (l.lq1≥9223372036854775808)))||(decide ((kW (mK a<|yL l) l.lq4)≥(IntKind.u64.wrap<|9223372036854775808-l.lq1))))]<|aI rfl (fun e2=>?_) (fun e2=>?_)
 ·refine aD [(4,u_ 9223372036854775808)]<|aF<|bK [u_ 9223372036854775808] ?_
  show((u_ 9223372036854775808):Value)=(u_<|jE l a)
  unfold jE;simp_all;(try(intros;omega))
 refine aP<|aC<|bF [.ld 0] [(4,Dy l a)]<|aF<|bK [Dy l a] ?_
 show((Dy l a):Value)=(u_<|jE l a)
 unfold jE;simp_all;(try(intros;omega))
theorem JW(l m:Ln)(w:World):
  CW 242 #[.agg (jW l).toArray,.agg (jW m).toArray] w (.agg (jW<|dW l m).toArray):=by
 refine aU Tryz.func242 rfl (HS.nil w) (aC<|nj [.al,.al,.al] [2,3,4] (fun b1 b2 b3=>[(2,p_ b1),(3,p_ b2),(4,p_ b3)]) (fun b1 b2 b3=>[aA b1 (jW l) 215,aA b2 (jW m) 215,aA b3 [u_ 0,u_ 0,u_ 0,u_ 0] 215]) (fun b1 b2 b3=>[]) (fun _ _ _=>T0) (fun _ _ _=>by kernel_rfl) (fun b1 b2 b3=>trivial) ?_)
 intro b1 b2 b3
 refine aC<|bF [.ld 0,.ld 1] [(5,u_<|cX l.lq1 m.lq1)]<|aE<|aE<|fS [.ld 1,.cq<|.agg (cg<|mn m<|cX l.lq1 m.lq1).toArray,.ld 0,.cq<|.agg (cg<|mn l<|cX l.lq1 m.lq1).toArray,.cq<|i_<|n0 (mn m<|cX l.lq1 m.lq1)<|mn l<|cX l.lq1 m.lq1] (rg 0 8) [] [(18,b_<|decide ((n0 (mn m<|cX l.lq1 m.lq1)<|mn l<|cX l.lq1 m.lq1)<0))] (oc (qw<|Lx m<|cX l.lq1 m.lq1)<|oc (qw<|Lx l<|cX l.lq1 m.lq1)<|o1<|qw<|Ec (mn m<|cX l.lq1 m.lq1)<|mn l<|cX l.lq1 m.lq1)<|aI rfl (fun e1=>?_) (fun e1=>?_)
 ·have p1:=dZ e1
  refine aC<|bU [.ld 1,.st 2] [] [(2,aA b3 (jW m) 215)]<|aF<|eY 2 (jW m) ?_
  show((.agg (jW m).toArray):Value)=(.agg (jW<|dW l m).toArray)
  (rw[show dW l m=m by unfold dW;rw[if_pos<|by simp_all]];done)
 have p1:=ga e1
 refine aP<|aC<|bU [.ld 0,.st 2] [] [(2,aA b3 (jW l) 215)]<|aF<|eY 2 (jW l) ?_
 show((.agg (jW l).toArray):Value)=(.agg (jW<|dW l m).toArray)
 (rw[show dW l m=l by unfold dW;rw[if_neg<|by simp_all]];done)
def rT(x:Int)(y:Nm)(m:Int):Ln:=⟨x,y.nq1,y.nq2,m⟩
def ot(f t:Ln)(b:Bool):Rn:=⟨f.lq1,f.lq2,f.lq3,f.lq4,t.lq1,t.lq2,t.lq3,t.lq4,b⟩
def ee(r:Rn):Ln:=⟨r.rq1,r.rq2,r.rq3,r.rq4⟩
def cM(r:Rn):Ln:=⟨r.rq5,r.rq6,r.rq7,r.rq8⟩
def pB:Ln:=⟨0,0,0,0⟩
def kC(c:Cv):Int:=aV c.ka c.kb c.kc
def bS(c:Cv)(x:Int)(y:Nm):Rn:=
 if kC c=2∨kC c=4 then ot pB (rT x y c.kc) false
 else if kC c=3 then ot (rT x y c.ka) (rT x (gf y<|aJ (IntKind.u64.wrap<|c.ka-c.kc) c.kb) c.kc) true
 else ot pB (rT x y 0) false
def aS(c:Cv)(x:Int)(y:Nm):Rn:=if kC c=4 then{bS c x y with rq5:=IntKind.u64.wrap<|(bS c x y).rq5+c.kb} else bS c x y
def cJ(a b:Rn):Rn:=ot (if a.rq9 then dW (ee a) (ee b) else pB) (dW (cM a)<|cM b) a.rq9
def iY(r:Rn)(a:Nm):Int:=if r.rq9 then cX (cX 0<|jE (ee r) a) (jE (cM r) a) else cX (cX 0<|jE (cM r) a)<|jE (cM r) a
theorem JX(c:Cv)(x:Int)(a:Nm)(w:World):
  CW 200 #[.agg (cZ c).toArray,u_ x,.agg (cg a).toArray] w (.agg (cu<|bS c x a).toArray):=by
 refine aU Tryz.func200 rfl (HS.nil w) (aC<|nj [.al,.al,.al] [1,3,5,6] (fun b1 b2 b3=>[(1,u_ x),(3,p_ b1),(5,p_ b2),(6,p_ b3)]) (fun b1 b2 b3=>[aA b1 (cZ c) 60,aA b2 (cg a) 213,aA b3 [u_ 0,u_ 0,u_ 0,u_ 0,u_ 0,u_ 0,u_ 0,u_ 0,b_ false] 217]) (fun b1 b2 b3=>[]) (fun _ _ _=>T0) (fun _ _ _=>by kernel_rfl) (fun b1 b2 b3=>trivial) ?_)
 intro b1 b2 b3
 refine aE<|bW [.ld 0,.cq<|i_<|aV c.ka c.kb c.kc] [(10,i_<|aV c.ka c.kb c.kc)] (o1<|qw<|qV c.ka c.kb c.kc)<|aO<|aE<|aD [(11,b_<|(aV c.ka c.kb c.kc)==2)]<|aI rfl (fun e1=>?_) (fun e1=>?_)
 ·refine aP<|aI rfl (fun e2=>?_) (fun e2=>?_)
  ·refine aC<|bU [.ld 1,.ld 0,.st 2] [] [(2,aA b3 [u_ 0,u_ 0,u_ 0,u_ 0,u_ x,u_ a.nq1,u_ a.nq2,u_ c.kc,b_ false] 217)]<|aF<|eY 2 [u_ 0,u_ 0,u_ 0,u_ 0,u_ x,u_ a.nq1,u_ a.nq2,u_ c.kc,b_ false] ?_
   show((.agg #[u_ 0,u_ 0,u_ 0,u_ 0,u_ x,u_ a.nq1,u_ a.nq2,u_ c.kc,b_ false]):Value)=(.agg (cu<|bS c x a).toArray)
   unfold bS kC ot rT pB;simp_all[cu]
  exact absurd e2 (by rw[e1];decide)
 refine bX [(11,b_<|(aV c.ka c.kb c.kc)==4)]<|aI rfl (fun e3=>?_) (fun e3=>?_)
 ·refine aC<|bU [.ld 1,.ld 0,.st 2] [] [(2,aA b3 [u_ 0,u_ 0,u_ 0,u_ 0,u_ x,u_ a.nq1,u_ a.nq2,u_ c.kc,b_ false] 217)]<|aF<|eY 2 [u_ 0,u_ 0,u_ 0,u_ 0,u_ x,u_ a.nq1,u_ a.nq2,u_ c.kc,b_ false] ?_
  show((.agg #[u_ 0,u_ 0,u_ 0,u_ 0,u_ x,u_ a.nq1,u_ a.nq2,u_ c.kc,b_ false]):Value)=(.agg (cu<|bS c x a).toArray)
  unfold bS kC ot rT pB;simp_all[cu]
 refine aD [(20,b_<|(aV c.ka c.kb c.kc)==3)]<|aI rfl (fun e4=>?_) (fun e4=>?_)
 ·refine aE<|j6 [13,14] 16 [aA b1 (cZ c) 60,aA b2 (cg a) 213,aA b3 [u_ 0,u_ 0,u_ 0,u_ 0,u_ 0,u_ 0,u_ 0,u_ 0,b_ false] 217]<|qQ 3 [.ld 1,.ld 0,.ld 0,.ld 0,.cq<|.agg (cg<|aJ (wU<|c.ka-c.kc) c.kb).toArray,.cq<|.tuple #[.agg (cg<|gf a<|aJ (wU<|c.ka-c.kc) c.kb).toArray,b_<|tB a<|aJ (wU<|c.ka-c.kc) c.kb]] (rg 0 13) [(1,u_ x),(3,p_ b1),(5,p_ b2),(6,p_ b3),(33,.agg (cg<|gf a<|aJ (wU<|c.ka-c.kc) c.kb).toArray),(34,b_<|tB a<|aJ (wU<|c.ka-c.kc) c.kb)] (.refl _) (oc (qw<|rG (wU<|c.ka-c.kc) c.kb)<|o1<|qw<|wX a<|aJ (wU<|c.ka-c.kc) c.kb)<|fk 13 rfl (mL 7 [u_ 0,u_ 0] (by kernel_rfl) rfl (by kernel_rfl) (fun b4=>[aA b1 (cZ c) 60,aA b2 (cg a) 213,aA b3 [u_ 0,u_ 0,u_ 0,u_ 0,u_ 0,u_ 0,u_ 0,u_ 0,b_ false] 217,aA b4 [u_ 0,u_ 0] 213]) (fun _=>rfl) ?_)
  intro b4
  refine ff (sd [3])<|fk 14 rfl (dN 3 (cg<|gf a<|aJ (wU<|c.ka-c.kc) c.kb) rfl (ff (sd [3])<|gq 0 [] [15] [(1,u_ x),(3,p_ b1),(5,p_ b2),(6,p_ b3),(7,p_ b4)] (sd [3])<|jP<|aC<|bU [.ld 1,.ld 0,.ld 3,.ld 0,.st 2] [(6,p_ b3)] [(2,aA b3 [u_ x,u_ a.nq1,u_ a.nq2,u_ c.ka,u_ x,u_<|(gf a<|aJ (wU<|c.ka-c.kc) c.kb).nq1,u_<|(gf a<|aJ (wU<|c.ka-c.kc) c.kb).nq2,u_ c.kc,b_ true] 217)]<|aF<|eY 2 [u_ x,u_ a.nq1,u_ a.nq2,u_ c.ka,u_ x,u_<|(gf a<|aJ (wU<|c.ka-c.kc) c.kb).nq1,u_<|(gf a<|aJ (wU<|c.ka-c.kc) c.kb).nq2,u_ c.kc,b_ true] ?_))
  show((.agg #[u_ x,u_ a.nq1,u_ a.nq2,u_ c.ka,u_ x,u_<|(gf a<|aJ (IntKind.u64.wrap<|c.ka-c.kc) c.kb).nq1,u_<|(gf a<|aJ (IntKind.u64.wrap<|c.ka-c.kc) c.kb).nq2,u_ c.kc,b_ true]):Value)=(.agg (cu<|bS c x a).toArray)
  unfold bS kC ot rT pB;simp_all[cu]
 have p4:=e4
 refine aP<|aC<|bU [.ld 1,.st 2] [] [(2,aA b3 [u_ 0,u_ 0,u_ 0,u_ 0,u_ x,u_ a.nq1,u_ a.nq2,u_ 0,b_ false] 217)]<|aF<|gX [.agg #[u_ 0,u_ 0,u_ 0,u_ 0,u_ x,u_ a.nq1,u_ a.nq2,u_ 0,b_ false]] (fun _ w r s=>⟨dU 2 r s,trivial⟩) ?_
 show((.agg #[u_ 0,u_ 0,u_ 0,u_ 0,u_ x,u_ a.nq1,u_ a.nq2,u_ 0,b_ false]):Value)=(.agg (cu<|bS c x a).toArray)
 unfold bS kC ot rT pB;simp_all[cu]
theorem DG(c:Cv)(x:Int)(a:Nm)(w:World):
  CW 199 #[.agg (cZ c).toArray,u_ x,.agg (cg a).toArray] w (.agg (cu<|aS c x a).toArray):=by
 refine aU Tryz.func199 rfl (HS.nil w) (aC<|nj [.al,.al,.al] [1,3,5,6] (fun b1 b2 b3=>[(1,u_ x),(3,p_ b1),(5,p_ b2),(6,p_ b3)]) (fun b1 b2 b3=>[aA b1 (cZ c) 60,aA b2 (cg a) 213,aA b3 [u_ 0,u_ 0,u_ 0,u_ 0,u_ 0,u_ 0,u_ 0,u_ 0,b_ false] 217]) (fun b1 b2 b3=>[]) (fun _ _ _=>T0) (fun _ _ _=>by kernel_rfl) (fun b1 b2 b3=>trivial) ?_)
 intro b1 b2 b3
 refine aC<|iE [.ld 0,.ld 1,.cq<|.agg (cu<|bS c x a).toArray,.al,.st 3] [] (fun b4=>[(7,p_ b4)]) (fun b4=>[]) (fun b4=>aA b4 (cu<|bS c x a) 217) (fun b4=>o1<|qw<|JX c x a) ?_
 intro b4
 refine aE<|bW [.ld 0,.cq<|i_<|aV c.ka c.kb c.kc] [(14,b_<|(aV c.ka c.kb c.kc)==4)] (o1<|qw<|qV c.ka c.kb c.kc)<|aI rfl (fun e1=>?_) (fun e1=>?_)
 ·refine aM<|bU [.ld 3,.ld 0,.st 3] [] [(3,aA b4 [u_<|(bS c x a).rq1,u_<|(bS c x a).rq2,u_<|(bS c x a).rq3,u_<|(bS c x a).rq4,u_<|wU<|((bS c x a).rq5)+c.kb,u_<|(bS c x a).rq6,u_<|(bS c x a).rq7,u_<|(bS c x a).rq8,b_<|(bS c x a).rq9] 217)]<|aC<|bU [.ld 3,.st 2] [] [(2,aA b3 [u_<|(bS c x a).rq1,u_<|(bS c x a).rq2,u_<|(bS c x a).rq3,u_<|(bS c x a).rq4,u_<|wU<|((bS c x a).rq5)+c.kb,u_<|(bS c x a).rq6,u_<|(bS c x a).rq7,u_<|(bS c x a).rq8,b_<|(bS c x a).rq9] 217)]<|aF<|eY 2 [u_<|(bS c x a).rq1,u_<|(bS c x a).rq2,u_<|(bS c x a).rq3,u_<|(bS c x a).rq4,u_<|wU<|((bS c x a).rq5)+c.kb,u_<|(bS c x a).rq6,u_<|(bS c x a).rq7,u_<|(bS c x a).rq8,b_<|(bS c x a).rq9] ?_
  show((.agg #[u_<|(bS c x a).rq1,u_<|(bS c x a).rq2,u_<|(bS c x a).rq3,u_<|(bS c x a).rq4,u_<|IntKind.u64.wrap<|((bS c x a).rq5)+c.kb,u_<|(bS c x a).rq6,u_<|(bS c x a).rq7,u_<|(bS c x a).rq8,b_<|(bS c x a).rq9]):Value)=(.agg (cu<|aS c x a).toArray)
  unfold aS kC;simp_all[cu]
 refine aP<|aC<|bU [.ld 3,.st 2] [] [(2,aA b3 (cu<|bS c x a) 217)]<|aF<|eY 2 (cu<|bS c x a) ?_
 show((.agg (cu<|bS c x a).toArray):Value)=(.agg (cu<|aS c x a).toArray)
 unfold aS kC;simp_all[cu]
theorem zb(a b:Rn)(w:World):
  CW 198 #[.agg (cu a).toArray,.agg (cu b).toArray] w (.agg (cu<|cJ a b).toArray):=by
 refine aU Tryz.func198 rfl (HS.nil w) (aC<|nj [.al,.al,.al] [2,3,4] (fun b1 b2 b3=>[(2,p_ b1),(3,p_ b2),(4,p_ b3)]) (fun b1 b2 b3=>[aA b1 (cu a) 217,aA b2 (cu b) 217,aA b3 [u_ 0,u_ 0,u_ 0,u_ 0,u_ 0,u_ 0,u_ 0,u_ 0,b_ false] 217]) (fun b1 b2 b3=>[]) (fun _ _ _=>T0) (fun _ _ _=>by kernel_rfl) (fun b1 b2 b3=>trivial) ?_)
 intro b1 b2 b3
 refine aE<|j6 [8,9] 10 [aA b1 (cu a) 217,aA b2 (cu b) 217,aA b3 [u_ 0,u_ 0,u_ 0,u_ 0,u_ 0,u_ 0,u_ 0,u_ 0,b_ false] 217]<|qQ 2 [.ld 0,.ld 1,.cq<|.agg (jW<|dW (cM a)<|cM b).toArray,.ld 0] (rg 0 8) [(2,p_ b1),(3,p_ b2),(4,p_ b3),(13,.agg #[u_ 0,u_ 0,u_ 0,u_ 0,u_<|(dW (cM a)<|cM b).lq1,u_<|(dW (cM a)<|cM b).lq2,u_<|(dW (cM a)<|cM b).lq3,u_<|(dW (cM a)<|cM b).lq4,b_ a.rq9])] (.refl _) (o1<|qw<|JW (cM a)<|cM b)<|fk 8 rfl (mL 5 [u_ 0,u_ 0,u_ 0,u_ 0,u_ 0,u_ 0,u_ 0,u_ 0,b_ false] (by kernel_rfl) rfl (by kernel_rfl) (fun b4=>[aA b1 (cu a) 217,aA b2 (cu b) 217,aA b3 [u_ 0,u_ 0,u_ 0,u_ 0,u_ 0,u_ 0,u_ 0,u_ 0,b_ false] 217,aA b4 [u_ 0,u_ 0,u_ 0,u_ 0,u_ 0,u_ 0,u_ 0,u_ 0,b_ false] 217]) (fun _=>rfl) ?_)
 intro b4
 refine ff (sd [3])<|fk 9 rfl (dN 3 [u_ 0,u_ 0,u_ 0,u_ 0,u_<|(dW (cM a)<|cM b).lq1,u_<|(dW (cM a)<|cM b).lq2,u_<|(dW (cM a)<|cM b).lq3,u_<|(dW (cM a)<|cM b).lq4,b_ a.rq9] rfl (ff (sd [3])<|jP<|cS<|bF [.ld 0] [(2,p_ b1),(3,p_ b2),(4,p_ b3),(5,p_ b4),(15,b_ a.rq9)]<|fx a.rq9 (fun e1=>?_)<|fun e1=>?_))
 ·refine aM<|gA [.ld 0,.ld 1,.cq<|.agg (jW<|dW (ee a)<|ee b).toArray,.st 3] [] [] [(3,aA b4 [u_<|(dW (ee a)<|ee b).lq1,u_<|(dW (ee a)<|ee b).lq2,u_<|(dW (ee a)<|ee b).lq3,u_<|(dW (ee a)<|ee b).lq4,u_<|(dW (cM a)<|cM b).lq1,u_<|(dW (cM a)<|cM b).lq2,u_<|(dW (cM a)<|cM b).lq3,u_<|(dW (cM a)<|cM b).lq4,b_ a.rq9] 217)] (o1<|qw<|JW (ee a)<|ee b)<|aC<|bU [.ld 3,.st 2] [] [(2,aA b3 [u_<|(dW (ee a)<|ee b).lq1,u_<|(dW (ee a)<|ee b).lq2,u_<|(dW (ee a)<|ee b).lq3,u_<|(dW (ee a)<|ee b).lq4,u_<|(dW (cM a)<|cM b).lq1,u_<|(dW (cM a)<|cM b).lq2,u_<|(dW (cM a)<|cM b).lq3,u_<|(dW (cM a)<|cM b).lq4,b_ a.rq9] 217)]<|aF<|eY 2 [u_<|(dW (ee a)<|ee b).lq1,u_<|(dW (ee a)<|ee b).lq2,u_<|(dW (ee a)<|ee b).lq3,u_<|(dW (ee a)<|ee b).lq4,u_<|(dW (cM a)<|cM b).lq1,u_<|(dW (cM a)<|cM b).lq2,u_<|(dW (cM a)<|cM b).lq3,u_<|(dW (cM a)<|cM b).lq4,b_ a.rq9] ?_
  show((.agg #[u_<|(dW (ee a)<|ee b).lq1,u_<|(dW (ee a)<|ee b).lq2,u_<|(dW (ee a)<|ee b).lq3,u_<|(dW (ee a)<|ee b).lq4,u_<|(dW (cM a)<|cM b).lq1,u_<|(dW (cM a)<|cM b).lq2,u_<|(dW (cM a)<|cM b).lq3,u_<|(dW (cM a)<|cM b).lq4,b_ a.rq9]):Value)=(.agg (cu<|cJ a b).toArray)
  unfold cJ ot pB;simp_all[cu]
 refine aP<|aC<|bU [.ld 3,.st 2] [] [(2,aA b3 [u_ 0,u_ 0,u_ 0,u_ 0,u_<|(dW (cM a)<|cM b).lq1,u_<|(dW (cM a)<|cM b).lq2,u_<|(dW (cM a)<|cM b).lq3,u_<|(dW (cM a)<|cM b).lq4,b_ a.rq9] 217)]<|aF<|eY 2 [u_ 0,u_ 0,u_ 0,u_ 0,u_<|(dW (cM a)<|cM b).lq1,u_<|(dW (cM a)<|cM b).lq2,u_<|(dW (cM a)<|cM b).lq3,u_<|(dW (cM a)<|cM b).lq4,b_ a.rq9] ?_
 show((.agg #[u_ 0,u_ 0,u_ 0,u_ 0,u_<|(dW (cM a)<|cM b).lq1,u_<|(dW (cM a)<|cM b).lq2,u_<|(dW (cM a)<|cM b).lq3,u_<|(dW (cM a)<|cM b).lq4,b_ a.rq9]):Value)=(.agg (cu<|cJ a b).toArray)
 unfold cJ ot pB;simp_all[cu]
abbrev zd(p0)(p1):=(u_ (cX (cX 0<|jE (ee p0) p1)<|jE (cM p0) p1):Value)
abbrev ze(p0)(p1):=(u_ (cX (cX 0<|jE (cM p0) p1)<|jE (cM p0) p1):Value)
abbrev Um(p0:Rn):=(.agg #[u_ p0.rq5,u_ p0.rq6,u_ p0.rq7,u_ p0.rq8,u_ p0.rq5,u_ p0.rq6,u_ p0.rq7,u_ p0.rq8]:Value)
abbrev Un(p0:Rn):=(.agg #[u_ p0.rq1,u_ p0.rq2,u_ p0.rq3,u_ p0.rq4,u_ p0.rq5,u_ p0.rq6,u_ p0.rq7,u_ p0.rq8]:Value)
theorem yh(r:Rn)(a:Nm)(w:World):
  CW 212 #[.agg (cu r).toArray,.agg (cg a).toArray] w (u_<|iY r a):=by
 refine aU Tryz.func212 rfl (HS.nil w) (aC<|fz [.al,.al] [] (fun b1 b2=>[(2,p_ b1),(3,p_ b2)]) (fun b1 b2=>[aA b1 (cu r) 217,aA b2 (cg a) 213]) ?_)
 intro b1 b2
 refine aD [(5,u_ 0)]<|cS<|cP [.ld 0] [(8,.agg (cu r).toArray)]<|aG<|dx (some 9) [.agg (cu r).toArray] Tryz.func254 rfl (aC<|fz [.al,.al] [] (fun b3 b4=>[(1,p_ b3),(2,p_ b4)]) (fun b3 b4=>[aA b3 (cu r) 217,aA b4 [u_ 0,u_ 0,u_ 0,u_ 0,u_ 0,u_ 0,u_ 0,u_ 0] 365]) ?_)
 intro b3 b4
 refine cS<|bF [.ld 2] [(4,b_ r.rq9)]<|fx r.rq9 (fun e1=>?_)<|fun e1=>?_
 ·refine aC<|bU [.ld 2,.ld 2,.st 3] [] [(3,aA b4 [u_ r.rq1,u_ r.rq2,u_ r.rq3,u_ r.rq4,u_ r.rq5,u_ r.rq6,u_ r.rq7,u_ r.rq8] 365)]<|aF<|qR [Un r] (fun _ w r s=>⟨dU 3 r s,trivial⟩)<|nk (by kernel_rfl)<|jB [aA b2 (cg a) 213] (sd [3,2,0])<|ak [(3,p_ b2),(5,u_ 0),(10,i_ 0)]<|aO<|jm 400<|dK (m:=399)<|aD [(11,b_ true)]<|aE<|dX<|au<|aO<|aC<|dS [.al,.st 1] [] (fun b5=>[(7,p_ b5)]) (fun _=>[]) (fun b5=>aA b5 [u_ r.rq1,u_ r.rq2,u_ r.rq3,u_ r.rq4] 215) ?_
  intro b5
  refine aM<|az [.ld 1,.ld 0,.cq<|u_<|jE (ee r) a] [(5,u_<|cX 0<|jE (ee r) a)] (o1<|qw<|yg (ee r) a)<|bX [(10,i_ 1)]<|dK (m:=398)<|aD [(11,b_ true)]<|aE<|dX<|au<|aO<|aC<|dS [.al,.st 2] [] (fun b6=>[(7,p_ b6)]) (fun b6=>[]) (fun b6=>aA b6 [u_ r.rq5,u_ r.rq6,u_ r.rq7,u_ r.rq8] 215) ?_
  intro b6
  refine aM<|az [.ld 2,.ld 0,.cq<|u_<|jE (cM r) a] [(5,zd r a)] (o1<|qw<|yg (cM r) a)<|bX [(10,i_ 2)]<|dK (m:=397)<|aD [(11,b_ false)]<|aE<|bY<|bR<|aD [(4,zd r a)]<|aF<|bK [zd r a] ?_
  show((zd r a):Value)=(u_<|iY r a)
  unfold iY;simp_all
 refine aP<|aC<|bU [.ld 2,.ld 2,.st 3] [] [(3,aA b4 [u_ r.rq5,u_ r.rq6,u_ r.rq7,u_ r.rq8,u_ r.rq5,u_ r.rq6,u_ r.rq7,u_ r.rq8] 365)]<|aF<|qR [Um r] (fun _ w r s=>⟨dU 3 r s,trivial⟩)<|nk (by kernel_rfl)<|jB [aA b2 (cg a) 213] (sd [3,2,0])<|ak [(3,p_ b2),(5,u_ 0),(10,i_ 0)]<|aO<|jm 400<|dK (m:=399)<|aD [(11,b_ true)]<|aE<|dX<|au<|aO<|aC<|dS [.al,.st 1] [] (fun b7=>[(7,p_ b7)]) (fun _=>[]) (fun b7=>aA b7 [u_ r.rq5,u_ r.rq6,u_ r.rq7,u_ r.rq8] 215) ?_
 intro b7
 refine aM<|az [.ld 1,.ld 0,.cq<|u_<|jE (cM r) a] [(5,u_<|cX 0<|jE (cM r) a)] (o1<|qw<|yg (cM r) a)<|bX [(10,i_ 1)]<|dK (m:=398)<|aD [(11,b_ true)]<|aE<|dX<|au<|aO<|aC<|dS [.al,.st 2] [] (fun b8=>[(7,p_ b8)]) (fun b8=>[]) (fun b8=>aA b8 [u_ r.rq5,u_ r.rq6,u_ r.rq7,u_ r.rq8] 215) ?_
 intro b8
 refine aM<|az [.ld 2,.ld 0,.cq<|u_<|jE (cM r) a] [(5,ze r a)] (o1<|qw<|yg (cM r) a)<|bX [(10,i_ 2)]<|dK (m:=397)<|aD [(11,b_ false)]<|aE<|bY<|bR<|aD [(4,ze r a)]<|aF<|bK [ze r a] ?_
 show((ze r a):Value)=(u_<|iY r a)
 unfold iY;simp_all
def dr(l:Du):Rn:=⟨l.dq2,l.dq3,l.dq4,l.dq5,l.dq6,l.dq7,l.dq8,l.dq9,l.dq10⟩
def dt(l:Du):Rn:=⟨l.dq11,l.dq12,l.dq13,l.dq14,l.dq15,l.dq16,l.dq17,l.dq18,l.dq19⟩
def headD(l:Du)(h:Int):Du:=if h>0 then{l with dq21:=iY (dt l)<|aJ l.dq20 65536,dq22:=iY (dr l)<|aJ (IntKind.u64.wrap<|l.dq20+IntKind.u64.wrap h) 65536} else{l with dq21:=9223372036854775808,dq22:=9223372036854775808}
def bN(b:Bool)(was r:Rn):Rn:=if b then cJ was r else r
def XU(b:Bool)(d r:Rn)(x y z:Int):Du:=⟨b,d.rq1,d.rq2,d.rq3,d.rq4,d.rq5,d.rq6,d.rq7,d.rq8,d.rq9,r.rq1,r.rq2,r.rq3,r.rq4,r.rq5,r.rq6,r.rq7,r.rq8,r.rq9,x,y,z⟩
def iJ(l:Du)(c:Cv)(x h:Int):Du:=headD (XU true (bN l.dq1 (dr l)<|aS c x<|aJ l.dq20 65536) (bN l.dq1 (dt l)<|bS c x<|aJ l.dq20 65536) l.dq20 l.dq21 l.dq22) h
def gy(l:Du)(s h:Int):Du:=headD {l with dq20:=IntKind.u64.wrap<|l.dq20+IntKind.u64.wrap (cX s 0)} h
theorem yi(n:Int)(w:World):
  CW 197 #[u_ n] w (.agg (cg<|aJ n 65536).toArray):=by
 refine aU Tryz.func197 rfl (HS.nil w) (aC<|dD [.al] [] (fun b1=>[(2,p_ b1)]) (fun b1=>aA b1 [u_ 0,u_ 0] 213) ?_)
 intro b1
 refine aC<|gA [.cq<|.agg (cg<|aJ n 65536).toArray,.st 0] [] [] [(0,aA b1 (cg<|aJ n 65536) 213)] (o1<|qw<|rG n 65536)<|aF<|eY 0 (cg<|aJ n 65536) ?_
 rfl
abbrev Uo(p0:Du)(p1):=(.agg (cg<|aJ (IntKind.u64.wrap<|p0.dq20+(IntKind.u64.wrap<|p1)) 65536).toArray:Value)
abbrev K4(p0)(p1:Du):=(aA p0 [b_ p1.dq1,u_ p1.dq2,u_ p1.dq3,u_ p1.dq4,u_ p1.dq5,u_ p1.dq6,u_ p1.dq7,u_ p1.dq8,u_ p1.dq9,b_ p1.dq10,u_ p1.dq11,u_ p1.dq12,u_ p1.dq13,u_ p1.dq14,u_ p1.dq15,u_ p1.dq16,u_ p1.dq17,u_ p1.dq18,b_ p1.dq19,u_ p1.dq20,u_ 9223372036854775808,u_ 9223372036854775808] 219:V.aH)
abbrev Up(p0:Du):=(.agg #[b_ p0.dq1,u_ p0.dq2,u_ p0.dq3,u_ p0.dq4,u_ p0.dq5,u_ p0.dq6,u_ p0.dq7,u_ p0.dq8,u_ p0.dq9,b_ p0.dq10,u_ p0.dq11,u_ p0.dq12,u_ p0.dq13,u_ p0.dq14,u_ p0.dq15,u_ p0.dq16,u_ p0.dq17,u_ p0.dq18,b_ p0.dq19,u_ p0.dq20,u_ 9223372036854775808,u_ 9223372036854775808]:Value)
abbrev uR(p0:Du):=(u_ (iY (dt p0)<|aJ p0.dq20 65536):Value)
abbrev uS(p0:Du)(p1):=(u_ (iY (dr p0)<|aJ (IntKind.u64.wrap<|p0.dq20+(IntKind.u64.wrap<|p1)) 65536):Value)
abbrev zf(p0):=(aA p0 [b_ false,u_ 0,u_ 0,u_ 0,u_ 0,u_ 0,u_ 0,u_ 0,u_ 0,b_ false,u_ 0,u_ 0,u_ 0,u_ 0,u_ 0,u_ 0,u_ 0,u_ 0,b_ false,u_ 0,u_ 0,u_ 0] 219:V.aH)
theorem Dz(l:Du)(h:Int)(w:World):
  CW 201 #[.agg (fG l).toArray,i_ h] w (.agg (fG<|headD l h).toArray):=by
 refine aU Tryz.func201 rfl (HS.nil w) (aC<|fz [.al,.al] [] (fun b1 b2=>[(2,p_ b1),(4,p_ b2)]) (fun b1 b2=>[aA b1 (fG l) 219,zf b2]) ?_)
 intro b1 b2
 refine aC<|bU [.st 0,.st 0] [] [(0,K4 b1 l)]<|aE<|aD [(8,b_<|decide (h>0))]<|aI rfl (fun e1=>?_) (fun e1=>?_)
 ·have p1:=dZ e1
  refine aE<|bL [7] 8<|cO 1 [.ld 0,.ld 0,.cq<|.agg (cg<|aJ l.dq20 65536).toArray,.cq<|uR l] (rg 0 7) [(14,uR l),(15,q_ b1 20)] (oc (qw<|yi l.dq20)<|o1<|qw<|yh (dt l)<|aJ l.dq20 65536)<|an 7 rfl (dN 0 [uR l] rfl (cb<|bL [10] 11 ?_))
  refine cO 1 [.ld 0,.ld 0,.cq<|Uo l h,.cq<|uS l h] (rg 0 10) [(2,p_ b1),(4,p_ b2),(24,uS l h),(25,q_ b1 21)] (oc (qw<|yi<|wU<|l.dq20+(wU<|h))<|o1<|qw<|yh (dr l)<|aJ (wU<|l.dq20+(wU<|h)) 65536) ?_
  refine an 10 rfl (dN 0 [uS l h] rfl (cb ?_))
  refine aC<|bU [.ld 0,.st 1] [] [(1,aA b2 [b_ l.dq1,u_ l.dq2,u_ l.dq3,u_ l.dq4,u_ l.dq5,u_ l.dq6,u_ l.dq7,u_ l.dq8,u_ l.dq9,b_ l.dq10,u_ l.dq11,u_ l.dq12,u_ l.dq13,u_ l.dq14,u_ l.dq15,u_ l.dq16,u_ l.dq17,u_ l.dq18,b_ l.dq19,u_ l.dq20,uR l,uS l h] 219)] ?_
  refine aF<|eY 1 [b_ l.dq1,u_ l.dq2,u_ l.dq3,u_ l.dq4,u_ l.dq5,u_ l.dq6,u_ l.dq7,u_ l.dq8,u_ l.dq9,b_ l.dq10,u_ l.dq11,u_ l.dq12,u_ l.dq13,u_ l.dq14,u_ l.dq15,u_ l.dq16,u_ l.dq17,u_ l.dq18,b_ l.dq19,u_ l.dq20,uR l,uS l h] ?_
  show((.agg #[b_ l.dq1,u_ l.dq2,u_ l.dq3,u_ l.dq4,u_ l.dq5,u_ l.dq6,u_ l.dq7,u_ l.dq8,u_ l.dq9,b_ l.dq10,u_ l.dq11,u_ l.dq12,u_ l.dq13,u_ l.dq14,u_ l.dq15,u_ l.dq16,u_ l.dq17,u_ l.dq18,b_ l.dq19,u_ l.dq20,uR l,uS l h]):Value)=(.agg (fG<|headD l h).toArray)
  (rw[show headD l h=_ from if_pos<|by simp_all];rfl)
 have p1:=ga e1
 refine aP<|aC<|bU [.ld 0,.st 1] [] [(1,K4 b2 l)]<|aF<|eY 1 [b_ l.dq1,u_ l.dq2,u_ l.dq3,u_ l.dq4,u_ l.dq5,u_ l.dq6,u_ l.dq7,u_ l.dq8,u_ l.dq9,b_ l.dq10,u_ l.dq11,u_ l.dq12,u_ l.dq13,u_ l.dq14,u_ l.dq15,u_ l.dq16,u_ l.dq17,u_ l.dq18,b_ l.dq19,u_ l.dq20,u_ 9223372036854775808,u_ 9223372036854775808] ?_
 show((Up l):Value)=(.agg (fG<|headD l h).toArray)
 (rw[show headD l h=_ from if_neg<|by simp_all];rfl)
theorem W9(r:Rn)(bc bx bl:Nat)(c:Cv)(x:Int)(l:Du)(w:World)(r0:(aA bc (cZ c) 60).holds w)(r1:(aA bx [u_ x] 40).holds w)(r2:(aA bl (fG l) 219).holds w):
  CW 196 #[.agg (cu r).toArray,.func (.func 199) #[] #[],p_ bc,p_ bx,p_ bl] w (.agg (cu<|bN l.dq1 r<|aS c x<|aJ l.dq20 65536).toArray):=by
 refine aU Tryz.func196 rfl (HS.nil w) (aC<|fz [.al,.al] [] (fun b1 b2=>[(5,p_ b1),(7,p_ b2)]) (fun b1 b2=>[aA b1 (cu r) 217,aA b2 [u_ 0,u_ 0,u_ 0,u_ 0,u_ 0,u_ 0,u_ 0,u_ 0,b_ false] 217]) ?_)
 intro b1 b2
 refine aE<|j6 [7,8] 9 [aA b1 (cu r) 217,aA b2 [u_ 0,u_ 0,u_ 0,u_ 0,u_ 0,u_ 0,u_ 0,u_ 0,b_ false] 217]<|qQ 2 [.rd<|cZ c,.rd [u_ x],.rd [u_ l.dq20],.cq<|.agg (cg<|aJ l.dq20 65536).toArray,.cq<|.agg (cu<|aS c x<|aJ l.dq20 65536).toArray] (rg 0 7) [(4,p_ bl),(5,p_ b1),(7,p_ b2),(15,.agg (cu<|aS c x<|aJ l.dq20 65536).toArray)] (.refl _) (oc (ro ⟨bc,0,none⟩ (vs:=(cZ c))<|cB r0 rfl)<|oc (ro ⟨bx,0,none⟩ (vs:=[u_ x])<|cB r1 rfl)<|oc (ro ⟨bl,19,none⟩ (vs:=[u_ l.dq20])<|cB r2 rfl)<|oc (qw<|yi l.dq20)<|o1<|qw<|DG c x<|aJ l.dq20 65536)<|fk 7 rfl (mL 8 [u_ 0,u_ 0,u_ 0,u_ 0,u_ 0,u_ 0,u_ 0,u_ 0,b_ false] (by kernel_rfl) rfl (by kernel_rfl) (fun b3=>[aA b1 (cu r) 217,aA b2 [u_ 0,u_ 0,u_ 0,u_ 0,u_ 0,u_ 0,u_ 0,u_ 0,b_ false] 217,aA b3 [u_ 0,u_ 0,u_ 0,u_ 0,u_ 0,u_ 0,u_ 0,u_ 0,b_ false] 217]) (fun _=>rfl) ?_)
 intro b3
 refine ff (sd [2])<|fk 8 rfl (dN 2 (cu<|aS c x<|aJ l.dq20 65536) rfl (ff (sd [2])<|jP<|aE<|bW [.rd [b_ l.dq1]] [(5,p_ b1),(7,p_ b2),(8,p_ b3),(17,b_ l.dq1)] (o1<|ro ⟨bl,0,none⟩ (vs:=[b_ l.dq1])<|cB r2 rfl)<|fx l.dq1 (fun e1=>?_)<|fun e1=>?_))
 ·refine aM<|gA [.ld 0,.ld 2,.cq<|.agg (cu<|cJ r<|aS c x<|aJ l.dq20 65536).toArray,.st 2] [] [] [(2,aA b3 (cu<|cJ r<|aS c x<|aJ l.dq20 65536) 217)] (o1<|qw<|zb r<|aS c x<|aJ l.dq20 65536)<|aC<|bU [.ld 2,.st 1] [] [(1,aA b2 (cu<|cJ r<|aS c x<|aJ l.dq20 65536) 217)]<|aF<|eY 1 (cu<|cJ r<|aS c x<|aJ l.dq20 65536) ?_
  show((.agg (cu<|cJ r<|aS c x<|aJ l.dq20 65536).toArray):Value)=(.agg (cu<|bN l.dq1 r<|aS c x<|aJ l.dq20 65536).toArray)
  unfold bN;simp_all
 refine aP<|aC<|bU [.ld 2,.st 1] [] [(1,aA b2 (cu<|aS c x<|aJ l.dq20 65536) 217)]<|aF<|eY 1 (cu<|aS c x<|aJ l.dq20 65536) ?_
 show((.agg (cu<|aS c x<|aJ l.dq20 65536).toArray):Value)=(.agg (cu<|bN l.dq1 r<|aS c x<|aJ l.dq20 65536).toArray)
 unfold bN;simp_all
theorem Wa(r:Rn)(bc bx bl:Nat)(c:Cv)(x:Int)(l:Du)(w:World)(r0:(aA bc (cZ c) 60).holds w)(r1:(aA bx [u_ x] 40).holds w)(r2:(aA bl (fG l) 219).holds w):
  CW 196 #[.agg (cu r).toArray,.func (.func 200) #[] #[],p_ bc,p_ bx,p_ bl] w (.agg (cu<|bN l.dq1 r<|bS c x<|aJ l.dq20 65536).toArray):=by
 refine aU Tryz.func196 rfl (HS.nil w) (aC<|fz [.al,.al] [] (fun b1 b2=>[(5,p_ b1),(7,p_ b2)]) (fun b1 b2=>[aA b1 (cu r) 217,aA b2 [u_ 0,u_ 0,u_ 0,u_ 0,u_ 0,u_ 0,u_ 0,u_ 0,b_ false] 217]) ?_)
 intro b1 b2
 refine aE<|j6 [7,8] 9 [aA b1 (cu r) 217,aA b2 [u_ 0,u_ 0,u_ 0,u_ 0,u_ 0,u_ 0,u_ 0,u_ 0,b_ false] 217]<|qQ 2 [.rd<|cZ c,.rd [u_ x],.rd [u_ l.dq20],.cq<|.agg (cg<|aJ l.dq20 65536).toArray,.cq<|.agg (cu<|bS c x<|aJ l.dq20 65536).toArray] (rg 0 7) [(4,p_ bl),(5,p_ b1),(7,p_ b2),(15,.agg (cu<|bS c x<|aJ l.dq20 65536).toArray)] (.refl _) (oc (ro ⟨bc,0,none⟩ (vs:=(cZ c))<|cB r0 rfl)<|oc (ro ⟨bx,0,none⟩ (vs:=[u_ x])<|cB r1 rfl)<|oc (ro ⟨bl,19,none⟩ (vs:=[u_ l.dq20])<|cB r2 rfl)<|oc (qw<|yi l.dq20)<|o1<|qw<|JX c x<|aJ l.dq20 65536)<|fk 7 rfl (mL 8 [u_ 0,u_ 0,u_ 0,u_ 0,u_ 0,u_ 0,u_ 0,u_ 0,b_ false] (by kernel_rfl) rfl (by kernel_rfl) (fun b3=>[aA b1 (cu r) 217,aA b2 [u_ 0,u_ 0,u_ 0,u_ 0,u_ 0,u_ 0,u_ 0,u_ 0,b_ false] 217,aA b3 [u_ 0,u_ 0,u_ 0,u_ 0,u_ 0,u_ 0,u_ 0,u_ 0,b_ false] 217]) (fun _=>rfl) ?_)
 intro b3
 refine ff (sd [2])<|fk 8 rfl (dN 2 (cu<|bS c x<|aJ l.dq20 65536) rfl (ff (sd [2])<|jP<|aE<|bW [.rd [b_ l.dq1]] [(5,p_ b1),(7,p_ b2),(8,p_ b3),(17,b_ l.dq1)] (o1<|ro ⟨bl,0,none⟩ (vs:=[b_ l.dq1])<|cB r2 rfl)<|fx l.dq1 (fun e1=>?_)<|fun e1=>?_))
 ·refine aM<|gA [.ld 0,.ld 2,.cq<|.agg (cu<|cJ r<|bS c x<|aJ l.dq20 65536).toArray,.st 2] [] [] [(2,aA b3 (cu<|cJ r<|bS c x<|aJ l.dq20 65536) 217)] (o1<|qw<|zb r<|bS c x<|aJ l.dq20 65536)<|aC<|bU [.ld 2,.st 1] [] [(1,aA b2 (cu<|cJ r<|bS c x<|aJ l.dq20 65536) 217)]<|aF<|eY 1 (cu<|cJ r<|bS c x<|aJ l.dq20 65536) ?_
  show((.agg (cu<|cJ r<|bS c x<|aJ l.dq20 65536).toArray):Value)=(.agg (cu<|bN l.dq1 r<|bS c x<|aJ l.dq20 65536).toArray)
  unfold bN;simp_all
 refine aP<|aC<|bU [.ld 2,.st 1] [] [(1,aA b2 (cu<|bS c x<|aJ l.dq20 65536) 217)]<|aF<|eY 1 (cu<|bS c x<|aJ l.dq20 65536) ?_
 show((.agg (cu<|bS c x<|aJ l.dq20 65536).toArray):Value)=(.agg (cu<|bN l.dq1 r<|bS c x<|aJ l.dq20 65536).toArray)
 unfold bN;simp_all
abbrev EA(p0:Du)(p1)(p2):=(cu<|bN p0.dq1 (dr p0)<|aS p1 p2<|aJ p0.dq20 65536)
abbrev Ur(p0:Du)(p1)(p2):=(b_ ((bN p0.dq1 (dr p0)<|aS p1 p2<|aJ p0.dq20 65536).rq9):Value)
abbrev Us(p0:Du)(p1)(p2):=(u_ ((bN p0.dq1 (dr p0)<|aS p1 p2<|aJ p0.dq20 65536).rq8):Value)
abbrev Ut(p0:Du)(p1)(p2):=(u_ ((bN p0.dq1 (dr p0)<|aS p1 p2<|aJ p0.dq20 65536).rq7):Value)
abbrev Uu(p0:Du)(p1)(p2):=(u_ ((bN p0.dq1 (dr p0)<|aS p1 p2<|aJ p0.dq20 65536).rq6):Value)
abbrev Uw(p0:Du)(p1)(p2):=(u_ ((bN p0.dq1 (dr p0)<|aS p1 p2<|aJ p0.dq20 65536).rq5):Value)
abbrev Ux(p0:Du)(p1)(p2):=(u_ ((bN p0.dq1 (dr p0)<|aS p1 p2<|aJ p0.dq20 65536).rq4):Value)
abbrev Uy(p0:Du)(p1)(p2):=(u_ ((bN p0.dq1 (dr p0)<|aS p1 p2<|aJ p0.dq20 65536).rq3):Value)
abbrev Uz(p0:Du)(p1)(p2):=(u_ ((bN p0.dq1 (dr p0)<|aS p1 p2<|aJ p0.dq20 65536).rq2):Value)
abbrev VA(p0:Du)(p1)(p2):=(u_ ((bN p0.dq1 (dr p0)<|aS p1 p2<|aJ p0.dq20 65536).rq1):Value)
abbrev zg(p0:Du)(p1)(p2):=(cu<|bN p0.dq1 (dt p0)<|bS p1 p2<|aJ p0.dq20 65536)
theorem VB(l:Du)(c:Cv)(x h:Int)(w:World):
  CW 146 #[.agg (fG l).toArray,.agg (cZ c).toArray,u_ x,i_ h] w (.agg (fG<|iJ l c x h).toArray):=by
 refine aU Tryz.func146 rfl (HS.nil w) (aC<|X9 [.al,.al,.al] [3,4,5,6] (fun b1 b2 b3=>[(3,i_ h),(4,p_ b1),(5,p_ b2),(6,p_ b3)]) (fun b1 b2 b3=>[aA b1 (fG l) 219,aA b2 (cZ c) 60,aA b3 [u_ x] 40]) (fun b1 b2 b3=>[]) (fun _ _ _=>T0) (fun _ _ _=>by kernel_rfl) (fun b1 b2 b3=>trivial) ?_)
 intro b1 b2 b3
 refine aG<|mL 8 [b_ false,u_ 0,u_ 0,u_ 0,u_ 0,u_ 0,u_ 0,u_ 0,u_ 0,b_ false,u_ 0,u_ 0,u_ 0,u_ 0,u_ 0,u_ 0,u_ 0,u_ 0,b_ false,u_ 0,u_ 0,u_ 0] (by kernel_rfl) rfl (by kernel_rfl) (fun b4=>[aA b1 (fG l) 219,aA b2 (cZ c) 60,aA b3 [u_ x] 40,zf b4]) (fun _=>rfl) ?_
 intro b4
 refine dP<|aD [(4,p_ b1),(8,p_ b4),(9,.func (.func 196) #[] #[p_ b2,p_ b3,p_ b1])]<|aE<|bL [9,11] 12<|cO 3 [.ld 0,.cq<|.agg (EA l c x).toArray,.ld 0,.cq<|.agg (zg l c x).toArray] (rg 0 9) [(14,.agg (EA l c x).toArray),(18,.agg (zg l c x).toArray),(19,q_ b1 1)] (oc (qo<|fun ww ss=>W9 (dr l) b2 b3 b1 c x l ww (ss.mem (i:=1) rfl) (ss.mem (i:=2) rfl)<|ss.mem (i:=0) rfl)<|o1<|qo<|fun ww ss=>Wa (dt l) b2 b3 b1 c x l ww (ss.mem (i:=1) rfl) (ss.mem (i:=2) rfl)<|ss.mem (i:=0) rfl) ?_
 refine an 9 rfl (dN 0 (EA l c x) rfl (cD<|cL 1 [] [10] [(18,.agg (zg l c x).toArray),(20,q_ b1 10)] ?_))
 refine an 11 rfl (dN 0 (zg l c x) rfl ?_)
 refine cb ?_
 refine aC<|bU [.st 0] [] [(0,aA b1 [b_ true,VA l c x,Uz l c x,Uy l c x,Ux l c x,Uw l c x,Uu l c x,Ut l c x,Us l c x,Ur l c x,u_<|(bN l.dq1 (dt l)<|bS c x<|aJ l.dq20 65536).rq1,u_<|(bN l.dq1 (dt l)<|bS c x<|aJ l.dq20 65536).rq2,u_<|(bN l.dq1 (dt l)<|bS c x<|aJ l.dq20 65536).rq3,u_<|(bN l.dq1 (dt l)<|bS c x<|aJ l.dq20 65536).rq4,u_<|(bN l.dq1 (dt l)<|bS c x<|aJ l.dq20 65536).rq5,u_<|(bN l.dq1 (dt l)<|bS c x<|aJ l.dq20 65536).rq6,u_<|(bN l.dq1 (dt l)<|bS c x<|aJ l.dq20 65536).rq7,u_<|(bN l.dq1 (dt l)<|bS c x<|aJ l.dq20 65536).rq8,b_<|(bN l.dq1 (dt l)<|bS c x<|aJ l.dq20 65536).rq9,u_ l.dq20,u_ l.dq21,u_ l.dq22] 219)] ?_
 refine aC<|gA [.ld 0,.cq<|.agg (fG<|headD (⟨true,(bN l.dq1 (dr l)<|aS c x<|aJ l.dq20 65536).rq1,(bN l.dq1 (dr l)<|aS c x<|aJ l.dq20 65536).rq2,(bN l.dq1 (dr l)<|aS c x<|aJ l.dq20 65536).rq3,(bN l.dq1 (dr l)<|aS c x<|aJ l.dq20 65536).rq4,(bN l.dq1 (dr l)<|aS c x<|aJ l.dq20 65536).rq5,(bN l.dq1 (dr l)<|aS c x<|aJ l.dq20 65536).rq6,(bN l.dq1 (dr l)<|aS c x<|aJ l.dq20 65536).rq7,(bN l.dq1 (dr l)<|aS c x<|aJ l.dq20 65536).rq8,(bN l.dq1 (dr l)<|aS c x<|aJ l.dq20 65536).rq9,(bN l.dq1 (dt l)<|bS c x<|aJ l.dq20 65536).rq1,(bN l.dq1 (dt l)<|bS c x<|aJ l.dq20 65536).rq2,(bN l.dq1 (dt l)<|bS c x<|aJ l.dq20 65536).rq3,(bN l.dq1 (dt l)<|bS c x<|aJ l.dq20 65536).rq4,(bN l.dq1 (dt l)<|bS c x<|aJ l.dq20 65536).rq5,(bN l.dq1 (dt l)<|bS c x<|aJ l.dq20 65536).rq6,(bN l.dq1 (dt l)<|bS c x<|aJ l.dq20 65536).rq7,(bN l.dq1 (dt l)<|bS c x<|aJ l.dq20 65536).rq8,(bN l.dq1 (dt l)<|bS c x<|aJ l.dq20 65536).rq9,l.dq20,l.dq21,l.dq22⟩:Du) h).toArray,.st 3] [] [] [(3,aA b4 (fG<|headD (⟨true,(bN l.dq1 (dr l)<|aS c x<|aJ l.dq20 65536).rq1,(bN l.dq1 (dr l)<|aS c x<|aJ l.dq20 65536).rq2,(bN l.dq1 (dr l)<|aS c x<|aJ l.dq20 65536).rq3,(bN l.dq1 (dr l)<|aS c x<|aJ l.dq20 65536).rq4,(bN l.dq1 (dr l)<|aS c x<|aJ l.dq20 65536).rq5,(bN l.dq1 (dr l)<|aS c x<|aJ l.dq20 65536).rq6,(bN l.dq1 (dr l)<|aS c x<|aJ l.dq20 65536).rq7,(bN l.dq1 (dr l)<|aS c x<|aJ l.dq20 65536).rq8,(bN l.dq1 (dr l)<|aS c x<|aJ l.dq20 65536).rq9,(bN l.dq1 (dt l)<|bS c x<|aJ l.dq20 65536).rq1,(bN l.dq1 (dt l)<|bS c x<|aJ l.dq20 65536).rq2,(bN l.dq1 (dt l)<|bS c x<|aJ l.dq20 65536).rq3,(bN l.dq1 (dt l)<|bS c x<|aJ l.dq20 65536).rq4,(bN l.dq1 (dt l)<|bS c x<|aJ l.dq20 65536).rq5,(bN l.dq1 (dt l)<|bS c x<|aJ l.dq20 65536).rq6,(bN l.dq1 (dt l)<|bS c x<|aJ l.dq20 65536).rq7,(bN l.dq1 (dt l)<|bS c x<|aJ l.dq20 65536).rq8,(bN l.dq1 (dt l)<|bS c x<|aJ l.dq20 65536).rq9,l.dq20,l.dq21,l.dq22⟩:Du) h) 219)] (o1<|qw<|Dz (⟨true,(bN l.dq1 (dr l)<|aS c x<|aJ l.dq20 65536).rq1,(bN l.dq1 (dr l)<|aS c x<|aJ l.dq20 65536).rq2,(bN l.dq1 (dr l)<|aS c x<|aJ l.dq20 65536).rq3,(bN l.dq1 (dr l)<|aS c x<|aJ l.dq20 65536).rq4,(bN l.dq1 (dr l)<|aS c x<|aJ l.dq20 65536).rq5,(bN l.dq1 (dr l)<|aS c x<|aJ l.dq20 65536).rq6,(bN l.dq1 (dr l)<|aS c x<|aJ l.dq20 65536).rq7,(bN l.dq1 (dr l)<|aS c x<|aJ l.dq20 65536).rq8,(bN l.dq1 (dr l)<|aS c x<|aJ l.dq20 65536).rq9,(bN l.dq1 (dt l)<|bS c x<|aJ l.dq20 65536).rq1,(bN l.dq1 (dt l)<|bS c x<|aJ l.dq20 65536).rq2,(bN l.dq1 (dt l)<|bS c x<|aJ l.dq20 65536).rq3,(bN l.dq1 (dt l)<|bS c x<|aJ l.dq20 65536).rq4,(bN l.dq1 (dt l)<|bS c x<|aJ l.dq20 65536).rq5,(bN l.dq1 (dt l)<|bS c x<|aJ l.dq20 65536).rq6,(bN l.dq1 (dt l)<|bS c x<|aJ l.dq20 65536).rq7,(bN l.dq1 (dt l)<|bS c x<|aJ l.dq20 65536).rq8,(bN l.dq1 (dt l)<|bS c x<|aJ l.dq20 65536).rq9,l.dq20,l.dq21,l.dq22⟩:Du) h) ?_
 refine aF<|eY 3 (fG<|headD (⟨true,(bN l.dq1 (dr l)<|aS c x<|aJ l.dq20 65536).rq1,(bN l.dq1 (dr l)<|aS c x<|aJ l.dq20 65536).rq2,(bN l.dq1 (dr l)<|aS c x<|aJ l.dq20 65536).rq3,(bN l.dq1 (dr l)<|aS c x<|aJ l.dq20 65536).rq4,(bN l.dq1 (dr l)<|aS c x<|aJ l.dq20 65536).rq5,(bN l.dq1 (dr l)<|aS c x<|aJ l.dq20 65536).rq6,(bN l.dq1 (dr l)<|aS c x<|aJ l.dq20 65536).rq7,(bN l.dq1 (dr l)<|aS c x<|aJ l.dq20 65536).rq8,(bN l.dq1 (dr l)<|aS c x<|aJ l.dq20 65536).rq9,(bN l.dq1 (dt l)<|bS c x<|aJ l.dq20 65536).rq1,(bN l.dq1 (dt l)<|bS c x<|aJ l.dq20 65536).rq2,(bN l.dq1 (dt l)<|bS c x<|aJ l.dq20 65536).rq3,(bN l.dq1 (dt l)<|bS c x<|aJ l.dq20 65536).rq4,(bN l.dq1 (dt l)<|bS c x<|aJ l.dq20 65536).rq5,(bN l.dq1 (dt l)<|bS c x<|aJ l.dq20 65536).rq6,(bN l.dq1 (dt l)<|bS c x<|aJ l.dq20 65536).rq7,(bN l.dq1 (dt l)<|bS c x<|aJ l.dq20 65536).rq8,(bN l.dq1 (dt l)<|bS c x<|aJ l.dq20 65536).rq9,l.dq20,l.dq21,l.dq22⟩:Du) h) ?_
 show((.agg (fG<|headD (⟨true,(bN l.dq1 (dr l)<|aS c x<|aJ l.dq20 65536).rq1,(bN l.dq1 (dr l)<|aS c x<|aJ l.dq20 65536).rq2,(bN l.dq1 (dr l)<|aS c x<|aJ l.dq20 65536).rq3,(bN l.dq1 (dr l)<|aS c x<|aJ l.dq20 65536).rq4,(bN l.dq1 (dr l)<|aS c x<|aJ l.dq20 65536).rq5,(bN l.dq1 (dr l)<|aS c x<|aJ l.dq20 65536).rq6,(bN l.dq1 (dr l)<|aS c x<|aJ l.dq20 65536).rq7,(bN l.dq1 (dr l)<|aS c x<|aJ l.dq20 65536).rq8,(bN l.dq1 (dr l)<|aS c x<|aJ l.dq20 65536).rq9,(bN l.dq1 (dt l)<|bS c x<|aJ l.dq20 65536).rq1,(bN l.dq1 (dt l)<|bS c x<|aJ l.dq20 65536).rq2,(bN l.dq1 (dt l)<|bS c x<|aJ l.dq20 65536).rq3,(bN l.dq1 (dt l)<|bS c x<|aJ l.dq20 65536).rq4,(bN l.dq1 (dt l)<|bS c x<|aJ l.dq20 65536).rq5,(bN l.dq1 (dt l)<|bS c x<|aJ l.dq20 65536).rq6,(bN l.dq1 (dt l)<|bS c x<|aJ l.dq20 65536).rq7,(bN l.dq1 (dt l)<|bS c x<|aJ l.dq20 65536).rq8,(bN l.dq1 (dt l)<|bS c x<|aJ l.dq20 65536).rq9,l.dq20,l.dq21,l.dq22⟩:Du) h).toArray):Value)=(.agg (fG<|iJ l c x h).toArray)
 rfl
theorem VC(l:Du)(s h:Int)(w:World):
  CW 213 #[.agg (fG l).toArray,i_ s,i_ h] w (.agg (fG<|gy l s h).toArray):=by
 refine aU Tryz.func213 rfl (HS.nil w) (aC<|fz [.al,.al] [] (fun b1 b2=>[(3,p_ b1),(6,p_ b2)]) (fun b1 b2=>[aA b1 (fG l) 219,zf b2]) ?_)
 intro b1 b2
 refine aC<|bU [.ld 0,.st 0] [] [(0,aA b1 [b_ l.dq1,u_ l.dq2,u_ l.dq3,u_ l.dq4,u_ l.dq5,u_ l.dq6,u_ l.dq7,u_ l.dq8,u_ l.dq9,b_ l.dq10,u_ l.dq11,u_ l.dq12,u_ l.dq13,u_ l.dq14,u_ l.dq15,u_ l.dq16,u_ l.dq17,u_ l.dq18,b_ l.dq19,u_<|wU<|l.dq20+(wU<|cX s 0),u_ l.dq21,u_ l.dq22] 219)]<|aC<|gA [.ld 0,.cq<|.agg (fG<|headD (⟨l.dq1,l.dq2,l.dq3,l.dq4,l.dq5,l.dq6,l.dq7,l.dq8,l.dq9,l.dq10,l.dq11,l.dq12,l.dq13,l.dq14,l.dq15,l.dq16,l.dq17,l.dq18,l.dq19,wU<|l.dq20+(wU<|cX s 0),l.dq21,l.dq22⟩:Du) h).toArray,.st 1] [] [] [(1,aA b2 (fG<|headD (⟨l.dq1,l.dq2,l.dq3,l.dq4,l.dq5,l.dq6,l.dq7,l.dq8,l.dq9,l.dq10,l.dq11,l.dq12,l.dq13,l.dq14,l.dq15,l.dq16,l.dq17,l.dq18,l.dq19,wU<|l.dq20+(wU<|cX s 0),l.dq21,l.dq22⟩:Du) h) 219)] (o1<|qw<|Dz (⟨l.dq1,l.dq2,l.dq3,l.dq4,l.dq5,l.dq6,l.dq7,l.dq8,l.dq9,l.dq10,l.dq11,l.dq12,l.dq13,l.dq14,l.dq15,l.dq16,l.dq17,l.dq18,l.dq19,wU<|l.dq20+(wU<|cX s 0),l.dq21,l.dq22⟩:Du) h)<|aF<|eY 1 (fG<|headD (⟨l.dq1,l.dq2,l.dq3,l.dq4,l.dq5,l.dq6,l.dq7,l.dq8,l.dq9,l.dq10,l.dq11,l.dq12,l.dq13,l.dq14,l.dq15,l.dq16,l.dq17,l.dq18,l.dq19,wU<|l.dq20+(wU<|cX s 0),l.dq21,l.dq22⟩:Du) h) ?_
 show((.agg (fG<|headD (⟨l.dq1,l.dq2,l.dq3,l.dq4,l.dq5,l.dq6,l.dq7,l.dq8,l.dq9,l.dq10,l.dq11,l.dq12,l.dq13,l.dq14,l.dq15,l.dq16,l.dq17,l.dq18,l.dq19,IntKind.u64.wrap<|l.dq20+(IntKind.u64.wrap<|cX s 0),l.dq21,l.dq22⟩:Du) h).toArray):Value)=(.agg (fG<|gy l s h).toArray)
 rfl
theorem VD(l:Du)(h:Int)(w:World):
  CW 215 #[.agg (fG l).toArray,i_ h] w (.agg (fG<|headD l h).toArray):=by
 refine aU Tryz.func215 rfl (HS.nil w) (aC<|fz [.al,.al] [] (fun b1 b2=>[(2,p_ b1),(4,p_ b2)]) (fun b1 b2=>[aA b1 (fG l) 219,zf b2]) ?_)
 intro b1 b2
 refine aC<|gA [.ld 0,.cq<|.agg (fG<|headD l h).toArray,.st 1] [] [] [(1,aA b2 (fG<|headD l h) 219)] (o1<|qw<|Dz l h)<|aF<|eY 1 (fG<|headD l h) ?_
 rfl
def fF(l:Sh):Rn:=⟨l.sq2,l.sq3,l.sq4,l.sq5,l.sq6,l.sq7,l.sq8,l.sq9,l.sq10⟩
def js(r:Rn)(x:Int):Int:=if r.rq9 then cX (cX (cX 0<|iY r<|aJ x 65536) r.rq5) r.rq1 else cX (cX 0<|iY r<|aJ x 65536) r.rq5
def FO(b:Bool)(r:Rn)(x:Int):Sh:=⟨b,r.rq1,r.rq2,r.rq3,r.rq4,r.rq5,r.rq6,r.rq7,r.rq8,r.rq9,x⟩
def ju(l:Sh)(c:Cv)(x y:Int):Sh:=FO true (bN l.sq1 (fF l)<|aS c x<|aJ y 65536)<|js (bN l.sq1 (fF l)<|aS c x<|aJ y 65536) y
def mF(l:Sh)(x:Int):Sh:=if l.sq1 then{l with sq11:=js (fF l) x} else l
abbrev o8(p0)(p1):=(u_ (iY p0<|aJ p1 65536):Value)
abbrev uT(p0:Rn)(p1):=(u_ (cX (cX (cX 0<|iY p0<|aJ p1 65536) p0.rq5) p0.rq1):Value)
abbrev pY(p0:Rn)(p1):=(u_ (cX (cX 0<|iY p0<|aJ p1 65536) p0.rq5):Value)
theorem EB(r:Rn)(x:Int)(w:World):
  CW 206 #[.agg (cu r).toArray,u_ x] w (u_<|js r x):=by
 refine aU Tryz.func206 rfl (HS.nil w) (aC<|dD [.al] [] (fun b1=>[(2,p_ b1)]) (fun b1=>aA b1 (cu r) 217) ?_)
 intro b1
 refine aE<|fS [.ld 0,.cq<|.agg (cg<|aJ x 65536).toArray,.cq<|o8 r x] (rg 0 5) [] [(5,o8 r x)] (oc (qw<|rG x 65536)<|o1<|qw<|yh r<|aJ x 65536)<|cS<|bF [.ld 0] [(11,b_ r.rq9)]<|fx r.rq9 (fun e1=>?_)<|fun e1=>?_
 ·refine aC<|bA 7 [.ld 0,.ld 0] [(12,o8 r x),(15,u_ r.rq5),(18,u_ r.rq1)]<|aG<|eB 19 (e:=40) [o8 r x,u_ r.rq5,u_ r.rq1] (by kernel_rfl) rfl (fun _=>by kernel_rfl) _ (fun _=>rfl) ?_
  intro b2
  refine aG<|dx (some 20) [.slice (some ⟨b2,0,none⟩) 3 3] Tryz.func250 rfl (aD []<|aD [(3,u_ 0)]<|aE<|aD [(6,.slice (some ⟨b2,0,none⟩) 3 3),(7,i_ 3),(8,i_ 0)]<|aO<|jm 400<|dK (m:=399)<|aD [(9,b_ true)]<|aE<|dX<|au<|aO<|aC<|aG<|cC (some 10) (p_ b2) (ku (off:=0) (sz:=1) (el:=40) (e:=0) (len:=3) rfl rfl rfl (by kernel_rfl) (by kernel_rfl) (by omega))<|bF [.ld 1] [(5,o8 r x)]<|bX [(3,u_<|cX 0<|iY r<|aJ x 65536)]<|bX [(8,i_ 1)]<|dK (m:=398)<|aD [(9,b_ true)]<|aE<|dX<|au<|aO<|aC<|aG<|cC (some 10) (q_ b2 1) (ku (off:=0) (sz:=1) (el:=40) (e:=1) (len:=3) rfl rfl rfl (by kernel_rfl) (by kernel_rfl) (by omega))<|bF [.ld 1] [(5,u_ r.rq5)]<|bX [(3,pY r x)]<|bX [(8,i_ 2)]<|dK (m:=397)<|aD [(3,pY r x),(6,.slice (some ⟨b2,0,none⟩) 3 3),(7,i_ 3),(8,i_ 2),(9,b_ true)]<|aE<|dX<|au<|aO<|aC<|aG<|cC (some 10) (q_ b2 2) (ku (off:=0) (sz:=1) (el:=40) (e:=2) (len:=3) rfl rfl rfl (by kernel_rfl) (by kernel_rfl) (by omega))<|bF [.ld 1] [(5,u_ r.rq1)]<|bX [(3,uT r x)]<|bX [(8,i_ 3)]<|dK (m:=396)<|aD [(9,b_ false)]<|aE<|bY<|bR<|aD [(2,uT r x)]<|aF<|dO [uT r x]<|jB [aA b2 [o8 r x,u_ r.rq5,u_ r.rq1] 40] (sd [0])<|ak [(4,uT r x)]<|aF<|bK [uT r x] ?_)
  show((uT r x):Value)=(u_<|js r x)
  unfold js;simp_all
 refine aP<|aC<|bA 4 [.ld 0] [(21,o8 r x),(24,u_ r.rq5)]<|aG<|eB 25 (e:=40) [o8 r x,u_ r.rq5] (by kernel_rfl) rfl (fun _=>by kernel_rfl) _ (fun _=>rfl) ?_
 intro b3
 refine aG<|dx (some 26) [.slice (some ⟨b3,0,none⟩) 2 2] Tryz.func250 rfl (aD []<|aD [(3,u_ 0)]<|aE<|aD [(6,.slice (some ⟨b3,0,none⟩) 2 2),(7,i_ 2),(8,i_ 0)]<|aO<|jm 400<|dK (m:=399)<|aD [(9,b_ true)]<|aE<|dX<|au<|aO<|aC<|aG<|cC (some 10) (p_ b3) (ku (off:=0) (sz:=1) (el:=40) (e:=0) (len:=2) rfl rfl rfl (by kernel_rfl) (by kernel_rfl) (by omega))<|bF [.ld 1] [(5,o8 r x)]<|bX [(3,u_<|cX 0<|iY r<|aJ x 65536)]<|bX [(8,i_ 1)]<|dK (m:=398)<|aD [(9,b_ true)]<|aE<|dX<|au<|aO<|aC<|aG<|cC (some 10) (q_ b3 1) (ku (off:=0) (sz:=1) (el:=40) (e:=1) (len:=2) rfl rfl rfl (by kernel_rfl) (by kernel_rfl) (by omega))<|bF [.ld 1] [(5,u_ r.rq5)]<|bX [(3,pY r x)]<|bX [(8,i_ 2)]<|dK (m:=397)<|aD [(3,pY r x),(6,.slice (some ⟨b3,0,none⟩) 2 2),(7,i_ 2),(8,i_ 2),(9,b_ false)]<|aE<|bY<|bR<|aD [(2,pY r x)]<|aF<|dO [pY r x]<|jB [aA b3 [o8 r x,u_ r.rq5] 40] (sd [0])<|ak [(4,pY r x)]<|aF<|bK [pY r x] ?_)
 show((pY r x):Value)=(u_<|js r x)
 unfold js;simp_all
abbrev K5(p0)(p1)(p2)(p3):=(cu<|cJ (fF p0)<|aS p1 p2<|aJ p3 65536)
abbrev EC(p0)(p1)(p2)(p3):=(u_ (js (cJ (fF p0)<|aS p1 p2<|aJ p3 65536) p3):Value)
abbrev ED(p0)(p1)(p2):=(cu<|aS p0 p1<|aJ p2 65536)
abbrev zh(p0):=(aA p0 [b_ false,u_ 0,u_ 0,u_ 0,u_ 0,u_ 0,u_ 0,u_ 0,u_ 0,b_ false,u_ 0] 221:V.aH)
abbrev K6(p0)(p1)(p2):=(.agg #[b_ true,u_<|(aS p0 p1<|aJ p2 65536).rq1,u_<|(aS p0 p1<|aJ p2 65536).rq2,u_<|(aS p0 p1<|aJ p2 65536).rq3,u_<|(aS p0 p1<|aJ p2 65536).rq4,u_<|(aS p0 p1<|aJ p2 65536).rq5,u_<|(aS p0 p1<|aJ p2 65536).rq6,u_<|(aS p0 p1<|aJ p2 65536).rq7,u_<|(aS p0 p1<|aJ p2 65536).rq8,b_<|(aS p0 p1<|aJ p2 65536).rq9,u_<|js (aS p0 p1<|aJ p2 65536) p2]:Value)
abbrev K7(p0)(p1)(p2)(p3):=(.agg #[b_ true,u_<|(cJ (fF p0)<|aS p1 p2<|aJ p3 65536).rq1,u_<|(cJ (fF p0)<|aS p1 p2<|aJ p3 65536).rq2,u_<|(cJ (fF p0)<|aS p1 p2<|aJ p3 65536).rq3,u_<|(cJ (fF p0)<|aS p1 p2<|aJ p3 65536).rq4,u_<|(cJ (fF p0)<|aS p1 p2<|aJ p3 65536).rq5,u_<|(cJ (fF p0)<|aS p1 p2<|aJ p3 65536).rq6,u_<|(cJ (fF p0)<|aS p1 p2<|aJ p3 65536).rq7,u_<|(cJ (fF p0)<|aS p1 p2<|aJ p3 65536).rq8,b_<|(cJ (fF p0)<|aS p1 p2<|aJ p3 65536).rq9,u_<|js (cJ (fF p0)<|aS p1 p2<|aJ p3 65536) p3]:Value)
theorem K8(l:Sh)(c:Cv)(x y:Int)(w:World):
  CW 149 #[.agg (gu l).toArray,.agg (cZ c).toArray,u_ x,u_ y] w (.agg (gu<|ju l c x y).toArray):=by
 refine aU Tryz.func149 rfl (HS.nil w) (aC<|nj [.al,.al,.al] [2,3,4,5,8] (fun b1 b2 b3=>[(2,u_ x),(3,u_ y),(4,p_ b1),(5,p_ b2),(8,p_ b3)]) (fun b1 b2 b3=>[aA b1 (gu l) 221,aA b2 (cZ c) 60,zh b3]) (fun b1 b2 b3=>[]) (fun _ _ _=>T0) (fun _ _ _=>by kernel_rfl) (fun b1 b2 b3=>trivial) ?_)
 intro b1 b2 b3
 refine aE<|j6 [5,6] 7 [aA b1 (gu l) 221,aA b2 (cZ c) 60,zh b3]<|qQ 2 [.ld 1,.cq<|.agg (cg<|aJ y 65536).toArray,.cq<|.agg (ED c x y).toArray] (rg 0 5) [(3,u_ y),(4,p_ b1),(8,p_ b3),(14,.agg (ED c x y).toArray)] (.refl _) (oc (qw<|rG y 65536)<|o1<|qw<|DG c x<|aJ y 65536)<|fk 5 rfl (mL 9 [u_ 0,u_ 0,u_ 0,u_ 0,u_ 0,u_ 0,u_ 0,u_ 0,b_ false] (by kernel_rfl) rfl (by kernel_rfl) (fun b4=>[aA b1 (gu l) 221,aA b2 (cZ c) 60,zh b3,aA b4 [u_ 0,u_ 0,u_ 0,u_ 0,u_ 0,u_ 0,u_ 0,u_ 0,b_ false] 217]) (fun _=>rfl) ?_)
 intro b4
 refine ff (sd [3])<|fk 6 rfl (dN 3 (ED c x y) rfl (ff (sd [3])<|jP<|cS<|bF [.ld 0] [(4,p_ b1),(8,p_ b3),(9,p_ b4),(16,b_ l.sq1)]<|fx l.sq1 (fun e1=>?_)<|fun e1=>?_))
 ·refine aM<|gA [.ld 0,.ld 3,.cq<|.agg (K5 l c x y).toArray,.st 3] [] [] [(3,aA b4 (K5 l c x y) 217)] (o1<|qw<|zb (fF l)<|aS c x<|aJ y 65536)<|aE<|bL [5] 6 ?_
  refine cO 1 [.ld 3,.ld 3,.cq<|EC l c x y] (rg 0 5) [(25,K7 l c x y)] (o1<|qw<|EB (cJ (fF l)<|aS c x<|aJ y 65536) y) ?_
  refine an 5 rfl (dN 2 [b_ true,u_<|(cJ (fF l)<|aS c x<|aJ y 65536).rq1,u_<|(cJ (fF l)<|aS c x<|aJ y 65536).rq2,u_<|(cJ (fF l)<|aS c x<|aJ y 65536).rq3,u_<|(cJ (fF l)<|aS c x<|aJ y 65536).rq4,u_<|(cJ (fF l)<|aS c x<|aJ y 65536).rq5,u_<|(cJ (fF l)<|aS c x<|aJ y 65536).rq6,u_<|(cJ (fF l)<|aS c x<|aJ y 65536).rq7,u_<|(cJ (fF l)<|aS c x<|aJ y 65536).rq8,b_<|(cJ (fF l)<|aS c x<|aJ y 65536).rq9,EC l c x y] rfl (cb ?_))
  refine aF<|eY 2 [b_ true,u_<|(cJ (fF l)<|aS c x<|aJ y 65536).rq1,u_<|(cJ (fF l)<|aS c x<|aJ y 65536).rq2,u_<|(cJ (fF l)<|aS c x<|aJ y 65536).rq3,u_<|(cJ (fF l)<|aS c x<|aJ y 65536).rq4,u_<|(cJ (fF l)<|aS c x<|aJ y 65536).rq5,u_<|(cJ (fF l)<|aS c x<|aJ y 65536).rq6,u_<|(cJ (fF l)<|aS c x<|aJ y 65536).rq7,u_<|(cJ (fF l)<|aS c x<|aJ y 65536).rq8,b_<|(cJ (fF l)<|aS c x<|aJ y 65536).rq9,EC l c x y] ?_
  show((K7 l c x y):Value)=(.agg (gu<|ju l c x y).toArray)
  unfold ju FO bN;simp_all[gu]
 refine au<|bL [5] 6<|cO 1 [.ld 3,.ld 3,.cq<|u_<|js (aS c x<|aJ y 65536) y] (rg 0 5) [(25,K6 c x y)] (o1<|qw<|EB (aS c x<|aJ y 65536) y) ?_
 refine an 5 rfl (dN 2 [b_ true,u_<|(aS c x<|aJ y 65536).rq1,u_<|(aS c x<|aJ y 65536).rq2,u_<|(aS c x<|aJ y 65536).rq3,u_<|(aS c x<|aJ y 65536).rq4,u_<|(aS c x<|aJ y 65536).rq5,u_<|(aS c x<|aJ y 65536).rq6,u_<|(aS c x<|aJ y 65536).rq7,u_<|(aS c x<|aJ y 65536).rq8,b_<|(aS c x<|aJ y 65536).rq9,u_<|js (aS c x<|aJ y 65536) y] rfl (cb ?_))
 refine aF<|eY 2 [b_ true,u_<|(aS c x<|aJ y 65536).rq1,u_<|(aS c x<|aJ y 65536).rq2,u_<|(aS c x<|aJ y 65536).rq3,u_<|(aS c x<|aJ y 65536).rq4,u_<|(aS c x<|aJ y 65536).rq5,u_<|(aS c x<|aJ y 65536).rq6,u_<|(aS c x<|aJ y 65536).rq7,u_<|(aS c x<|aJ y 65536).rq8,b_<|(aS c x<|aJ y 65536).rq9,u_<|js (aS c x<|aJ y 65536) y] ?_
 show((K6 c x y):Value)=(.agg (gu<|ju l c x y).toArray)
 unfold ju FO bN;simp_all[gu]
abbrev K9(p0)(p1:Sh)(p2):=(aA p0 [b_ p1.sq1,u_ p1.sq2,u_ p1.sq3,u_ p1.sq4,u_ p1.sq5,u_ p1.sq6,u_ p1.sq7,u_ p1.sq8,u_ p1.sq9,b_ p1.sq10,u_<|js (fF p1) p2] 221:V.aH)
abbrev VE(p0:Sh)(p1):=(.agg #[b_ p0.sq1,u_ p0.sq2,u_ p0.sq3,u_ p0.sq4,u_ p0.sq5,u_ p0.sq6,u_ p0.sq7,u_ p0.sq8,u_ p0.sq9,b_ p0.sq10,u_<|js (fF p0) p1]:Value)
theorem VF(l:Sh)(x:Int)(w:World):
  CW 154 #[.agg (gu l).toArray,u_ x] w (.agg (gu<|mF l x).toArray):=by
 refine aU Tryz.func154 rfl (HS.nil w) (aC<|fz [.al,.al] [] (fun b1 b2=>[(2,p_ b1),(4,p_ b2)]) (fun b1 b2=>[aA b1 (gu l) 221,zh b2]) ?_)
 intro b1 b2
 refine cS<|bF [.ld 0] [(6,b_ l.sq1)]<|fx l.sq1 (fun e1=>?_)<|fun e1=>?_
 ·refine aM<|gA [.ld 0,.cq<|u_<|js (fF l) x,.st 0] [] [] [(0,K9 b1 l x)] (o1<|qw<|EB (fF l) x)<|aC<|bU [.ld 0,.st 1] [] [(1,K9 b2 l x)]<|aF<|eY 1 [b_ l.sq1,u_ l.sq2,u_ l.sq3,u_ l.sq4,u_ l.sq5,u_ l.sq6,u_ l.sq7,u_ l.sq8,u_ l.sq9,b_ l.sq10,u_<|js (fF l) x] ?_
  show((VE l x):Value)=(.agg (gu<|mF l x).toArray)
  unfold mF;simp_all[gu]
 refine aP<|aC<|bU [.ld 0,.st 1] [] [(1,aA b2 (gu l) 221)]<|aF<|eY 1 (gu l) ?_
 show((.agg (gu l).toArray):Value)=(.agg (gu<|mF l x).toArray)
 unfold mF;simp_all[gu]
def rU:Li:=⟨false,0,0,0,0,0,0,0,0,false,0⟩
def dy(l:Li):Rn:=⟨l.uq2,l.uq3,l.uq4,l.uq5,l.uq6,l.uq7,l.uq8,l.uq9,l.uq10⟩
def jL(l:Li)(x:Int):Li:=if l.uq1 then{l with uq11:=iY (dy l)<|aJ x 65536} else l
def FP(b:Bool)(r:Rn)(x:Int):Li:=⟨b,r.rq1,r.rq2,r.rq3,r.rq4,r.rq5,r.rq6,r.rq7,r.rq8,r.rq9,x⟩
def lQ(l:Li)(c:Cv)(x y:Int):Li:=if kC c≤1 then rU else jL (FP true (bN l.uq1 (dy l)<|aS c x<|aJ y 65536) 0) y
abbrev VG(p0:Li)(p1):=(.agg #[b_ p0.uq1,u_ p0.uq2,u_ p0.uq3,u_ p0.uq4,u_ p0.uq5,u_ p0.uq6,u_ p0.uq7,u_ p0.uq8,u_ p0.uq9,b_ p0.uq10,u_<|iY (dy p0)<|aJ p1 65536]:Value)
abbrev VH(p0)(p1:Li)(p2):=(aA p0 [b_ p1.uq1,u_ p1.uq2,u_ p1.uq3,u_ p1.uq4,u_ p1.uq5,u_ p1.uq6,u_ p1.uq7,u_ p1.uq8,u_ p1.uq9,b_ p1.uq10,u_<|iY (dy p1)<|aJ p2 65536] 223:V.aH)
theorem EE(l:Li)(x:Int)(w:World):
  CW 155 #[.agg (gh l).toArray,u_ x] w (.agg (gh<|jL l x).toArray):=by
 refine aU Tryz.func155 rfl (HS.nil w) (aC<|fz [.al,.al] [] (fun b1 b2=>[(2,p_ b1),(4,p_ b2)]) (fun b1 b2=>[aA b1 (gh l) 223,aA b2 [b_ false,u_ 0,u_ 0,u_ 0,u_ 0,u_ 0,u_ 0,u_ 0,u_ 0,b_ false,u_ 0] 223]) ?_)
 intro b1 b2
 refine cS<|bF [.ld 0] [(6,b_ l.uq1)]<|fx l.uq1 (fun e1=>?_)<|fun e1=>?_
 ·refine bL [6] 7<|cO 1 [.ld 0,.cq<|.agg (cg<|aJ x 65536).toArray,.cq<|u_<|iY (dy l)<|aJ x 65536] (rg 0 6) [(11,u_<|iY (dy l)<|aJ x 65536),(12,q_ b1 10)] (oc (qw<|rG x 65536)<|o1<|qw<|yh (dy l)<|aJ x 65536)<|an 6 rfl (dN 0 [u_<|iY (dy l)<|aJ x 65536] rfl (cb<|aC<|bU [.ld 0,.st 1] [(4,p_ b2)] [(1,VH b2 l x)]<|aF<|eY 1 [b_ l.uq1,u_ l.uq2,u_ l.uq3,u_ l.uq4,u_ l.uq5,u_ l.uq6,u_ l.uq7,u_ l.uq8,u_ l.uq9,b_ l.uq10,u_<|iY (dy l)<|aJ x 65536] ?_))
  show((VG l x):Value)=(.agg (gh<|jL l x).toArray)
  unfold jL;simp_all[gh]
 refine aP<|aC<|bU [.ld 0,.st 1] [] [(1,aA b2 (gh l) 223)]<|aF<|eY 1 (gh l) ?_
 show((.agg (gh l).toArray):Value)=(.agg (gh<|jL l x).toArray)
 unfold jL;simp_all[gh]
theorem Ko(l:Li)(c:Cv)(x y:Int)(w:World):
  CW 150 #[.agg (gh l).toArray,.agg (cZ c).toArray,u_ x,u_ y] w (.agg (gh<|lQ l c x y).toArray):=by
 refine aU Tryz.func150 rfl (HS.nil w) (aC<|nj [.al,.al,.al] [2,3,4,5,8] (fun b1 b2 b3=>[(2,u_ x),(3,u_ y),(4,p_ b1),(5,p_ b2),(8,p_ b3)]) (fun b1 b2 b3=>[aA b1 (gh l) 223,aA b2 (cZ c) 60,aA b3 [b_ false,u_ 0,u_ 0,u_ 0,u_ 0,u_ 0,u_ 0,u_ 0,u_ 0,b_ false,u_ 0] 223]) (fun b1 b2 b3=>[]) (fun _ _ _=>T0) (fun _ _ _=>by kernel_rfl) (fun b1 b2 b3=>trivial) ?_)
 intro b1 b2 b3
 refine aE<|j6 [5,6] 7 [aA b1 (gh l) 223,aA b2 (cZ c) 60,aA b3 [b_ false,u_ 0,u_ 0,u_ 0,u_ 0,u_ 0,u_ 0,u_ 0,u_ 0,b_ false,u_ 0] 223]<|qQ 2 [.ld 1,.cq<|.agg (cg<|aJ y 65536).toArray,.cq<|.agg (cu<|aS c x<|aJ y 65536).toArray] (rg 0 5) [(3,u_ y),(4,p_ b1),(5,p_ b2),(8,p_ b3),(14,.agg (cu<|aS c x<|aJ y 65536).toArray)] (.refl _) (oc (qw<|rG y 65536)<|o1<|qw<|DG c x<|aJ y 65536)<|fk 5 rfl (mL 9 [u_ 0,u_ 0,u_ 0,u_ 0,u_ 0,u_ 0,u_ 0,u_ 0,b_ false] (by kernel_rfl) rfl (by kernel_rfl) (fun b4=>[aA b1 (gh l) 223,aA b2 (cZ c) 60,aA b3 [b_ false,u_ 0,u_ 0,u_ 0,u_ 0,u_ 0,u_ 0,u_ 0,u_ 0,b_ false,u_ 0] 223,aA b4 [u_ 0,u_ 0,u_ 0,u_ 0,u_ 0,u_ 0,u_ 0,u_ 0,b_ false] 217]) (fun _=>rfl) ?_)
 intro b4
 refine ff (sd [3])<|fk 6 rfl (dN 3 (cu<|aS c x<|aJ y 65536) rfl (ff (sd [3])<|jP<|aE<|bW [.ld 1,.cq<|i_<|aV c.ka c.kb c.kc] [(4,p_ b1),(8,p_ b3),(9,p_ b4),(16,i_<|aV c.ka c.kb c.kc)] (o1<|qw<|qV c.ka c.kb c.kc)<|aO<|aE<|aO<|aO<|aE<|aE<|aD [(17,b_<|(aV c.ka c.kb c.kc)==0)]<|aI rfl (fun e1=>?_) (fun e1=>?_)))
 ·refine bR (cS<|bU [.st 2] [] [(2,aA b3 [b_ false,u_ 0,u_ 0,u_ 0,u_ 0,u_ 0,u_ 0,u_ 0,u_ 0,b_ false,u_ 0] 223)]<|aF<|eY 2 [b_ false,u_ 0,u_ 0,u_ 0,u_ 0,u_ 0,u_ 0,u_ 0,u_ 0,b_ false,u_ 0] ?_)
  (rw[show lQ l c x y=_ from if_pos (by unfold kC;simp_all)];rfl)
 refine aP<|aD [(19,b_<|(aV c.ka c.kb c.kc)==1)]<|aI rfl (fun e2=>?_) (fun e2=>?_)
 ·have p2:=e2
  refine bR (ni<|nh rfl (MX<|xP<|cS<|bU [.st 2] [] [(2,aA b3 [b_ false,u_ 0,u_ 0,u_ 0,u_ 0,u_ 0,u_ 0,u_ 0,u_ 0,b_ false,u_ 0] 223)]<|xP<|aF<|MU<|Xn<|MU<|gX [.agg #[b_ false,u_ 0,u_ 0,u_ 0,u_ 0,u_ 0,u_ 0,u_ 0,u_ 0,b_ false,u_ 0]] (fun _ w r s=>⟨dU 2 r s,trivial⟩) ?_))
  (rw[show lQ l c x y=_ from if_pos (by unfold kC;simp_all)];rfl)
 refine aP<|bR<|nh rfl (nh rfl (cS<|bF [.ld 0] [(23,b_ l.uq1)]<|fx l.uq1 (fun e3=>?_)<|fun e3=>?_))
 ·refine aM<|gA [.ld 0,.ld 3,.cq<|.agg (cu<|cJ (dy l)<|aS c x<|aJ y 65536).toArray,.st 3] [] [] [(3,aA b4 (cu<|cJ (dy l)<|aS c x<|aJ y 65536) 217)] (o1<|qw<|zb (dy l)<|aS c x<|aJ y 65536)<|aC<|gA [.ld 3,.cq<|.agg (gh<|jL (⟨true,(cJ (dy l)<|aS c x<|aJ y 65536).rq1,(cJ (dy l)<|aS c x<|aJ y 65536).rq2,(cJ (dy l)<|aS c x<|aJ y 65536).rq3,(cJ (dy l)<|aS c x<|aJ y 65536).rq4,(cJ (dy l)<|aS c x<|aJ y 65536).rq5,(cJ (dy l)<|aS c x<|aJ y 65536).rq6,(cJ (dy l)<|aS c x<|aJ y 65536).rq7,(cJ (dy l)<|aS c x<|aJ y 65536).rq8,(cJ (dy l)<|aS c x<|aJ y 65536).rq9,0⟩:Li) y).toArray,.st 2] [] [] [(2,aA b3 (gh<|jL (⟨true,(cJ (dy l)<|aS c x<|aJ y 65536).rq1,(cJ (dy l)<|aS c x<|aJ y 65536).rq2,(cJ (dy l)<|aS c x<|aJ y 65536).rq3,(cJ (dy l)<|aS c x<|aJ y 65536).rq4,(cJ (dy l)<|aS c x<|aJ y 65536).rq5,(cJ (dy l)<|aS c x<|aJ y 65536).rq6,(cJ (dy l)<|aS c x<|aJ y 65536).rq7,(cJ (dy l)<|aS c x<|aJ y 65536).rq8,(cJ (dy l)<|aS c x<|aJ y 65536).rq9,0⟩:Li) y) 223)] (o1<|qw<|EE (⟨true,(cJ (dy l)<|aS c x<|aJ y 65536).rq1,(cJ (dy l)<|aS c x<|aJ y 65536).rq2,(cJ (dy l)<|aS c x<|aJ y 65536).rq3,(cJ (dy l)<|aS c x<|aJ y 65536).rq4,(cJ (dy l)<|aS c x<|aJ y 65536).rq5,(cJ (dy l)<|aS c x<|aJ y 65536).rq6,(cJ (dy l)<|aS c x<|aJ y 65536).rq7,(cJ (dy l)<|aS c x<|aJ y 65536).rq8,(cJ (dy l)<|aS c x<|aJ y 65536).rq9,0⟩:Li) y)<|aF<|eY 2 (gh<|jL (⟨true,(cJ (dy l)<|aS c x<|aJ y 65536).rq1,(cJ (dy l)<|aS c x<|aJ y 65536).rq2,(cJ (dy l)<|aS c x<|aJ y 65536).rq3,(cJ (dy l)<|aS c x<|aJ y 65536).rq4,(cJ (dy l)<|aS c x<|aJ y 65536).rq5,(cJ (dy l)<|aS c x<|aJ y 65536).rq6,(cJ (dy l)<|aS c x<|aJ y 65536).rq7,(cJ (dy l)<|aS c x<|aJ y 65536).rq8,(cJ (dy l)<|aS c x<|aJ y 65536).rq9,0⟩:Li) y) ?_
  show((.agg (gh<|jL (⟨true,(cJ (dy l)<|aS c x<|aJ y 65536).rq1,(cJ (dy l)<|aS c x<|aJ y 65536).rq2,(cJ (dy l)<|aS c x<|aJ y 65536).rq3,(cJ (dy l)<|aS c x<|aJ y 65536).rq4,(cJ (dy l)<|aS c x<|aJ y 65536).rq5,(cJ (dy l)<|aS c x<|aJ y 65536).rq6,(cJ (dy l)<|aS c x<|aJ y 65536).rq7,(cJ (dy l)<|aS c x<|aJ y 65536).rq8,(cJ (dy l)<|aS c x<|aJ y 65536).rq9,0⟩:Li) y).toArray):Value)=(.agg (gh<|lQ l c x y).toArray)
  (rw[show lQ l c x y=_ from if_neg (by unfold kC;have hr_:=vh c.ka c.kb c.kc;simp_all;omega)];unfold FP bN;simp_all;done)
 refine aP<|aC<|gA [.ld 3,.cq<|.agg (gh<|jL (⟨true,(aS c x<|aJ y 65536).rq1,(aS c x<|aJ y 65536).rq2,(aS c x<|aJ y 65536).rq3,(aS c x<|aJ y 65536).rq4,(aS c x<|aJ y 65536).rq5,(aS c x<|aJ y 65536).rq6,(aS c x<|aJ y 65536).rq7,(aS c x<|aJ y 65536).rq8,(aS c x<|aJ y 65536).rq9,0⟩:Li) y).toArray,.st 2] [] [] [(2,aA b3 (gh<|jL (⟨true,(aS c x<|aJ y 65536).rq1,(aS c x<|aJ y 65536).rq2,(aS c x<|aJ y 65536).rq3,(aS c x<|aJ y 65536).rq4,(aS c x<|aJ y 65536).rq5,(aS c x<|aJ y 65536).rq6,(aS c x<|aJ y 65536).rq7,(aS c x<|aJ y 65536).rq8,(aS c x<|aJ y 65536).rq9,0⟩:Li) y) 223)] (o1<|qw<|EE (⟨true,(aS c x<|aJ y 65536).rq1,(aS c x<|aJ y 65536).rq2,(aS c x<|aJ y 65536).rq3,(aS c x<|aJ y 65536).rq4,(aS c x<|aJ y 65536).rq5,(aS c x<|aJ y 65536).rq6,(aS c x<|aJ y 65536).rq7,(aS c x<|aJ y 65536).rq8,(aS c x<|aJ y 65536).rq9,0⟩:Li) y)<|aF<|eY 2 (gh<|jL (⟨true,(aS c x<|aJ y 65536).rq1,(aS c x<|aJ y 65536).rq2,(aS c x<|aJ y 65536).rq3,(aS c x<|aJ y 65536).rq4,(aS c x<|aJ y 65536).rq5,(aS c x<|aJ y 65536).rq6,(aS c x<|aJ y 65536).rq7,(aS c x<|aJ y 65536).rq8,(aS c x<|aJ y 65536).rq9,0⟩:Li) y) ?_
 show((.agg (gh<|jL (⟨true,(aS c x<|aJ y 65536).rq1,(aS c x<|aJ y 65536).rq2,(aS c x<|aJ y 65536).rq3,(aS c x<|aJ y 65536).rq4,(aS c x<|aJ y 65536).rq5,(aS c x<|aJ y 65536).rq6,(aS c x<|aJ y 65536).rq7,(aS c x<|aJ y 65536).rq8,(aS c x<|aJ y 65536).rq9,0⟩:Li) y).toArray):Value)=(.agg (gh<|lQ l c x y).toArray)
 (rw[show lQ l c x y=_ from if_neg (by unfold kC;have hr_:=vh c.ka c.kb c.kc;simp_all;omega)];unfold FP bN;simp_all;done)
abbrev zW(p0:Pk):=(b_ ((decide (p0.qn≥1))&&(decide (p0.qn≤16384))):Value)
theorem Ug(p:Pk)(hp:1≤p.qn∧p.qn≤16384)(w:World):
  CW 158 #[.agg #[u_ p.qi,i_ p.qn,w_ p.qa,w_ p.qb,w_ p.qc,w_ p.qd],i_ 16384] w (i_ 0):=by
 refine aU Tryz.func158 rfl (HS.nil w) (aC<|dD [.al] [] (fun b1=>[(2,p_ b1)]) (fun b1=>aA b1 [u_ p.qi,i_ p.qn,w_ p.qa,w_ p.qb,w_ p.qc,w_ p.qd] 45) ?_)
 intro b1
 refine aE<|aO<|aC<|cP [.p] [(6,i_ 16384)]<|aG<|dx (some 7) [i_ 16384,i_ 16384] Tryz.func219 rfl (aD []<|(aD [(4,b_ true)]<|aF<|dO [b_ true]<|ak [(2,p_ b1),(5,b_ false)]<|bY<|aC<|bA 3 [.ld 0] [(11,i_ p.qn),(12,i_ 16384)]<|aG<|dx (some 13) [i_ p.qn,i_ 16384] Tryz.func219 rfl (aD []<|aC<|bF [.o,.cl] [(4,zW p)]<|aF<|dO [zW p]<|jB [] (sd [0])<|ak [(9,b_ (!((decide (p.qn≥1))&&(decide (p.qn≤16384)))))]<|aI rfl (fun e1=>?_) (fun e1=>?_))))
 ·exact absurd e1<|by(intro h_;simp at h_;omega)
 refine aP<|aD [(4,i_ 0)]<|aF<|bK [i_ 0] ?_
 rfl
theorem Pq(p:Pk)(t:Int)(hp:1≤p.qn∧p.qn≤16384)(ht:1≤t∧t≤65536)(w:World):
  CW 159 #[.agg #[u_ p.qi,i_ p.qn,w_ p.qa,w_ p.qb,w_ p.qc,w_ p.qd],i_ t] w (.tuple #[u_<|p.qn*t,i_ 0]):=by
 have h1_:p.qn*t≤16384*65536:=Int.mul_le_mul (by omega) (by omega) (by omega)<|by omega
 have h2_:0≤p.qn*t:=Int.mul_nonneg (by omega)<|by omega
 refine aU Tryz.func159 rfl (HS.nil w) (aC<|dD [.al] [] (fun b1=>[(2,p_ b1)]) (fun b1=>aA b1 [u_ p.qi,i_ p.qn,w_ p.qa,w_ p.qb,w_ p.qc,w_ p.qd] 45) ?_)
 intro b1
 refine cS<|cP [.p] [(6,i_ t)]<|aG<|dx (some 7) [i_ t,i_ 65536] Tryz.func219 rfl (aD []<|aC<|bF [.o,.cl] [(4,b_<|(decide (t≥1))&&(decide (t≤65536)))]<|aF<|dO [b_<|(decide (t≥1))&&(decide (t≤65536))]<|bA 2 [] [(2,p_ b1),(9,b_ (!((decide (t≥1))&&(decide (t≤65536)))))]<|iM (!((decide (t≥1))&&(decide (t≤65536)))) (fun e1=>?_)<|fun e1=>?_)
 ·refine aW 9 (b_ true) (fM e1)<|bF [.sk,.sk,.sk,.sk] [(14,b_ true)]<|dX<|aD [(4,u_ 0),(5,i_ 1)]<|aF<|bK [u_ 0,i_ 1] ?_
  simp_all
 refine aW 9 (b_ false) (fM e1)<|bA 2 [.ld 0] [(11,i_ p.qn)]<|aG<|dx (some 12) [i_ p.qn,i_ 16384] Tryz.func219 rfl (aD []<|aC<|bF [.o,.cl] [(4,zW p)]<|(aF<|dO [zW p]<|ak [(14,b_ (!((decide (p.qn≥1))&&(decide (p.qn≤16384)))))]<|aI rfl (fun e2=>?_) (fun e2=>?_)))
 ·refine aD [(4,u_ 0),(5,i_ 1)]<|aF<|bK [u_ 0,i_ 1] ?_
  simp_all
 refine aP<|bW [.ld 0,.w p.qn,.w t,.w<|p.qn*t] [(4,u_<|p.qn*t),(5,i_ 0)] (oc (wv p.qn<|by omega)<|oc (wv t<|by omega)<|o1<|wv (p.qn*t)<|by omega)<|aF<|bK [u_<|p.qn*t,i_ 0] ?_
 rfl
theorem Uh(t:Int)(ht:1≤t∧t≤65536):
  CS 42 #[i_ t] [] (fun(bl:Nat)=>(.tuple #[p_ bl,i_ 0])) (fun _=>True) fun bl=>[aA bl [u_ 0,u_ 0,u_ 0,i_ t,u_ 0] 146]:=by
 intro w hs
 refine aU Tryz.func42 rfl hs (aD []<|cS<|bF [.o,.cl] [(9,b_<|(decide (t<1))||(decide (t>65536)))]<|aI rfl (fun e1=>?_) (fun e1=>?_))
 ·exact absurd e1<|by(intro h_;simp at h_;omega)
 refine aP<|aC<|dD [.al] [] (fun b1=>[(2,p_ b1),(3,i_ 0)]) (fun b1=>aA b1 [u_ 0,u_ 0,u_ 0,i_ t,u_ 0] 146) ?_
 intro b1
 refine aF<|bJ [0] [p_ b1,i_ 0] (b1) ?_ ?_
 ·rfl
 trivial
theorem Cj(bl:Nat)(c1 c2 c3 t un:Int)(nw:Int)(w:World)(r0:(aA bl [u_ c1,u_ c2,u_ c3,i_ t,u_ un] 146).holds w):
  CW 47 #[p_ bl,u_ nw] w (b_<|decide (nw≥un)):=by
 refine aU Tryz.func47 rfl (HS.nil w) (aE ?_)
 refine bX []<|bW [.rd [u_ un]] [(4,b_<|decide (nw≥un))] (o1<|ro ⟨bl,4,none⟩ (vs:=[u_ un])<|cB r0 rfl)<|aF<|bK [b_<|decide (nw≥un)] ?_
 rfl
theorem Pv(bl:Nat)(c1 c2 c3 t un:Int)(w:World)(r0:(aA bl [u_ c1,u_ c2,u_ c3,i_ t,u_ un] 146).holds w):
  CW 118 #[p_ bl] w (u_ un):=by
 refine aU Tryz.func118 rfl (HS.nil w) (aD []<|aE<|aD [(4,b_ false)]<|bY<|aP<|bW [.rd [u_ un]] [(2,u_ un)] (o1<|ro ⟨bl,4,none⟩ (vs:=[u_ un])<|cB r0 rfl)<|aF<|bK [u_ un] ?_)
 rfl
theorem Rh(bl:Nat)(c1 c2 c3 t un:Int)(nw:Int)(p:Pk)(hw:0≤nw∧nw≤4611686018427387904)(hp:1≤p.qn∧p.qn≤16384)(ht:1≤t∧t≤65536)(hu:un≤nw):
  CS 115 #[p_ bl,u_ nw,.agg #[u_ p.qi,i_ p.qn,w_ p.qa,w_ p.qb,w_ p.qc,w_ p.qd]] [aA bl [u_ c1,u_ c2,u_ c3,i_ t,u_ un] 146] (fun((z1,z2,z3):Int×Int×Int)=>(.tuple #[u_<|nw+p.qn*t,i_ 0])) (fun _=>True) fun(z1,z2,z3)=>[aA bl [u_ z1,u_ z2,u_ z3,i_ t,u_<|nw+p.qn*t] 146]:=by
 intro w hs
 have h1_:p.qn*t≤16384*65536:=Int.mul_le_mul (by omega) (by omega) (by omega)<|by omega
 have h2_:1≤p.qn*t:=Int.le_trans (by omega)<|Int.mul_le_mul hp.1 ht.1 (by omega)<|by omega
 refine aU Tryz.func115 rfl hs (aC<|dD [.al] [] (fun b1=>[(5,p_ b1)]) (fun b1=>aA b1 [u_ p.qi,i_ p.qn,w_ p.qa,w_ p.qb,w_ p.qc,w_ p.qd] 45) ?_)
 intro b1
 refine aE<|aO<|aD [(10,b_ false)]<|bY<|aD [(13,b_<|decide (nw>4611686018427387904))]<|aI rfl (fun e1=>?_) (fun e1=>?_)
 ·exact absurd e1<|by(intro h_;simp at h_;omega)
 have p1:=ga e1
 refine bW [.ld 1,.cq<|i_ 0] [(16,b_ false)] (o1<|qo<|fun w s=>Ug p ‹_› w)<|bY<|bW [.cq<|b_<|decide (nw≥un)] [(20,b_ (!(decide (nw≥un))))] (o1<|qo<|fun w s=>Cj bl c1 c2 c3 t un nw w<|s.mem (i:=0) rfl)<|aI rfl (fun e2=>?_) (fun e2=>?_)
 ·exact absurd e2<|by(intro h_;simp at h_;omega)
 refine aP<|aE<|fS [.ld 1,.ld 0,.cq<|.tuple #[u_<|p.qn*t,i_ 0]] (rg 0 11) [] [(8,u_<|p.qn*t)] (o1<|qo<|fun w s=>Pq p t ‹_› ‹_› w)<|aC<|bU [.st 0] [] [(0,aA bl [u_ c1,u_ c2,u_ c3,i_ t,u_<|wU<|nw+(p.qn*t)] 146)]<|aE<|bL [6] 7<|cL 1 [.ld 1] (rg 0 6) [(42,p_ bl),(44,i_ p.qn),(45,u_<|p.qn*t)]<|an 6 rfl (dx (some 46) [p_ bl,i_ p.qn,u_<|p.qn*t] Tryz.func160 rfl (aC<|bU [.ld 0,.st 0] [] [(0,aA bl [u_<|wU<|c1+1,u_ c2,u_ c3,i_ t,u_<|wU<|nw+(p.qn*t)] 146)]<|aC<|bU [.ld 0,.st 0] [] [(0,aA bl [u_<|wU<|c1+1,u_<|wU<|c2+(wU<|p.qn),u_ c3,i_ t,u_<|wU<|nw+(p.qn*t)] 146)]<|aM<|bU [.ld 0,.st 0] [] [(0,aA bl [u_<|wU<|c1+1,u_<|wU<|c2+(wU<|p.qn),u_<|wU<|c3+(p.qn*t),i_ t,u_<|wU<|nw+(p.qn*t)] 146)]<|vB [] (fun _ w r s=>trivial)<|nk (by kernel_rfl)<|jB [aA bl [u_<|wU<|c1+1,u_<|wU<|c2+(wU<|p.qn),u_<|wU<|c3+(p.qn*t),i_ t,u_<|wU<|nw+(p.qn*t)] 146] (sd [1])<|cD<|dj<|aC<|bF [.ld 0] [(6,u_<|wU<|nw+(p.qn*t)),(7,i_ 0)]<|aF<|bj 0 (aA bl [u_<|wU<|c1+1,u_<|wU<|c2+(wU<|p.qn),u_<|wU<|c3+(p.qn*t),i_ t,u_<|nw+p.qn*t] 146) rfl (iD<|cc rfl (cc rfl (cc rfl (cc rfl (cc (congrArg u_ (by exact wrap_u64 (by constructor<;>omega):wU (nw+(p.qn*t))=(nw+p.qn*t))) rfl))))) ?_))
 refine bJ [0] [u_<|wU<|nw+(p.qn*t),i_ 0] (wU<|c1+1,wU<|c2+(wU<|p.qn),wU<|c3+(p.qn*t)) ?_ ?_
 ·show((.tuple #[u_<|IntKind.u64.wrap<|nw+(p.qn*t),i_ 0]):Value)=(.tuple #[u_<|nw+p.qn*t,i_ 0])
  (rw[wrap_u64 (by constructor<;>omega)])
 trivial
def pE(a b:Int):Int:=if a<b then b else a
def nW(a b c:Int):Int:=bD 9223372036854775808<|pE (pE a b) c
abbrev rC(p0):=(.slice (some ⟨p0,0,none⟩) 2 2:Value)
abbrev rD(p0):=(.slice (some ⟨p0,0,none⟩) 1 1:Value)
abbrev jc(p0):=(u_ (bD 9223372036854775808 p0):Value)
theorem SZ(a b c:Int):
  CS 117 #[u_ a,u_ b,u_ c] [] (fun(zz:Unit)=>(u_<|nW a b c)) (fun _=>True) fun _=>[]:=by
 intro w hs
 refine aU Tryz.func117 rfl hs (aD []<|aC<|bA 3 [] [(7,u_ a),(8,u_ b),(9,u_ c)]<|aG<|eB 10 (e:=40) [u_ b,u_ c] (by kernel_rfl) rfl (fun _=>by kernel_rfl) _ (fun _=>rfl) ?_)
 intro b1
 refine aG<|dx (some 11) [u_ a,rC b1] Tryz.func162 rfl (aD []<|aE<|aD [(7,rC b1),(8,i_ 2),(9,i_ 0)]<|aO<|jm 400<|dK (m:=399)<|aD [(10,b_ true)]<|aE<|dX<|au<|aO<|aC<|aG<|cC (some 11) (p_ b1) (ku (off:=0) (sz:=1) (el:=40) (e:=0) (len:=2) rfl rfl rfl (by kernel_rfl) (by kernel_rfl) (by omega))<|bF [.ld 0] [(6,u_ b)]<|aC<|bA 2 [] [(13,u_ a),(14,u_ b)]<|aG<|dx (some 15) [u_ a,u_ b] Tryz.func220 rfl (aD []<|aC<|cP [.p] [(5,u_ a)]<|aG<|dx (some 6) [u_ a] Tryz.func256 rfl (aD []<|(aD [(2,b_<|a !=a)]<|aF<|dO [b_<|a !=a]<|j0 [.p] [(0,u_ a),(1,u_ b),(7,b_<|a !=a)]<|iM (a !=a) (fun e1=>?_)<|fun e1=>?_))))
 ·exact absurd e1<|by simp
 refine aW 7 (b_ false) (fM e1)<|bF [.sk,.sk,.sk] [(4,b_<|decide (a<b))]<|aF<|dO [b_<|decide (a<b)]<|dP<|aI rfl (fun e2=>?_) (fun e2=>?_)
 ·have p2:=dZ e2
  refine aM<|dQ [] [(0,u_ b),(7,rC b1),(8,i_ 2),(9,i_ 0)]<|bX [(9,i_ 1)]<|dK (m:=398)<|aD [(10,b_ true)]<|(aE<|dX<|au<|aO<|aC<|aG<|cC (some 11) (q_ b1 1) (ku (off:=0) (sz:=1) (el:=40) (e:=1) (len:=2) rfl rfl rfl (by kernel_rfl) (by kernel_rfl) (by omega))<|bF [.ld 0] [(6,u_ c)]<|(aC<|bA 2 [] [(13,u_ b),(14,u_ c)]<|aG<|dx (some 15) [u_ b,u_ c] Tryz.func220 rfl (aD []<|aC<|cP [.p] [(5,u_ b)]<|aG<|dx (some 6) [u_ b] Tryz.func256 rfl (aD []<|aD [(2,b_<|b !=b)]<|aF<|dO [b_<|b !=b]<|j0 [.p] [(0,u_ b),(1,u_ c),(7,b_<|b !=b)]<|iM (b !=b) (fun e3=>?_)<|fun e3=>?_))))
  ·exact absurd e3<|by simp
  refine aW 7 (b_ false) (fM e3)<|bF [.sk,.sk,.sk] [(4,b_<|decide (b<c))]<|aF<|dO [b_<|decide (b<c)]<|dP<|aI rfl (fun e4=>?_) (fun e4=>?_)
  ·have p4:=dZ e4
   refine aM<|dQ [] [(0,u_ c),(7,rC b1),(8,i_ 2),(9,i_ 1)]<|bX [(9,i_ 2)]<|dK (m:=397)<|aD [(10,b_ false)]<|(aE<|bY<|bR<|aD [(4,u_ c)]<|aF<|dO [u_ c]<|aG<|eB 12 (e:=40) [u_ c] (by kernel_rfl) rfl (fun _=>by kernel_rfl) _ (fun _=>rfl) ?_)
   intro b2
   refine aG<|dx (some 13) [rD b2] Tryz.func161 rfl (aD []<|aD [(3,u_ 9223372036854775808)]<|aE<|aD [(6,rD b2),(7,i_ 1),(8,i_ 0)]<|aO<|jm 400<|dK (m:=399)<|aD [(9,b_ true)]<|aE<|dX<|au<|aO<|aC<|aG<|cC (some 10) (p_ b2) (ku (off:=0) (sz:=1) (el:=40) (e:=0) (len:=1) rfl rfl rfl (by kernel_rfl) (by kernel_rfl) (by omega))<|bF [.ld 1] [(5,u_ c)]<|bX [(3,jc c)]<|(bX [(8,i_ 1)]<|dK (m:=398)<|aD [(9,b_ false)]<|aE<|bY<|bR<|aD [(2,jc c)]<|aF<|dO [jc c]<|dQ [] [(6,jc c)]<|aF<|bJ [] [jc c] () ?_ ?_))
   ·unfold nW pE;(repeat(rw[if_pos<|by omega]));(try rfl)
   trivial
  have p4:=ga e4
  refine aP<|aM<|dQ [] [(0,u_ b),(7,rC b1),(8,i_ 2),(9,i_ 2)]<|dK (m:=397)<|aD [(10,b_ false)]<|aE<|bY<|bR<|aD [(4,u_ b)]<|aF<|dO [u_ b]<|aG<|eB 12 (e:=40) [u_ b] (by kernel_rfl) rfl (fun _=>by kernel_rfl) _ (fun _=>rfl) ?_
  intro b3
  refine aG<|dx (some 13) [rD b3] Tryz.func161 rfl (aD []<|aD [(3,u_ 9223372036854775808)]<|aE<|aD [(6,rD b3),(7,i_ 1),(8,i_ 0)]<|aO<|jm 400<|dK (m:=399)<|aD [(9,b_ true)]<|aE<|dX<|au<|aO<|aC<|aG<|cC (some 10) (p_ b3) (ku (off:=0) (sz:=1) (el:=40) (e:=0) (len:=1) rfl rfl rfl (by kernel_rfl) (by kernel_rfl) (by omega))<|bF [.ld 1] [(5,u_ b)]<|bX [(3,jc b)]<|(bX [(8,i_ 1)]<|dK (m:=398)<|aD [(9,b_ false)]<|aE<|bY<|bR<|aD [(2,jc b)]<|aF<|dO [jc b]<|dQ [] [(6,jc b)]<|aF<|bJ [] [jc b] () ?_ ?_))
  ·unfold nW pE;(repeat(first|rw[if_pos ‹_›]|rw[if_neg<|by omega]));(try rfl)
  trivial
 have p2:=ga e2
 refine aP<|aM<|dQ [] [(0,u_ a),(7,rC b1),(8,i_ 2),(9,i_ 1)]<|dK (m:=398)<|aD [(10,b_ true)]<|aE<|dX<|au<|aO<|aC<|aG<|cC (some 11) (q_ b1 1) (ku (off:=0) (sz:=1) (el:=40) (e:=1) (len:=2) rfl rfl rfl (by kernel_rfl) (by kernel_rfl) (by omega))<|bF [.ld 0] [(6,u_ c)]<|aC<|bA 2 [] [(13,u_ a),(14,u_ c)]<|aG<|dx (some 15) [u_ a,u_ c] Tryz.func220 rfl (aD []<|aC<|cP [.p] [(5,u_ a)]<|aG<|dx (some 6) [u_ a] Tryz.func256 rfl (aD []<|aD [(2,b_<|a !=a)]<|aF<|dO [b_<|a !=a]<|j0 [.p] [(0,u_ a),(1,u_ c),(7,b_<|a !=a)]<|iM (a !=a) (fun e5=>?_)<|fun e5=>?_))
 ·exact absurd e5<|by simp
 refine aW 7 (b_ false) (fM e5)<|bF [.sk,.sk,.sk] [(4,b_<|decide (a<c))]<|aF<|dO [b_<|decide (a<c)]<|dP<|aI rfl (fun e6=>?_) (fun e6=>?_)
 ·have p6:=dZ e6
  refine bX [(0,u_ c),(7,rC b1),(8,i_ 2),(9,i_ 1)]<|bX [(9,i_ 2)]<|dK (m:=397)<|aD [(10,b_ false)]<|(aE<|bY<|bR<|aD [(4,u_ c)]<|aF<|dO [u_ c]<|aG<|eB 12 (e:=40) [u_ c] (by kernel_rfl) rfl (fun _=>by kernel_rfl) _ (fun _=>rfl) ?_)
  intro b4
  refine aG<|dx (some 13) [rD b4] Tryz.func161 rfl (aD []<|aD [(3,u_ 9223372036854775808)]<|aE<|aD [(6,rD b4),(7,i_ 1),(8,i_ 0)]<|aO<|jm 400<|dK (m:=399)<|aD [(9,b_ true)]<|aE<|dX<|au<|aO<|aC<|aG<|cC (some 10) (p_ b4) (ku (off:=0) (sz:=1) (el:=40) (e:=0) (len:=1) rfl rfl rfl (by kernel_rfl) (by kernel_rfl) (by omega))<|bF [.ld 1] [(5,u_ c)]<|bX [(3,jc c)]<|(bX [(8,i_ 1)]<|dK (m:=398)<|aD [(9,b_ false)]<|aE<|bY<|bR<|aD [(2,jc c)]<|aF<|dO [jc c]<|ak [(6,jc c)]<|aF<|bJ [] [jc c] () ?_ ?_))
  ·unfold nW pE;(repeat(rw[if_pos<|by omega]));(try rfl)
  trivial
 have p6:=ga e6
 refine aP<|bX [(7,rC b1),(8,i_ 2),(9,i_ 2)]<|dK (m:=397)<|aD [(10,b_ false)]<|aE<|bY<|bR<|aD [(4,u_ a)]<|aF<|dO [u_ a]<|aG<|eB 12 (e:=40) [u_ a] (by kernel_rfl) rfl (fun _=>by kernel_rfl) _ (fun _=>rfl) ?_
 intro b5
 refine aG<|dx (some 13) [rD b5] Tryz.func161 rfl (aD []<|aD [(3,u_ 9223372036854775808)]<|aE<|aD [(6,rD b5),(7,i_ 1),(8,i_ 0)]<|aO<|jm 400<|dK (m:=399)<|aD [(9,b_ true)]<|aE<|dX<|au<|aO<|aC<|aG<|cC (some 10) (p_ b5) (ku (off:=0) (sz:=1) (el:=40) (e:=0) (len:=1) rfl rfl rfl (by kernel_rfl) (by kernel_rfl) (by omega))<|bF [.ld 1] [(5,u_ a)]<|bX [(3,jc a)]<|(bX [(8,i_ 1)]<|dK (m:=398)<|aD [(9,b_ false)]<|aE<|bY<|bR<|aD [(2,jc a)]<|aF<|dO [jc a]<|ak [(6,jc a)]<|aF<|bJ [] [jc a] () ?_ ?_))
 ·unfold nW pE;(repeat(rw[if_neg<|by omega]));(try rfl)
 trivial
end Go.Proofs.YtobgjpigngoggaaGreat
namespace Go.Proofs.YtobgjpigngoggaaGreat
open Go V
def i6(x:Int):List Value:=[(i_ x)]
theorem dL(x:Int):(i6 x).length=1:=rfl
theorem jo(x:Int):(i6 x).all Value.oneCell'=true:=rfl
abbrev sI(A:bn)(xs:bT)(c:Nat):V.aH:=sl A xs.length c 3 1<|V.aQ i6 xs
structure Cl where
 hi:Int
 hp:Int
 hl:Bool
 ra:Int
 rb:Int
 rc:Int
 la:Int
 lb:Int
 lc:Int
 ua:Int
 ub:Int
 uc:Int
 hk:Int
 hq:Int
 deriving Inhabited,DecidableEq
def ag(x:Cl):List Value:=[(i_ x.hi),(i_ x.hp),(b_ x.hl),(u_ x.ra),(u_ x.rb),(u_ x.rc),(u_ x.la),(u_ x.lb),(u_ x.lc),(u_ x.ua),(u_ x.ub),(u_ x.uc),(i_ x.hk),(i_ x.hq)]
def cG:Cl:=⟨0,0,false,0,0,0,0,0,0,0,0,0,0,0⟩
theorem mS:jd Tryz.prog 3 (fun k:Int=>i_ k):=xi<|by kernel_rfl
def gJ(l:List Int):List Int:=l.mergeSort fun x y=>decide (x≤y)
def bw(kv:List (Int×Cl))(f:Cl→Bool)(seen:List Nat):List Int:=seen.filterMap fun j=>match kv[j]? with|some p=>if f p.2 then some p.1 else none|none=>none
variable{kv:bm Cl}{f:Cl→Bool}{seen:bO}{j:Nat}
theorem qz{k:Int}{v:Cl}(h:kv[j]? =some (k,v))(hf:f v=true):bw kv f seen++[k]=bw kv f (seen++[j]):=by unfold bw;rw[List.filterMap_append];simp[h,hf]
theorem uP{k:Int}{v:Cl}(h:kv[j]? =some (k,v))(hf:f v=false):bw kv f seen=bw kv f (seen++[j]):=by unfold bw;rw[List.filterMap_append];simp[h,hf]
theorem yD(kv:bm Cl)(f:Cl→Bool)(seen:bO):(bw kv f seen).length≤seen.length:=List.length_filterMap_le _ _
theorem tW: ∀{n:Nat}{l:bO},l.Nodup→(∀j∈l,j<n)→l.length≤n
 |0,l,_,h=>by
  cases l with
  |nil=>simp
  |cons a l=>exact absurd (h a<|by simp)<|by omega
 |n+1,l,hn,h=>by
  have h1:=tW (n:=n) (l:=l.erase n) (hn.erase n) (fun j hj=>by have h2:=(hn.mem_erase_iff).1 hj;have:=h j h2.2;have:=h2.1;omega)
  rw[List.length_erase] at h1;split at h1<;>omega
def aX(kv:List (Int×Cl))(f:Cl→Bool):List Int:=gJ ((kv.filter fun p=>f p.2).map (·.1))
theorem GH{a b:bT}(h:a.Perm b):gJ a=gJ b:=by
 have tr: ∀a b c:Int,decide (a≤b)=true→decide (b≤c)=true→decide (a≤c)=true:=fun a b c h1 h2=>by simp only[decide_eq_true_eq] at*;omega
 have to: ∀a b:Int,(decide (a≤b)||decide (b≤a))=true:=fun a b=>by simp only[Bool.or_eq_true,decide_eq_true_eq];omega
 unfold gJ
 refine List.Perm.eq_of_pairwise (le:=fun a b:Int=>decide (a≤b)=true) (fun a b _ _ h1 h2=>?_) (List.pairwise_mergeSort tr to _) (List.pairwise_mergeSort tr to _)<|((List.mergeSort_perm _ _).trans h).trans (List.mergeSort_perm _ _).symm
 simp only[decide_eq_true_eq] at h1 h2;omega
theorem GI(f:Cl→Bool): ∀(kv:bm Cl),bw kv f (List.range kv.length)=(kv.filter fun p=>f p.2).map (·.1)
 |[]=>rfl
 |p::kv=>by
  have ih:=GI f kv
  unfold bw at ih⊢
  rw[List.length_cons,List.range_succ_eq_map,List.filterMap_cons,List.filterMap_map]
  have e:((fun j=>match(p::kv)[j]? with|some p=>if f p.2 then some p.1 else none|none=>none)∘Nat.succ)=fun j=>match kv[j]? with|some p=>if f p.2 then some p.1 else none|none=>none:=by
   funext j;simp
  rw[e,ih];simp only[List.getElem?_cons_zero,List.filter_cons]
  cases f p.2<;>simp
theorem sD(hn:seen.Nodup)(hb: ∀j∈seen,j<kv.length)(ha: ∀j,j<kv.length→j∈seen):gJ (bw kv f seen)=aX kv f:=by
 unfold aX;rw[←GI];refine GH ?_
 have hp:seen.Perm (List.range kv.length):=(List.perm_ext_iff_of_nodup hn List.nodup_range).2 fun j=>by rw[List.mem_range];exact⟨hb j,ha j⟩
 exact hp.filterMap _
theorem oP(l:bT):(gJ l).length=l.length:=by unfold gJ;simp
theorem jU{p:Int×Cl}(hn:seen.Nodup)(hb: ∀j∈seen,j<kv.length)(hj:kv[j]? =some p)(hs:j∉seen):(seen++[j]).Nodup∧(∀i∈seen++[j],i<kv.length)∧seen.length<kv.length:=by
 have hl:=(dT.1 hj).1
 have h1:(seen++[j]).Nodup:=List.nodup_append.2 ⟨hn,by simp,fun a ha b hb e=>by simp at hb;subst hb;subst e;exact hs ha⟩
 have h2: ∀i∈seen++[j],i<kv.length:=fun i hi=>by
  rcases List.mem_append.1 hi with hi|hi
  ·exact hb i hi
  ·simp at hi;omega
 have:=tW h1 h2
 exact⟨h1,h2,by simp at this;omega⟩
theorem P0:gJ []=[]:=by simp[gJ]
abbrev cU(b:Nat)(kv:bm Cl):V.aH:=bP (fun k:Int=>i_ k) (fun v_:Cl=>(.agg (ag v_).toArray)) b kv
open Go.RowKit Go.Maps Go.Sort Go.Shelf
def Tryz.sortA_ren:Go.Shelf.Ren:=⟨fun|5=>96|8=>140|7=>139|19=>192|20=>193|10=>183|11=>184|12=>185|13=>186|14=>187|15=>188|16=>189|17=>190|18=>191|30=>236|31=>237|32=>238|33=>239|34=>240|35=>241|40=>260|n=>n,fun|23=>65|25=>3|3=>3|32=>263|22=>65|0=>0|44=>312|46=>40|4=>4|36=>305|35=>304|41=>152|5=>5|9=>9|53=>348|57=>351|63=>371|64=>372|n=>n,fun|n=>n⟩
theorem Tryz.sortA:Go.Proofs.SlLaysM.n5 Tryz.prog Tryz.sortA_ren:={
 mixed:=by kernel_rfl,
 f5:=⟨Tryz.f96.name,by decide,Tryz.func96.trans<|congrArg some<|by kernel_rfl⟩,
 f7:=⟨Tryz.f139.name,by decide,Tryz.func139.trans<|congrArg some<|by kernel_rfl⟩,
 f8:=Tryz.func140.trans<|congrArg some<|by kernel_rfl,
 f10:=⟨Tryz.f183.name,by decide,Tryz.func183.trans<|congrArg some<|by kernel_rfl⟩,
 f11:=⟨Tryz.f184.name,by decide,Tryz.func184.trans<|congrArg some<|by kernel_rfl⟩,
 f12:=⟨Tryz.f185.name,by decide,Tryz.func185.trans<|congrArg some<|by kernel_rfl⟩,
 f13:=⟨Tryz.f186.name,by decide,Tryz.func186.trans<|congrArg some<|by kernel_rfl⟩,
 f14:=⟨Tryz.f187.name,by decide,Tryz.func187.trans<|congrArg some<|by kernel_rfl⟩,
 f15:=⟨Tryz.f188.name,by decide,Tryz.func188.trans<|congrArg some<|by kernel_rfl⟩,
 f16:=⟨Tryz.f189.name,by decide,Tryz.func189.trans<|congrArg some<|by kernel_rfl⟩,
 f17:=⟨Tryz.f190.name,by decide,Tryz.func190.trans<|congrArg some<|by kernel_rfl⟩,
 f18:=⟨Tryz.f191.name,by decide,Tryz.func191.trans<|congrArg some<|by kernel_rfl⟩,
 f19:=Tryz.func192.trans<|congrArg some<|by kernel_rfl,
 f20:=Tryz.func193.trans<|congrArg some<|by kernel_rfl,
 f30:=⟨Tryz.f236.name,by decide,Tryz.func236.trans<|congrArg some<|by kernel_rfl⟩,
 f31:=Tryz.func237.trans<|congrArg some<|by kernel_rfl,
 f32:=Tryz.func238.trans<|congrArg some<|by kernel_rfl,
 f33:=⟨Tryz.f239.name,by decide,Tryz.func239.trans<|congrArg some<|by kernel_rfl⟩,
 f34:=⟨Tryz.f240.name,by decide,Tryz.func240.trans<|congrArg some<|by kernel_rfl⟩,
 f35:=⟨Tryz.f241.name,by decide,Tryz.func241.trans<|congrArg some<|by kernel_rfl⟩,
 f40:=⟨Tryz.f260.name,by decide,Tryz.func260.trans<|congrArg some<|by kernel_rfl⟩,
 t0:=Tryz.underlying0,
 a0:=Tryz.isAgg0,
 z0:=Tryz.sizeOf0,
 v0:=Tryz.zeroValue0,
 t3:=Tryz.underlying3,
 a3:=Tryz.isAgg3,
 z3:=Tryz.sizeOf3,
 v3:=Tryz.zeroValue3,
 t4:=Tryz.underlying4,
 a4:=Tryz.isAgg4,
 z4:=Tryz.sizeOf4,
 v4:=Tryz.zeroValue4,
 t5:=Tryz.underlying5,
 a5:=Tryz.isAgg5,
 z5:=Tryz.sizeOf5,
 v5:=Tryz.zeroValue5,
 t9:=Tryz.underlying9,
 a9:=Tryz.isAgg9,
 z9:=Tryz.sizeOf9,
 v9:=Tryz.zeroValue9,
 t22:=Tryz.underlying65,
 a22:=Tryz.isAgg65,
 z22:=Tryz.sizeOf65,
 v22:=Tryz.zeroValue65,
 t23:=Tryz.underlying65,
 a23:=Tryz.isAgg65,
 z23:=Tryz.sizeOf65,
 v23:=Tryz.zeroValue65,
 t25:=Tryz.underlying3,
 a25:=Tryz.isAgg3,
 z25:=Tryz.sizeOf3,
 v25:=Tryz.zeroValue3,
 t32:=Tryz.underlying263,
 a32:=Tryz.isAgg263,
 z32:=Tryz.sizeOf263,
 v32:=Tryz.zeroValue263,
 t35:=Tryz.underlying304,
 a35:=Tryz.isAgg304,
 z35:=Tryz.sizeOf304,
 v35:=Tryz.zeroValue304,
 t36:=Tryz.underlying305,
 a36:=Tryz.isAgg305,
 z36:=Tryz.sizeOf305,
 v36:=Tryz.zeroValue305,
 t41:=Tryz.underlying152,
 a41:=Tryz.isAgg152,
 z41:=Tryz.sizeOf152,
 v41:=Tryz.zeroValue152,
 t44:=Tryz.underlying312,
 a44:=Tryz.isAgg312,
 z44:=Tryz.sizeOf312,
 v44:=Tryz.zeroValue312,
 t46:=Tryz.underlying40,
 a46:=Tryz.isAgg40,
 z46:=Tryz.sizeOf40,
 v46:=Tryz.zeroValue40,
 t53:=Tryz.underlying348,
 a53:=Tryz.isAgg348,
 z53:=Tryz.sizeOf348,
 v53:=Tryz.zeroValue348,
 t57:=Tryz.underlying351,
 a57:=Tryz.isAgg351,
 z57:=Tryz.sizeOf351,
 v57:=Tryz.zeroValue351,
 t63:=Tryz.underlying371,
 a63:=Tryz.isAgg371,
 z63:=Tryz.sizeOf371,
 v63:=Tryz.zeroValue371,
 t64:=Tryz.underlying372,
 a64:=Tryz.isAgg372,
 z64:=Tryz.sizeOf372,
 v64:=Tryz.zeroValue372}
theorem vK(A:bn)(l:bT)(c:Nat)(hl:l.length≤100000):
  CS 96 #[vS A l c] [sI A l c] (fun(zz:Unit)=>(.tuple #[])) (fun _=>True) fun _=>[sI A (gJ l) c]:=by
 intro w hs
 have h0:(sI A l c).holds w:=hs.all _<|by simp
 cases A with
 |none=>
  have hl0:l=[]:=by
   obtain⟨_,h2,_,⟨_,h4⟩|⟨_,_,_,h4,_⟩⟩:=h0
   ·exact List.eq_nil_of_length_eq_zero<|by omega
   ·cases h4
  subst hl0
  refine(AnyM.slices_Sort_int_none Tryz.sortA none c w).mono ?_
  rintro e w' ⟨rfl,rfl⟩
  refine⟨(),rfl,trivial,?_⟩
  rw[P0];exact Turn.of hs<|.refl _
 |some a=>
  obtain⟨g,off,rfl⟩: ∃g off,a=⟨g,off,none⟩:=by
   obtain⟨_,_,_,⟨h4,_⟩|⟨g,off,_,h4,_⟩⟩:=id h0
   ·cases h4
   ·cases h4;exact⟨g,off,rfl⟩
  obtain⟨hH,hlt⟩:=P9 (fun _=>rfl) h0
  refine(AnyM.slices_Sort_int Tryz.sortA g off c l w hH hlt<|by omega).mono ?_
  rintro e w' ⟨rfl,k,os,rfl⟩
  exact⟨(),rfl,trivial,OW (fun _=>rfl) (by simp[gJ]) h0⟩
end Go.Proofs.YtobgjpigngoggaaGreat
namespace Go.Proofs.YtobgjpigngoggaaGreat
open Go V
def gr(n a b:Int):Bool:=decide (n≥a)&&decide (n≤b)
def fC(y:Cl):Int:=
 if y.hi<1∨y.hi>65536∨y.hp<0∨y.hp>65536∨y.hi=y.hp then 1
 else if(aV y.ra y.rb y.rc)=0∨(aV y.la y.lb y.lc)=0∨(aV y.ua y.ub y.uc)=0∨(aV y.la y.lb y.lc)=4∨(aV y.ua y.ub y.uc)=4 then 21
 else if(aV y.ua y.ub y.uc)>1∧(aV y.la y.lb y.lc)=1 then 29
 else if y.hl=true then(if y.hk<1∨y.hk>64∨y.hq<1∨y.hq>1048576∨((aV y.ra y.rb y.rc)=1∧(aV y.la y.lb y.lc)=1) then 29 else 0)
 else if y.hk≠0∨y.hq≠0∨(aV y.ra y.rb y.rc)≠1 then 29 else 0
def qy(y:Cl):Int:=
 if y.hi<1∨y.hi>65536∨y.hp<0∨y.hp>65536∨y.hi=y.hp then 1
 else if(cR y.ra y.rb y.rc)=0∨(cR y.la y.lb y.lc)=0∨(cR y.ua y.ub y.uc)=0∨(cR y.la y.lb y.lc)=4∨(cR y.ua y.ub y.uc)=4 then 21
 else if(cR y.ua y.ub y.uc)>1∧(cR y.la y.lb y.lc)=1 then 29
 else if y.hl=true then(if y.hk<1∨y.hk>64∨y.hq<1∨y.hq>1048576∨((cR y.ra y.rb y.rc)=1∧(cR y.la y.lb y.lc)=1) then 29 else 0)
 else if y.hk≠0∨y.hq≠0∨(cR y.ra y.rb y.rc)≠1 then 29 else 0
theorem Bm(a b c:Int)(w:World):
  CW 130 #[.agg #[u_ a,u_ b,u_ c]] w (b_<|decide (aV a b c>1)):=by
 refine aU Tryz.func130 rfl (HS.nil w) (aC<|dD [.al] [] (fun b1=>[(1,p_ b1)]) (fun b1=>aA b1 [u_ a,u_ b,u_ c] 60) ?_)
 intro b1
 refine bW [.ld 0,.cq<|i_<|aV a b c] [(2,b_<|decide ((aV a b c)>1))] (o1<|qw<|qV a b c)<|aF<|bK [b_<|decide ((aV a b c)>1)] ?_
 rfl
abbrev CU(p0:Cl):=(b_ (decide (aV p0.ra p0.rb p0.rc>1)):Value)
theorem re(y:Cl)(w:World):
  CW 103 #[.agg (ag y).toArray] w (b_<|decide ((aV y.ra y.rb y.rc)>1)):=by
 refine aU Tryz.func103 rfl (HS.nil w) (aC<|dD [.al] [] (fun b1=>[(1,p_ b1)]) (fun b1=>aA b1 (ag y) 62) ?_)
 intro b1
 refine bW [.ld 0,.cq<|CU y] [(2,CU y)] (o1<|qw<|Bm y.ra y.rb y.rc)<|aF<|bK [CU y] ?_
 rfl
abbrev CX(p0:Cl):=(b_ (decide (aV p0.la p0.lb p0.lc>1)):Value)
theorem oL(y:Cl)(w:World):
  CW 90 #[.agg (ag y).toArray] w (b_<|decide ((aV y.la y.lb y.lc)>1)):=by
 refine aU Tryz.func90 rfl (HS.nil w) (aC<|dD [.al] [] (fun b1=>[(1,p_ b1)]) (fun b1=>aA b1 (ag y) 62) ?_)
 intro b1
 refine bW [.ld 0,.cq<|CX y] [(2,CX y)] (o1<|qw<|Bm y.la y.lb y.lc)<|aF<|bK [CX y] ?_
 rfl
abbrev CY(p0:Cl):=(b_ (decide (aV p0.ua p0.ub p0.uc>1)):Value)
theorem NS(y:Cl)(w:World):
  CW 224 #[.agg (ag y).toArray] w (b_<|decide ((aV y.ua y.ub y.uc)>1)):=by
 refine aU Tryz.func224 rfl (HS.nil w) (aC<|dD [.al] [] (fun b1=>[(1,p_ b1)]) (fun b1=>aA b1 (ag y) 62) ?_)
 intro b1
 refine bW [.ld 0,.cq<|CY y] [(2,CY y)] (o1<|qw<|Bm y.ua y.ub y.uc)<|aF<|bK [CY y] ?_
 rfl
theorem xd(n a b:Int)(w:World):
  CW 223 #[i_ n,i_ a,i_ b] w (b_<|gr n a b):=by
 refine aU Tryz.func223 rfl (HS.nil w) (aD []<|aC<|bF [.o,.cl] [(6,b_<|(decide (n≥a))&&(decide (n≤b)))]<|aF<|bK [b_<|(decide (n≥a))&&(decide (n≤b))] ?_)
 rfl
def aN(kv:List (Int×Cl))(k:Int):Cl:=(aB kv k).getD cG
def fA(kv:List (Int×Cl))(k:Int):Int:=if(aB kv k).isSome=true then 0 else 6
variable{kv:bm Cl}
theorem E0{k:Int}(h:fA kv k=0):aB kv k≠none:=by unfold fA at h;cases hm:aB kv k with|none=>simp[hm] at h|some v=>simp
theorem E1{k:Int}(h:fA kv k≠0):aB kv k=none:=by unfold fA at h;cases hm:aB kv k with|none=>rfl|some v=>simp[hm] at h
def iN(kv:List (Int×Cl))(k:Int):Bool:=k==0||decide ((aV (aN kv k).la (aN kv k).lb (aN kv k).lc)>1)
def fL(kv:List (Int×Cl))(ci:Int):Nat→Int
 |0=>ci
 |k+1=>(aN kv<|fL kv ci k).hp
def fX(kv:List (Int×Cl))(ci:Int)(k:Nat):List Int:=(List.range k).map (fL kv ci)
theorem Ha(kv:bm Cl)(ci:Int)(k:Nat):fX kv ci k++[fL kv ci k]=fX kv ci (k+1):=by unfold fX;rw[List.range_succ];simp
variable{k:Nat}
theorem KG{ci:Int}{d:Nat}(hd: ∀j,j<d→aB kv (fL kv ci j)≠none)(hk:k≤d)(h: ¬fA kv (fL kv ci k)=0):k=d:=by
 rcases Nat.lt_or_ge k d with h1|h1
 ·exact absurd (E1 h)<|hd k h1
 ·omega
theorem WW{ci:Int}{d:Nat}(he:aB kv (fL kv ci d)=none)(hk:k≤d)(h:fA kv (fL kv ci k)=0):k<d:=by
 rcases Nat.lt_or_ge k d with h1|h1
 ·exact h1
 ·have:k=d:=by omega
  subst this;exact absurd he<|E0 h
theorem CZ(kv:bm Cl)(ci:Int)(k:Nat):(fX kv ci k).length=k:=by simp[fX]
theorem sQ(bt mb:Nat)(kv:bm Cl)(ci:Int)(w:World)(r0:(aA bt [.map<|some mb] 185).holds w)(r1:(cU mb kv).holds w):
  CW 72 #[p_ bt,i_ ci] w (.tuple #[.agg (ag<|aN kv ci).toArray,i_<|fA kv ci]):=by
 refine aU Tryz.func72 rfl (HS.nil w) (aC<|dD [.al] [] (fun b1=>[(4,p_ b1)]) (fun b1=>aA b1 [i_ 0,i_ 0,b_ false,u_ 0,u_ 0,u_ 0,u_ 0,u_ 0,u_ 0,u_ 0,u_ 0,u_ 0,i_ 0,i_ 0] 62) ?_)
 intro b1
 refine aE<|aD [(9,b_ false)]<|bY<|aP<|aC<|dm 5 [.rd [.map<|some mb]] [(15,.map<|some mb),(16,i_ ci)] (o1<|ro ⟨bt,0,none⟩ (vs:=[.map<|some mb])<|cB r0 rfl)<|aG<|cC (some 17) _ (uq 3 62 ci cG (fun w s=>bV s r1) mS)<|dS [.al,.st 1] [] (fun b2=>[(6,p_ b2),(7,b_<|(aB kv ci).isSome)]) (fun b2=>[]) (fun b2=>aA b2 (ag<|(aB kv ci).getD cG) 62) ?_
 intro b2
 refine aE<|aD [(21,b_ (!((aB kv ci).isSome)))]<|aI rfl (fun e1=>?_) (fun e1=>?_)
 ·refine aC (bU [.st 0] [(5,i_ 6)] []<|aF<|oJ 0 [i_ 0,i_ 0,b_ false,u_ 0,u_ 0,u_ 0,u_ 0,u_ 0,u_ 0,u_ 0,u_ 0,u_ 0,i_ 0,i_ 0] (i_ 6) ?_)
  ((have hn_:aB kv ci=none:=by simp_all);simp[aN,fA,hn_];rfl)
 refine aP<|aC<|bU [.ld 1,.st 0] [(5,i_ 0)] [(0,aA b1 (ag<|(aB kv ci).getD cG) 62)]<|aF<|oJ 0 (ag<|(aB kv ci).getD cG) (i_ 0) ?_
 show((.tuple #[.agg (ag<|(aB kv ci).getD cG).toArray,i_ 0]):Value)=(.tuple #[.agg (ag<|aN kv ci).toArray,i_<|fA kv ci])
 ((simp_all[aN,fA];done))
theorem F4(bt mb:Nat)(kv:bm Cl)(ci:Int)(w:World)(r0:(aA bt [.map<|some mb] 185).holds w)(r1:(cU mb kv).holds w):
  CW 170 #[p_ bt,i_ ci] w (b_<|iN kv ci):=by
 refine aU Tryz.func170 rfl (HS.nil w) (aD []<|aC<|bA 3 [] [(7,b_<|ci==0)]<|iM (ci==0) (fun e1=>?_)<|fun e1=>?_)
 ·refine aW 7 (b_ true) (fM e1)<|bF [.sk,.sk,.sk,.sk,.sk,.sk,.sk] [(4,b_ true)]<|aF<|bK [b_ true] ?_
  show((b_ true):Value)=(b_<|iN kv ci)
  simp_all[iN,aN]
 refine aW 7 (b_ false) (fM e1)<|dm 5 [.rd [.map<|some mb]] [(11,.map<|some mb),(12,i_ ci)] (o1<|ro ⟨bt,0,none⟩ (vs:=[.map<|some mb])<|cB r0 rfl)<|aG<|cC (some 13) _ (qL 3 62 ci cG (fun w s=>bV s r1) mS)<|az [.cq<|b_<|decide ((aV ((aB kv ci).getD cG).la ((aB kv ci).getD cG).lb ((aB kv ci).getD cG).lc)>1)] [(4,b_<|decide ((aV ((aB kv ci).getD cG).la ((aB kv ci).getD cG).lb ((aB kv ci).getD cG).lc)>1))] (o1<|qw<|oL<|(aB kv ci).getD cG)<|aF<|bK [b_<|decide ((aV ((aB kv ci).getD cG).la ((aB kv ci).getD cG).lb ((aB kv ci).getD cG).lc)>1)] ?_
 show((b_<|decide ((aV ((aB kv ci).getD cG).la ((aB kv ci).getD cG).lb ((aB kv ci).getD cG).lc)>1)):Value)=(b_<|iN kv ci)
 simp_all[iN,aN]
theorem L2(bt mb:Nat)(kv:bm Cl)(ci:Int)(d:Nat)(hd: ∀j,j<d→aB kv (fL kv ci j)≠none)(he:aB kv (fL kv ci d)=none)(hd7:d≤1000)(w:World)(r0:(aA bt [.map<|some mb] 185).holds w)(r1:(cU mb kv).holds w)(hs:HI w []):
  CV 101 #[p_ bt,i_ ci] w [] (fun((al',cl'):(bn)×Nat)=>(vS al' (fX kv ci d) cl')) (fun _=>True) fun(al',cl')=>[sI al' (fX kv ci d) cl']:=by
 refine aU Tryz.func101 rfl hs (aD []<|aD [(5,e_)]<|aO<|gC 3 1 [sI none ([]:bT) 0] rfl (aW 1 (i_<|fL kv ci 0) (ko<|by rfl)<|bj 0 (sI none (fX kv ci 0) 0) rfl (cw (by rfl:([]:bT)=(fX kv ci 0))) (aW 5 (vS none (fX kv ci 0) 0) (congrArg (fun z_:bT=>some<|Value.slice none z_.length 0) (by rfl:([]:bT)=(fX kv ci 0)))<|eA (σ:=Nat×(bn)×Nat) [] (fun(k,ao,co)=>[(5,vS ao (fX kv ci k) co),(1,i_<|fL kv ci k)]) [0] (fun(k,ao,co)=>[sI ao (fX kv ci k) co]) (fun(k,ao,co)=>(k≤d)) (fun(k,ao,co)=>d+1-k) (0,none,0) (by omega) ?_ ?_)))
 ·exact bB [0]
 rintro⟨k,ao,co⟩ hk
 have hk:k≤d:=hk
 refine aO<|aC<|iE [.cq<|.tuple #[.agg (ag<|aN kv<|fL kv ci k).toArray,i_<|fA kv<|fL kv ci k],.al,.st 1] [] (fun b2=>[(6,p_ b2),(7,i_<|fA kv<|fL kv ci k)]) (fun b2=>[]) (fun b2=>aA b2 (ag<|aN kv<|fL kv ci k) 62) (fun b2=>o1<|qo<|fun w s=>sQ bt mb kv (fL kv ci k) w (bV s r0)<|bV s r1) ?_
 intro b2
 refine aE<|aD [(15,b_<|(fA kv<|fL kv ci k)!=0)]<|aI rfl (fun e1=>?_) (fun e1=>?_)
 ·have p1:=e1;try simp only[bQ] at p1
  refine aD [(4,vS ao (fX kv ci k) co)]<|aF<|bj 0 (sI ao (fX kv ci d) co) rfl (cw (by rw[KG hd hk ‹_›]:(fX kv ci k)=(fX kv ci d))) (bJ [0] [vS ao (fX kv ci k) co] (ao,co) ?_ ?_)
  ·show((vS ao (fX kv ci k) co):Value)=(vS ao (fX kv ci d) co)
   rw[KG hd hk ‹_›]
  trivial
 have p1:=e1;try simp only[bQ] at p1
 refine aP<|aC<|bA 2 [] [(17,vS ao (fX kv ci k) co),(18,i_<|fL kv ci k)]<|aG<|eB 19 (e:=3) [i_<|fL kv ci k] (by kernel_rfl) rfl (fun _=>by kernel_rfl) _ (fun _=>rfl) ?_
 intro b3
 refine aG<|gn i6 (fX kv ci k) ([fL kv ci k]) 0 20 (i_ 0) 8 dL jo (eV (i:=2) rfl) (by simp[CZ];omega) ?_
 intro A4 c4
 refine ak [(5,vS A4 ((fX kv ci k)++([fL kv ci k])) c4)]<|aM<|bF [.ld 1] [(1,i_<|(aN kv<|fL kv ci k).hp)]<|aW 1 (i_<|fL kv ci<|k+1) (ko<|by rfl)<|bj 0 (sI A4 (fX kv ci<|k+1) c4) rfl (cw (Ha _ _ _:(fX kv ci k)++([fL kv ci k])=(fX kv ci<|k+1))) (aW 5 (vS A4 (fX kv ci<|k+1) c4) (eW<|Ha _ _ _)<|bC (k+1,A4,c4) (WW he hk ‹_›) (by(show d+1-(k+1)<d+1-k;omega)) ?_)
 exact bB [0]
theorem PU(bt mb:Nat)(kv:bm Cl)(ci:Int)(d:Nat)(hd: ∀j,j<d→aB kv (fL kv ci j)≠none)(he:aB kv (fL kv ci d)=none)(hd7:d≤1000)(w:World)(r0:(aA bt [.map<|some mb] 185).holds w)(r1:(cU mb kv).holds w):
  CW 171 #[p_ bt,i_ ci] w (c_ d):=by
 refine aU Tryz.func171 rfl (HS.nil w) (aD []<|aC<|bA 2 [] [(5,p_ bt),(6,i_ ci)]<|aG<|dG (some 7) [] (fun w s h=>L2 bt mb kv ci d ‹_› ‹_› ‹_› w (bV s r0) (bV s r1) h) ?_)
 rintro⟨al'1,cl'2⟩-
 refine ak [(4,i_ ((fX kv ci d).length:Int))]<|aF<|bK [i_ ((fX kv ci d).length:Int)] ?_
 show((i_ ((fX kv ci d).length:Int)):Value)=(c_ d)
 rw[CZ]
abbrev Im(p0:Cl):=((30,.agg #[u_ p0.ra,u_ p0.rb,u_ p0.rc,u_ p0.la,u_ p0.lb,u_ p0.lc,u_ p0.ua,u_ p0.ub,u_ p0.uc]):Nat×Value)
abbrev vj(p0:Cl):=(b_ ((aV p0.la p0.lb p0.lc)==4):Value)
theorem GB(y:Cl)(w:World):
  CW 169 #[.agg (ag y).toArray] w (i_<|fC y):=by
 have q1:=vh y.ra y.rb y.rc;have q2:=vh y.la y.lb y.lc;have q3:=vh y.ua y.ub y.uc
 refine aU Tryz.func169 rfl (HS.nil w) (aC<|dD [.al] [0] (fun b1=>[(1,p_ b1)]) (fun b1=>aA b1 (ag y) 62) ?_)
 intro b1
 refine aE<|bW [.ld 0,.cq<|b_<|gr y.hi 1 65536,.p,.p,.o,.ld 0,.cq<|b_<|gr y.hp 0 65536,.p,.cl,.p,.o,.ld 0,.ld 0,.p,.cl] [(23,b_<|((!(gr y.hi 1 65536))||(!(gr y.hp 0 65536)))||(y.hp==y.hi))] (oc (qw<|xd y.hi 1 65536)<|o1<|go (true&&((!(gr y.hi 1 65536))==false)) fun h_=>(qw<|xd y.hp 0 65536))<|aI rfl (fun e1=>?_) (fun e1=>?_)
 ·refine aC<|dV [] [1,23] [(2,i_ 1)]<|aF<|bK [i_ 1] ?_
  refine congrArg (Value.int .i64) ?_;unfold fC;unfold gr at*;grind
 refine aP<|cS<|dV [.ld 0,.ld 0,.ld 0] [23] [(Im y),(31,i_ 0)]<|aO<|jm 400<|dK (m:=399)<|aD [(32,b_ true)]<|aE<|dX<|au<|aO<|aC<|dS [.al,.st 1] [32] (fun b2=>[(4,p_ b2),(3,i_ 0)]) (fun b2=>[]) (fun b2=>aA b2 [u_ y.ra,u_ y.rb,u_ y.rc] 60) ?_
 intro b2
 refine aC<|dm 4 [.ld 1,.cq<|b_<|aV y.ra y.rb y.rc !=0] [(38,b_ (!(aV y.ra y.rb y.rc !=0)))] (o1<|qw<|rY y.ra y.rb y.rc)<|iM (!(aV y.ra y.rb y.rc !=0)) (fun e2=>?_)<|fun e2=>?_
 ·refine aW 38 (b_ true) (fM e2)<|dV [.sk,.sk,.sk,.sk,.sk,.sk,.sk] [4,3,38] [(46,b_ true)]<|dX<|aC<|dV [] [1,30,31,46] [(2,i_ 21)]<|aF<|bK [i_ 21] ?_
  refine congrArg (Value.int .i64) ?_;unfold fC;unfold gr at*;grind
 refine aW 38 (b_ false) (fM e2)<|dV [.p,.p,.p,.sk,.sk,.sk] [4,3,38] [(39,i_ 0),(40,b_ false),(41,b_ false),(45,b_ false),(46,b_ false)]<|bY<|aP<|aM<|dV [] [46] [(31,i_ 1)]<|dK (m:=398)<|aD [(32,b_ true)]<|aE<|dX<|au<|aO<|aC<|dS [.al,.st 2] [32] (fun b3=>[(4,p_ b3),(3,i_ 1)]) (fun b3=>[]) (fun b3=>aA b3 [u_ y.la,u_ y.lb,u_ y.lc] 60) ?_
 intro b3
 refine aC<|dm 4 [.ld 2,.cq<|b_<|aV y.la y.lb y.lc !=0] [(38,b_ (!(aV y.la y.lb y.lc !=0)))] (o1<|qw<|rY y.la y.lb y.lc)<|iM (!(aV y.la y.lb y.lc !=0)) (fun e3=>?_)<|fun e3=>?_
 ·refine aW 38 (b_ true) (fM e3)<|dV [.sk,.sk,.sk,.sk,.sk,.sk,.sk] [39,40,41,45,4,3,38] [(46,b_ true)]<|dX<|aC<|dV [] [1,30,31,46] [(2,i_ 21)]<|aF<|bK [i_ 21] ?_
  refine congrArg (Value.int .i64) ?_;unfold fC;unfold gr at*;grind
 refine aW 38 (b_ false) (fM e3)<|kq [.ld 2,.cq<|i_<|aV y.la y.lb y.lc] [4,3,38] [(39,i_ 1),(40,b_ true),(41,b_ true),(45,vj y),(42,.agg #[u_ y.la,u_ y.lb,u_ y.lc]),(43,i_<|aV y.la y.lb y.lc),(44,vj y),(46,vj y)] (o1<|qw<|qV y.la y.lb y.lc)<|aI rfl (fun e4=>?_) (fun e4=>?_)
 ·refine aC<|dV [] [1,30,31,39,40,41,45,42,43,44,46] [(2,i_ 21)]<|aF<|bK [i_ 21] ?_
  refine congrArg (Value.int .i64) ?_;unfold fC;unfold gr at*;grind
 have p4:=e4
 refine aP<|aM<|dV [] [46] [(31,i_ 2)]<|dK (m:=397)<|aD [(32,b_ true)]<|aE<|dX<|au<|aO<|aC<|xM [.al,.st 3] (fun b4=>[(1,p_ b1),(Im y),(31,i_ 2),(39,i_ 1),(40,b_ true),(41,b_ true),(45,vj y),(42,.agg #[u_ y.la,u_ y.lb,u_ y.lc]),(43,i_<|aV y.la y.lb y.lc),(44,vj y),(4,p_ b4),(3,i_ 2)]) (fun _=>[]) (fun b4=>aA b4 [u_ y.ua,u_ y.ub,u_ y.uc] 60) ?_
 intro b4
 refine aC<|dm 4 [.ld 3,.cq<|b_<|aV y.ua y.ub y.uc !=0] [(38,b_ (!(aV y.ua y.ub y.uc !=0)))] (o1<|qw<|rY y.ua y.ub y.uc)<|iM (!(aV y.ua y.ub y.uc !=0)) (fun e5=>?_)<|fun e5=>?_
 ·refine aW 38 (b_ true) (fM e5)<|dV [.sk,.sk,.sk,.sk,.sk,.sk,.sk] [39,40,41,45,42,43,44,4,3,38] [(46,b_ true)]<|dX<|aD [(2,i_ 21)]<|aF<|bK [i_ 21] ?_
  refine congrArg (Value.int .i64) ?_;unfold fC;unfold gr at*;grind
 refine aW 38 (b_ false) (fM e5)<|az [.ld 3,.cq<|i_<|aV y.ua y.ub y.uc] [(39,i_ 2),(45,b_<|(aV y.ua y.ub y.uc)==4),(42,.agg #[u_ y.ua,u_ y.ub,u_ y.uc]),(43,i_<|aV y.ua y.ub y.uc),(44,b_<|(aV y.ua y.ub y.uc)==4),(46,b_<|(aV y.ua y.ub y.uc)==4)] (o1<|qw<|qV y.ua y.ub y.uc)<|aI rfl (fun e6=>?_) (fun e6=>?_)
 ·refine aD [(2,i_ 21)]<|aF<|bK [i_ 21] ?_
  refine congrArg (Value.int .i64) ?_;unfold fC;unfold gr at*;grind
 have p6:=e6
 refine aP<|bX [(31,i_ 3)]<|dK (m:=396)<|aD [(32,b_ false)]<|aE<|bY<|bR<|bW [.ld 0,.cq<|b_<|gr y.hk 1 64,.p,.o,.ld 0,.cq<|b_<|gr y.hq 1 1048576,.cl,.p,.o,.ld 0,.cq<|b_<|decide ((aV y.ra y.rb y.rc)>1),.p,.o,.ld 0,.cq<|b_<|decide ((aV y.la y.lb y.lc)>1),.cl,.cl] [(5,b_<|((gr y.hk 1 64)&&(gr y.hq 1 1048576))&&((decide ((aV y.ra y.rb y.rc)>1))||(decide ((aV y.la y.lb y.lc)>1))))] (oc (qw<|xd y.hk 1 64)<|oc (go (true&&((gr y.hk 1 64)==true)) fun h_=>(qw<|xd y.hq 1 1048576))<|oc (go (true&&(((gr y.hk 1 64)&&(gr y.hq 1 1048576))==true)) fun h_=>(qw<|re y))<|o1<|go ((true&&(((gr y.hk 1 64)&&(gr y.hq 1 1048576))==true))&&((decide ((aV y.ra y.rb y.rc)>1))==false)) fun h_=>(qw<|oL y))<|bW [.ld 0,.p,.p,.o,.ld 0,.p,.cl,.p,.o,.ld 0,.cq<|b_<|decide ((aV y.ra y.rb y.rc)>1),.p,.cl] [(6,b_<|((y.hk==0)&&(y.hq==0))&&(!(decide ((aV y.ra y.rb y.rc)>1))))] (o1<|go (true&&(((y.hk==0)&&(y.hq==0))==true)) fun h_=>(qw<|re y))<|aE<|bW [.ld 0,.p,.o,.p,.p,.cl,.p,.o,.ld 0,.p,.p,.o,.p,.p,.cl,.cl,.p,.o,.ld 0,.cq<|b_<|decide ((aV y.ua y.ub y.uc)>1),.p,.o,.ld 0,.cq<|b_<|decide ((aV y.la y.lb y.lc)>1),.p,.cl,.cl] [(100,b_<|((y.hl&&(!(((gr y.hk 1 64)&&(gr y.hq 1 1048576))&&((decide ((aV y.ra y.rb y.rc)>1))||(decide ((aV y.la y.lb y.lc)>1))))))||((!y.hl)&&(!(((y.hk==0)&&(y.hq==0))&&(!(decide ((aV y.ra y.rb y.rc)>1)))))))||((decide ((aV y.ua y.ub y.uc)>1))&&(!(decide ((aV y.la y.lb y.lc)>1)))))] (oc (go (true&&(((y.hl&&(!(((gr y.hk 1 64)&&(gr y.hq 1 1048576))&&((decide ((aV y.ra y.rb y.rc)>1))||(decide ((aV y.la y.lb y.lc)>1))))))||((!y.hl)&&(!(((y.hk==0)&&(y.hq==0))&&(!(decide ((aV y.ra y.rb y.rc)>1)))))))==false)) fun h_=>(qw<|NS y))<|o1<|go ((true&&(((y.hl&&(!(((gr y.hk 1 64)&&(gr y.hq 1 1048576))&&((decide ((aV y.ra y.rb y.rc)>1))||(decide ((aV y.la y.lb y.lc)>1))))))||((!y.hl)&&(!(((y.hk==0)&&(y.hq==0))&&(!(decide ((aV y.ra y.rb y.rc)>1)))))))==false))&&((decide ((aV y.ua y.ub y.uc)>1))==true)) fun h_=>(qw<|oL y))<|aI rfl (fun e7=>?_) (fun e7=>?_)
 ·refine aD [(2,i_ 29)]<|aF<|bK [i_ 29] ?_
  refine congrArg (Value.int .i64) ?_;unfold fC;unfold gr at*;grind
 refine aP<|aD [(2,i_ 0)]<|aF<|bK [i_ 0] ?_
 refine congrArg (Value.int .i64) ?_;unfold fC;unfold gr at*;grind
def ei(kv:List (Int×Cl)):Nat→Int→Nat
 |0,_=>0
 |n+1,k=>if(aB kv k).isSome then ei kv n (aN kv k).hp+1 else 0
def dep(kv:List (Int×Cl))(k:Int):Nat:=ei kv 17 k
theorem tV(kv:bm Cl)(k:Int): ∀j,fL kv k (j+1)=fL kv (aN kv k).hp j
 |0=>rfl
 |j+1=>by show(aN kv<|fL kv k<|j+1).hp=(aN kv<|fL kv (aN kv k).hp j).hp;rw[tV kv k j]
theorem Ip(kv:bm Cl): ∀(n:Nat)(k:Int)(j:Nat),j<ei kv n k→aB kv (fL kv k j)≠none
 |0,k,j,h=>by simp[ei] at h
 |n+1,k,j,h=>by
  unfold ei at h
  split at h
  ·rename_i hs
   cases j with
   |zero=>intro e;simp only[fL] at e;rw[e] at hs;cases hs
   |succ j=>rw[tV];exact Ip kv n _ j<|by omega
  ·omega
theorem Hg(kv:bm Cl): ∀(n:Nat)(k:Int),ei kv n k<n→aB kv (fL kv k<|ei kv n k)=none
 |0,k,h=>by omega
 |n+1,k,h=>by
  unfold ei at h⊢
  split
  ·rename_i hs;rw[if_pos hs] at h;rw[tV];exact Hg kv n _<|by omega
  ·rename_i hs;simpa[fL] using hs
def HOk(kv:List (Int×Cl)):Prop:= ∀k,dep kv k≤16
theorem HOk.lt(h:HOk kv)(k:Int):(∀j,j<dep kv k→aB kv (fL kv k j)≠none)∧aB kv (fL kv k<|dep kv k)=none∧dep kv k≤1000:=
 ⟨fun j=>Ip kv 17 k j,Hg kv 17 k (by have:=h k;unfold dep at this;omega),by have:=h k;omega⟩
def i4(kv:List (Int×Cl))(y:Cl):Int:=
 if fC y≠0 then fC y else if(aB kv y.hi).isSome=true then 8 else if(kv.length:Int)=64 then 5
 else if(y.hp≠0∧(aB kv y.hp).isSome=false)∨(aN kv y.hp).hl=true then 23
 else if(aV y.la y.lb y.lc)>1∧iN kv y.hp=false then 29 else if(dep kv y.hp:Int)=16 then 25 else 0
def mI(kv:List (Int×Cl))(y:Cl):List (Int×Cl):=if i4 kv y=0 then aK kv y.hi y else kv
abbrev qX(p0)(p1):=(aA p0 [.map<|some p1] 185:V.aH)
theorem xe:
  CS 59 #[] [] (fun((bt,mb):Nat×Nat)=>(p_ bt)) (fun _=>True) fun(bt,mb)=>[qX bt mb,cU mb ([]:bm Cl)]:=by
 intro w hs
 refine aU Tryz.func59 rfl hs (aD []<|aC<|aG<|mw (fun k:Int=>i_ k) (fun v_:Cl=>(.agg (ag v_).toArray)) 1 (by kernel_rfl) rfl (fun m1=>[cU m1 ([]:bm Cl)]) (fun _=>rfl) ?_)
 intro m1
 refine dS [.al] [] (fun b2=>[(0,p_ b2)]) (fun _=>[]) (fun b2=>qX b2 m1) ?_
 intro b2
 refine aF<|bJ [1,0] [p_ b2] (b2,m1) ?_ ?_
 ·rfl
 trivial
abbrev Iq(p0):=(aA p0 [i_ 0,i_ 0,b_ false,u_ 0,u_ 0,u_ 0,u_ 0,u_ 0,u_ 0,u_ 0,u_ 0,u_ 0,i_ 0,i_ 0] 62:V.aH)
theorem UJ(bt mb:Nat)(kv:bm Cl)(y:Cl)(hO:HOk kv)(hl:kv.length≤64):
  CS 132 #[p_ bt,.agg (ag y).toArray] [qX bt mb,cU mb kv] (fun(kv':(bm Cl))=>(i_<|i4 kv y)) (fun kv'=>kv'=mI kv y) fun kv'=>[qX bt mb,cU mb kv']:=by
 intro w hs
 obtain⟨hd,he,hd7⟩:=hO.lt y.hp;have hwr:fC y≠0→i4 kv y=fC y:=fun h=>by unfold i4;rw[if_pos h]
 refine aU Tryz.func132 rfl hs (aC<|dD [.al] [] (fun b1=>[(3,p_ b1)]) (fun b1=>aA b1 (ag y) 62) ?_)
 intro b1
 refine aE<|aD [(11,b_ false)]<|bY<|au<|bW [.ld 2,.cq<|i_<|fC y] [(5,i_<|fC y)] (o1<|qw<|GB y)<|aD [(15,b_<|(fC y)!=0)]<|aI rfl (fun e1=>?_) (fun e1=>?_)
 ·refine aD [(4,i_<|fC y)]<|aF<|bJ [0,0] [i_<|fC y] (kv) ?_ ?_
  ·refine congrArg (Value.int .i64) ?_;unfold i4;cases hm_:aB kv y.hp<;>(simp_all[aN];done)
  unfold mI i4;cases hm_:aB kv y.hp<;>(simp_all[aN];done)
 refine au<|j6 [10,11] 13 [qX bt mb,cU mb kv,aA b1 (ag y) 62]<|gq 7 [.ld 0,.ld 2] (rg 0 6) [(0,p_ bt),(3,p_ b1),(21,.map<|some mb),(23,i_ y.hi)] (.refl _)<|FT 6 (some 24) (.tuple #[.agg (ag<|(aB kv y.hi).getD cG).toArray,b_<|(aB kv y.hi).isSome]) rfl (by kernel_rfl) (by kernel_rfl) (.refl _) (oM (kt:=3) (et:=62) (enck:=(fun k:Int=>i_ k)) (encv:=(fun v_:Cl=>(.agg (ag v_).toArray))) (b:=mb) (kv:=kv) (k:=y.hi) (d0:=cG) (fun w s=>s.mem (i:=1) rfl) rfl rfl rfl (by kernel_rfl) mS (by kernel_rfl) rfl) (gq 3 [] [7,8,9] [(0,p_ bt),(3,p_ b1),(25,.agg (ag<|(aB kv y.hi).getD cG).toArray),(26,b_<|(aB kv y.hi).isSome)] (.refl _)<|fk 10 rfl (mL 6 [i_ 0,i_ 0,b_ false,u_ 0,u_ 0,u_ 0,u_ 0,u_ 0,u_ 0,u_ 0,u_ 0,u_ 0,i_ 0,i_ 0] (by kernel_rfl) rfl (by kernel_rfl) (fun b2=>[qX bt mb,cU mb kv,aA b1 (ag y) 62,Iq b2]) (fun _=>rfl) ?_))
 intro b2
 refine ff (sd [3])<|fk 11 rfl (dN 3 (ag<|(aB kv y.hi).getD cG) rfl (ff (sd [3])<|gq 0 [] [12] [(0,p_ bt),(3,p_ b1),(7,b_<|(aB kv y.hi).isSome)] (sd [3])<|jP<|aE<|j6 [10,11] 13 [qX bt mb,cU mb kv,aA b1 (ag y) 62,aA b2 (ag<|(aB kv y.hi).getD cG) 62]<|gq 7 [.ld 0,.ld 2] (rg 0 6) [(0,p_ bt),(3,p_ b1),(7,b_<|(aB kv y.hi).isSome),(31,.map<|some mb),(33,i_ y.hp)] (.refl _)<|FT 6 (some 34) (.tuple #[.agg (ag<|(aB kv y.hp).getD cG).toArray,b_<|(aB kv y.hp).isSome]) rfl (by kernel_rfl) (by kernel_rfl) (.refl _) (oM (kt:=3) (et:=62) (enck:=(fun k:Int=>i_ k)) (encv:=(fun v_:Cl=>(.agg (ag v_).toArray))) (b:=mb) (kv:=kv) (k:=y.hp) (d0:=cG) (fun w s=>s.mem (i:=1) rfl) rfl rfl rfl (by kernel_rfl) mS (by kernel_rfl) rfl) (gq 3 [] [7,8,9] [(0,p_ bt),(3,p_ b1),(7,b_<|(aB kv y.hi).isSome),(35,.agg (ag<|(aB kv y.hp).getD cG).toArray),(36,b_<|(aB kv y.hp).isSome)] (.refl _)<|fk 10 rfl (mL 8 [i_ 0,i_ 0,b_ false,u_ 0,u_ 0,u_ 0,u_ 0,u_ 0,u_ 0,u_ 0,u_ 0,u_ 0,i_ 0,i_ 0] (by kernel_rfl) rfl (by kernel_rfl) (fun b3=>[qX bt mb,cU mb kv,aA b1 (ag y) 62,aA b2 (ag<|(aB kv y.hi).getD cG) 62,Iq b3]) (fun _=>rfl) ?_))))
 intro b3
 refine ff (sd [4])<|fk 11 rfl (dN 4 (ag<|(aB kv y.hp).getD cG) rfl (ff (sd [4])<|gq 0 [] [12] [(0,p_ bt),(3,p_ b1),(7,b_<|(aB kv y.hi).isSome),(8,p_ b3),(9,b_<|(aB kv y.hp).isSome)] (sd [4])<|jP<|aE<|aO<|aD [(37,b_<|(aB kv y.hi).isSome)]<|aI rfl (fun e2=>?_) (fun e2=>?_)))
 ·refine aD [(4,i_ 8)]<|aF<|bJ [0,0] [i_ 8] (kv) ?_ ?_
  ·refine congrArg (Value.int .i64) ?_;unfold i4;cases hm_:aB kv y.hp<;>(simp_all[aN];done)
  unfold mI i4;cases hm_:aB kv y.hp<;>(simp_all[aN];done)
 refine aC<|bA 4 [.ld 0] [(43,.map<|some mb)]<|aG<|cC (some 44) (c_ kv.length) (tR (kt:=3) (et:=62) (enck:=(fun k:Int=>i_ k)) (encv:=(fun v_:Cl=>(.agg (ag v_).toArray))) (b:=mb) (kv:=kv) (qM 1 rfl) rfl rfl (by kernel_rfl))<|ak [(39,b_<|(kv.length:Int)==64)]<|aI rfl (fun e3=>?_) (fun e3=>?_)
 ·refine aD [(4,i_ 5)]<|aF<|bJ [0,0] [i_ 5] (kv) ?_ ?_
  ·refine congrArg (Value.int .i64) ?_;unfold i4;cases hm_:aB kv y.hp<;>(simp_all[aN];done)
  unfold mI i4;cases hm_:aB kv y.hp<;>(simp_all[aN];done)
 refine aC<|bF [.ld 2,.o,.cl,.o,.ld 4,.cl] [(46,b_<|((y.hp !=0)&&(!((aB kv y.hp).isSome)))||(((aB kv y.hp).getD cG).hl))]<|aI rfl (fun e4=>?_) (fun e4=>?_)
 ·refine aD [(4,i_ 23)]<|aF<|bJ [0,0] [i_ 23] (kv) ?_ ?_
  ·refine congrArg (Value.int .i64) ?_;unfold i4;cases hm_:aB kv y.hp<;>(simp_all[aN];done)
  unfold mI i4;cases hm_:aB kv y.hp<;>(simp_all[aN];done)
 refine bW [.ld 2,.cq<|b_<|decide ((aV y.la y.lb y.lc)>1),.o,.ld 2,.cq<|b_<|iN kv y.hp,.cl] [(58,b_<|(decide ((aV y.la y.lb y.lc)>1))&&(!(iN kv y.hp)))] (oc (qw<|oL y)<|o1<|go (true&&((decide ((aV y.la y.lb y.lc)>1))==true)) fun h_=>(qo<|fun w s=>F4 bt mb kv y.hp w (s.mem (i:=0) rfl)<|s.mem (i:=1) rfl))<|aI rfl (fun e5=>?_) (fun e5=>?_)
 ·refine aD [(4,i_ 29)]<|aF<|bJ [0,0] [i_ 29] (kv) ?_ ?_
  ·refine congrArg (Value.int .i64) ?_;unfold i4;cases hm_:aB kv y.hp<;>(simp_all[aN];done)
  unfold mI i4;cases hm_:aB kv y.hp<;>(simp_all[aN];done)
 refine bW [.ld 2,.cq<|c_<|dep kv y.hp] [(68,b_<|((dep kv y.hp):Int)==16)] (o1<|qo<|fun w s=>PU bt mb kv y.hp (dep kv y.hp) ‹_› ‹_› ‹_› w (s.mem (i:=0) rfl) (s.mem (i:=1) rfl))<|aI rfl (fun e6=>?_) (fun e6=>?_)
 ·refine aD [(4,i_ 25)]<|aF<|bJ [0,0] [i_ 25] (kv) ?_ ?_
  ·refine congrArg (Value.int .i64) ?_;unfold i4;cases hm_:aB kv y.hp<;>(simp_all[aN];done)
  unfold mI i4;cases hm_:aB kv y.hp<;>grind[aN]
 refine aP<|aE<|bL [7] 8<|cL 1 [.ld 0,.ld 2,.ld 2] (rg 0 7) [(77,.map<|some mb),(79,i_ y.hi),(80,.agg (ag y).toArray)]<|an 7 rfl (gB 3 62 1 y.hi y rfl mS (cD<|dj<|aD [(4,i_ 0)]<|aF<|bJ [0,0] [i_ 0] (aK kv y.hi y) ?_ ?_))
 ·refine congrArg (Value.int .i64) ?_;unfold i4;cases hm_:aB kv y.hp<;>(simp_all[aN];done)
 unfold mI i4;cases hm_:aB kv y.hp<;>(simp_all[aN];done)
def AQ(y:Cl):Cv:=⟨y.ra,y.rb,y.rc⟩
def il(kv:List (Int×Cl))(k:Nat):List Cv:=((aX kv<|fun v_=>decide ((aV v_.ra v_.rb v_.rc)>1)).take k).map fun i=>AQ<|(aB kv i).getD cG
def im(kv:List (Int×Cl)):List Cv:=(aX kv<|fun v_=>decide ((aV v_.ra v_.rb v_.rc)>1)).map fun i=>AQ<|(aB kv i).getD cG
variable{i:Int}
theorem Fa(h:(aX kv<|fun v_=>decide ((aV v_.ra v_.rb v_.rc)>1))[k]? =some i):il kv k++[(⟨((aB kv i).getD cG).ra,((aB kv i).getD cG).rb,((aB kv i).getD cG).rc⟩:Cv)]=il kv (k+1):=by
 unfold il;rw[List.take_add_one,h];simp[AQ]
theorem GF(h:(aX kv<|fun v_=>decide ((aV v_.ra v_.rb v_.rc)>1)).length≤k):il kv k=im kv:=by unfold il im;rw[List.take_of_length_le h]
theorem Nh(kv:bm Cl)(k:Nat):(il kv k).length≤k:=by unfold il;simp;omega
theorem pH(kv:bm Cl)(f:Cl→Bool):(aX kv f).length≤kv.length:=by
 unfold aX;rw[oP,List.length_map];exact List.length_filter_le _ _
abbrev vk:=((1,.func (.func 129) #[] #[]):Nat×Value)
abbrev tg(p0):=((.agg (ag p0).toArray):Value)
abbrev qW(p0):=(.agg (ag p0).toArray:Value)
abbrev nF(p0)(p1)(p2)(p3):=(vS p0 (bw p1 (fun v_=>true) p2) p3:Value)
theorem D9(bt mb:Nat)(kv:bm Cl)(hl:kv.length≤1000)(w:World)(r0:(aA bt [.map<|some mb] 185).holds w)(r1:(cU mb kv).holds w)(hs:HI w []):
  CV 89 #[p_ bt] w [] (fun((al',cl'):(bn)×Nat)=>(vS al' (aX kv<|fun v_=>true) cl')) (fun _=>True) fun(al',cl')=>[sI al' (aX kv<|fun v_=>true) cl']:=by
 refine aU Tryz.func89 rfl hs (aD []<|aC<|cP [.p] [(3,p_ bt)]<|aG<|dx (some 4) [p_ bt,.func (.func 129) #[] #[]] Tryz.func128 rfl (aD []<|aE<|aD [(9,b_ false)]<|bY<|aP<|aD [(5,e_)]<|cS<|dm 4 [.rd [.map<|some mb]] [(13,.map<|some mb)] (o1<|ro ⟨bt,0,none⟩ (vs:=[.map<|some mb])<|cB r0 rfl) ?_))
 obtain⟨⟨es1,cl1,hhp1,hEn1,hbo1,hnd1⟩,hkn1⟩:=id r1
 refine aG<|Ag (kt:=3) (et:=62) (es:=es1) (clock:=cl1) 14 (by kernel_rfl) rfl rfl (by kernel_rfl) (fun w s=>nE s hhp1<|by simp[aL]) (fun b2=>[gK b2 mb es1 cl1 ([]:bO)]) (fun _=>rfl) ?_
 intro b2
 refine dP<|aO<|gC 3 1 [gK b2 mb es1 cl1 ([]:bO),sI none ([]:bT) 0] rfl (bj 1 (sI none (bw kv (fun v_=>true) ([]:bO)) 0) rfl (cw (by rfl:([]:bT)=(bw kv (fun v_=>true) ([]:bO)))) (fE [vk,(5,vS none (bw kv (fun v_=>true) ([]:bO)) 0),(13,.map<|some mb),(14,p_ b2)] ⟨rfl,congrArg (fun z_:bT=>some<|Value.slice none z_.length 0) (by rfl:([]:bT)=(bw kv (fun v_=>true) ([]:bO))),rfl,rfl,trivial⟩<|eA (σ:=(bO)×(bn)×Nat) [13] (fun(seen,ao,co)=>[(5,nF ao kv seen co)]) [0,0] (fun(seen,ao,co)=>[gK b2 mb es1 cl1 seen,sI ao (bw kv (fun v_=>true) seen) co]) (fun(seen,ao,co)=>seen.Nodup∧(∀j∈seen,j<kv.length)) (fun(seen,ao,co)=>kv.length-seen.length) (([]:bO),none,0) ⟨(by simp),(by simp)⟩ ?_ ?_))
 ·exact bB [0,0]
 rintro⟨seen,ao,co⟩ ⟨hn,hb⟩
 have hsl:=tW hn hb;have hsk:=yD kv (fun v_=>true) seen
 refine aC<|aG<|Ah (enck:=(fun k:Int=>i_ k)) (encv:=(fun v_:Cl=>(tg v_))) (kv:=kv) 0 15 (by kernel_rfl) rfl rfl rfl (fun w s=>nE s hhp1<|by simp[aL]) hEn1 hbo1 hnd1 ‹_› (fun j4=>[gK b2 mb es1 cl1<|seen++[j4],sI ao (bw kv (fun v_=>true) seen) co]) (fun _=>rfl) (fun hall4=>?_) (fun j4 mk4 mv4 hj4 hn4=>?_)
 ·refine dQ [] [vk,(14,p_ b2),(5,nF ao kv seen co),(16,b_ false)]<|aE<|bY<|bR<|aC<|cP [.p] [(27,nF ao kv seen co)]<|aG<|bM (some 28) [1] (vK ao (bw kv (fun v_=>true) seen) co<|by omega) ?_
  rintro⟨⟩-
  refine dP<|aD [(4,nF ao kv seen co)]<|aF<|dO [nF ao kv seen co]<|ak [(2,nF ao kv seen co)]<|aF<|bj 0 (sI ao (aX kv<|fun v_=>true) co) rfl (cw (sD hn hb ‹_›:(gJ<|bw kv (fun v_=>true) seen)=(aX kv<|fun v_=>true))) (bJ [0] [nF ao kv seen co] (ao,co) ?_ ?_)
  ·show((nF ao kv seen co):Value)=(vS ao (aX kv<|fun v_=>true) co)
   rw[←sD (f:=fun v_=>true) hn hb ‹_›];unfold vS;rw[oP]
  trivial
 refine dQ [] [vk,(14,p_ b2),(5,nF ao kv seen co),(16,b_ true)]<|aE<|dX<|aP<|aO<|aC<|aG<|cC (some 17) (.tuple #[i_ mk4,qW mv4]) (yJ (enck:=(fun k:Int=>i_ k)) (encv:=(fun v_:Cl=>(tg v_))) (kv:=kv) (k:=mk4) (v:=mv4) 0 j4 rfl rfl rfl (fun w s=>nE s hhp1<|by simp[aL]) hEn1 hnd1 hj4)<|xM [.al,.st 2] (fun b5=>[vk,(14,p_ b2),(5,nF ao kv seen co),(7,p_ b5),(6,i_ mk4)]) (fun _=>[]) (fun b5=>aA b5 (ag mv4) 62) ?_
 intro b5
 refine aC<|bA 2 [.ld 2] [(20,.func (.func 129) #[] #[]),(21,qW mv4)]<|aG<|dx (some 22) [qW mv4] Tryz.func129 rfl (aC<|dD [.al] [] (fun b6=>[]) (fun b6=>aA b6 (ag mv4) 62) ?_)
 intro b6
 refine aD [(2,b_ true)]<|aF<|dO [b_ true]<|jB [gK b2 mb es1 cl1<|seen++[j4],sI ao (bw kv (fun v_=>true) seen) co] (sd [3,2])<|dP<|dX<|aM<|j0 [.p,.p] [vk,(14,p_ b2),(5,nF ao kv seen co),(23,nF ao kv seen co),(24,i_ mk4)]<|aG<|eB 25 (e:=3) [i_ mk4] (by kernel_rfl) rfl (fun _=>by kernel_rfl) _ (fun _=>rfl) ?_
 intro b7
 refine aG<|gn i6 (bw kv (fun v_=>true) seen) ([mk4]) 1 26 (i_ 0) 8 dL jo (eV (i:=2) rfl) (by simp;omega) ?_
 intro A8 c8
 refine ak [(5,vS A8 ((bw kv (fun v_=>true) seen)++([mk4])) c8)]<|(bj 1 (sI A8 (bw kv (fun v_=>true)<|seen++[j4]) c8) rfl (cw (qz ‹_› (by rfl):(bw kv (fun v_=>true) seen)++([mk4])=(bw kv (fun v_=>true)<|seen++[j4]))) (aW 5 (vS A8 (bw kv (fun v_=>true)<|seen++[j4]) c8) (eW<|qz ‹_› (by rfl))<|bC ((seen++[j4]),A8,c8) ⟨((jU hn hb ‹_› ‹_›).1),((jU hn hb ‹_› ‹_›).2.1)⟩ (by((have h_:=(jU hn hb ‹_› ‹_›).2.2);simp;omega)) ?_))
 exact bB [0,0]
abbrev tj:=((1,.func (.func 142) #[] #[]):Nat×Value)
theorem ON(bt mb:Nat)(kv:bm Cl)(hl:kv.length≤1000)(w:World)(r0:(aA bt [.map<|some mb] 185).holds w)(r1:(cU mb kv).holds w)(hs:HI w []):
  CV 105 #[p_ bt] w [] (fun((al',cl'):(bn)×Nat)=>(vS al' (aX kv<|fun v_=>v_.hl) cl')) (fun _=>True) fun(al',cl')=>[sI al' (aX kv<|fun v_=>v_.hl) cl']:=by
 refine aU Tryz.func105 rfl hs (aD []<|aC<|cP [.p] [(3,p_ bt)]<|aG<|dx (some 4) [p_ bt,.func (.func 142) #[] #[]] Tryz.func128 rfl (aD []<|aE<|aD [(9,b_ false)]<|bY<|aP<|aD [(5,e_)]<|cS<|dm 4 [.rd [.map<|some mb]] [(13,.map<|some mb)] (o1<|ro ⟨bt,0,none⟩ (vs:=[.map<|some mb])<|cB r0 rfl) ?_))
 obtain⟨⟨es1,cl1,hhp1,hEn1,hbo1,hnd1⟩,hkn1⟩:=id r1
 refine aG<|Ag (kt:=3) (et:=62) (es:=es1) (clock:=cl1) 14 (by kernel_rfl) rfl rfl (by kernel_rfl) (fun w s=>nE s hhp1<|by simp[aL]) (fun b2=>[gK b2 mb es1 cl1 ([]:bO)]) (fun _=>rfl) ?_
 intro b2
 refine dP<|aO<|gC 3 1 [gK b2 mb es1 cl1 ([]:bO),sI none ([]:bT) 0] rfl (bj 1 (sI none (bw kv (fun v_=>v_.hl) ([]:bO)) 0) rfl (cw (by rfl:([]:bT)=(bw kv (fun v_=>v_.hl) ([]:bO)))) (fE [tj,(5,vS none (bw kv (fun v_=>v_.hl) ([]:bO)) 0),(13,.map<|some mb),(14,p_ b2)] ⟨rfl,congrArg (fun z_:bT=>some<|Value.slice none z_.length 0) (by rfl:([]:bT)=(bw kv (fun v_=>v_.hl) ([]:bO))),rfl,rfl,trivial⟩<|eA (σ:=(bO)×(bn)×Nat) [13] (fun(seen,ao,co)=>[(5,vS ao (bw kv (fun v_=>v_.hl) seen) co)]) [0,0] (fun(seen,ao,co)=>[gK b2 mb es1 cl1 seen,sI ao (bw kv (fun v_=>v_.hl) seen) co]) (fun(seen,ao,co)=>seen.Nodup∧(∀j∈seen,j<kv.length)) (fun(seen,ao,co)=>kv.length-seen.length) (([]:bO),none,0) ⟨(by simp),(by simp)⟩ ?_ ?_))
 ·exact bB [0,0]
 rintro⟨seen,ao,co⟩ ⟨hn,hb⟩
 have hsl:=tW hn hb;have hsk:=yD kv (fun v_=>v_.hl) seen
 refine aC<|aG<|Ah (enck:=(fun k:Int=>i_ k)) (encv:=(fun v_:Cl=>(tg v_))) (kv:=kv) 0 15 (by kernel_rfl) rfl rfl rfl (fun w s=>nE s hhp1<|by simp[aL]) hEn1 hbo1 hnd1 ‹_› (fun j4=>[gK b2 mb es1 cl1<|seen++[j4],sI ao (bw kv (fun v_=>v_.hl) seen) co]) (fun _=>rfl) (fun hall4=>?_) (fun j4 mk4 mv4 hj4 hn4=>?_)
 ·refine dQ [] [tj,(14,p_ b2),(5,vS ao (bw kv (fun v_=>v_.hl) seen) co),(16,b_ false)]<|aE<|bY<|bR<|aC<|cP [.p] [(27,vS ao (bw kv (fun v_=>v_.hl) seen) co)]<|aG<|bM (some 28) [1] (vK ao (bw kv (fun v_=>v_.hl) seen) co<|by omega) ?_
  rintro⟨⟩-
  refine dP<|aD [(4,vS ao (bw kv (fun v_=>v_.hl) seen) co)]<|aF<|dO [vS ao (bw kv (fun v_=>v_.hl) seen) co]<|ak [(2,vS ao (bw kv (fun v_=>v_.hl) seen) co)]<|aF<|bj 0 (sI ao (aX kv<|fun v_=>v_.hl) co) rfl (cw (sD hn hb ‹_›:(gJ<|bw kv (fun v_=>v_.hl) seen)=(aX kv<|fun v_=>v_.hl))) (bJ [0] [vS ao (bw kv (fun v_=>v_.hl) seen) co] (ao,co) ?_ ?_)
  ·show((vS ao (bw kv (fun v_=>v_.hl) seen) co):Value)=(vS ao (aX kv<|fun v_=>v_.hl) co)
   rw[←sD (f:=fun v_=>v_.hl) hn hb ‹_›];unfold vS;rw[oP]
  trivial
 refine dQ [] [tj,(14,p_ b2),(5,vS ao (bw kv (fun v_=>v_.hl) seen) co),(16,b_ true)]<|aE<|dX<|aP<|aO<|aC<|aG<|cC (some 17) (.tuple #[i_ mk4,qW mv4]) (yJ (enck:=(fun k:Int=>i_ k)) (encv:=(fun v_:Cl=>(tg v_))) (kv:=kv) (k:=mk4) (v:=mv4) 0 j4 rfl rfl rfl (fun w s=>nE s hhp1<|by simp[aL]) hEn1 hnd1 hj4)<|xM [.al,.st 2] (fun b5=>[tj,(14,p_ b2),(5,vS ao (bw kv (fun v_=>v_.hl) seen) co),(7,p_ b5),(6,i_ mk4)]) (fun _=>[]) (fun b5=>aA b5 (ag mv4) 62) ?_
 intro b5
 refine aC<|bA 2 [.ld 2] [(20,.func (.func 142) #[] #[]),(21,qW mv4)]<|aG<|dx (some 22) [qW mv4] Tryz.func142 rfl (aC<|dD [.al] [] (fun b6=>[(1,p_ b6)]) (fun b6=>aA b6 (ag mv4) 62) ?_)
 intro b6
 refine aC<|bF [.ld 3] [(2,b_ mv4.hl)]<|aF<|dO [b_ mv4.hl]<|jB [gK b2 mb es1 cl1<|seen++[j4],sI ao (bw kv (fun v_=>v_.hl) seen) co] (sd [3,2])<|dP<|fx mv4.hl (fun e2=>?_)<|fun e2=>?_
 ·refine aM<|j0 [.p,.p] [tj,(14,p_ b2),(5,vS ao (bw kv (fun v_=>v_.hl) seen) co),(23,vS ao (bw kv (fun v_=>v_.hl) seen) co),(24,i_ mk4)]<|aG<|eB 25 (e:=3) [i_ mk4] (by kernel_rfl) rfl (fun _=>by kernel_rfl) _ (fun _=>rfl) ?_
  intro b7
  refine aG<|gn i6 (bw kv (fun v_=>v_.hl) seen) ([mk4]) 1 26 (i_ 0) 8 dL jo (eV (i:=2) rfl) (by simp;omega) ?_
  intro A8 c8
  refine ak [(5,vS A8 ((bw kv (fun v_=>v_.hl) seen)++([mk4])) c8)]<|(bj 1 (sI A8 (bw kv (fun v_=>v_.hl)<|seen++[j4]) c8) rfl (cw (qz ‹_› ‹_›:(bw kv (fun v_=>v_.hl) seen)++([mk4])=(bw kv (fun v_=>v_.hl)<|seen++[j4]))) (aW 5 (vS A8 (bw kv (fun v_=>v_.hl)<|seen++[j4]) c8) (eW<|qz ‹_› ‹_›)<|bC ((seen++[j4]),A8,c8) ⟨((jU hn hb ‹_› ‹_›).1),((jU hn hb ‹_› ‹_›).2.1)⟩ (by((have h_:=(jU hn hb ‹_› ‹_›).2.2);simp;omega)) ?_))
  exact bB [0,0]
 refine aP<|bj 1 (sI ao (bw kv (fun v_=>v_.hl)<|seen++[j4]) co) rfl (cw (uP ‹_› ‹_›:(bw kv (fun v_=>v_.hl) seen)=(bw kv (fun v_=>v_.hl)<|seen++[j4]))) (fE [tj,(14,p_ b2),(5,vS ao (bw kv (fun v_=>v_.hl)<|seen++[j4]) co),(6,i_ mk4),(20,.func (.func 142) #[] #[]),(21,qW mv4),(22,b_ mv4.hl)] ⟨rfl,rfl,eW<|by exact uP ‹_› ‹_›,rfl,rfl,rfl,rfl,trivial⟩<|bC ((seen++[j4]),ao,co) ⟨((jU hn hb ‹_› ‹_›).1),((jU hn hb ‹_› ‹_›).2.1)⟩ (by((have h_:=(jU hn hb ‹_› ‹_›).2.2);simp;omega)) ?_)
 exact bB [0,0]
abbrev Io(p0)(p1)(p2)(p3):=(sI p0 (bw p1 (fun v_=>decide ((aV v_.ra v_.rb v_.rc)>1)) p2) p3:V.aH)
abbrev yW:=((1,.func (.func 103) #[] #[]):Nat×Value)
abbrev yX(p0)(p1)(p2):=(vS p0 (aX p1<|fun v_=>decide ((aV v_.ra v_.rb v_.rc)>1)) p2:Value)
abbrev tm(p0)(p1)(p2)(p3):=(vS p0 (bw p1 (fun v_=>decide ((aV v_.ra v_.rb v_.rc)>1)) p2) p3:Value)
theorem He(bt mb:Nat)(kv:bm Cl)(hl:kv.length≤1000)(w:World)(r0:(aA bt [.map<|some mb] 185).holds w)(r1:(cU mb kv).holds w)(hs:HI w []):
  CV 94 #[p_ bt] w [] (fun((al',cl'):(bn)×Nat)=>(vS al' (im kv) cl')) (fun _=>True) fun(al',cl')=>[mm al' (im kv) cl']:=by
 have hkl:=pH kv<|fun v_=>decide ((aV v_.ra v_.rb v_.rc)>1)
 refine aU Tryz.func94 rfl hs (aD []<|aD [(3,e_)]<|cS<|cP [.p] [(6,p_ bt)]<|aG<|dx (some 7) [p_ bt,.func (.func 103) #[] #[]] Tryz.func128 rfl (aD []<|aE<|aD [(9,b_ false)]<|bY<|aP<|aD [(5,e_)]<|cS<|dm 4 [.rd [.map<|some mb]] [(13,.map<|some mb)] (o1<|ro ⟨bt,0,none⟩ (vs:=[.map<|some mb])<|cB r0 rfl) ?_))
 obtain⟨⟨es1,cl1,hhp1,hEn1,hbo1,hnd1⟩,hkn1⟩:=id r1
 refine aG<|Ag (kt:=3) (et:=62) (es:=es1) (clock:=cl1) 14 (by kernel_rfl) rfl rfl (by kernel_rfl) (fun w s=>nE s hhp1<|by simp[aL]) (fun b2=>[gK b2 mb es1 cl1 ([]:bO)]) (fun _=>rfl) ?_
 intro b2
 refine dP<|aO<|gC 3 1 [gK b2 mb es1 cl1 ([]:bO),sI none ([]:bT) 0] rfl (bj 1 (sI none (bw kv (fun v_=>decide ((aV v_.ra v_.rb v_.rc)>1)) ([]:bO)) 0) rfl (cw (by rfl:([]:bT)=(bw kv (fun v_=>decide ((aV v_.ra v_.rb v_.rc)>1)) ([]:bO)))) (fE [yW,(5,vS none (bw kv (fun v_=>decide ((aV v_.ra v_.rb v_.rc)>1)) ([]:bO)) 0),(13,.map<|some mb),(14,p_ b2)] ⟨rfl,congrArg (fun z_:bT=>some<|Value.slice none z_.length 0) (by rfl:([]:bT)=(bw kv (fun v_=>decide ((aV v_.ra v_.rb v_.rc)>1)) ([]:bO))),rfl,rfl,trivial⟩<|eA (σ:=(bO)×(bn)×Nat) [13] (fun(seen,ao,co)=>[(5,tm ao kv seen co)]) [0,0] (fun(seen,ao,co)=>[gK b2 mb es1 cl1 seen,Io ao kv seen co]) (fun(seen,ao,co)=>seen.Nodup∧(∀j∈seen,j<kv.length)) (fun(seen,ao,co)=>kv.length-seen.length) (([]:bO),none,0) ⟨(by simp),(by simp)⟩ ?_ ?_))
 ·exact bB [0,0]
 rintro⟨seen,ao,co⟩ ⟨hn,hb⟩
 have hsl:=tW hn hb;have hsk:=yD kv (fun v_=>decide ((aV v_.ra v_.rb v_.rc)>1)) seen
 refine aC<|aG<|Ah (enck:=(fun k:Int=>i_ k)) (encv:=(fun v_:Cl=>(tg v_))) (kv:=kv) 0 15 (by kernel_rfl) rfl rfl rfl (fun w s=>nE s hhp1<|by simp[aL]) hEn1 hbo1 hnd1 ‹_› (fun j4=>[gK b2 mb es1 cl1<|seen++[j4],Io ao kv seen co]) (fun _=>rfl) (fun hall4=>?_) (fun j4 mk4 mv4 hj4 hn4=>?_)
 ·refine dQ [] [yW,(14,p_ b2),(5,tm ao kv seen co),(16,b_ false)]<|aE<|bY<|bR<|aC<|cP [.p] [(27,tm ao kv seen co)]<|aG<|bM (some 28) [1] (vK ao (bw kv (fun v_=>decide ((aV v_.ra v_.rb v_.rc)>1)) seen) co<|by omega) ?_
  rintro⟨⟩-
  refine dP<|aE ?_
  have hcv5:(gJ<|bw kv (fun v_=>decide ((aV v_.ra v_.rb v_.rc)>1)) seen)=(aX kv<|fun v_=>decide ((aV v_.ra v_.rb v_.rc)>1)):=sD hn hb ‹_›
  refine bj 0 (sI ao (aX kv<|fun v_=>decide ((aV v_.ra v_.rb v_.rc)>1)) co) rfl (cw hcv5) (aW 5 (yX ao kv co) (cE<|by rw[←hcv5,oP])<|aW 27 (yX ao kv co) (cE<|by rw[←hcv5,oP])<|bX [(4,yX ao kv co)]<|aF<|dO [yX ao kv co]<|ak [(3,e_),(8,i_ ((aX kv<|fun v_=>decide ((aV v_.ra v_.rb v_.rc)>1)).length:Int)),(9,i_ 0)]<|aO<|gC 60 3 [sI ao (aX kv<|fun v_=>decide ((aV v_.ra v_.rb v_.rc)>1)) co,gK b2 mb es1 cl1 seen,mm none ([]:List Cv) 0] rfl (bj 2 (mm none (il kv 0) 0) rfl (cw (by rfl:([]:List Cv)=(il kv 0))) (aW 3 (vS none (il kv 0) 0) (congrArg (fun z_:List Cv=>some<|Value.slice none z_.length 0) (by rfl:([]:List Cv)=(il kv 0)))<|eA (σ:=Nat×(bn)×Nat) [] (fun(k,ar,cr)=>[(9,c_ k),(3,vS ar (il kv k) cr)]) [2] (fun(k,ar,cr)=>[mm ar (il kv k) cr]) (fun(k,ar,cr)=>(k≤(aX kv<|fun v_=>decide ((aV v_.ra v_.rb v_.rc)>1)).length)) (fun(k,ar,cr)=>(aX kv<|fun v_=>decide ((aV v_.ra v_.rb v_.rc)>1)).length-k) (0,none,0) (by omega) ?_ ?_)))
  ·exact bB [2,0,0]
  rintro⟨k,ar,cr⟩ hk
  have hk:k≤(aX kv<|fun v_=>decide ((aV v_.ra v_.rb v_.rc)>1)).length:=hk
  have hrl:=Nh kv k
  refine aD [(10,b_<|decide ((k:Int)<((aX kv<|fun v_=>decide ((aV v_.ra v_.rb v_.rc)>1)).length:Int)))]<|aE<|aI rfl (fun e2=>?_) (fun e2=>?_)
  ·have p2:=dZ e2
   refine au<|aO<|aC<|ic [.ix] [(11,.pointer<|some<|(aZ ao).add (k*1))] (o1<|bH 1 k dL rfl (by omega)) ?_
   obtain⟨x7,hx7⟩: ∃x,((aX kv<|fun v_=>decide ((aV v_.ra v_.rb v_.rc)>1)))[k]? =some x:=⟨_,dA<|by omega⟩
   refine az [.rd [i_ x7]] [(5,i_ x7)] (o1<|dF 1 k [i_ x7] dL rfl hx7)<|aM<|dm 6 [.rd [.map<|some mb]] [(13,vS ar (il kv k) cr),(17,.map<|some mb),(18,i_ x7)] (o1<|ro ⟨bt,0,none⟩ (vs:=[.map<|some mb])<|cB r0 rfl)<|aG<|cC (some 19) _ (qL 3 62 x7 cG (fun w s=>bV s r1) mS)<|cP [.p] [(20,.agg #[u_<|((aB kv x7).getD cG).ra,u_<|((aB kv x7).getD cG).rb,u_<|((aB kv x7).getD cG).rc])]<|aG<|eB 21 (e:=60) [u_<|((aB kv x7).getD cG).ra,u_<|((aB kv x7).getD cG).rb,u_<|((aB kv x7).getD cG).rc] (by kernel_rfl) rfl (fun _=>by kernel_rfl) _ (fun _=>rfl) ?_
   intro b8
   refine aG<|gn cZ (il kv k) ([(⟨((aB kv x7).getD cG).ra,((aB kv x7).getD cG).rb,((aB kv x7).getD cG).rc⟩:Cv)]) 0 22 (.agg #[u_ 0,u_ 0,u_ 0]) 24 kG G8 (eV (i:=3) rfl) (by(simp only[List.length_append,List.length_cons,List.length_nil];omega)) ?_
   intro A9 c9
   refine ak [(3,vS A9 ((il kv k)++([(⟨((aB kv x7).getD cG).ra,((aB kv x7).getD cG).rb,((aB kv x7).getD cG).rc⟩:Cv)])) c9)]<|aM<|az [.w<|(k:Int)+1] [(9,i_<|(k:Int)+1)] (o1<|wj ((k:Int)+1)<|by omega)<|bj 0 (mm A9 (il kv<|k+1) c9) rfl (cw (Fa ‹_›:(il kv k)++([(⟨((aB kv x7).getD cG).ra,((aB kv x7).getD cG).rb,((aB kv x7).getD cG).rc⟩:Cv)])=(il kv<|k+1))) (aW 3 (vS A9 (il kv<|k+1) c9) (eW<|Fa ‹_›)<|bC (k+1,A9,c9) (by omega) (by(simp_all;omega)) ?_)
   exact bB [0,0,0]
  have p2:=ga e2
  refine bR<|aD [(2,vS ar (il kv k) cr)]<|aF<|bj 0 (mm ar (im kv) cr) rfl (cw (GF (by omega):(il kv k)=(im kv))) (bJ [0] [vS ar (il kv k) cr] (ar,cr) ?_ ?_)
  ·show((vS ar (il kv k) cr):Value)=(vS ar (im kv) cr)
   rw[GF<|by omega]
  trivial
 refine dQ [] [yW,(14,p_ b2),(5,tm ao kv seen co),(16,b_ true)]<|aE<|dX<|aP<|aO<|aC<|aG<|cC (some 17) (.tuple #[i_ mk4,qW mv4]) (yJ (enck:=(fun k:Int=>i_ k)) (encv:=(fun v_:Cl=>(tg v_))) (kv:=kv) (k:=mk4) (v:=mv4) 0 j4 rfl rfl rfl (fun w s=>nE s hhp1<|by simp[aL]) hEn1 hnd1 hj4)<|xM [.al,.st 2] (fun b10=>[yW,(14,p_ b2),(5,tm ao kv seen co),(7,p_ b10),(6,i_ mk4)]) (fun _=>[]) (fun b10=>aA b10 (ag mv4) 62) ?_
 intro b10
 refine bW [.ld 2,.cq<|b_<|decide ((aV mv4.ra mv4.rb mv4.rc)>1)] [(22,b_<|decide ((aV mv4.ra mv4.rb mv4.rc)>1))] (o1<|qw<|re mv4)<|aI rfl (fun e3=>?_) (fun e3=>?_)
 ·have p3:=dZ e3
  refine aM<|bA 2 [] [(23,tm ao kv seen co),(24,i_ mk4)]<|aG<|eB 25 (e:=3) [i_ mk4] (by kernel_rfl) rfl (fun _=>by kernel_rfl) _ (fun _=>rfl) ?_
  intro b11
  refine aG<|gn i6 (bw kv (fun v_=>decide ((aV v_.ra v_.rb v_.rc)>1)) seen) ([mk4]) 1 26 (i_ 0) 8 dL jo (eV (i:=3) rfl) (by(simp only[List.length_append,List.length_cons,List.length_nil];omega)) ?_
  intro A12 c12
  refine ak [(5,vS A12 ((bw kv (fun v_=>decide ((aV v_.ra v_.rb v_.rc)>1)) seen)++([mk4])) c12)]<|(bj 1 (sI A12 (bw kv (fun v_=>decide ((aV v_.ra v_.rb v_.rc)>1))<|seen++[j4]) c12) rfl (cw (qz ‹_› ‹_›:(bw kv (fun v_=>decide ((aV v_.ra v_.rb v_.rc)>1)) seen)++([mk4])=(bw kv (fun v_=>decide ((aV v_.ra v_.rb v_.rc)>1))<|seen++[j4]))) (aW 5 (vS A12 (bw kv (fun v_=>decide ((aV v_.ra v_.rb v_.rc)>1))<|seen++[j4]) c12) (eW<|qz ‹_› ‹_›)<|bC ((seen++[j4]),A12,c12) ⟨((jU hn hb ‹_› ‹_›).1),((jU hn hb ‹_› ‹_›).2.1)⟩ (by((have h_:=(jU hn hb ‹_› ‹_›).2.2);simp;omega)) ?_))
  exact bB [0,0]
 have p3:=ga e3
 refine aP<|bj 1 (sI ao (bw kv (fun v_=>decide ((aV v_.ra v_.rb v_.rc)>1))<|seen++[j4]) co) rfl (cw (uP ‹_› ‹_›:(bw kv (fun v_=>decide ((aV v_.ra v_.rb v_.rc)>1)) seen)=(bw kv (fun v_=>decide ((aV v_.ra v_.rb v_.rc)>1))<|seen++[j4]))) (aW 5 (vS ao (bw kv (fun v_=>decide ((aV v_.ra v_.rb v_.rc)>1))<|seen++[j4]) co) (eW<|uP ‹_› ‹_›)<|bC ((seen++[j4]),ao,co) ⟨((jU hn hb ‹_› ‹_›).1),((jU hn hb ‹_› ‹_›).2.1)⟩ (by((have h_:=(jU hn hb ‹_› ‹_›).2.2);simp;omega)) ?_)
 exact bB [0,0]
abbrev tf(p0):=((1,.func (.func 225) #[] #[p_ p0]):Nat×Value)
theorem Av(bt mb:Nat)(kv:bm Cl)(ci:Int)(hl:kv.length≤1000)(w:World)(r0:(aA bt [.map<|some mb] 185).holds w)(r1:(cU mb kv).holds w)(hs:HI w []):
  CV 173 #[p_ bt,i_ ci] w [] (fun((al',cl'):(bn)×Nat)=>(vS al' (aX kv<|fun v_=>v_.hp==ci) cl')) (fun _=>True) fun(al',cl')=>[sI al' (aX kv<|fun v_=>v_.hp==ci) cl']:=by
 refine aU Tryz.func173 rfl hs (aC<|dD [.al] [] (fun b1=>[(3,p_ b1)]) (fun b1=>aA b1 [i_ ci] 3) ?_)
 intro b1
 refine aC<|bA 2 [] [(5,p_ bt),(6,.func (.func 225) #[] #[p_ b1])]<|aG<|dx (some 7) [p_ bt,.func (.func 225) #[] #[p_ b1]] Tryz.func128 rfl (aD []<|aE<|aD [(9,b_ false)]<|bY<|aP<|aD [(5,e_)]<|cS<|dm 4 [.rd [.map<|some mb]] [(13,.map<|some mb)] (o1<|ro ⟨bt,0,none⟩ (vs:=[.map<|some mb])<|cB r0 rfl) ?_)
 obtain⟨⟨es2,cl2,hhp2,hEn2,hbo2,hnd2⟩,hkn2⟩:=id r1
 refine aG<|Ag (kt:=3) (et:=62) (es:=es2) (clock:=cl2) 14 (by kernel_rfl) rfl rfl (by kernel_rfl) (fun w s=>nE s hhp2<|by simp[aL]) (fun b3=>[aA b1 [i_ ci] 3,gK b3 mb es2 cl2 ([]:bO)]) (fun _=>rfl) ?_
 intro b3
 refine dP<|aO<|gC 3 1 [aA b1 [i_ ci] 3,gK b3 mb es2 cl2 ([]:bO),sI none ([]:bT) 0] rfl (bj 2 (sI none (bw kv (fun v_=>v_.hp==ci) ([]:bO)) 0) rfl (cw (by rfl:([]:bT)=(bw kv (fun v_=>v_.hp==ci) ([]:bO)))) (fE [(tf b1),(5,vS none (bw kv (fun v_=>v_.hp==ci) ([]:bO)) 0),(13,.map<|some mb),(14,p_ b3)] ⟨rfl,congrArg (fun z_:bT=>some<|Value.slice none z_.length 0) (by rfl:([]:bT)=(bw kv (fun v_=>v_.hp==ci) ([]:bO))),rfl,rfl,trivial⟩<|eA (σ:=(bO)×(bn)×Nat) [13] (fun(seen,ao,co)=>[(5,vS ao (bw kv (fun v_=>v_.hp==ci) seen) co)]) [1,1] (fun(seen,ao,co)=>[gK b3 mb es2 cl2 seen,sI ao (bw kv (fun v_=>v_.hp==ci) seen) co]) (fun(seen,ao,co)=>seen.Nodup∧(∀j∈seen,j<kv.length)) (fun(seen,ao,co)=>kv.length-seen.length) (([]:bO),none,0) ⟨(by simp),(by simp)⟩ ?_ ?_))
 ·exact bB [1,1,0]
 rintro⟨seen,ao,co⟩ ⟨hn,hb⟩
 have hsl:=tW hn hb;have hsk:=yD kv (fun v_=>v_.hp==ci) seen
 refine aC<|aG<|Ah (enck:=(fun k:Int=>i_ k)) (encv:=(fun v_:Cl=>(.agg (ag v_).toArray))) (kv:=kv) 0 15 (by kernel_rfl) rfl rfl rfl (fun w s=>nE s hhp2<|by simp[aL]) hEn2 hbo2 hnd2 ‹_› (fun j5=>[gK b3 mb es2 cl2<|seen++[j5],sI ao (bw kv (fun v_=>v_.hp==ci) seen) co,aA b1 [i_ ci] 3]) (fun _=>rfl) (fun hall5=>?_) (fun j5 mk5 mv5 hj5 hn5=>?_)
 ·refine dQ [] [(tf b1),(14,p_ b3),(5,vS ao (bw kv (fun v_=>v_.hp==ci) seen) co),(16,b_ false)]<|aE<|bY<|bR<|aC<|cP [.p] [(27,vS ao (bw kv (fun v_=>v_.hp==ci) seen) co)]<|aG<|bM (some 28) [1] (vK ao (bw kv (fun v_=>v_.hp==ci) seen) co<|by omega) ?_
  rintro⟨⟩-
  refine dP<|aD [(4,vS ao (bw kv (fun v_=>v_.hp==ci) seen) co)]<|aF<|dO [vS ao (bw kv (fun v_=>v_.hp==ci) seen) co]<|ak [(4,vS ao (bw kv (fun v_=>v_.hp==ci) seen) co)]<|aF<|bj 0 (sI ao (aX kv<|fun v_=>v_.hp==ci) co) rfl (cw (sD hn hb ‹_›:(gJ<|bw kv (fun v_=>v_.hp==ci) seen)=(aX kv<|fun v_=>v_.hp==ci))) (bJ [0] [vS ao (bw kv (fun v_=>v_.hp==ci) seen) co] (ao,co) ?_ ?_)
  ·show((vS ao (bw kv (fun v_=>v_.hp==ci) seen) co):Value)=(vS ao (aX kv<|fun v_=>v_.hp==ci) co)
   rw[←sD (f:=fun v_=>v_.hp==ci) hn hb ‹_›];unfold vS;rw[oP]
  trivial
 refine dQ [] [(tf b1),(14,p_ b3),(5,vS ao (bw kv (fun v_=>v_.hp==ci) seen) co),(16,b_ true)]<|aE<|dX<|aP<|aO<|aC<|aG<|cC (some 17) (.tuple #[i_ mk5,.agg (ag mv5).toArray]) (yJ (enck:=(fun k:Int=>i_ k)) (encv:=(fun v_:Cl=>(.agg (ag v_).toArray))) (kv:=kv) (k:=mk5) (v:=mv5) 0 j5 rfl rfl rfl (fun w s=>nE s hhp2<|by simp[aL]) hEn2 hnd2 hj5)<|xM [.al,.st 3] (fun b6=>[(tf b1),(14,p_ b3),(5,vS ao (bw kv (fun v_=>v_.hp==ci) seen) co),(7,p_ b6),(6,i_ mk5)]) (fun _=>[]) (fun b6=>aA b6 (ag mv5) 62) ?_
 intro b6
 refine aC<|bA 2 [.ld 3] [(20,.func (.func 225) #[] #[p_ b1]),(21,.agg (ag mv5).toArray)]<|aG<|dx (some 22) [.agg (ag mv5).toArray,p_ b1] Tryz.func225 rfl (aC<|dD [.al] [] (fun b7=>[(2,p_ b7)]) (fun b7=>aA b7 (ag mv5) 62) ?_)
 intro b7
 refine aC<|bF [.ld 4,.ld 2] [(3,b_<|mv5.hp==ci)]<|aF<|dO [b_<|mv5.hp==ci]<|jB [gK b3 mb es2 cl2<|seen++[j5],sI ao (bw kv (fun v_=>v_.hp==ci) seen) co,aA b1 [i_ ci] 3] (sd [4,3])<|dP<|aI rfl (fun e2=>?_) (fun e2=>?_)
 ·refine aM<|j0 [.p,.p] [(tf b1),(14,p_ b3),(5,vS ao (bw kv (fun v_=>v_.hp==ci) seen) co),(23,vS ao (bw kv (fun v_=>v_.hp==ci) seen) co),(24,i_ mk5)]<|aG<|eB 25 (e:=3) [i_ mk5] (by kernel_rfl) rfl (fun _=>by kernel_rfl) _ (fun _=>rfl) ?_
  intro b8
  refine aG<|gn i6 (bw kv (fun v_=>v_.hp==ci) seen) ([mk5]) 1 26 (i_ 0) 8 dL jo (eV (i:=3) rfl) (by simp;omega) ?_
  intro A9 c9
  refine ak [(5,vS A9 ((bw kv (fun v_=>v_.hp==ci) seen)++([mk5])) c9)]<|(bj 1 (sI A9 (bw kv (fun v_=>v_.hp==ci)<|seen++[j5]) c9) rfl (cw (qz ‹_› ‹_›:(bw kv (fun v_=>v_.hp==ci) seen)++([mk5])=(bw kv (fun v_=>v_.hp==ci)<|seen++[j5]))) (aW 5 (vS A9 (bw kv (fun v_=>v_.hp==ci)<|seen++[j5]) c9) (eW<|qz ‹_› ‹_›)<|bC ((seen++[j5]),A9,c9) ⟨((jU hn hb ‹_› ‹_›).1),((jU hn hb ‹_› ‹_›).2.1)⟩ (by((have h_:=(jU hn hb ‹_› ‹_›).2.2);simp;omega)) ?_))
  exact bB [0,0,0]
 refine aP<|bj 1 (sI ao (bw kv (fun v_=>v_.hp==ci)<|seen++[j5]) co) rfl (cw (uP ‹_› ‹_›:(bw kv (fun v_=>v_.hp==ci) seen)=(bw kv (fun v_=>v_.hp==ci)<|seen++[j5]))) (fE [(tf b1),(14,p_ b3),(5,vS ao (bw kv (fun v_=>v_.hp==ci)<|seen++[j5]) co),(6,i_ mk5),(20,.func (.func 225) #[] #[p_ b1]),(21,.agg (ag mv5).toArray),(22,b_<|mv5.hp==ci)] ⟨rfl,rfl,eW<|by exact uP ‹_› ‹_›,rfl,rfl,rfl,rfl,trivial⟩<|bC ((seen++[j5]),ao,co) ⟨((jU hn hb ‹_› ‹_›).1),((jU hn hb ‹_› ‹_›).2.1)⟩ (by((have h_:=(jU hn hb ‹_› ‹_›).2.2);simp;omega)) ?_)
 exact bB [0,0,0]
theorem WX:HOk []:=fun k=>by simp[dep,ei,aB]
def jx(kv:List (Int×Cl))(ci:Int):Int:=if(aB kv ci).isSome=false then 6 else if(((aX kv<|fun v_=>v_.hp==ci)).length:Int)>0 then 23 else 0
def om(kv:List (Int×Cl))(ci:Int):List (Int×Cl):=if jx kv ci=0 then aY kv ci else kv
theorem UK(bt mb:Nat)(kv:bm Cl)(ci:Int)(hl:kv.length≤1000):
  CS 135 #[p_ bt,i_ ci] [aA bt [.map<|some mb] 185,cU mb kv] (fun(kv':(bm Cl))=>(i_<|jx kv ci)) (fun kv'=>kv'=om kv ci) fun kv'=>[aA bt [.map<|some mb] 185,cU mb kv']:=by
 intro w hs
 refine aU Tryz.func135 rfl hs (aD []<|aE<|aD [(8,b_ false)]<|bY<|aP<|cS<|bA 5 [.ld 0] [(13,.map<|some mb),(14,i_ ci)]<|aG<|cC (some 15) _ (oM (kt:=3) (et:=62) (enck:=(fun k:Int=>i_ k)) (encv:=(fun v_:Cl=>(.agg (ag v_).toArray))) (b:=mb) (kv:=kv) (k:=ci) (d0:=cG) (fun w s=>s.mem (i:=1) rfl) rfl rfl rfl (by kernel_rfl) mS (by kernel_rfl) rfl)<|dS [.al,.st 2] [] (fun b1=>[(6,b_<|(aB kv ci).isSome)]) (fun b1=>[]) (fun b1=>aA b1 (ag<|(aB kv ci).getD cG) 62) ?_)
 intro b1
 refine aD [(19,b_ (!((aB kv ci).isSome)))]<|aI rfl (fun e1=>?_) (fun e1=>?_)
 ·refine aD [(4,i_ 6)]<|aF<|bJ [0,0] [i_ 6] (kv) ?_ ?_
  ·refine congrArg (Value.int .i64) ?_;unfold jx;(simp_all;done)
  unfold om jx;(simp_all;done)
 refine aP<|cS<|bA 2 [] [(20,p_ bt),(21,i_ ci)]<|aG<|dG (some 22) [] (fun w s h=>Av bt mb kv ci ‹_› w (s.mem (i:=0) rfl) (s.mem (i:=1) rfl) h) ?_
 rintro⟨al'2,cl'3⟩-
 refine ak [(24,b_<|decide (((aX kv<|fun v_=>v_.hp==ci).length:Int)>0))]<|aI rfl (fun e3=>?_) (fun e3=>?_)
 ·have p3:=dZ e3
  refine aD [(4,i_ 23)]<|aF<|bJ [1,1] [i_ 23] (kv) ?_ ?_
  ·refine congrArg (Value.int .i64) ?_;unfold jx;(simp_all;done)
  unfold om jx;(simp_all;done)
 have p3:=ga e3
 refine aP<|aC<|bA 5 [.ld 1] [(28,.map<|some mb),(29,i_ ci)]<|aG<|vD (kt:=3) (et:=62) (enck:=(fun k:Int=>i_ k)) (encv:=(fun v_:Cl=>(.agg (ag v_).toArray))) (kv:=kv) (k:=ci) 2 [sI al'2 (aX kv<|fun v_=>v_.hp==ci) cl'3,aA bt [.map<|some mb] 185,cU mb<|aY kv ci,aA b1 (ag<|(aB kv ci).getD cG) 62] (by kernel_rfl) rfl rfl rfl (by kernel_rfl) mS rfl rfl (dP<|aD [(4,i_ 0)]<|aF<|bJ [1,1] [i_ 0] (aY kv ci) ?_ ?_)
 ·refine congrArg (Value.int .i64) ?_;unfold jx;(simp_all;done)
 unfold om jx;(simp_all;done)
def km(kv:List (Int×Cl))(i:Int):Bool:=decide ((aV ((aB kv i).getD cG).la ((aB kv i).getD cG).lb ((aB kv i).getD cG).lc)>1)
def i5(kv:List (Int×Cl))(y:Cl):Int:=
 if fC y≠0 then fC y else if(aB kv y.hi).isSome=false then 6
 else if y.hp≠(aN kv y.hi).hp∨y.hl≠(aN kv y.hi).hl then 1
 else if((aV y.la y.lb y.lc)>1∧iN kv y.hp=false)∨((aV y.la y.lb y.lc)≤1∧((aX kv<|fun v_=>v_.hp==y.hi)).any (km kv)=true) then 29 else 0
def lU(kv:List (Int×Cl))(y:Cl):List (Int×Cl):=if i5 kv y=0 then aK kv y.hi y else kv
variable{l:bT}{f:Int→Bool}
theorem zM(h:l[k]? =some i)(hf:f i=true):l.any f=true:=List.any_eq_true.2 ⟨i,cT h,hf⟩
theorem KH(hn: ∀x∈l.take k,f x=false)(hk:l.length≤k):l.any f=false:=by
 rw[List.take_of_length_le hk] at hn;rw[List.any_eq_false];intro x hx;simp[hn x hx]
theorem UL(hn: ∀x∈l.take k,f x=false)(h:l[k]? =some i)(hf:f i=false): ∀x∈l.take (k+1),f x=false:=by
 rw[List.take_add_one,h];intro x hx;rcases List.mem_append.1 hx with hx|hx
 ·exact hn x hx
 ·simp at hx;rw[hx];exact hf
abbrev Ir(p0:Cl):=((b_<|decide ((aV p0.la p0.lb p0.lc)>1)):Value)
abbrev yY(p0)(p1):=(aA p0 [.map<|some p1] 185:V.aH)
abbrev yZ(p0):=((1,.func (.func 172) #[] #[p_ p0]):Nat×Value)
abbrev tp(p0):=((8,.func (.func 172) #[] #[p_ p0]):Nat×Value)
abbrev qY(p0):=((1,.agg (ag p0).toArray):Nat×Value)
abbrev pM(p0):=((14,b_<|(fC p0)!=0):Nat×Value)
theorem UM(bt mb:Nat)(kv:bm Cl)(y:Cl)(hl:kv.length≤1000):
  CS 133 #[p_ bt,.agg (ag y).toArray] [yY bt mb,cU mb kv] (fun(kv':(bm Cl))=>(i_<|i5 kv y)) (fun kv'=>kv'=lU kv y) fun kv'=>[yY bt mb,cU mb kv']:=by
 intro w hs
 have hkl:=pH kv<|fun v_=>v_.hp==y.hi
 refine aU Tryz.func133 rfl hs (aC<|fz [.al,.al] [] (fun b1 b2=>[(2,p_ b1),(3,p_ b2),(4,i_ 0)]) (fun b1 b2=>[aA b1 [p_ bt] 131,aA b2 (ag y) 62]) ?_)
 intro b1 b2
 refine cS<|bF [.ld 2] [(10,b_ false)]<|bY<|au<|bW [.ld 3,.cq<|i_<|fC y] [(5,i_<|fC y)] (o1<|qw<|GB y)<|aD [(pM y)]<|aI rfl (fun e1=>?_) (fun e1=>?_)
 ·refine aD [(4,i_<|fC y)]<|aF<|bJ [0,0] [i_<|fC y] (kv) ?_ ?_
  ·refine congrArg (Value.int .i64) ?_;unfold i5;(simp_all[aN];done)
  unfold lU i5;(simp_all[aN];done)
 refine au<|j6 [10,11] 13 [yY bt mb,cU mb kv,aA b1 [p_ bt] 131,aA b2 (ag y) 62]<|gq 7 [.ld 2,.ld 0,.ld 3] (rg 0 6) [(0,p_ bt),(qY y),(2,p_ b1),(3,p_ b2),(4,i_ 0),(10,b_ false),(5,i_<|fC y),(pM y),(20,.map<|some mb),(22,i_ y.hi)] (.refl _)<|FT 6 (some 23) (.tuple #[.agg (ag<|(aB kv y.hi).getD cG).toArray,b_<|(aB kv y.hi).isSome]) rfl (by kernel_rfl) (by kernel_rfl) (.refl _) (oM (kt:=3) (et:=62) (enck:=(fun k:Int=>i_ k)) (encv:=(fun v_:Cl=>(.agg (ag v_).toArray))) (b:=mb) (kv:=kv) (k:=y.hi) (d0:=cG) (fun w s=>s.mem (i:=1) rfl) rfl rfl rfl (by kernel_rfl) mS (by kernel_rfl) rfl) (gq 3 [] [7,8,9] [(0,p_ bt),(qY y),(2,p_ b1),(3,p_ b2),(4,i_ 0),(10,b_ false),(5,i_<|fC y),(pM y),(24,.agg (ag<|(aB kv y.hi).getD cG).toArray),(25,b_<|(aB kv y.hi).isSome)] (.refl _)<|fk 10 rfl (mL 6 [i_ 0,i_ 0,b_ false,u_ 0,u_ 0,u_ 0,u_ 0,u_ 0,u_ 0,u_ 0,u_ 0,u_ 0,i_ 0,i_ 0] (by kernel_rfl) rfl (by kernel_rfl) (fun b3=>[yY bt mb,cU mb kv,aA b1 [p_ bt] 131,aA b2 (ag y) 62,aA b3 [i_ 0,i_ 0,b_ false,u_ 0,u_ 0,u_ 0,u_ 0,u_ 0,u_ 0,u_ 0,u_ 0,u_ 0,i_ 0,i_ 0] 62]) (fun _=>rfl) ?_))
 intro b3
 refine ff (sd [4])<|fk 11 rfl (dN 4 (ag<|(aB kv y.hi).getD cG) rfl (ff (sd [4])<|gq 0 [] [12] [(0,p_ bt),(qY y),(2,p_ b1),(3,p_ b2),(4,i_ 0),(10,b_ false),(5,i_<|fC y),(pM y),(6,p_ b3),(7,b_<|(aB kv y.hi).isSome)] (sd [4])<|jP<|aD [(tp b1)]<|aE<|aO<|aD [(27,b_ (!((aB kv y.hi).isSome)))]<|aI rfl (fun e2=>?_) (fun e2=>?_)))
 ·refine aD [(4,i_ 6)]<|aF<|bJ [0,0] [i_ 6] (kv) ?_ ?_
  ·refine congrArg (Value.int .i64) ?_;unfold i5;(simp_all[aN];done)
  unfold lU i5;(simp_all[aN];done)
 refine aC<|bF [.ld 3,.ld 4,.o,.ld 3,.ld 4,.eq,.cl] [(30,b_<|(y.hp !=(((aB kv y.hi).getD cG).hp))||(!(y.hl==(((aB kv y.hi).getD cG).hl))))]<|aI rfl (fun e3=>?_) (fun e3=>?_)
 ·refine aD [(4,i_ 1)]<|aF<|bJ [0,0] [i_ 1] (kv) ?_ ?_
  ·refine congrArg (Value.int .i64) ?_;unfold i5;(simp_all[aN];done)
  unfold lU i5;(simp_all[aN];done)
 refine aC<|dm 10 [.ld 3,.cq<|Ir y,.o,.ld 2,.ld 3,.cq<|b_<|iN kv y.hp,.cl] [(53,b_<|(decide ((aV y.la y.lb y.lc)>1))&&(!(iN kv y.hp)))] (oc (qw<|oL y)<|o1<|go (true&&((decide ((aV y.la y.lb y.lc)>1))==true)) fun h_=>(qo<|fun w s=>F4 bt mb kv y.hp w (s.mem (i:=0) rfl)<|s.mem (i:=1) rfl))<|iM ((decide ((aV y.la y.lb y.lc)>1))&&(!(iN kv y.hp))) (fun e4=>?_)<|fun e4=>?_
 ·refine aW 53 (b_ true) (fM e4)<|bF [.sk,.sk,.sk,.sk,.sk,.sk,.sk,.sk,.sk,.sk,.sk] [(43,b_ true)]<|dX<|aD [(4,i_ 29)]<|aF<|bJ [0,0] [i_ 29] (kv) ?_ ?_
  ·refine congrArg (Value.int .i64) ?_;unfold i5;(simp_all[aN];done)
  unfold lU i5;(simp_all[aN];done)
 refine aW 53 (b_ false) (fM e4)<|dm 4 [.ld 3,.cq<|Ir y] [(57,b_ (!(decide ((aV y.la y.lb y.lc)>1))))] (o1<|qw<|oL y)<|iM (!(decide ((aV y.la y.lb y.lc)>1))) (fun e5=>?_)<|fun e5=>?_
 ·refine aW 57 (b_ true) (fM e5)<|bA 3 [.ld 2,.ld 3] [(58,p_ bt),(60,i_ y.hi)]<|aG<|dG (some 61) [] (fun w s h=>Av bt mb kv y.hi ‹_› w (s.mem (i:=0) rfl) (s.mem (i:=1) rfl) h) ?_
  rintro⟨al'4,cl'5⟩-
  refine cP [.p] [(61,vS al'4 (aX kv<|fun v_=>v_.hp==y.hi) cl'5),(62,.func (.func 172) #[] #[p_ b1])]<|aG<|dx (some 63) [vS al'4 (aX kv<|fun v_=>v_.hp==y.hi) cl'5,.func (.func 172) #[] #[p_ b1]] Tryz.func68 rfl (aD [(4,b_ false)]<|aC<|bA 2 [] [(5,vS al'4 (aX kv<|fun v_=>v_.hp==y.hi) cl'5),(6,.func (.func 172) #[] #[p_ b1])]<|aG<|dx (some 7) [vS al'4 (aX kv<|fun v_=>v_.hp==y.hi) cl'5,.func (.func 172) #[] #[p_ b1]] Tryz.func98 rfl (aD [(4,i_ 0)]<|aE<|aD [(7,i_ ((aX kv<|fun v_=>v_.hp==y.hi).length:Int)),(8,i_ 0)]<|aO<|eA (σ:=Nat) [4] (fun k=>[(8,c_ k)]) [] (fun k=>[]) (fun k=>(k≤(aX kv<|fun v_=>v_.hp==y.hi).length)∧(∀x∈(aX kv<|fun v_=>v_.hp==y.hi).take k,km kv x=false)) (fun k=>(aX kv<|fun v_=>v_.hp==y.hi).length-k) (0:Nat) ⟨(by omega),(by simp)⟩ ?_ ?_))
  ·exact bB [0,0,0,0,0,0]
  rintro k ⟨hk,hn⟩
  refine aC<|dQ [] [(0,vS al'4 (aX kv<|fun v_=>v_.hp==y.hi) cl'5),(yZ b1),(7,i_ ((aX kv<|fun v_=>v_.hp==y.hi).length:Int)),(8,c_ k),(9,b_<|decide ((k:Int)<((aX kv<|fun v_=>v_.hp==y.hi).length:Int)))]<|aE<|aI rfl (fun e7=>?_) (fun e7=>?_)
  ·have p7:=dZ e7
   refine au<|aO<|aD [(5,c_ k)]<|aC<|dm 4 [.ix] [(11,.func (.func 172) #[] #[p_ b1]),(14,.pointer<|some<|(aZ al'4).add (k*1))] (o1<|bH 0 k dL rfl (by omega)) ?_
   obtain⟨x7,hx7⟩: ∃x,((aX kv<|fun v_=>v_.hp==y.hi))[k]? =some x:=⟨_,dA<|by omega⟩
   refine ic [.rd [i_ x7]] [(15,i_ x7)] (o1<|ro ((aZ al'4).add (k*1))<|dY (vs:=[i_ x7]) dL (cV (i:=0) rfl) hx7 (Nat.le_of_ble_eq_true rfl) rfl)<|aG<|dx (some 16) [i_ x7,p_ b1] Tryz.func172 rfl (aD [(3,b_ false)]<|aC<|bA 5 [.ld 3,.ld 1] [(7,.map<|some mb),(8,i_ x7)]<|aG<|cC (some 9) _ (kS (kt:=3) (et:=62) (enck:=(fun k:Int=>i_ k)) (encv:=(fun v_:Cl=>(.agg (ag v_).toArray))) (b:=mb) (kv:=kv) (k:=x7) (d0:=cG) (fun w s=>s.mem (i:=2) rfl) rfl rfl rfl (by kernel_rfl) mS (by kernel_rfl) rfl)<|az [.cq<|b_<|decide ((aV ((aB kv x7).getD cG).la ((aB kv x7).getD cG).lb ((aB kv x7).getD cG).lc)>1)] [(3,b_<|decide ((aV ((aB kv x7).getD cG).la ((aB kv x7).getD cG).lb ((aB kv x7).getD cG).lc)>1))] (o1<|qw<|oL<|(aB kv x7).getD cG)<|aF<|dO [b_<|decide ((aV ((aB kv x7).getD cG).la ((aB kv x7).getD cG).lb ((aB kv x7).getD cG).lc)>1)]<|dP<|fE [(0,vS al'4 (aX kv<|fun v_=>v_.hp==y.hi) cl'5),(yZ b1),(7,i_ ((aX kv<|fun v_=>v_.hp==y.hi).length:Int)),(8,c_ k),(9,b_<|decide ((k:Int)<((aX kv<|fun v_=>v_.hp==y.hi).length:Int))),(5,c_ k),(16,b_<|decide ((aV ((aB kv x7).getD cG).la ((aB kv x7).getD cG).lb ((aB kv x7).getD cG).lc)>1))] ⟨rfl,rfl,rfl,rfl,rfl,rfl,rfl,trivial⟩<|aI rfl (fun e8=>?_) (fun e8=>?_))
   ·have p8:=dZ e8
    refine aD [(4,c_ k)]<|aF<|dO [c_ k]<|dQ [] [(0,vS al'4 (aX kv<|fun v_=>v_.hp==y.hi) cl'5),(yZ b1),(4,b_<|decide ((k:Int)≥0))]<|aF<|dO [b_<|decide ((k:Int)≥0)]<|dQ [] [(0,p_ bt),(qY y),(2,p_ b1),(3,p_ b2),(4,i_ 0),(10,b_ false),(5,i_<|fC y),(pM y),(6,p_ b3),(7,b_<|(aB kv y.hi).isSome),(tp b1),(27,b_ (!((aB kv y.hi).isSome))),(30,b_<|(y.hp !=(((aB kv y.hi).getD cG).hp))||(!(y.hl==(((aB kv y.hi).getD cG).hl)))),(43,b_<|decide ((k:Int)≥0))]<|aI rfl (fun e9=>?_) (fun e9=>?_)
    ·have p9:=dZ e9
     refine aD [(4,i_ 29)]<|aF<|bJ [1,1] [i_ 29] (kv) ?_ ?_
     ·refine congrArg (Value.int .i64) ?_;unfold i5;(have hq_:=zM (f:=km kv) ‹_› (by unfold km;assumption);simp only[hq_];simp_all[aN];done)
     unfold lU i5;(have hq_:=zM (f:=km kv) ‹_› (by unfold km;assumption);simp only[hq_];simp_all[aN];done)
    have p9:=ga e9
    refine aP<|aE<|bL [7] 8<|cL 1 [.ld 3,.ld 1,.ld 4,.ld 4] (rg 0 7) [(69,.map<|some mb),(71,i_ y.hi),(72,.agg (ag y).toArray)]<|an 7 rfl (gB 3 62 2 y.hi y rfl mS (cD<|dj<|fE [(0,p_ bt),(qY y),(2,p_ b1),(3,p_ b2),(4,i_ 0),(10,b_ false),(5,i_<|fC y),(pM y),(6,p_ b3),(7,b_<|(aB kv y.hi).isSome),(tp b1),(27,b_ (!((aB kv y.hi).isSome))),(30,b_<|(y.hp !=(((aB kv y.hi).getD cG).hp))||(!(y.hl==(((aB kv y.hi).getD cG).hl)))),(43,b_<|decide ((k:Int)≥0))] ⟨rfl,rfl,rfl,rfl,rfl,rfl,rfl,rfl,rfl,rfl,rfl,rfl,rfl,rfl,trivial⟩<|aD []<|aF<|bJ [1,1] [i_ 0] (aK kv y.hi y) ?_ ?_))
    ·refine congrArg (Value.int .i64) ?_;unfold i5;(have hq_:=zM (f:=km kv) ‹_› (by unfold km;assumption);simp only[hq_];simp_all[aN];done)
    unfold lU i5;(have hq_:=zM (f:=km kv) ‹_› (by unfold km;assumption);simp only[hq_];simp_all[aN];done)
   have p8:=ga e8
   refine aP<|aM<|az [.w<|(k:Int)+1] [(8,i_<|(k:Int)+1)] (o1<|wj ((k:Int)+1)<|by omega)<|bC (k+1) ⟨(by omega),(UL hn ‹_› ‹_›)⟩ (by omega) ?_
   exact bB [0,0,0,0,0,0]
  have p7:=ga e7
  refine bR<|aD [(4,i_ (-1))]<|aF<|dO [i_ (-1)]<|dQ [] [(0,vS al'4 (aX kv<|fun v_=>v_.hp==y.hi) cl'5),(yZ b1),(4,b_ false)]<|aF<|dO [b_ false]<|dQ [] [(0,p_ bt),(qY y),(2,p_ b1),(3,p_ b2),(4,i_ 0),(10,b_ false),(5,i_<|fC y),(pM y),(6,p_ b3),(7,b_<|(aB kv y.hi).isSome),(tp b1),(27,b_ (!((aB kv y.hi).isSome))),(30,b_<|(y.hp !=(((aB kv y.hi).getD cG).hp))||(!(y.hl==(((aB kv y.hi).getD cG).hl)))),(43,b_ false)]<|bY<|aP<|aE<|bL [7] 8<|cL 1 [.ld 3,.ld 1,.ld 4,.ld 4] (rg 0 7) [(69,.map<|some mb),(71,i_ y.hi),(72,.agg (ag y).toArray)]<|an 7 rfl (gB 3 62 2 y.hi y rfl mS (cD<|dj<|fE [(0,p_ bt),(qY y),(2,p_ b1),(3,p_ b2),(4,i_ 0),(10,b_ false),(5,i_<|fC y),(pM y),(6,p_ b3),(7,b_<|(aB kv y.hi).isSome),(tp b1),(27,b_ (!((aB kv y.hi).isSome))),(30,b_<|(y.hp !=(((aB kv y.hi).getD cG).hp))||(!(y.hl==(((aB kv y.hi).getD cG).hl)))),(43,b_ false)] ⟨rfl,rfl,rfl,rfl,rfl,rfl,rfl,rfl,rfl,rfl,rfl,rfl,rfl,rfl,trivial⟩<|aD []<|aF<|bJ [1,1] [i_ 0] (aK kv y.hi y) ?_ ?_))
  ·refine congrArg (Value.int .i64) ?_;unfold i5;(have hq_:=KH hn (by omega);simp only[hq_];simp_all[aN];done)
  unfold lU i5;(have hq_:=KH hn (by omega);simp only[hq_];simp_all[aN];done)
 refine aW 57 (b_ false) (fM e5)<|bF [.sk,.sk,.sk,.sk,.sk,.sk] [(43,b_ false)]<|bY<|aP<|aE<|bL [7] 8<|cL 1 [.ld 2,.ld 0,.ld 3,.ld 3] (rg 0 7) [(69,.map<|some mb),(71,i_ y.hi),(72,.agg (ag y).toArray)]<|an 7 rfl (gB 3 62 1 y.hi y rfl mS (cD<|dj<|fE [(0,p_ bt),(qY y),(2,p_ b1),(3,p_ b2),(4,i_ 0),(10,b_ false),(5,i_<|fC y),(pM y),(6,p_ b3),(7,b_<|(aB kv y.hi).isSome),(tp b1),(27,b_ (!((aB kv y.hi).isSome))),(30,b_<|(y.hp !=(((aB kv y.hi).getD cG).hp))||(!(y.hl==(((aB kv y.hi).getD cG).hl)))),(43,b_ false)] ⟨rfl,rfl,rfl,rfl,rfl,rfl,rfl,rfl,rfl,rfl,rfl,rfl,rfl,rfl,trivial⟩<|aD []<|aF<|bJ [0,0] [i_ 0] (aK kv y.hi y) ?_ ?_))
 ·refine congrArg (Value.int .i64) ?_;unfold i5;grind[aN]
 unfold lU i5;grind[aN]
theorem Ni{α:Type}{l:List α}{x:α}(hx:l[k]? =some x):l.take (k+1)=l.take k++[x]:=by rw[List.take_add_one,hx];rfl
def kO(l:List Cl):List (Int×Cl):=l.map fun c=>(c.hi,c)
def uo(l:List Cl)(a:Int):Bool:=a==0||decide ((cR (aN (kO l) a).la (aN (kO l) a).lb (aN (kO l) a).lc)>1)
def FI(l:List Cl)(a:Int):Nat:=ei (kO l) 70 a
def rR(l:List Cl)(a:Int):List Int:=(l.filter fun c=>decide (c.hp=a)).map (·.hi)
def MJ(a:Int)(l:List Cl):List Cl:=l.filter<|fun r=> !decide (r.hi=a)
def ew(x:Cl)(l:List Cl):Nat→List Cl×Bool
 |0=>([],false)
 |k+1=>match l[k]? with
  |none=>ew x l k
  |some r=>
   (if r.hi≠x.hi then(if !(ew x l k).2&&decide (r.hi≥x.hi) then(ew x l k).1++[x] else(ew x l k).1)++[r] else(if !(ew x l k).2&&decide (r.hi≥x.hi) then(ew x l k).1++[x] else(ew x l k).1),
    (ew x l k).2||(!(ew x l k).2&&decide (r.hi≥x.hi)))
variable{x:Cl}
theorem PV{r:Cl}{l:List Cl}(h:l[k]? =some r):ew x l (k+1)=
 (if r.hi≠x.hi then(if !(ew x l k).2&&decide (r.hi≥x.hi) then(ew x l k).1++[x] else(ew x l k).1)++[r] else(if !(ew x l k).2&&decide (r.hi≥x.hi) then(ew x l k).1++[x] else(ew x l k).1),
  (ew x l k).2||(!(ew x l k).2&&decide (r.hi≥x.hi))):=by rw[ew,h]
def so(x:Cl)(l:List Cl):List Cl:=if(ew x l l.length).2 then(ew x l l.length).1 else(ew x l l.length).1++[x]
def E2(l:List Cl)(y:Cl):Int:=if qy y≠0 then qy y else if(aB (kO l) y.hi).isSome=true then 8 else if(l.length:Int)=64 then 5
 else if y.hp≠0∧(aB (kO l) y.hp=none∨(aN (kO l) y.hp).hl=true) then 23
 else if(cR y.la y.lb y.lc)>1∧uo l y.hp=false then 29 else if(FI l y.hp:Int)≥16 then 25 else 0
def L6(l:List Cl)(y:Cl):List Cl:=if E2 l y=0 then so y l else l
def E3(l:List Cl)(a:Int):Int:=if aB (kO l) a=none then 6 else if((rR l a).length:Int)>0 then 23 else 0
def L8(l:List Cl)(a:Int):List Cl:=if E3 l a=0 then MJ a l else l
def AZ(l:List Cl)(y:Cl)(i:Int):Bool:= !decide ((cR y.la y.lb y.lc)>1)&&uo l i
def E4(l:List Cl)(y:Cl):Int:=if qy y≠0 then qy y else if aB (kO l) y.hi=none then 6
 else if(aN (kO l) y.hi).hp≠y.hp∨(aN (kO l) y.hi).hl≠y.hl then 1
 else if(cR y.la y.lb y.lc)>1∧uo l y.hp=false then 29 else if(rR l y.hi).any (AZ l y)=true then 29 else 0
def L9(l:List Cl)(y:Cl):List Cl:=if E4 l y=0 then so y l else l
def lV(x:Cl):Prop:=((-9223372036854775808)≤x.hi∧x.hi≤9223372036854775807)∧((-9223372036854775808)≤x.hp∧x.hp≤9223372036854775807)∧True∧(0≤x.ra∧x.ra≤18446744073709551615)∧(0≤x.rb∧x.rb≤18446744073709551615)∧(0≤x.rc∧x.rc≤18446744073709551615)∧(0≤x.la∧x.la≤18446744073709551615)∧(0≤x.lb∧x.lb≤18446744073709551615)∧(0≤x.lc∧x.lc≤18446744073709551615)∧(0≤x.ua∧x.ua≤18446744073709551615)∧(0≤x.ub∧x.ub≤18446744073709551615)∧(0≤x.uc∧x.uc≤18446744073709551615)∧((-9223372036854775808)≤x.hk∧x.hk≤9223372036854775807)∧((-9223372036854775808)≤x.hq∧x.hq≤9223372036854775807)
def RS(R:List Cl):Prop:=R.Pairwise<|fun a b=>a.hi<b.hi
structure SF(x:Cl)(R:List Cl)(k:Nat):Prop where
 mem: ∀y,y∈(ew x R k).1↔((ew x R k).2=true∧y=x)∨(y∈R.take k∧y.hi≠x.hi)
 lo:(ew x R k).2=false→ ∀r∈R.take k,r.hi<x.hi
 hi:(ew x R k).2=true→ ∃r∈R.take k,x.hi≤r.hi
 srt:RS (ew x R k).1
variable{y:Cl}
theorem tq{A:List Cl}(h:RS A)(hy: ∀a∈A,a.hi<y.hi):RS (A++[y]):=List.pairwise_append.2 ⟨h,by simp,fun a ha b hb=>by simp at hb;subst hb;exact hy a ha⟩
variable{R:List Cl}
theorem Da(x:Cl)(h:RS R): ∀k,SF x R k
 |0=>⟨by simp[ew],by simp,by simp[ew],by simp[ew,RS]⟩
 |k+1=>by
  have ih:=Da x h k
  cases hr:R[k]? with
  |none=>
   have e1:ew x R (k+1)=ew x R k:=by rw[ew,hr]
   have e2:R.take (k+1)=R.take k:=by rw[List.take_add_one,hr];simp
   exact⟨by rw[e1,e2];exact ih.mem,by rw[e1,e2];exact ih.lo,by rw[e1,e2];exact ih.hi,by rw[e1];exact ih.srt⟩
  |some r=>
   have et:R.take (k+1)=R.take k++[r]:=Ni hr
   have hlt: ∀a∈R.take k,a.hi<r.hi:=fun a ha=>by
    obtain⟨i,hi⟩:=List.mem_iff_getElem?.1 ha
    rw[List.getElem?_take] at hi;split at hi
    ·obtain⟨h1,h2⟩:=dT.1 hi
     obtain⟨h3,h4⟩:=dT.1 hr
     have:=List.pairwise_iff_getElem.1 h i k h1 h3 ‹_›;rw[h2,h4] at this;exact this
    ·cases hi
   have es:=PV (x:=x) hr
   have keep: ∀a∈(ew x R k).1,a=x∨a.hi<r.hi:=fun a ha=>by
    rcases(ih.mem a).1 ha with⟨_,e⟩|⟨e,_⟩
    ·exact .inl e
    ·exact .inr<|hlt a e
   cases hp:(ew x R k).2 with
   |true=>
    obtain⟨q,hq,hqx⟩:=ih.hi hp
    have hxr:x.hi<r.hi:=by have:=hlt q hq;omega
    have hne:r.hi≠x.hi:=by omega
    have e:ew x R (k+1)=((ew x R k).1++[r],true):=by rw[es,hp];simp[hne]
    refine⟨fun y=>?_,?_,?_,?_⟩
    ·rw[e,et];simp only[List.mem_append,List.mem_singleton,ih.mem y,hp];constructor
     ·rintro((h1|⟨h1,h2⟩)|h1)
      ·exact .inl h1
      ·exact .inr ⟨.inl h1,h2⟩
      ·exact .inr ⟨.inr h1,by rw[h1];exact hne⟩
     ·rintro(h1|⟨h1|h1,h2⟩)
      ·exact .inl<|.inl h1
      ·exact .inl<|.inr ⟨h1,h2⟩
      ·exact .inr h1
    ·rw[e];intro g;cases g
    ·rw[e,et];intro _;exact⟨q,by simp[hq],hqx⟩
    ·rw[e];exact tq ih.srt fun a ha=>by
      rcases keep a ha with rfl|g
      ·exact hxr
      ·exact g
   |false=>
    have hlo:=ih.lo hp
    have hsub: ∀a∈(ew x R k).1,a.hi<x.hi∧a.hi<r.hi:=fun a ha=>by
     rcases(ih.mem a).1 ha with⟨e,_⟩|⟨e,_⟩
     ·rw[hp] at e;cases e
     ·exact⟨hlo a e,hlt a e⟩
    by_cases hge:x.hi≤r.hi
    ·by_cases hne:r.hi=x.hi
     ·have e:ew x R (k+1)=((ew x R k).1++[x],true):=by rw[es,hp];simp[hne]
      refine⟨fun y=>?_,?_,?_,?_⟩
      ·rw[e,et];simp only[List.mem_append,List.mem_singleton,ih.mem y,hp];constructor
       ·rintro((⟨h1,_⟩|⟨h1,h2⟩)|h1)
        ·cases h1
        ·exact .inr ⟨.inl h1,h2⟩
        ·exact .inl ⟨trivial,h1⟩
       ·rintro(⟨_,h1⟩|⟨h1|h1,h2⟩)
        ·exact .inr h1
        ·exact .inl<|.inr ⟨h1,h2⟩
        ·exact absurd (by rw[h1];exact hne) h2
      ·rw[e];intro g;cases g
      ·rw[e,et];intro _;exact⟨r,by simp,hge⟩
      ·rw[e];exact tq ih.srt fun a ha=>(hsub a ha).1
     ·have e:ew x R (k+1)=(((ew x R k).1++[x])++[r],true):=by rw[es,hp];simp[hne,hge]
      refine⟨fun y=>?_,?_,?_,?_⟩
      ·rw[e,et];simp only[List.mem_append,List.mem_singleton,ih.mem y,hp];constructor
       ·rintro(((⟨h1,_⟩|⟨h1,h2⟩)|h1)|h1)
        ·cases h1
        ·exact .inr ⟨.inl h1,h2⟩
        ·exact .inl ⟨trivial,h1⟩
        ·exact .inr ⟨.inr h1,by rw[h1];exact hne⟩
       ·rintro(⟨_,h1⟩|⟨h1|h1,h2⟩)
        ·exact .inl<|.inr h1
        ·exact .inl<|.inl<|.inr ⟨h1,h2⟩
        ·exact .inr h1
      ·rw[e];intro g;cases g
      ·rw[e,et];intro _;exact⟨r,by simp,hge⟩
      ·rw[e];refine tq (tq ih.srt fun a ha=>(hsub a ha).1) fun a ha=>?_
       rcases List.mem_append.1 ha with ha|ha
       ·exact(hsub a ha).2
       ·simp at ha;subst ha;omega
    ·have hne:r.hi≠x.hi:=by omega
     have e:ew x R (k+1)=((ew x R k).1++[r],false):=by rw[es,hp];simp[hne,hge]
     refine⟨fun y=>?_,?_,?_,?_⟩
     ·rw[e,et];simp only[List.mem_append,List.mem_singleton,ih.mem y,hp];constructor
      ·rintro((⟨h1,_⟩|⟨h1,h2⟩)|h1)
       ·cases h1
       ·exact .inr ⟨.inl h1,h2⟩
       ·exact .inr ⟨.inr h1,by rw[h1];exact hne⟩
      ·rintro(⟨h1,_⟩|⟨h1|h1,h2⟩)
       ·cases h1
       ·exact .inl<|.inr ⟨h1,h2⟩
       ·exact .inr h1
     ·rw[e,et];intro _ a ha
      rcases List.mem_append.1 ha with ha|ha
      ·exact hlo a ha
      ·simp at ha;subst ha;omega
     ·rw[e];intro g;cases g
     ·rw[e];exact tq ih.srt fun a ha=>(hsub a ha).2
theorem vW(h:RS R)(y:Cl):y∈so x R↔y=x∨(y∈R∧y.hi≠x.hi):=by
 have s:=(Da x h R.length).mem y
 rw[List.take_length] at s
 unfold so;split
 ·rename_i hp;rw[s,hp];simp
 ·rename_i hp;rw[List.mem_append,s];simp[hp];exact or_comm
theorem PW(h:RS R):RS (so x R):=by
 have s:=Da x h R.length
 unfold so;split
 ·exact s.srt
 ·rename_i hp;refine tq s.srt fun a ha=>?_
  rcases(s.mem a).1 ha with⟨e,_⟩|⟨e,_⟩
  ·exact absurd e hp
  ·exact s.lo (by simpa using hp) a e
structure KR(kv:List (Int×Cl))(R:List Cl):Prop where
 srt:RS R
 get: ∀k y,aB kv k=some y↔y∈R∧y.hi=k
 nd:(kv.map (·.1)).Nodup
 rng: ∀y∈R,lV y
theorem UN:KR [] []:=⟨by simp[RS],fun k y=>by simp[aB],by simp,by simp⟩
theorem Iu(h:RS R)(k:Int)(y:Cl):aB (kO R) k=some y↔y∈R∧y.hi=k:=by
 have hn:((kO R).map (·.1)).Nodup:=by
  unfold kO;rw[List.map_map];exact List.pairwise_map.2 (h.imp fun h1 e=>by simp at e;omega)
 constructor
 ·intro e
  obtain⟨z,hz,e2⟩:=List.mem_map.1<|nn e;cases e2;exact⟨hz,rfl⟩
 ·rintro⟨hy,rfl⟩;exact xT hn<|List.mem_map.2 ⟨y,hy,rfl⟩
theorem uO(h:KR kv R)(k:Int):aB kv k=aB (kO R) k:=by
 cases e:aB (kO R) k with
 |some y=>exact(h.get k y).2 ((Iu h.srt k y).1 e)
 |none=>
  cases e2:aB kv k with
  |none=>rfl
  |some y=>have:=(Iu h.srt k y).2 ((h.get k y).1 e2);rw[e] at this;cases this
theorem zO(h:KR kv R)(k:Int):aN kv k=aN (kO R) k:=by unfold aN;rw[uO h]
theorem Iw(h:KR kv R): ∀n k,ei kv n k=ei (kO R) n k
 |0,_=>rfl
 |n+1,k=>by unfold ei;rw[uO h,zO h,Iw h n]
theorem BQ(kv:bm Cl)(m:Nat): ∀(n:Nat)(k:Int),ei kv n k<n→ei kv (n+m) k=ei kv n k
 |0,k,h=>by omega
 |n+1,k,h=>by
  rw[show n+1+m=(n+m)+1 by omega]
  unfold ei at h⊢
  split
  ·rename_i hs;rw[if_pos hs] at h;rw[BQ kv m n _<|by omega]
  ·rfl
theorem UO(h:KR kv R)(hO:HOk kv)(k:Int):FI R k=dep kv k:=by
 unfold FI dep;rw[←Iw h]
 exact BQ kv 53 17 k (by have:=hO k;unfold dep at this;omega)
theorem La(h:KR kv R)(hy:y∈R):aB kv y.hi=some y:=(h.get _ _).2 ⟨hy,rfl⟩
theorem NK(h:l.Pairwise (· < ·)):gJ l=l:=by
 have tr: ∀a b c:Int,decide (a≤b)=true→decide (b≤c)=true→decide (a≤c)=true:=fun a b c h1 h2=>by simp only[decide_eq_true_eq] at*;omega
 have to: ∀a b:Int,(decide (a≤b)||decide (b≤a))=true:=fun a b=>by simp only[Bool.or_eq_true,decide_eq_true_eq];omega
 unfold gJ
 refine List.Perm.eq_of_pairwise (le:=fun a b:Int=>decide (a≤b)=true) (fun a b _ _ h1 h2=>?_) (List.pairwise_mergeSort tr to _) (h.imp fun h1=>by simp;omega)<|List.mergeSort_perm _ _
 simp only[decide_eq_true_eq] at h1 h2;omega
theorem RB(h:KR kv R)(f:Cl→Bool):aX kv f=(R.filter f).map (·.hi):=by
 have hs:((R.filter f).map (·.hi)).Pairwise (· < ·):=List.pairwise_map.2<|h.srt.filter f
 unfold aX;rw[←NK hs];refine GH ?_
 refine(List.perm_ext_iff_of_nodup ((h.nd).sublist (List.Sublist.map _ List.filter_sublist))<|hs.imp fun h1 e=>by omega).2 fun k=>?_
 rw[List.mem_map,List.mem_map];constructor
 ·rintro⟨p,hp,rfl⟩
  obtain⟨h1,h2⟩:=List.mem_filter.1 hp
  obtain⟨h3,h4⟩:=(h.get p.1 p.2).1 (xT h.nd h1)
  exact⟨p.2,List.mem_filter.2 ⟨h3,h2⟩,h4⟩
 ·rintro⟨r,hr,rfl⟩
  obtain⟨h1,h2⟩:=List.mem_filter.1 hr
  exact⟨_,List.mem_filter.2 ⟨nn<|La h h1,h2⟩,rfl⟩
theorem RD(h:KR kv R):(kv.map (·.1)).Perm (R.map (·.hi)):=by
 have hs:(R.map (·.hi)).Nodup:=List.pairwise_map.2<|h.srt.imp fun h1 e=>by omega
 refine(List.perm_ext_iff_of_nodup h.nd hs).2 fun k=>?_
 rw[List.mem_map,List.mem_map];constructor
 ·rintro⟨p,hp,rfl⟩
  obtain⟨h3,h4⟩:=(h.get p.1 p.2).1 (xT h.nd hp);exact⟨p.2,h3,h4⟩
 ·rintro⟨r,hr,rfl⟩;exact⟨_,nn<|La h hr,rfl⟩
theorem UP(h:KR kv R):kv.length=R.length:=by simpa using(RD h).length_eq
theorem AL(h:lV y):(0≤y.ra∧0≤y.rb∧0≤y.rc)∧(0≤y.la∧0≤y.lb∧0≤y.lc)∧0≤y.ua∧0≤y.ub∧0≤y.uc:=by
 unfold lV at h;omega
theorem Hh(h:lV y):fC y=qy y:=by
 obtain⟨⟨h1,h2,h3⟩,⟨h4,h5,h6⟩,h7,h8,h9⟩:=AL h
 unfold fC qy;rw[td h1 h2 h3,td h4 h5 h6,td h7 h8 h9]
theorem E5(h:lV y):aV y.la y.lb y.lc=cR y.la y.lb y.lc:=td (AL h).2.1.1 (AL h).2.1.2.1 (AL h).2.1.2.2
theorem UQ:lV cG:=by unfold lV cG;decide
theorem KI(h:KR kv R)(k:Int):lV (aN kv k):=by
 unfold aN;cases e:aB kv k with
 |none=>exact UQ
 |some y=>exact h.rng y ((h.get k y).1 e).1
theorem BR(h:KR kv R)(k:Int):iN kv k=uo R k:=by
 unfold iN uo;rw[E5<|KI h k,zO h]
theorem E6(h:KR kv R)(a:Int):aX kv (fun v_=>v_.hp==a)=rR R a:=by
 rw[RB h];unfold rR;congr 1
theorem KJ(h:KR kv R)(hx:lV x):KR (aK kv x.hi x) (so x R):=by
 refine⟨PW h.srt,fun k y=>?_,mN h.nd _ _,fun r hr=>?_⟩
 ·rw[iW];by_cases e:x.hi=k
  ·rw[if_pos e];subst e;constructor
   ·intro g;cases g;exact⟨(vW h.srt x).2 (.inl rfl),rfl⟩
   ·rintro⟨hr,e1⟩
    rcases(vW h.srt y).1 hr with rfl|⟨_,g⟩
    ·rfl
    ·exact absurd e1 g
  ·rw[if_neg e,h.get];constructor
   ·rintro⟨hr,e1⟩;exact⟨(vW h.srt y).2 (.inr ⟨hr,fun g=>e<|by rw[←g,e1]⟩),e1⟩
   ·rintro⟨hr,e1⟩
    rcases(vW h.srt y).1 hr with rfl|⟨g,_⟩
    ·exact absurd e1 e
    ·exact⟨g,e1⟩
 ·rcases(vW h.srt r).1 hr with rfl|⟨g,_⟩
  ·exact hx
  ·exact h.rng r g
theorem UR(h:KR kv R)(a:Int):KR (aY kv a) (MJ a R):=by
 refine⟨List.Pairwise.filter _ h.srt,fun k y=>?_,lJ h.nd a,fun r hr=>h.rng r (List.mem_filter.1 hr).1⟩
 rw[gx h.nd]
 by_cases e:a=k
 ·rw[if_pos e];subst e;constructor
  ·intro g;cases g
  ·rintro⟨hr,e1⟩;have:=(List.mem_filter.1 hr).2;simp[e1] at this
 ·rw[if_neg e,h.get];constructor
  ·rintro⟨hr,e1⟩;exact⟨List.mem_filter.2 ⟨hr,by simp[e1];exact fun g=>e g.symm⟩,e1⟩
  ·rintro⟨hr,e1⟩;exact⟨(List.mem_filter.1 hr).1,e1⟩
structure cK(kv:List (Int×Cl)):Prop where
 nd:(kv.map (·.1)).Nodup
 key: ∀k y,aB kv k=some y→y.hi=k∧fC y=0
 par: ∀k y,aB kv k=some y→y.hp=0∨ ∃p,aB kv y.hp=some p∧p.hl=false
 shr: ∀k y,aB kv k=some y→(aV y.la y.lb y.lc)>1→iN kv y.hp=true
 dep:HOk kv
 len:kv.length≤64
theorem Hi:cK []:=⟨by simp,fun k y h=>by simp[aB] at h,fun k y h=>by simp[aB] at h,fun k y h=>by simp[aB] at h,WX,by simp⟩
theorem rq(h:fC y=0):1≤y.hi∧0≤y.hp∧y.hi≠y.hp:=by
 unfold fC at h;split at h
 ·omega
 ·omega
theorem nP(h:cK kv):aB kv 0=none:=by
 cases e:aB kv 0 with
 |none=>rfl
 |some y=>obtain⟨h1,h2⟩:=h.key 0 y e;have:=rq h2;omega
variable{k:Int}
theorem iP(h:aB kv k=some y):aN kv k=y:=by unfold aN;rw[h];rfl
theorem Db(h:aB kv k=none):aN kv k=cG:=by unfold aN;rw[h];rfl
theorem G9(kv:bm Cl): ∀(n:Nat)(k:Int),ei kv n k≤ei kv (n+1) k
 |0,k=>by simp[ei]
 |n+1,k=>by
  rw[ei,ei];split
  ·have:=G9 kv n (aN kv k).hp;omega
  ·exact Nat.le_refl _
theorem US(h:i4 kv y=0):fC y=0∧aB kv y.hi=none∧(kv.length:Int)≠64∧(y.hp=0∨aB kv y.hp≠none)∧(aN kv y.hp).hl=false∧((aV y.la y.lb y.lc)>1→iN kv y.hp=true)∧(dep kv y.hp:Int)≠16:=by
 unfold i4 at h
 repeat' split at h
 all_goals first|omega|skip
 rename_i h1 h2 h3 h4 h5 h6
 refine⟨by omega,?_,h3,?_,?_,?_,h6⟩
 ·cases e:aB kv y.hi with
  |none=>rfl
  |some z=>rw[e] at h2;simp at h2
 ·by_cases e:y.hp=0
  ·exact .inl e
  ·right;intro e2;apply h4;left;exact⟨e,by rw[e2];rfl⟩
 ·cases e:(aN kv y.hp).hl with
  |false=>rfl
  |true=>exact absurd (.inr e) h4
 ·intro g;cases e:iN kv y.hp with
  |true=>rfl
  |false=>exact absurd ⟨g,e⟩ h5
theorem RE(h:cK kv)(hk:k=0∨aB kv k≠none):(aN kv k).hp=0∨aB kv (aN kv k).hp≠none:=by
 cases e:aB kv k with
 |none=>rw[Db e];exact .inl rfl
 |some y=>rw[iP e];rcases h.par k y e with g|⟨p,g,_⟩
          ·exact .inl g
          ·right;rw[g];simp
theorem Bn(h:cK kv)(hn:aB kv y.hi=none)(h0:y.hi≠0): ∀(n:Nat)(k:Int),(k=0∨aB kv k≠none)→ei (aK kv y.hi y) n k=ei kv n k
 |0,_,_=>rfl
 |n+1,k,hk=>by
  have hne: ¬y.hi=k:=by
   rcases hk with rfl|hk
   ·exact h0
   ·rintro rfl;exact hk hn
  have eg:aB (aK kv y.hi y) k=aB kv k:=by rw[iW,if_neg hne]
  rw[ei,ei,eg,show aN (aK kv y.hi y) k=aN kv k by unfold aN;rw[eg],Bn h hn h0 n _<|RE h hk]
theorem xR(hne: ¬y.hi=k):iN (aK kv y.hi y) k=iN kv k:=by
 unfold iN aN;rw[iW,if_neg hne]
theorem PX(h:cK kv)(hE:i4 kv y=0):cK (aK kv y.hi y):=by
 obtain⟨h1,h2,h3,h4,h5,h6,h7⟩:=US hE
 obtain⟨w1,w2,w3⟩:=rq h1
 have old: ∀k z,aB kv k=some z→ ¬y.hi=z.hp:=fun k z hz e=>by
  rcases h.par k z hz with g|⟨p,g,_⟩
  ·omega
  ·rw[←e,h2] at g;cases g
 refine⟨mN h.nd _ _,fun k z hz=>?_,fun k z hz=>?_,fun k z hz hs=>?_,fun k=>?_,?_⟩
 ·rw[iW] at hz;split at hz
  ·cases hz;exact⟨by assumption,h1⟩
  ·exact h.key k z hz
 ·rw[iW] at hz;split at hz
  ·cases hz
   rcases h4 with g|g
   ·exact .inl g
   ·right;cases e:aB kv y.hp with
    |none=>exact absurd e g
    |some p=>exact⟨p,by rw[iW,if_neg w3];exact e,by rw[←iP e];exact h5⟩
  ·rcases h.par k z hz with g|⟨p,g,g2⟩
   ·exact .inl g
   ·exact .inr ⟨p,by rw[iW,if_neg<|old k z hz];exact g,g2⟩
 ·rw[iW] at hz;split at hz
  ·cases hz;rw[xR w3];exact h6 hs
  ·rw[xR<|old k z hz];exact h.shr k z hz hs
 ·unfold dep
  by_cases e:y.hi=k
  ·subst e
   have eg:aB (aK kv y.hi y) y.hi=some y:=by rw[iW,if_pos rfl]
   rw[ei,eg,iP eg,Bn h h2 (by omega) 16 _ h4]
   have q1:ei kv 16 y.hp≤ei kv 17 y.hp:=G9 kv 16 y.hp
   have q2:=h.dep y.hp
   unfold dep at*
   simp only[Option.isSome_some,if_true]
   omega
  ·cases hm:aB kv k with
   |none=>
    rw[ei,iW,if_neg e,hm];simp
   |some z=>rw[Bn h h2 (by omega) 17 k<|.inr (by rw[hm];simp)];exact h.dep k
 ·rw[Au _ h2];have:=h.len;omega
theorem Ge{kv':bm Cl}(h1: ∀k,(aB kv' k).isSome=(aB kv k).isSome)(h2: ∀k,(aN kv' k).hp=(aN kv k).hp): ∀(n:Nat)(k:Int),ei kv' n k=ei kv n k
 |0,_=>rfl
 |n+1,k=>by rw[ei,ei,h1,h2,Ge h1 h2 n]
theorem UT(h:i5 kv y=0):fC y=0∧aB kv y.hi≠none∧y.hp=(aN kv y.hi).hp∧y.hl=(aN kv y.hi).hl∧((aV y.la y.lb y.lc)>1→iN kv y.hp=true)∧((aV y.la y.lb y.lc)≤1→(aX kv<|fun v_=>v_.hp==y.hi).any (km kv)=false):=by
 unfold i5 at h
 repeat' split at h
 all_goals first|omega|skip
 rename_i h1 h2 h3 h4
 refine⟨by omega,?_,?_,?_,?_,?_⟩
 ·intro e;apply h2;rw[e];rfl
 ·exact Classical.byContradiction fun g=>h3<|.inl g
 ·exact Classical.byContradiction fun g=>h3<|.inr g
 ·intro g;cases e:iN kv y.hp with
  |true=>rfl
  |false=>exact absurd (.inl ⟨g,e⟩) h4
 ·intro g;cases e:(aX kv<|fun v_=>v_.hp==y.hi).any (km kv) with
  |false=>rfl
  |true=>exact absurd (.inr ⟨g,e⟩) h4
theorem tO{f:Cl→Bool}{v:Cl}(h:aB kv k=some v)(hf:f v=true):k∈aX kv f:=by
 unfold aX gJ;rw[(List.mergeSort_perm _ _).mem_iff,List.mem_map]
 exact⟨(k,v),List.mem_filter.2 ⟨nn h,hf⟩,rfl⟩
theorem PY(h:cK kv)(hE:i5 kv y=0):cK (aK kv y.hi y):=by
 obtain⟨h1,h2,h3,h4,h5,h6⟩:=UT hE
 obtain⟨w1,w2,w3⟩:=rq h1
 obtain⟨x,hx⟩: ∃x,aB kv y.hi=some x:=by
  cases e:aB kv y.hi with
  |none=>exact absurd e h2
  |some x=>exact⟨x,rfl⟩
 rw[iP hx] at h3 h4
 have hsh: ∀z:Cl,z.hp=y.hi→ ∀k,aB kv k=some z→(aV z.la z.lb z.lc)>1→(aV y.la y.lb y.lc)>1:=fun z e k hz hs=>by
  rcases Classical.em ((aV y.la y.lb y.lc)>1) with g|g
  ·exact g
  ·have:=List.any_eq_false.1 (h6<|by omega) k<|tO hz<|by simp[e]
   unfold km at this;rw[hz] at this;simp at this;omega
 refine⟨mN h.nd _ _,fun k z hz=>?_,fun k z hz=>?_,fun k z hz hs=>?_,fun k=>?_,?_⟩
 ·rw[iW] at hz;split at hz
  ·cases hz;exact⟨by assumption,h1⟩
  ·exact h.key k z hz
 ·have par:z.hp=0∨ ∃p,aB kv z.hp=some p∧p.hl=false:=by
   rw[iW] at hz;split at hz
   ·cases hz;rw[h3];exact h.par _ _ hx
   ·exact h.par k z hz
  rcases par with g|⟨p,g,g2⟩
  ·exact .inl g
  ·right;by_cases e:y.hi=z.hp
   ·refine⟨y,by rw[iW,if_pos e],?_⟩
    rw[←e,hx] at g;cases g;rw[h4];exact g2
   ·exact⟨p,by rw[iW,if_neg e];exact g,g2⟩
 ·rw[iW] at hz;split at hz
  ·cases hz;rw[xR w3];exact h5 hs
  ·by_cases e:y.hi=z.hp
   ·unfold iN aN;rw[iW,if_pos e]
    have:=hsh z e.symm k hz hs
    simp;right;omega
   ·rw[xR e];exact h.shr k z hz hs
 ·unfold dep;rw[Ge (kv:=kv) (fun q=>?_)<|fun q=>?_]
  ·exact h.dep k
  ·rw[iW];split
   ·rename_i e;subst e;rw[hx];rfl
   ·rfl
  ·unfold aN;rw[iW];split
   ·rename_i e;subst e;rw[hx];exact h3
   ·rfl
 ·rw[F8 _ h2];exact h.len
theorem UU{a:Int}(h:jx kv a=0):aB kv a≠none∧ ∀k z,aB kv k=some z→z.hp≠a:=by
 unfold jx at h
 repeat' split at h
 all_goals first|omega|skip
 rename_i h1 h2
 refine⟨fun e=>h1 (by rw[e];rfl),fun k z hz e=>?_⟩
 have:k∈aX kv (fun v_=>v_.hp==a):=tO hz<|by simp[e]
 have:=List.length_pos_of_mem this;omega
theorem PZ(h:cK kv){a:Int}(hE:jx kv a=0):cK (aY kv a):=by
 obtain⟨h1,h2⟩:=UU hE
 have gt: ∀k z,aB (aY kv a) k=some z→aB kv k=some z:=fun k z hz=>by
  rw[gx h.nd] at hz;split at hz
  ·cases hz
  ·exact hz
 have same: ∀k,¬a=k→aB (aY kv a) k=aB kv k:=fun k hk=>by rw[gx h.nd,if_neg hk]
 have dn: ∀(n:Nat)(k:Int),ei (aY kv a) n k≤ei kv n k:=by
  intro n;induction n with
  |zero=>intro k;simp[ei]
  |succ n ih=>
   intro k;by_cases e:a=k
   ·rw[ei];rw[gx h.nd,if_pos e];simp
   ·rw[ei,ei,same k e,show aN (aY kv a) k=aN kv k by unfold aN;rw[same k e]]
    split
    ·have:=ih (aN kv k).hp;omega
    ·exact Nat.le_refl _
 refine⟨lJ h.nd a,fun k z hz=>h.key k z<|gt k z hz,fun k z hz=>?_,fun k z hz hs=>?_,fun k=>Nat.le_trans (dn 17 k)<|h.dep k,?_⟩
 ·rcases h.par k z (gt k z hz) with g|⟨p,g,g2⟩
  ·exact .inl g
  ·exact .inr ⟨p,by rw[same _<|Ne.symm<|h2 k z<|gt k z hz];exact g,g2⟩
 ·have:=h.shr k z (gt k z hz) hs
  unfold iN aN at this⊢;rw[same _<|Ne.symm<|h2 k z<|gt k z hz];exact this
 ·have:=yI h1;have:=h.len;omega
theorem GG{g:Int→Bool}: ∀{l:bT},(∀i∈l,f i=g i)→l.any f=l.any g
 |[],_=>rfl
 |x::l,h=>by rw[List.any_cons,List.any_cons,h x<|by simp,GG fun i hi=>h i<|by simp[hi]]
theorem RF(h:KR kv R)(hi:i≠0):km kv i=uo R i:=by
 rw[←BR h];unfold km iN;rw[show((aB kv i).getD cG)=aN kv i from rfl]
 have:(i==0)=false:=by simpa using hi
 rw[this];simp
theorem UW(h:KR kv R)(hL:cK kv)(hy:lV y):i4 kv y=E2 R y:=by
 unfold i4 E2
 rw[Hh hy,BR h,E5 hy,UO h hL.dep,←UP h,←zO h,←uO h,←uO h]
 have hd:=hL.dep y.hp
 by_cases c1:qy y≠0
 ·rw[if_pos c1,if_pos c1]
 rw[if_neg c1,if_neg c1]
 by_cases c2:(aB kv y.hi).isSome=true
 ·rw[if_pos c2,if_pos c2]
 rw[if_neg c2,if_neg c2]
 by_cases c3:(kv.length:Int)=64
 ·rw[if_pos c3,if_pos c3]
 rw[if_neg c3,if_neg c3]
 have e4:((y.hp≠0∧(aB kv y.hp).isSome=false)∨(aN kv y.hp).hl=true)↔(y.hp≠0∧(aB kv y.hp=none∨(aN kv y.hp).hl=true)):=by
  by_cases e0:y.hp=0
  ·rw[e0,Db<|nP hL];simp[cG]
  ·simp[e0]
 simp only[e4]
 have e6:((dep kv y.hp:Int)=16)↔((dep kv y.hp:Int)≥16):=by omega
 simp only[e6]
theorem UX(h:KR kv R)(a:Int):jx kv a=E3 R a:=by
 unfold jx E3;rw[E6 h,←uO h];cases aB kv a<;>simp
theorem UY(h:KR kv R)(hL:cK kv)(hy:lV y):i5 kv y=E4 R y:=by
 unfold i5 E4
 have ea:(rR R y.hi).any (AZ R y)=(!decide ((cR y.la y.lb y.lc)>1)&&(rR R y.hi).any (km kv)):=by
  have e1:(rR R y.hi).any (AZ R y)=(rR R y.hi).any (fun i=> !decide ((cR y.la y.lb y.lc)>1)&&km kv i):=by
   refine GG fun i hi=>?_
   rw[←E6 h] at hi
   have hi2:i∈kv.map (·.1):=by
    unfold aX gJ at hi;rw[(List.mergeSort_perm _ _).mem_iff] at hi
    obtain⟨p,hp,rfl⟩:=List.mem_map.1 hi;exact List.mem_map_of_mem (List.mem_filter.1 hp).1
   obtain⟨p,hp,rfl⟩:=List.mem_map.1 hi2
   obtain⟨k1,k2⟩:=hL.key p.1 p.2<|xT h.nd hp
   have:=rq k2
   unfold AZ;rw[RF h<|by omega]
  rw[e1];cases decide ((cR y.la y.lb y.lc)>1)<;>simp
 rw[Hh hy,BR h,E5 hy,E6 h,ea,←zO h,←uO h]
 by_cases c1:qy y≠0
 ·rw[if_pos c1,if_pos c1]
 rw[if_neg c1,if_neg c1]
 cases c2:aB kv y.hi with
 |none=>simp
 |some x=>
  simp only[Option.isSome_some,reduceCtorEq,if_false]
  have e3:(y.hp≠(aN kv y.hi).hp∨y.hl≠(aN kv y.hi).hl)↔((aN kv y.hi).hp≠y.hp∨(aN kv y.hi).hl≠y.hl):=by rw[ne_comm,ne_comm (a:=y.hl)]
  simp only[e3]
  by_cases c4:(cR y.la y.lb y.lc)>1
  ·have: ¬(cR y.la y.lb y.lc)≤1:=by omega
   simp[c4,this]
  ·have:(cR y.la y.lb y.lc)≤1:=by omega
   simp[c4,this]
theorem OO(h:cK kv)(y:Cl):cK (mI kv y):=by
 unfold mI;split
 ·exact PX h ‹_›
 ·exact h
theorem OP(h:cK kv)(y:Cl):cK (lU kv y):=by
 unfold lU;split
 ·exact PY h ‹_›
 ·exact h
theorem OQ(h:cK kv)(a:Int):cK (om kv a):=by
 unfold om;split
 ·exact PZ h ‹_›
 ·exact h
theorem RH(h:KR kv R)(hL:cK kv)(hy:lV y):KR (mI kv y) (L6 R y):=by
 unfold mI L6;rw[UW h hL hy];split
 ·exact KJ h hy
 ·exact h
theorem RI(h:KR kv R)(hL:cK kv)(hy:lV y):KR (lU kv y) (L9 R y):=by
 unfold lU L9;rw[UY h hL hy];split
 ·exact KJ h hy
 ·exact h
theorem RJ(h:KR kv R)(a:Int):KR (om kv a) (L8 R a):=by
 unfold om L8;rw[UX h];split
 ·exact UR h a
 ·exact h
structure Pl where
 pp:Int
 pf:Int
 deriving Inhabited,DecidableEq
def rE(x:Pl):List Value:=[(i_ x.pp),(i_ x.pf)]
def aw:Pl:=⟨0,0⟩
def ez(on:List (Int×Int))(kv:List (Int×MB))(i:Int):Bool:=(aB on i).isSome||decide ((kx kv i).length>0)
def b0(ym:List (Int×Pl))(i:Int):Int:=((aB ym i).getD aw).pp
def jI(ym:List (Int×Pl))(i:Int):Bool:=decide (((aB ym i).getD aw).pf≠0)
def mG(F:Int→List (Int×Int))(p i:Int):Int→List (Int×Int):=fun q=>if p=q then aK (F p) i 1 else F q
def iC(F:Int→List (Int×Int))(p i:Int):Int→List (Int×Int):=fun q=>if p=q then aY (F p) i else F q
def jG(ym:List (Int×Pl)):Nat→Int→Prop
 |0,_=>False
 |n+1,i=>b0 ym i=0∨jG ym n (b0 ym i)
def ej(ym:List (Int×Pl))(F:Int→List (Int×Int)):Nat→Int→List Int×(Int→List (Int×Int))
 |0,i=>([i],F)
 |n+1,i=>if F (b0 ym i)≠[]∨b0 ym i=0 then([i],mG F (b0 ym i) i) else
  (i::(ej ym (mG F (b0 ym i) i) n<|b0 ym i).1,(ej ym (mG F (b0 ym i) i) n<|b0 ym i).2)
def fO(ym:List (Int×Pl))(F:Int→List (Int×Int)):Nat→Int→List Int×(Int→List (Int×Int))
 |0,i=>([i],F)
 |n+1,i=>if iC F (b0 ym i) i (b0 ym i)≠[]∨b0 ym i=0 then([i],iC F (b0 ym i) i) else
  (i::(fO ym (iC F (b0 ym i) i) n<|b0 ym i).1,(fO ym (iC F (b0 ym i) i) n<|b0 ym i).2)
variable{ym:bm Pl}{F:Int→bm Int}{n:Nat}
theorem oU(h:F (b0 ym i)≠[]∨b0 ym i=0):ej ym F (n+1) i=([i],mG F (b0 ym i) i):=by rw[ej,if_pos h]
theorem AB(h: ¬(F (b0 ym i)≠[]∨b0 ym i=0)):ej ym F (n+1) i=(i::(ej ym (mG F (b0 ym i) i) n<|b0 ym i).1,(ej ym (mG F (b0 ym i) i) n<|b0 ym i).2):=by rw[ej,if_neg h]
theorem rj(h:iC F (b0 ym i) i (b0 ym i)≠[]∨b0 ym i=0):fO ym F (n+1) i=([i],iC F (b0 ym i) i):=by rw[fO,if_pos h]
theorem DU(h: ¬(iC F (b0 ym i) i (b0 ym i)≠[]∨b0 ym i=0)):fO ym F (n+1) i=(i::(fO ym (iC F (b0 ym i) i) n<|b0 ym i).1,(fO ym (iC F (b0 ym i) i) n<|b0 ym i).2):=by rw[fO,if_neg h]
theorem GV{p:Int}(h:F p=[]):iC F p i=F:=by
 funext q;unfold iC;split
 ·rename_i e;subst e;rw[h];rfl
 ·rfl
abbrev iK(b:Nat)(kv:bm Pl):V.aH:=bP (fun k:Int=>i_ k) (fun v_:Pl=>(.agg (rE v_).toArray)) b kv
abbrev fj(b:Nat)(kv:bm Int):V.aH:=bP (fun k:Int=>i_ k) (fun x:Int=>i_ x) b kv
abbrev gl(b:Nat)(kv:bm MB):V.aH:=bP (fun k:Int=>i_ k) og b kv
theorem wS(bs mb mo mk:Nat)(ym:bm Pl)(on:bm Int)(kv:bm MB)(ci:Int)(w:World)(r0:(aA bs [.map<|some mb,.map<|some mo,.map<|some mk] 197).holds w)(r1:(iK mb ym).holds w)(r2:(fj mo on).holds w)(r3:(gl mk kv).holds w)(r4:(eR kv).holds w):
  CW 109 #[p_ bs,i_ ci] w (b_<|ez on kv ci):=by
 refine aU Tryz.func109 rfl (HS.nil w) (aD []<|aE<|aD [(8,b_ false)]<|bY<|aP<|aC<|dm 5 [.rd [.map<|some mo]] [(13,.map<|some mo),(14,i_ ci)] (o1<|ro ⟨bs,1,none⟩ (vs:=[.map<|some mo])<|cB r0 rfl)<|aG<|cC (some 15) _ (uq 3 3 ci 0 (fun w s=>bV s r2) eE)<|ak [(6,b_<|(aB on ci).isSome)]<|aE<|iM ((aB on ci).isSome) (fun e1=>?_)<|fun e1=>?_)
 ·refine aW 6 (b_ true) (fM e1) ?_
  refine aM<|bF [.sk,.sk,.sk,.sk,.sk,.sk,.sk,.sk] [(4,b_ true)] ?_
  refine aF<|bK [b_ true] ?_
  refine congrArg Value.bool ?_;unfold ez;simp_all
 refine aW 6 (b_ false) (fM e1)<|aM<|dm 7 [.rd [.map<|some mk]] [(19,b_ false),(23,.map<|some mk),(24,i_ ci)] (o1<|ro ⟨bs,2,none⟩ (vs:=[.map<|some mk])<|cB r0 rfl) ?_
 rcases hk1:aB kv ci with _|m1
 ·have hx1:=C3 hk1
  refine aG<|cC (some 25) (.map none) (ip (y9 hk1)<|qL 3 194 ci m0 (fun ww ss=>bV ss r3) eE) ?_
  refine aG<|cC (some 26) (i_ 0) (Bv (kt:=3) (et:=3) rfl rfl (by kernel_rfl)) ?_
  refine ak [(4,b_ false)] ?_
  refine aF<|bK [b_ false] ?_
  refine congrArg Value.bool ?_;unfold ez;simp_all
 have hx1:=C4 hk1
 obtain⟨b1,hm1,hb1⟩:=U5 r4 hk1
 refine aG<|cC (some 25) (.map<|some b1) (ip (sJ hk1 hm1)<|qL 3 194 ci m0 (fun ww ss=>bV ss r3) eE) ?_
 refine aG<|cC (some 26) (c_ m1.mx.length) (tR (kt:=3) (et:=3) (enck:=(fun k:Int=>i_ k)) (encv:=(fun x:Int=>i_ x)) (b:=b1) (kv:=m1.mx) (fun ww ss=>bV ss hb1) rfl rfl (by kernel_rfl)) ?_
 refine ak [(4,b_<|decide ((m1.mx.length:Int)>0))] ?_
 refine aF<|bK [b_<|decide ((m1.mx.length:Int)>0)] ?_
 refine congrArg Value.bool ?_;unfold ez;simp_all
abbrev sM(p0)(p1)(p2)(p3):=(aA p0 [.map<|some p1,.map<|some p2,.map<|some p3] 197:V.aH)
theorem Ol(bs mb mo mk:Nat)(ym:bm Pl)(on:bm Int)(kv:bm MB)(ci:Int)(hno:jI ym ci=false∨ez on kv ci=false)(w:World)(r0:(sM bs mb mo mk).holds w)(r1:(iK mb ym).holds w)(r2:(fj mo on).holds w)(r3:(gl mk kv).holds w)(r4:(eR kv).holds w):
  CW 216 #[p_ bs,i_ ci] w (.tuple #[e_,i_ 6]):=by
 refine aU Tryz.func216 rfl (HS.nil w) (aD []<|aE<|aO<|aD [(9,b_ false)]<|bY<|aC<|dm 5 [.rd [.map<|some mb]] [(16,.map<|some mb),(17,i_ ci)] (o1<|ro ⟨bs,0,none⟩ (vs:=[.map<|some mb])<|cB r0 rfl)<|aG<|cC (some 18) _ (qL 3 200 ci aw (fun w s=>bV s r1) eE)<|az [.o,.cq<|b_<|ez on kv ci,.cl] [(12,b_<|((((aB ym ci).getD aw).pf)==0)||(!(ez on kv ci)))] (o1<|go (true&&(((((aB ym ci).getD aw).pf)==0)==false)) fun h_=>(qo<|fun w s=>wS bs mb mo mk ym on kv ci w (bV s r0) (bV s r1) (bV s r2) (bV s r3)<|bV s r4))<|aI rfl (fun e1=>?_) (fun e1=>?_))
 ·refine aD [(4,e_),(5,i_ 6)]<|aF<|bK [e_,i_ 6] ?_
  rfl
 exact absurd e1<|by(intro h_;unfold jI at hno;simp at h_;rcases hno with hno|hno;exact h_.1 (by simpa using hno);exact absurd h_.2 (by rw[hno];decide))
theorem S4(bs mb mo mk:Nat)(ym:bm Pl)(on:bm Int)(kv:bm MB)(ci:Int)(hlf:jI ym ci=true)(his:ez on kv ci=true)(hd0:jG ym 40 ci):
  CS 216 #[p_ bs,i_ ci] [sM bs mb mo mk,iK mb ym,fj mo on,gl mk kv,eR kv] (fun((kv',al',cl'):(bm MB)×(bn)×Nat)=>(.tuple #[vS al' ((fO ym (kx kv) 40 ci).1) cl',i_ 0])) (fun(kv',al',cl')=>kx kv'=(fO ym (kx kv) 40 ci).2) fun(kv',al',cl')=>[sM bs mb mo mk,iK mb ym,fj mo<|aY on ci,gl mk kv',eR kv',sI al' ((fO ym (kx kv) 40 ci).1) cl']:=by
 intro w hs
 refine aU Tryz.func216 rfl hs (aD []<|aE<|aO<|aD [(9,b_ false)]<|bY<|aC<|bA 5 [.ld 0] [(16,.map<|some mb),(17,i_ ci)]<|aG<|cC (some 18) _ (kS (kt:=3) (et:=200) (enck:=(fun k:Int=>i_ k)) (encv:=(fun v_:Pl=>(.agg (rE v_).toArray))) (b:=mb) (kv:=ym) (k:=ci) (d0:=aw) (fun w s=>s.mem (i:=1) rfl) rfl rfl rfl (by kernel_rfl) eE (by kernel_rfl) rfl)<|az [.o,.cq<|b_<|ez on kv ci,.cl] [(12,b_<|((((aB ym ci).getD aw).pf)==0)||(!(ez on kv ci)))] (o1<|go (true&&(((((aB ym ci).getD aw).pf)==0)==false)) fun h_=>(qo<|fun w s=>wS bs mb mo mk ym on kv ci w (s.mem (i:=0) rfl) (s.mem (i:=1) rfl) (s.mem (i:=2) rfl) (s.mem (i:=3) rfl)<|s.mem (i:=4) rfl))<|aI rfl (fun e1=>?_) (fun e1=>?_))
 ·exact absurd e1<|by(intro h_;unfold jI at hlf;simp at h_ hlf;simp_all)
 have p1:=e1
 refine aP<|aC<|bA 5 [.ld 0] [(30,.map<|some mo),(31,i_ ci)]<|aG<|vD (kt:=3) (et:=3) (enck:=(fun k:Int=>i_ k)) (encv:=(fun x:Int=>i_ x)) (kv:=on) (k:=ci) 2 [sM bs mb mo mk,iK mb ym,fj mo<|aY on ci,gl mk kv,eR kv] (by kernel_rfl) rfl rfl rfl (by kernel_rfl) eE rfl rfl (dP<|aC<|cP [.p] [(32,i_ ci)]<|aG<|eB 33 (e:=3) [i_ ci] (by kernel_rfl) rfl (fun _=>by kernel_rfl) _ (fun _=>rfl) ?_)
 intro b1
 refine ak [(6,.slice (some ⟨b1,0,none⟩) 1 1)]<|aE<|xO 5 (b:=b1) 1 1 [sM bs mb mo mk,iK mb ym,fj mo<|aY on ci,gl mk kv,eR kv,sI (some ⟨b1,0,none⟩) ([ci]) 1] rfl rfl (by decide) rfl (bX [(6,vS (some ⟨b1,0,none⟩) ([ci]) 1),(7,i_ ci)]<|aO<|bj 5 (sI (some ⟨b1,0,none⟩) (([]:bT)++[ci]) 1) rfl (cw (by rfl:[ci]=(([]:bT)++[ci]))) (aW 6 (vS (some ⟨b1,0,none⟩) (([]:bT)++[ci]) 1) (eW<|by rfl)<|eA (σ:=Int×Nat×(bT)×(bm MB)×(bn)×Nat) [] (fun(i,n,pre,kvk,ao,co)=>[(7,i_ i),(6,vS ao (pre++[i]) co)]) [0,0,0,0,0,0] (fun(i,n,pre,kvk,ao,co)=>[sM bs mb mo mk,iK mb ym,fj mo<|aY on ci,gl mk kvk,eR kvk,sI ao (pre++[i]) co]) (fun(i,n,pre,kvk,ao,co)=>((pre++(fO ym (kx kvk) n i).1,(fO ym (kx kvk) n i).2)=fO ym (kx kv) 40 ci)∧(jG ym n i)∧(pre.length+n≤40)) (fun(i,n,pre,kvk,ao,co)=>n) (ci,40,([]:bT),kv,some ⟨b1,0,none⟩,1) ⟨(by rfl),‹_›,(by simp)⟩ ?_ ?_))
 ·exact bB [0,0,0,0,0,0]
 rintro⟨i,n,pre,kvk,ao,co⟩ ⟨hp,hd,hl⟩
 obtain⟨n,rfl⟩: ∃m,n=m+1:=by cases n with|zero=>exact hd.elim|succ m=>exact⟨m,rfl⟩
 refine aO<|aC<|bA 5 [.ld 0] [(38,.map<|some mb),(39,i_ i)]<|aG<|cC (some 40) _ (kS (kt:=3) (et:=200) (enck:=(fun k:Int=>i_ k)) (encv:=(fun v_:Pl=>(.agg (rE v_).toArray))) (b:=mb) (kv:=ym) (k:=i) (d0:=aw) (fun w s=>s.mem (i:=1) rfl) rfl rfl rfl (by kernel_rfl) eE (by kernel_rfl) rfl)<|ak [(8,i_<|((aB ym i).getD aw).pp)]<|aC<|bA 5 [.ld 0] [(45,.map<|some mk),(46,i_<|((aB ym i).getD aw).pp)] ?_
 rcases hk2:aB kvk (((aB ym i).getD aw).pp) with _|m2
 ·have hx2:=C3 hk2
  refine aG<|cC (some 47) (.map none) (ip (y9 hk2)<|qL 3 194 (((aB ym i).getD aw).pp) m0 (qM 3 rfl) eE)<|cP [.p] [(48,i_ i)]<|aG<|cC none (.tuple #[]) (Pg (kt:=3) (et:=3) (enck:=(fun k:Int=>i_ k)) rfl rfl rfl (by kernel_rfl) eE)<|dP<|cS<|bA 5 [.ld 0] [(52,.map<|some mk),(53,i_<|((aB ym i).getD aw).pp)]<|aG<|cC (some 54) (.map none) (ip (y9 hk2)<|qL 3 194 (((aB ym i).getD aw).pp) m0 (qM 3 rfl) eE)<|aG<|cC (some 55) (i_ 0) (Bv (kt:=3) (et:=3) rfl rfl (by kernel_rfl))<|ak [(58,i_<|((aB ym i).getD aw).pp),(59,b_<|(((aB ym i).getD aw).pp)==0),(60,b_<|(((aB ym i).getD aw).pp)==0)]<|aI rfl (fun e2=>?_) (fun e2=>?_)
  ·have p2:=e2;try simp only[bQ] at p2
   refine aE ?_
   have hq:kx kvk=iC (kx kvk) (b0 ym i) i:=(GV (by unfold b0;exact hx2)).symm
   have hs_:iC (kx kvk) (b0 ym i) i (b0 ym i)≠[]∨b0 ym i=0:=by unfold iC b0;rw[if_pos rfl,hx2];(right;assumption)
   refine bX [(4,vS ao (pre++[i]) co),(5,i_ 0)]<|aF<|bj 5 (sI ao ((fO ym (kx kv) 40 ci).1) co) rfl (cw (by(rw[←hp,rj hs_]):(pre++[i])=((fO ym (kx kv) 40 ci).1))) (bJ [0,0,0,0,0,0] [vS ao (pre++[i]) co,i_ 0] (kvk,ao,co) ?_ ?_)
   ·show((.tuple #[vS ao (pre++[i]) co,i_ 0]):Value)=(.tuple #[vS ao ((fO ym (kx kv) 40 ci).1) co,i_ 0])
    (rw[←hp,rj hs_])
   show kx kvk=(fO ym (kx kv) 40 ci).2
   (rw[hq,←hp,rj hs_])
  have p2:=e2;try simp only[bQ] at p2
  refine au ?_
  have hq:kx kvk=iC (kx kvk) (b0 ym i) i:=(GV (by unfold b0;exact hx2)).symm
  have hg_: ¬(iC (kx kvk) (b0 ym i) i (b0 ym i)≠[]∨b0 ym i=0):=by unfold iC b0;rw[if_pos rfl,hx2];rintro(h_|h_)<;>first|exact h_ rfl|contradiction
  refine aM<|bA 2 [] [(62,vS ao (pre++[i]) co),(63,i_<|((aB ym i).getD aw).pp)]<|aG<|eB 64 (e:=3) [i_<|((aB ym i).getD aw).pp] (by kernel_rfl) rfl (fun _=>by kernel_rfl) _ (fun _=>rfl) ?_
  intro b3
  refine aG<|gn i6 (pre++[i]) ([((aB ym i).getD aw).pp]) 5 65 (i_ 0) 8 dL jo (eV (i:=6) rfl) (by(simp;omega)) ?_
  intro A4 c4
  refine ak [(6,vS A4 ((pre++[i])++([((aB ym i).getD aw).pp])) c4)]<|bX [(7,i_<|((aB ym i).getD aw).pp)]<|?_
  have hnx:((pre++[i])++(fO ym (kx kvk) n<|b0 ym i).1,(fO ym (kx kvk) n<|b0 ym i).2)=fO ym (kx kv) 40 ci∧jG ym n (b0 ym i):=by rw[hq,←hp,DU hg_];exact⟨by simp,hd.resolve_left fun h_=>hg_<|.inr h_⟩
  refine bj 5 (sI A4 ((pre++[i])++[((aB ym i).getD aw).pp]) c4) rfl (cw (by rfl:(pre++[i])++([((aB ym i).getD aw).pp])=((pre++[i])++[((aB ym i).getD aw).pp]))) (aW 6 (vS A4 ((pre++[i])++[((aB ym i).getD aw).pp]) c4) (eW<|by rfl)<|bC (((aB ym i).getD aw).pp,n,pre++[i],kvk,A4,c4) ⟨hnx.1,hnx.2,(by(simp;omega))⟩ (by(simp;done)) ?_)
  exact bB [0,0,0,0,0,0]
 have hx2:=C4 hk2
 refine M1 [4] (fun b2:Nat=>m2.mb=some b2) (fun b2=>[eR<|aY kvk<|((aB ym i).getD aw).pp,fj b2 m2.mx]) (fun w hs=>Hw kvk (((aB ym i).getD aw).pp) hk2 hs) rfl (fun b2 hm2=>(aG<|cC (some 47) (.map<|some b2) (ip (sJ hk2 hm2)<|qL 3 194 (((aB ym i).getD aw).pp) m0 (qM 5 rfl) eE)<|cP [.p] [(6,vS ao (pre++[i]) co),(8,i_<|((aB ym i).getD aw).pp),(48,i_ i)]<|aG<|vD (kt:=3) (et:=3) (enck:=(fun k:Int=>i_ k)) (encv:=(fun x:Int=>i_ x)) (kv:=m2.mx) (k:=i) 1 [eR<|aY kvk<|((aB ym i).getD aw).pp,fj b2<|aY m2.mx i,sM bs mb mo mk,iK mb ym,fj mo<|aY on ci,gl mk kvk,sI ao (pre++[i]) co] (by kernel_rfl) rfl rfl rfl (by kernel_rfl) eE rfl rfl (dP ?_)))
 refine cS<|bA 5 [.ld 2] [(52,.map<|some mk),(53,i_<|((aB ym i).getD aw).pp)]<|aG<|cC (some 54) (.map<|some b2) (ip (sJ hk2 hm2)<|qL 3 194 (((aB ym i).getD aw).pp) m0 (qM 5 rfl) eE)<|aG<|cC (some 55) (i_ ((aY m2.mx i).length:Int)) (tR (kt:=3) (et:=3) (enck:=(fun k:Int=>i_ k)) (encv:=(fun x:Int=>i_ x)) (b:=b2) (kv:=aY m2.mx i) (qM 1 rfl) rfl rfl (by kernel_rfl))<|bF [.o,.cl] [(60,b_<|(decide (((aY m2.mx i).length:Int)>0))||((((aB ym i).getD aw).pp)==0))]<|aI rfl (fun e3=>?_) (fun e3=>?_)
 ·refine aE<|eH [5,0,0] [gl mk<|aK kvk (((aB ym i).getD aw).pp) (⟨some b2,aY m2.mx i⟩:MB),eR<|aK kvk (((aB ym i).getD aw).pp) (⟨some b2,aY m2.mx i⟩:MB)] rfl (fun w hs=>vX mk kvk kvk (((aB ym i).getD aw).pp) b2 (aY m2.mx i) _ (by rfl) (hk2.trans<|congrArg some<|Dh hm2) hs) ?_
  have hq:kx (aK kvk (((aB ym i).getD aw).pp) (⟨some b2,aY m2.mx i⟩:MB))=iC (kx kvk) (b0 ym i) i:=by funext q;rw[wJ];unfold iC;simp only[];split<;>simp_all[b0]
  have hs_:iC (kx kvk) (b0 ym i) i (b0 ym i)≠[]∨b0 ym i=0:=by unfold iC b0;rw[if_pos rfl,hx2];grind
  refine bX [(4,vS ao (pre++[i]) co),(5,i_ 0)]<|aF<|bj 5 (sI ao ((fO ym (kx kv) 40 ci).1) co) rfl (cw (by(rw[←hp,rj hs_]):(pre++[i])=((fO ym (kx kv) 40 ci).1))) (bJ [2,2,2,0,0,0] [vS ao (pre++[i]) co,i_ 0] ((aK kvk (((aB ym i).getD aw).pp) (⟨some b2,aY m2.mx i⟩:MB)),ao,co) ?_ ?_)
  ·show((.tuple #[vS ao (pre++[i]) co,i_ 0]):Value)=(.tuple #[vS ao ((fO ym (kx kv) 40 ci).1) co,i_ 0])
   (rw[←hp,rj hs_])
  show kx (aK kvk (((aB ym i).getD aw).pp) (⟨some b2,aY m2.mx i⟩:MB))=(fO ym (kx kv) 40 ci).2
  (rw[hq,←hp,rj hs_])
 refine au<|eH [5,0,0] [gl mk<|aK kvk (((aB ym i).getD aw).pp) (⟨some b2,aY m2.mx i⟩:MB),eR<|aK kvk (((aB ym i).getD aw).pp) (⟨some b2,aY m2.mx i⟩:MB)] rfl (fun w hs=>vX mk kvk kvk (((aB ym i).getD aw).pp) b2 (aY m2.mx i) _ (by rfl) (hk2.trans<|congrArg some<|Dh hm2) hs) ?_
 have hq:kx (aK kvk (((aB ym i).getD aw).pp) (⟨some b2,aY m2.mx i⟩:MB))=iC (kx kvk) (b0 ym i) i:=by funext q;rw[wJ];unfold iC;simp only[];split<;>simp_all[b0]
 have hg_: ¬(iC (kx kvk) (b0 ym i) i (b0 ym i)≠[]∨b0 ym i=0):=by unfold iC b0;rw[if_pos rfl,hx2];rintro(h_|h_)<;>first|exact h_ (List.eq_nil_of_length_eq_zero<|by omega)|(simp_all;done)
 refine aM<|bA 2 [] [(62,vS ao (pre++[i]) co),(63,i_<|((aB ym i).getD aw).pp)]<|aG<|eB 64 (e:=3) [i_<|((aB ym i).getD aw).pp] (by kernel_rfl) rfl (fun _=>by kernel_rfl) _ (fun _=>rfl) ?_
 intro b5
 refine aG<|gn i6 (pre++[i]) ([((aB ym i).getD aw).pp]) 5 65 (i_ 0) 8 dL jo (eV (i:=6) rfl) (by(simp;omega)) ?_
 intro A6 c6
 refine ak [(6,vS A6 ((pre++[i])++([((aB ym i).getD aw).pp])) c6)]<|bX [(7,i_<|((aB ym i).getD aw).pp)]<|?_
 have hnx:((pre++[i])++(fO ym (kx<|aK kvk (((aB ym i).getD aw).pp) (⟨some b2,aY m2.mx i⟩:MB)) n<|b0 ym i).1,(fO ym (kx<|aK kvk (((aB ym i).getD aw).pp) (⟨some b2,aY m2.mx i⟩:MB)) n<|b0 ym i).2)=fO ym (kx kv) 40 ci∧jG ym n (b0 ym i):=by rw[hq,←hp,DU hg_];exact⟨by simp,hd.resolve_left fun h_=>hg_<|.inr h_⟩
 refine bj 5 (sI A6 ((pre++[i])++[((aB ym i).getD aw).pp]) c6) rfl (cw (by rfl:(pre++[i])++([((aB ym i).getD aw).pp])=((pre++[i])++[((aB ym i).getD aw).pp]))) (aW 6 (vS A6 ((pre++[i])++[((aB ym i).getD aw).pp]) c6) (eW<|by rfl)<|bC (((aB ym i).getD aw).pp,n,pre++[i],aK kvk (((aB ym i).getD aw).pp) (⟨some b2,aY m2.mx i⟩:MB),A6,c6) ⟨hnx.1,hnx.2,(by(simp;omega))⟩ (by(simp;done)) ?_)
 exact bB [2,2,2,0,0,0]
structure It where
 ka:Int
 ki:Int
 va:Int
 vi:Int
 deriving DecidableEq,Inhabited
inductive T where
 |nil
 |node (b:Nat) (x m:It) (h n:Int) (l r:T)
def T.ptr:T→Option Addr
 | .nil=>none
 | .node b .. =>some ⟨b,0,none⟩
def T.blocks:T→List Nat
 | .nil=>[]
 | .node b _ _ _ _ l r=>b::(l.blocks++r.blocks)
def T.hgt:T→Int
 | .nil=>0
 | .node _ _ _ h .. =>h
def T.cnt:T→Int
 | .nil=>0
 | .node _ _ _ _ n .. =>n
variable{b:Nat}{x m:It}{h n:Int}{l r:T}
theorem ij:(T.node b x m h n l r).hgt=h:=rfl
theorem pI:(T.node b x m h n l r).cnt=n:=rfl
theorem jq:T.nil.hgt=0:=rfl
theorem yS:T.nil.cnt=0:=rfl
def T.Bd(t:T):Prop:=0≤t.hgt∧t.hgt≤100000∧0≤t.cnt∧t.cnt≤100000
def T.Sm(t:T):Prop:=0≤t.hgt∧t.hgt≤1000∧0≤t.cnt∧t.cnt≤1000
def T.toL:T→List It
 | .nil=>[]
 | .node _ x _ _ _ l r=>l.toL++x::r.toL
def sC(x m:It)(h n:Int)(l r:T):List Value:=[u_ x.ka,i_ x.ki,u_ x.va,i_ x.vi,.pointer l.ptr,.pointer r.ptr,u_ m.ka,i_ m.ki,u_ m.va,i_ m.vi,i_ h,i_ n]
def T.H(TN:TypeId):T→World→Prop
 | .nil,_=>True
 | .node b x m h n l r,w=>w.heap[b]? =some (.cells (sC x m h n l r).toArray TN (0,0))∧T.H TN l w∧T.H TN r w
variable{TN:TypeId}
theorem T.H_loc: ∀(t:T)(w w':World),(∀b∈t.blocks,w'.heap[b]? =w.heap[b]?)→T.H TN t w→T.H TN t w'
 | .nil,_,_,_,_=>trivial
 | .node b x m h n l r,w,w',hb,⟨h1,h2,h3⟩=>⟨by rw[hb b<|by simp[T.blocks]];exact h1,T.H_loc l w w' (fun c hc=>hb c<|by simp[T.blocks,hc]) h2,T.H_loc r w w' (fun c hc=>hb c<|by simp[T.blocks,hc]) h3⟩
theorem T.H_here: ∀(t:T)(w:World),T.H TN t w→ ∀b∈t.blocks,b<w.heap.size
 | .nil,_,_,b,hb=>by simp[T.blocks] at hb
 | .node c x m h n l r,w,⟨h1,h2,h3⟩,b,hb=>by
   simp only[T.blocks,List.mem_cons,List.mem_append] at hb
   rcases hb with rfl|hb|hb
   ·exact(Array.getElem?_eq_some_iff.1 h1).1
   ·exact T.H_here l w h2 b hb
   ·exact T.H_here r w h3 b hb
def bG(TN:TypeId)(t:T):V.aH where
 foot:=t.blocks
 holds:=T.H TN t
 loc w w' h hw:=T.H_loc t w w' h hw
 here w hw b hb:=T.H_here t w hw b hb
theorem oO{w:World}(hs:HS w (aL [bG TN<|.node b x m h n l r]) [bG TN<|.node b x m h n l r] w):
  ∃_:Unit,True∧(∀it∈[aA b (sC x m h n l r) TN,bG TN l,bG TN r],it.holds w)∧(aL [aA b (sC x m h n l r) TN,bG TN l,bG TN r]).Nodup∧ ∀c∈aL [aA b (sC x m h n l r) TN,bG TN l,bG TN r],c∈aL [bG TN<|.node b x m h n l r]:=by
 have h1:=hs.mem (i:=0) rfl
 have h2:=hs.nodup
 obtain⟨a1,a2,a3⟩:=h1
 refine⟨(),trivial,?_,?_,?_⟩
 ·intro it hi;simp only[List.mem_cons,List.not_mem_nil,or_false] at hi;rcases hi with rfl|rfl|rfl;exact a1;exact a2;exact a3
 ·simpa[aL,aA,bG,T.blocks] using h2
 ·intro c hc;simpa[aL,aA,bG,T.blocks] using hc
theorem mQ{w:World}(hs:HS w (aL [aA b (sC x m h n l r) TN,bG TN l,bG TN r]) [aA b (sC x m h n l r) TN,bG TN l,bG TN r] w):
  ∃_:Unit,True∧(∀it∈[bG TN<|.node b x m h n l r],it.holds w)∧(aL [bG TN<|.node b x m h n l r]).Nodup∧ ∀c∈aL [bG TN<|.node b x m h n l r],c∈aL [aA b (sC x m h n l r) TN,bG TN l,bG TN r]:=by
 have a1:=hs.mem (i:=0) rfl
 have a2:=hs.mem (i:=1) rfl
 have a3:=hs.mem (i:=2) rfl
 have h2:=hs.nodup
 refine⟨(),trivial,?_,?_,?_⟩
 ·intro it hi;simp only[List.mem_cons,List.not_mem_nil,or_false] at hi;subst hi;exact⟨a1,a2,a3⟩
 ·simpa[aL,aA,bG,T.blocks] using h2
 ·intro c hc;simpa[aL,aA,bG,T.blocks] using hc
theorem M6{n:Nat}{env:aT}{w0:World}{S:bO}{H:List V.aH}{G:cf}(H':List V.aH)(hH:H++[bG TN .nil]=H')(h:V.A n env w0 S H' G):V.A n env w0 S H G:=fun a w r s=>
 h a w r (by rw[←hH];exact s.add (Fr.refl _ _) trivial (by simp[bG,T.blocks])<|by simp[bG,T.blocks])
def ia(x i y j:Int):Int:=if x=y∧i=j then 0 else if x<y∨x=y∧i<j then-1 else 1
def eP(x i y j:Int):Prop:=x<y∨x=y∧i<j
instance(x i y j:Int):Decidable (eP x i y j):=by unfold eP;infer_instance
theorem IV(x i y j:Int):ia x i y j<0↔eP x i y j:=by unfold ia eP;grind
theorem IW(x i y j:Int):0<ia x i y j↔eP y j x i:=by unfold ia eP;grind
theorem HH(x i y j:Int):ia x i y j=0↔(x=y∧i=j):=by unfold ia;grind
def ai(a b:It):It:=if eP b.va b.vi a.va a.vi∨(b.va=a.va∧b.vi=a.vi)∧eP b.ka b.ki a.ka a.ki then b else a
def T.low:T→It→It
 | .nil,a=>a
 | .node _ _ m ..,a=>ai a m
def cd(x:It)(l r:T):It:=r.low<|l.low x
def dJ(l r:T):Int:=1+max l.hgt r.hgt
def da(l r:T):Int:=1+l.cnt+r.cnt
def mk(b:Nat)(x:It)(l r:T):T:= .node b x (cd x l r) (dJ l r) (da l r) l r
def T.Right:T→Prop
 | .nil=>True
 | .node _ x m h n l r=>m=cd x l r∧h=dJ l r∧n=da l r∧l.Right∧r.Right
theorem G0:T.nil.Right:=trivial
theorem lv(hl:l.Right)(hr:r.Right):(mk b x l r).Right:=⟨rfl,rfl,rfl,hl,hr⟩
theorem T.Right.pos: ∀{t:T},t.Right→0≤t.hgt∧t.hgt≤t.cnt∧t.cnt=t.toL.length
 | .nil,_=>by simp[T.hgt,T.cnt,T.toL]
 | .node b x m h n l r,⟨_,hh,hn,hl,hr⟩=>by
   have h1:=T.Right.pos hl;have h2:=T.Right.pos hr
   simp only[T.hgt,T.cnt,T.toL,List.length_append,List.length_cons]
   rw[hh,hn];unfold dJ da;omega
variable{t:T}
theorem AT(h:t.Right)(hc:t.cnt≤100000):t.Bd:=by have:=h.pos;unfold T.Bd;omega
def Eh(b:Nat)(x:It):T→T→T
 | .node bl y _ _ _ p q,r=>if q.hgt>p.hgt then(match q with| .node bz z _ _ _ a c=>mk bz z (mk bl y p a) (mk b x c r)| .nil=> .nil) else mk bl y p<|mk b x q r
 | .nil,_=> .nil
def Ei(b:Nat)(x:It)(l:T):T→T
 | .node br y _ _ _ p q=>if p.hgt>q.hgt then(match p with| .node bz z _ _ _ a c=>mk bz z (mk b x l a) (mk br y c q)| .nil=> .nil) else mk br y (mk b x l p) q
 | .nil=> .nil
def iu(b:Nat)(x:It)(l r:T):T:=
 if l.hgt≤r.hgt+1 then(if r.hgt≤l.hgt+1 then mk b x l r else Ei b x l r) else Eh b x l r
theorem LL(h1:l.hgt≤r.hgt+1)(h2:r.hgt≤l.hgt+1):iu b x l r=mk b x l r:=by
 unfold iu;rw[if_pos h1,if_pos h2]
variable{bl:Nat}{y my:It}{hy ny:Int}{p q:T}
theorem Jc(h1: ¬(T.node bl y my hy ny p q).hgt≤r.hgt+1)(h2: ¬q.hgt>p.hgt):iu b x (.node bl y my hy ny p q) r=mk bl y p (mk b x q r):=by
 unfold iu;rw[if_neg h1];simp only[Eh];rw[if_neg h2]
theorem Jd{bz:Nat}{z mz:It}{hz nz:Int}{a c:T}(h1: ¬(T.node bl y my hy ny p<|.node bz z mz hz nz a c).hgt≤r.hgt+1)(h2:(T.node bz z mz hz nz a c).hgt>p.hgt):
  iu b x (.node bl y my hy ny p<|.node bz z mz hz nz a c) r=mk bz z (mk bl y p a) (mk b x c r):=by
 unfold iu;rw[if_neg h1];simp only[Eh];rw[if_pos h2]
theorem Je(h0:l.hgt≤(T.node bl y my hy ny p q).hgt+1)(h1: ¬(T.node bl y my hy ny p q).hgt≤l.hgt+1)(h2: ¬p.hgt>q.hgt):iu b x l (.node bl y my hy ny p q)=mk bl y (mk b x l p) q:=by
 unfold iu;rw[if_pos h0,if_neg h1];simp only[Ei];rw[if_neg h2]
theorem Jf{bz:Nat}{z mz:It}{hz nz:Int}{a c:T}(h0:l.hgt≤(T.node bl y my hy ny (.node bz z mz hz nz a c) q).hgt+1)(h1: ¬(T.node bl y my hy ny (.node bz z mz hz nz a c) q).hgt≤l.hgt+1)(h2:(T.node bz z mz hz nz a c).hgt>q.hgt):
  iu b x l (.node bl y my hy ny (.node bz z mz hz nz a c) q)=mk bz z (mk b x l a) (mk bl y c q):=by
 unfold iu;rw[if_pos h0,if_neg h1];simp only[Ei];rw[if_pos h2]
theorem xQ(x i y j:Int)(w:World):
  CW 271 #[.agg #[u_ x,i_ i],.agg #[u_ y,i_ j]] w (i_<|ia x i y j):=by
 refine aU Tryz.func271 rfl (HS.nil w) (aC<|fz [.al,.al] [] (fun b1 b2=>[(2,p_ b1),(3,p_ b2)]) (fun b1 b2=>[aA b1 [u_ x,i_ i] 322,aA b2 [u_ y,i_ j] 322]) ?_)
 intro b1 b2
 refine aE<|aO<|aC<|bF [.ld 0,.ld 1,.eq] [(5,b_<|(x==y)&&(i==j))]<|aI rfl (fun e1=>?_) (fun e1=>?_)
 ·refine aD [(4,i_ 0)]<|aF<|bK [i_ 0] ?_
  show((i_ 0):Value)=(i_<|ia x i y j)
  simp[ia] at*;try simp_all;try omega
 have p1:=e1
 refine aC<|bF [.ld 0,.ld 1,.p,.p,.o,.ld 0,.ld 1,.p,.p,.o,.ld 0,.ld 1,.p,.cl,.cl] [(9,b_<|(decide (x<y))||((x==y)&&(decide (i<j))))]<|aI rfl (fun e2=>?_) (fun e2=>?_)
 ·refine aD [(4,i_ (-1))]<|aF<|bK [i_ (-1)] ?_
  show((i_ (-1)):Value)=(i_<|ia x i y j)
  simp[ia] at*;try simp_all;try omega
 refine aP<|aD [(4,i_ 1)]<|aF<|bK [i_ 1] ?_
 show((i_ 1):Value)=(i_<|ia x i y j)
 simp[ia] at*;try simp_all;try omega
theorem rX(a b:It)(w:World):
  CW 258 #[.agg #[u_ a.ka,i_ a.ki,u_ a.va,i_ a.vi],.agg #[u_ b.ka,i_ b.ki,u_ b.va,i_ b.vi]] w (.agg #[u_<|(ai a b).ka,i_<|(ai a b).ki,u_<|(ai a b).va,i_<|(ai a b).vi]):=by
 refine aU Tryz.func258 rfl (HS.nil w) (aC<|nj [.al,.al,.al] [2,3,4] (fun b1 b2 b3=>[(2,p_ b1),(3,p_ b2),(4,p_ b3)]) (fun b1 b2 b3=>[aA b1 [u_ a.ka,i_ a.ki,u_ a.va,i_ a.vi] 324,aA b2 [u_ b.ka,i_ b.ki,u_ b.va,i_ b.vi] 324,aA b3 [u_ 0,i_ 0,u_ 0,i_ 0] 324]) (fun b1 b2 b3=>[]) (fun _ _ _=>T0) (fun _ _ _=>by kernel_rfl) (fun b1 b2 b3=>trivial) ?_)
 intro b1 b2 b3
 refine bW [.ld 1,.ld 0,.cq<|i_<|ia b.va b.vi a.va a.vi] [(5,i_<|ia b.va b.vi a.va a.vi)] (o1<|qw<|xQ b.va b.vi a.va a.vi)<|aE<|bW [.p,.p,.p,.o,.p,.p,.p,.o,.ld 1,.ld 0,.cq<|i_<|ia b.ka b.ki a.ka a.ki,.p,.cl,.cl] [(24,b_<|(decide ((ia b.va b.vi a.va a.vi)<0))||(((ia b.va b.vi a.va a.vi)==0)&&(decide ((ia b.ka b.ki a.ka a.ki)<0))))] (o1<|go ((true&&((decide ((ia b.va b.vi a.va a.vi)<0))==false))&&(((ia b.va b.vi a.va a.vi)==0)==true)) fun h_=>(qw<|xQ b.ka b.ki a.ka a.ki))<|aI rfl (fun e1=>?_) (fun e1=>?_)
 ·refine aC<|bU [.ld 1,.st 2] [] [(2,aA b3 [u_ b.ka,i_ b.ki,u_ b.va,i_ b.vi] 324)]<|aF<|eY 2 [u_ b.ka,i_ b.ki,u_ b.va,i_ b.vi] ?_
  show((.agg #[u_ b.ka,i_ b.ki,u_ b.va,i_ b.vi]):Value)=(.agg #[u_<|(ai a b).ka,i_<|(ai a b).ki,u_<|(ai a b).va,i_<|(ai a b).vi])
  rw[show ai a b=b from by unfold ai;grind[IV,HH]]
 refine aP<|aC<|bU [.ld 0,.st 2] [] [(2,aA b3 [u_ a.ka,i_ a.ki,u_ a.va,i_ a.vi] 324)]<|aF<|eY 2 [u_ a.ka,i_ a.ki,u_ a.va,i_ a.vi] ?_
 show((.agg #[u_ a.ka,i_ a.ki,u_ a.va,i_ a.vi]):Value)=(.agg #[u_<|(ai a b).ka,i_<|(ai a b).ki,u_<|(ai a b).va,i_<|(ai a b).vi])
 rw[show ai a b=a from by unfold ai;grind[IV,HH]]
theorem oN(t:T)(w:World)(r0:(bG 361 t).holds w):
  CW 266 #[.pointer<|T.ptr t] w (i_<|T.hgt t):=by
 refine aU Tryz.func266 rfl (HS.nil w) (aD []<|cS<|cP [.p] [(3,.pointer<|T.ptr t)] ?_)
 rcases t with _|⟨b1,x2,m3,h4,n5,l6,r7⟩
 ·refine ak [(0,n_),(4,b_ true)]<|dX<|aD [(2,i_ 0)]<|aF<|bK [i_ 0] ?_
  rfl
 refine ak [(0,p_ b1),(4,b_ false)]<|bY<|aP<|bW [.rd [i_ h4]] [(2,i_ h4)] (o1<|ro ⟨b1,10,none⟩ (vs:=[i_ h4])<|cB r0.1 rfl)<|aF<|bK [i_ h4] ?_
 rfl
theorem BK(t:T)(w:World)(r0:(bG 361 t).holds w):
  CW 267 #[.pointer<|T.ptr t] w (i_<|T.cnt t):=by
 refine aU Tryz.func267 rfl (HS.nil w) (aD []<|cS<|cP [.p] [(3,.pointer<|T.ptr t)] ?_)
 rcases t with _|⟨b1,x2,m3,h4,n5,l6,r7⟩
 ·refine ak [(0,n_),(4,b_ true)]<|dX<|aD [(2,i_ 0)]<|aF<|bK [i_ 0] ?_
  rfl
 refine ak [(0,p_ b1),(4,b_ false)]<|bY<|aP<|bW [.rd [i_ n5]] [(2,i_ n5)] (o1<|ro ⟨b1,11,none⟩ (vs:=[i_ n5])<|cB r0.1 rfl)<|aF<|bK [i_ n5] ?_
 rfl
abbrev J9(p0)(p1:It)(p2)(p3)(p4:It)(p5)(p6):=([aA p0 [u_ p1.ka,i_ p1.ki,u_ p1.va,i_ p1.vi,.pointer<|T.ptr p2,.pointer<|T.ptr p3,u_ p4.ka,i_ p4.ki,u_ p4.va,i_ p4.vi,i_ p5,i_ p6] 361,bG 361 p2,bG 361 p3]:List V.aH)
theorem tN(b:Nat)(x m:It)(h n:Int)(l r:T)(hl:l.Bd)(hr:r.Bd)(w:World)(hs:HI w (J9 b x l r m h n)):
  CV 248 #[p_ b] w (J9 b x l r m h n) (fun(zz:Unit)=>(.tuple #[])) (fun _=>True) fun _=>[aA b [u_ x.ka,i_ x.ki,u_ x.va,i_ x.vi,.pointer<|T.ptr l,.pointer<|T.ptr r,u_<|(cd x l r).ka,i_<|(cd x l r).ki,u_<|(cd x l r).va,i_<|(cd x l r).vi,i_<|dJ l r,i_<|da l r] 361,bG 361 l,bG 361 r]:=by
 have hl1:=hl.1;have hl2:=hl.2.1;have hl3:=hl.2.2.1;have hl4:=hl.2.2.2;have hr1:=hr.1;have hr2:=hr.2.1;have hr3:=hr.2.2.1;have hr4:=hr.2.2.2
 refine aU Tryz.func248 rfl hs (aE<|bL [17] 18<|cO 1 [.ld 0,.cq<|i_<|T.hgt l,.ld 0,.cq<|i_<|T.hgt r,.w<|1+(cX (T.hgt l)<|T.hgt r)] (rg 0 17) [(18,i_<|1+(cX (T.hgt l)<|T.hgt r)),(20,q_ b 10)] (oc (qo<|fun w s=>oN l w<|s.mem (i:=1) rfl)<|oc (qo<|fun w s=>oN r w<|s.mem (i:=2) rfl)<|o1<|wo<|j8 (e:=1+(cX (T.hgt l)<|T.hgt r))<|by(simp only[vl];constructor<;>omega)) ?_)
 refine an 17 rfl (dN 0 [i_<|1+(cX (T.hgt l)<|T.hgt r)] rfl (cb<|aE<|bL [17] 18<|cO 1 [.ld 0,.cq<|i_<|T.cnt l,.w<|1+(T.cnt l),.ld 0,.cq<|i_<|T.cnt r,.w<|(1+(T.cnt l))+(T.cnt r)] (rg 0 17) [(35,i_<|(1+(T.cnt l))+(T.cnt r)),(37,q_ b 11)] (oc (qo<|fun ww ss=>BK l ww<|ss.mem (i:=1) rfl)<|oc (wj (1+(T.cnt l))<|by omega)<|oc (qo<|fun ww ss=>BK r ww<|ss.mem (i:=2) rfl)<|o1<|wj ((1+(T.cnt l))+(T.cnt r))<|by omega) ?_))
 refine an 17 rfl (dN 0 [i_<|(1+(T.cnt l))+(T.cnt r)] rfl (cb<|aC<|bU [.ld 0,.st 0] [] [(0,aA b [u_ x.ka,i_ x.ki,u_ x.va,i_ x.vi,.pointer<|T.ptr l,.pointer<|T.ptr r,u_ x.ka,i_ x.ki,u_ x.va,i_ x.vi,i_<|1+(cX (T.hgt l)<|T.hgt r),i_<|(1+(T.cnt l))+(T.cnt r)] 361)]<|aC<|bF [.ld 0] [(48,.agg #[.pointer<|T.ptr l,.pointer<|T.ptr r]),(49,i_ 0)]<|aO<|jm 400<|dK (m:=399)<|aD [(50,b_ true)]<|aE<|dX<|au<|aO<|aD [(3,.pointer<|T.ptr l)]<|aC<|cP [.p] [(52,.pointer<|T.ptr l)] ?_))
 rcases l with _|⟨b1,x2,m3,h4,n5,l6,r7⟩
 ·refine ak [(48,.agg #[n_,.pointer<|T.ptr r]),(3,n_),(53,b_ false)]<|bY<|aP<|bX [(49,i_ 1)]<|dK (m:=398)<|aD [(50,b_ true)]<|aE<|dX<|au<|aO<|aD [(3,.pointer<|T.ptr r)]<|aC<|cP [.p] [(52,.pointer<|T.ptr r)] ?_
  rcases r with _|⟨b8,x9,m10,h11,n12,l13,r14⟩
  ·refine ak [(48,.agg #[n_,n_]),(3,n_),(53,b_ false)]<|bY<|aP<|bX [(49,i_ 2)]<|dK (m:=397)<|aD [(50,b_ false)]<|aE<|bY<|bR<|bj 0 (aA b [u_ x.ka,i_ x.ki,u_ x.va,i_ x.vi,n_,n_,u_<|(cd x T.nil T.nil).ka,i_<|(cd x T.nil T.nil).ki,u_<|(cd x T.nil T.nil).va,i_<|(cd x T.nil T.nil).vi,i_<|dJ T.nil T.nil,i_<|da T.nil T.nil] 361) rfl (iD<|cc rfl (cc rfl (cc rfl (cc rfl (cc rfl (cc rfl (cc (congrArg u_ (by rfl:x.ka=(cd x T.nil T.nil).ka))<|cc (congrArg i_ (by rfl:x.ki=(cd x T.nil T.nil).ki))<|cc (congrArg u_ (by rfl:x.va=(cd x T.nil T.nil).va))<|cc (congrArg i_ (by rfl:x.vi=(cd x T.nil T.nil).vi))<|cc (congrArg i_ (by rfl:1+(cX (T.hgt T.nil)<|T.hgt T.nil)=dJ T.nil T.nil))<|cc (congrArg i_ (by rfl:(1+(T.cnt T.nil))+(T.cnt T.nil)=da T.nil T.nil)) rfl))))))) (jk [0,0,0] [] (fun _ w r s=>trivial) () ?_ ?_<|by kernel_rfl)
   ·rfl
   trivial
  refine ak [(48,.agg #[n_,p_ b8]),(3,p_ b8),(53,b_ true)] ?_
  refine dX ?_
  refine eH [2] [aA b8 [u_ x9.ka,i_ x9.ki,u_ x9.va,i_ x9.vi,.pointer<|T.ptr l13,.pointer<|T.ptr r14,u_ m10.ka,i_ m10.ki,u_ m10.va,i_ m10.vi,i_ h11,i_ n12] 361,bG 361 l13,bG 361 r14] rfl (fun w hs=>oO hs) ?_
  refine bL [12] 13 ?_
  refine cO 1 [.ld 3,.ld 0,.cq<|.agg #[u_<|(ai x m10).ka,i_<|(ai x m10).ki,u_<|(ai x m10).va,i_<|(ai x m10).vi]] (rg 0 12) [(48,.agg #[n_,p_ b8]),(49,i_ 1),(63,.agg #[u_<|(ai x m10).ka,i_<|(ai x m10).ki,u_<|(ai x m10).va,i_<|(ai x m10).vi]),(65,q_ b 6)] (o1<|qw<|rX x m10) ?_
  refine an 12 rfl (dN 3 [u_<|(ai x m10).ka,i_<|(ai x m10).ki,u_<|(ai x m10).va,i_<|(ai x m10).vi] rfl ?_)
  refine cD ?_
  refine dj ?_
  refine bX [(49,i_ 2)] ?_
  refine dK (m:=397) ?_
  refine aE ?_
  refine bX [(50,b_ false)] ?_
  refine aE ?_
  refine bY ?_
  refine bR ?_
  refine eH [0,0,0] [bG 361<|T.node b8 x9 m10 h11 n12 l13 r14] rfl (fun w hs=>mQ hs) ?_
  refine bj 1 (aA b [u_ x.ka,i_ x.ki,u_ x.va,i_ x.vi,n_,p_ b8,u_<|(cd x T.nil<|T.node b8 x9 m10 h11 n12 l13 r14).ka,i_<|(cd x T.nil<|T.node b8 x9 m10 h11 n12 l13 r14).ki,u_<|(cd x T.nil<|T.node b8 x9 m10 h11 n12 l13 r14).va,i_<|(cd x T.nil<|T.node b8 x9 m10 h11 n12 l13 r14).vi,i_<|dJ T.nil<|T.node b8 x9 m10 h11 n12 l13 r14,i_<|da T.nil<|T.node b8 x9 m10 h11 n12 l13 r14] 361) rfl (iD<|cc rfl (cc rfl (cc rfl (cc rfl (cc rfl (cc rfl (cc (congrArg u_ (by rfl:(ai x m10).ka=(cd x T.nil<|T.node b8 x9 m10 h11 n12 l13 r14).ka))<|cc (congrArg i_ (by rfl:(ai x m10).ki=(cd x T.nil<|T.node b8 x9 m10 h11 n12 l13 r14).ki))<|cc (congrArg u_ (by rfl:(ai x m10).va=(cd x T.nil<|T.node b8 x9 m10 h11 n12 l13 r14).va))<|cc (congrArg i_ (by rfl:(ai x m10).vi=(cd x T.nil<|T.node b8 x9 m10 h11 n12 l13 r14).vi))<|cc (congrArg i_ (by(simp[vl,dJ,da,cd,T.low];done):1+(cX (T.hgt T.nil)<|T.hgt<|T.node b8 x9 m10 h11 n12 l13 r14)=dJ T.nil (T.node b8 x9 m10 h11 n12 l13 r14)))<|cc (congrArg i_ (by rfl:(1+(T.cnt T.nil))+(T.cnt<|T.node b8 x9 m10 h11 n12 l13 r14)=da T.nil (T.node b8 x9 m10 h11 n12 l13 r14))) rfl))))))) ?_
  refine jk [1,1,0] [] (fun aa ww rr ss=>trivial) () ?_ ?_<|by kernel_rfl
  ·rfl
  trivial
 refine ak [(48,.agg #[p_ b1,.pointer<|T.ptr r]),(3,p_ b1),(53,b_ true)]<|dX<|eH [1] [aA b1 [u_ x2.ka,i_ x2.ki,u_ x2.va,i_ x2.vi,.pointer<|T.ptr l6,.pointer<|T.ptr r7,u_ m3.ka,i_ m3.ki,u_ m3.va,i_ m3.vi,i_ h4,i_ n5] 361,bG 361 l6,bG 361 r7] rfl (fun w hs=>oO hs) (bL [12] 13<|cO 1 [.ld 3,.ld 0,.cq<|.agg #[u_<|(ai x m3).ka,i_<|(ai x m3).ki,u_<|(ai x m3).va,i_<|(ai x m3).vi]] (rg 0 12) [(48,.agg #[p_ b1,.pointer<|T.ptr r]),(49,i_ 0),(63,.agg #[u_<|(ai x m3).ka,i_<|(ai x m3).ki,u_<|(ai x m3).va,i_<|(ai x m3).vi]),(65,q_ b 6)] (o1<|qw<|rX x m3)<|an 12 rfl (dN 3 [u_<|(ai x m3).ka,i_<|(ai x m3).ki,u_<|(ai x m3).va,i_<|(ai x m3).vi] rfl (cb<|bX [(49,i_ 1)]<|dK (m:=398)<|aD [(50,b_ true)]<|aE<|dX<|au<|aO<|aD [(3,.pointer<|T.ptr r)]<|aC<|cP [.p] [(52,.pointer<|T.ptr r)] ?_)))
 rcases r with _|⟨b15,x16,m17,h18,n19,l20,r21⟩
 ·refine ak [(48,.agg #[p_ b1,n_]),(3,n_),(53,b_ false)]<|bY<|aP<|bX [(49,i_ 2)]<|dK (m:=397)<|aD [(50,b_ false)]<|aE<|bY<|bR<|eH [0,0,0] [bG 361<|T.node b1 x2 m3 h4 n5 l6 r7] rfl (fun w hs=>mQ hs) (bj 1 (aA b [u_ x.ka,i_ x.ki,u_ x.va,i_ x.vi,p_ b1,n_,u_<|(cd x (T.node b1 x2 m3 h4 n5 l6 r7) T.nil).ka,i_<|(cd x (T.node b1 x2 m3 h4 n5 l6 r7) T.nil).ki,u_<|(cd x (T.node b1 x2 m3 h4 n5 l6 r7) T.nil).va,i_<|(cd x (T.node b1 x2 m3 h4 n5 l6 r7) T.nil).vi,i_<|dJ (T.node b1 x2 m3 h4 n5 l6 r7) T.nil,i_<|da (T.node b1 x2 m3 h4 n5 l6 r7) T.nil] 361) rfl (iD<|cc rfl (cc rfl (cc rfl (cc rfl (cc rfl (cc rfl (cc (congrArg u_ (by rfl:(ai x m3).ka=(cd x (T.node b1 x2 m3 h4 n5 l6 r7) T.nil).ka))<|cc (congrArg i_ (by rfl:(ai x m3).ki=(cd x (T.node b1 x2 m3 h4 n5 l6 r7) T.nil).ki))<|cc (congrArg u_ (by rfl:(ai x m3).va=(cd x (T.node b1 x2 m3 h4 n5 l6 r7) T.nil).va))<|cc (congrArg i_ (by rfl:(ai x m3).vi=(cd x (T.node b1 x2 m3 h4 n5 l6 r7) T.nil).vi))<|cc (congrArg i_ (by(simp[vl,dJ,da,cd,T.low];done):1+(cX (T.hgt<|T.node b1 x2 m3 h4 n5 l6 r7)<|T.hgt T.nil)=dJ (T.node b1 x2 m3 h4 n5 l6 r7) T.nil))<|cc (congrArg i_ (by rfl:(1+(T.cnt<|T.node b1 x2 m3 h4 n5 l6 r7))+(T.cnt T.nil)=da (T.node b1 x2 m3 h4 n5 l6 r7) T.nil)) rfl))))))) (jk [1,0,0] [] (fun _ w r s=>trivial) () ?_ ?_<|by kernel_rfl))
  ·rfl
  trivial
 refine ak [(48,.agg #[p_ b1,p_ b15]),(3,p_ b15),(53,b_ true)] ?_
 refine dX ?_
 refine eH [4] [aA b15 [u_ x16.ka,i_ x16.ki,u_ x16.va,i_ x16.vi,.pointer<|T.ptr l20,.pointer<|T.ptr r21,u_ m17.ka,i_ m17.ki,u_ m17.va,i_ m17.vi,i_ h18,i_ n19] 361,bG 361 l20,bG 361 r21] rfl (fun w hs=>oO hs) ?_
 refine bL [12] 13 ?_
 refine cO 1 [.ld 6,.ld 0,.cq<|.agg #[u_<|(ai (ai x m3) m17).ka,i_<|(ai (ai x m3) m17).ki,u_<|(ai (ai x m3) m17).va,i_<|(ai (ai x m3) m17).vi]] (rg 0 12) [(48,.agg #[p_ b1,p_ b15]),(63,.agg #[u_<|(ai (ai x m3) m17).ka,i_<|(ai (ai x m3) m17).ki,u_<|(ai (ai x m3) m17).va,i_<|(ai (ai x m3) m17).vi])] (o1<|qw<|rX (ai x m3) m17) ?_
 refine an 12 rfl (dN 6 [u_<|(ai (ai x m3) m17).ka,i_<|(ai (ai x m3) m17).ki,u_<|(ai (ai x m3) m17).va,i_<|(ai (ai x m3) m17).vi] rfl ?_)
 refine cD ?_
 refine dj ?_
 refine aM<|dQ [] [(0,p_ b),(48,.agg #[p_ b1,p_ b15]),(49,i_ 2)] ?_
 refine dK (m:=397) ?_
 refine aE ?_
 refine bX [(50,b_ false)] ?_
 refine aE ?_
 refine bY ?_
 refine bR ?_
 refine eH [3,3,3] [bG 361<|T.node b1 x2 m3 h4 n5 l6 r7] rfl (fun w hs=>mQ hs) ?_
 refine eH [1,1,1] [bG 361<|T.node b15 x16 m17 h18 n19 l20 r21] rfl (fun w hs=>mQ hs) ?_
 refine bj 2 (aA b [u_ x.ka,i_ x.ki,u_ x.va,i_ x.vi,p_ b1,p_ b15,u_<|(cd x (T.node b1 x2 m3 h4 n5 l6 r7)<|T.node b15 x16 m17 h18 n19 l20 r21).ka,i_<|(cd x (T.node b1 x2 m3 h4 n5 l6 r7)<|T.node b15 x16 m17 h18 n19 l20 r21).ki,u_<|(cd x (T.node b1 x2 m3 h4 n5 l6 r7)<|T.node b15 x16 m17 h18 n19 l20 r21).va,i_<|(cd x (T.node b1 x2 m3 h4 n5 l6 r7)<|T.node b15 x16 m17 h18 n19 l20 r21).vi,i_<|dJ (T.node b1 x2 m3 h4 n5 l6 r7)<|T.node b15 x16 m17 h18 n19 l20 r21,i_<|da (T.node b1 x2 m3 h4 n5 l6 r7)<|T.node b15 x16 m17 h18 n19 l20 r21] 361) rfl (iD<|cc rfl (cc rfl (cc rfl (cc rfl (cc rfl (cc rfl (cc (congrArg u_ (by rfl:(ai (ai x m3) m17).ka=(cd x (T.node b1 x2 m3 h4 n5 l6 r7)<|T.node b15 x16 m17 h18 n19 l20 r21).ka))<|cc (congrArg i_ (by rfl:(ai (ai x m3) m17).ki=(cd x (T.node b1 x2 m3 h4 n5 l6 r7)<|T.node b15 x16 m17 h18 n19 l20 r21).ki))<|cc (congrArg u_ (by rfl:(ai (ai x m3) m17).va=(cd x (T.node b1 x2 m3 h4 n5 l6 r7)<|T.node b15 x16 m17 h18 n19 l20 r21).va))<|cc (congrArg i_ (by rfl:(ai (ai x m3) m17).vi=(cd x (T.node b1 x2 m3 h4 n5 l6 r7)<|T.node b15 x16 m17 h18 n19 l20 r21).vi))<|cc (congrArg i_ (by(simp[vl,dJ,da,cd,T.low];done):1+(cX (T.hgt<|T.node b1 x2 m3 h4 n5 l6 r7)<|T.hgt<|T.node b15 x16 m17 h18 n19 l20 r21)=dJ (T.node b1 x2 m3 h4 n5 l6 r7) (T.node b15 x16 m17 h18 n19 l20 r21)))<|cc (congrArg i_ (by rfl:(1+(T.cnt<|T.node b1 x2 m3 h4 n5 l6 r7))+(T.cnt<|T.node b15 x16 m17 h18 n19 l20 r21)=da (T.node b1 x2 m3 h4 n5 l6 r7) (T.node b15 x16 m17 h18 n19 l20 r21))) rfl))))))) ?_
 refine jk [2,1,0] [] (fun aa ww rr ss=>trivial) () ?_ ?_<|by kernel_rfl
 ·rfl
 trivial
theorem tU(h:t.Sm):t.Bd:=by unfold T.Sm T.Bd at*;omega
theorem Ja(hl:l.Sm)(hr:r.Sm):(mk b x l r).Bd:=by
 have e1:(mk b x l r).hgt=1+max l.hgt r.hgt:=rfl
 have e2:(mk b x l r).cnt=1+l.cnt+r.cnt:=rfl
 unfold T.Sm T.Bd at*;omega
theorem kN(h:t.Right)(hc:t.cnt≤1000):t.Sm:=by have:=h.pos;unfold T.Sm;omega
abbrev S9(p0)(p1:It)(p2)(p3)(p4:It)(p5)(p6):=(aA p0 [u_ p1.ka,i_ p1.ki,u_ p1.va,i_ p1.vi,p_ p2,.pointer<|T.ptr p3,u_ p4.ka,i_ p4.ki,u_ p4.va,i_ p4.vi,i_ p5,i_ p6] 361:V.aH)
abbrev Si(p0)(p1)(p2)(p3)(p4)(p5)(p6):=([bG 361<|T.node p0 p1 (cd p1 p2<|T.node p3 p4 (cd p4 p5 p6) (dJ p5 p6) (da p5 p6) p5 p6) (dJ p2<|T.node p3 p4 (cd p4 p5 p6) (dJ p5 p6) (da p5 p6) p5 p6) (da p2<|T.node p3 p4 (cd p4 p5 p6) (dJ p5 p6) (da p5 p6) p5 p6) p2<|T.node p3 p4 (cd p4 p5 p6) (dJ p5 p6) (da p5 p6) p5 p6]:List V.aH)
abbrev DV(p0)(p1)(p2)(p3):=(bG 361 (T.node p0 p1 (cd p1 p2 p3) (dJ p2 p3) (da p2 p3) p2 p3):V.aH)
abbrev Sj(p0)(p1:It)(p2)(p3)(p4:It)(p5)(p6):=(aA p0 [u_ p1.ka,i_ p1.ki,u_ p1.va,i_ p1.vi,.pointer<|T.ptr p2,.pointer<|T.ptr p3,u_ p4.ka,i_ p4.ki,u_ p4.va,i_ p4.vi,i_ p5,i_ p6] 361:V.aH)
theorem BA(b:Nat)(x m:It)(h n:Int)(by_:Nat)(y my:It)(hy ny:Int)(p q s:T)(hp:p.Sm)(hq:q.Sm)(hs_:s.Sm):
  CS 280 #[p_ b,i_ 0] [S9 b x by_ s m h n,bG 361<|T.node by_ y my hy ny p q,bG 361 s] (fun(zt:T)=>(.pointer<|T.ptr zt)) (fun zt=>zt=mk by_ y p (mk b x q s)) fun zt=>[bG 361 zt]:=by
 intro w hs
 refine aU Tryz.func280 rfl hs (aD []<|aC<|bF [.ld 0] [(5,p_ by_)]<|aE<|eH [1] [aA by_ [u_ y.ka,i_ y.ki,u_ y.va,i_ y.vi,.pointer<|T.ptr p,.pointer<|T.ptr q,u_ my.ka,i_ my.ki,u_ my.va,i_ my.vi,i_ hy,i_ ny] 361,bG 361 p,bG 361 q] rfl (fun w hs=>oO hs) (bL [12] 13<|cL 1 [.ld 0] (rg 0 12) [(5,p_ by_),(20,.pointer<|T.ptr q),(23,q_ b 4)]<|an 12 rfl (dN 3 [.pointer<|T.ptr q] rfl (cb<|aC<|bU [.st 0] [] [(0,aA by_ [u_ y.ka,i_ y.ki,u_ y.va,i_ y.vi,.pointer<|T.ptr p,p_ b,u_ my.ka,i_ my.ki,u_ my.va,i_ my.vi,i_ hy,i_ ny] 361)]<|aC<|cP [.p] [(31,p_ b)]<|aG<|bM (some 32) [3,2,2] (tN b x m h n q s (tU ‹_›)<|tU ‹_›) ?_))))
 rintro⟨⟩-
 refine dP<|aC<|cP [.p] [(33,p_ by_)]<|eH [0,0,0] [DV b x q s] rfl (fun w hs=>mQ hs) (aG<|bM (some 34) [1,1,0] (tN by_ y my hy ny p (T.node b x (cd x q s) (dJ q s) (da q s) q s) (tU ‹_›)<|Ja ‹_› ‹_›) ?_)
 rintro⟨⟩-
 refine dP<|aD [(4,p_ by_)]<|aF<|eH [0,0,0] (Si by_ y p b x q s) rfl (fun w hs=>mQ hs) (bJ [0] [p_ by_] ((T.node by_ y (cd y p<|T.node b x (cd x q s) (dJ q s) (da q s) q s) (dJ p<|T.node b x (cd x q s) (dJ q s) (da q s) q s) (da p<|T.node b x (cd x q s) (dJ q s) (da q s) q s) p<|T.node b x (cd x q s) (dJ q s) (da q s) q s)) ?_ ?_)
 ·rfl
 rfl
abbrev Sl(p0)(p1:It)(p2)(p3)(p4:It)(p5)(p6):=(aA p0 [u_ p1.ka,i_ p1.ki,u_ p1.va,i_ p1.vi,.pointer<|T.ptr p2,p_ p3,u_ p4.ka,i_ p4.ki,u_ p4.va,i_ p4.vi,i_ p5,i_ p6] 361:V.aH)
abbrev Sr(p0)(p1)(p2)(p3)(p4)(p5)(p6):=([bG 361<|T.node p0 p1 (cd p1 (T.node p2 p3 (cd p3 p4 p5) (dJ p4 p5) (da p4 p5) p4 p5) p6) (dJ (T.node p2 p3 (cd p3 p4 p5) (dJ p4 p5) (da p4 p5) p4 p5) p6) (da (T.node p2 p3 (cd p3 p4 p5) (dJ p4 p5) (da p4 p5) p4 p5) p6) (T.node p2 p3 (cd p3 p4 p5) (dJ p4 p5) (da p4 p5) p4 p5) p6]:List V.aH)
theorem BB(b:Nat)(x m:It)(h n:Int)(by_:Nat)(y my:It)(hy ny:Int)(p q s:T)(hp:p.Sm)(hq:q.Sm)(hs_:s.Sm):
  CS 280 #[p_ b,i_ 1] [Sl b x s by_ m h n,bG 361 s,bG 361<|T.node by_ y my hy ny p q] (fun(zt:T)=>(.pointer<|T.ptr zt)) (fun zt=>zt=mk by_ y (mk b x s p) q) fun zt=>[bG 361 zt]:=by
 intro w hs
 refine aU Tryz.func280 rfl hs (aD []<|aC<|bF [.ld 0] [(5,p_ by_)]<|aE<|eH [2] [aA by_ [u_ y.ka,i_ y.ki,u_ y.va,i_ y.vi,.pointer<|T.ptr p,.pointer<|T.ptr q,u_ my.ka,i_ my.ki,u_ my.va,i_ my.vi,i_ hy,i_ ny] 361,bG 361 p,bG 361 q] rfl (fun w hs=>oO hs) (bL [12] 13<|cL 1 [.ld 0] (rg 0 12) [(5,p_ by_),(20,.pointer<|T.ptr p),(23,q_ b 5)]<|an 12 rfl (dN 3 [.pointer<|T.ptr p] rfl (cb<|aC<|bU [.st 0] [] [(0,aA by_ [u_ y.ka,i_ y.ki,u_ y.va,i_ y.vi,p_ b,.pointer<|T.ptr q,u_ my.ka,i_ my.ki,u_ my.va,i_ my.vi,i_ hy,i_ ny] 361)]<|aC<|cP [.p] [(31,p_ b)]<|aG<|bM (some 32) [3,3,1] (tN b x m h n s p (tU ‹_›)<|tU ‹_›) ?_))))
 rintro⟨⟩-
 refine dP<|aC<|cP [.p] [(33,p_ by_)]<|eH [0,0,0] [DV b x s p] rfl (fun w hs=>mQ hs) (aG<|bM (some 34) [1,0,0] (tN by_ y my hy ny (T.node b x (cd x s p) (dJ s p) (da s p) s p) q (Ja ‹_› ‹_›)<|tU ‹_›) ?_)
 rintro⟨⟩-
 refine dP<|aD [(4,p_ by_)]<|aF<|eH [0,0,0] (Sr by_ y b x s p q) rfl (fun w hs=>mQ hs) (bJ [0] [p_ by_] ((T.node by_ y (cd y (T.node b x (cd x s p) (dJ s p) (da s p) s p) q) (dJ (T.node b x (cd x s p) (dJ s p) (da s p) s p) q) (da (T.node b x (cd x s p) (dJ s p) (da s p) s p) q) (T.node b x (cd x s p) (dJ s p) (da s p) s p) q)) ?_ ?_)
 ·rfl
 rfl
theorem vF(b:Nat)(x m:It)(h n:Int)(l r:T)(hl:l.Right)(hr:r.Right)(hlc:l.cnt≤900)(hrc:r.cnt≤900):
  CS 265 #[p_ b] [Sj b x l r m h n,bG 361 l,bG 361 r] (fun(zt:T)=>(.pointer<|T.ptr zt)) (fun zt=>zt=iu b x l r) fun zt=>[bG 361 zt]:=by
 intro w hs
 have hl1:=hl.pos;have hr1:=hr.pos
 refine aU Tryz.func265 rfl hs (aD []<|aC<|cP [.p] [(5,p_ b)]<|aG<|bM (some 6) [0,0,0] (tN b x m h n l r (AT ‹_› (by omega))<|AT ‹_› (by omega)) ?_)
 rintro⟨⟩-
 refine dP<|cS<|bF [.ld 0] [(10,.agg #[.pointer<|T.ptr l,.pointer<|T.ptr r]),(11,i_ 0)]<|aO<|jm 400<|dK (m:=399)<|aD [(12,b_ true)]<|aE<|dX<|au<|aO<|aD [(3,i_ 0),(4,.pointer<|T.ptr l)]<|aE<|aE<|fS [.cq<|i_<|T.hgt l,.ld 0,.cq<|i_<|T.hgt r,.w<|(T.hgt r)+1] (rg 0 12) [] [(26,b_<|decide ((T.hgt l)≤((T.hgt r)+1)))] (oc (qo<|fun w s=>oN l w<|s.mem (i:=1) rfl)<|oc (qo<|fun w s=>oN r w<|s.mem (i:=2) rfl)<|o1<|wj ((T.hgt r)+1)<|by omega)<|aI rfl (fun e2=>?_) (fun e2=>?_)
 ·have p2:=dZ e2
  refine bR<|bX [(11,i_ 1)]<|dK (m:=398)<|aD [(12,b_ true)]<|aE<|dX<|au<|aO<|aD [(3,i_ 1),(4,.pointer<|T.ptr r)]<|aE<|aE<|fS [.cq<|i_<|T.hgt r,.ld 0,.cq<|i_<|T.hgt l,.w<|(T.hgt l)+1] (rg 0 12) [] [(26,b_<|decide ((T.hgt r)≤((T.hgt l)+1)))] (oc (qo<|fun w s=>oN r w<|s.mem (i:=2) rfl)<|oc (qo<|fun w s=>oN l w<|s.mem (i:=1) rfl)<|o1<|wj ((T.hgt l)+1)<|by omega)<|aI rfl (fun e3=>?_) (fun e3=>?_)
  ·have p3:=dZ e3
   refine bR<|bX [(11,i_ 2)]<|dK (m:=397)<|aD [(12,b_ false)]<|aE<|bY<|bR<|aD [(2,p_ b)]<|aF<|eH [0,0,0] [DV b x l r] rfl (fun w hs=>mQ hs) (bJ [0] [p_ b] ((T.node b x (cd x l r) (dJ l r) (da l r) l r)) ?_ ?_)
   ·rfl
   (exact(LL (by omega)<|by omega).symm)
  have p3:=ga e3
  refine au<|aE ?_
  rcases r with _|⟨b1,x2,m3,h4,n5,l6,r7⟩
  ·exfalso
   simp only[jq,yS] at*;omega
  obtain⟨hr_m,hr_h,hr_n,hr_l,hr_r⟩:=id hr
  have hr_1:=T.Right.pos hr_l;have hr_2:=T.Right.pos hr_r;simp only[ij,pI,dJ,da] at*
  refine eH [2] [aA b1 [u_ x2.ka,i_ x2.ki,u_ x2.va,i_ x2.vi,.pointer<|T.ptr l6,.pointer<|T.ptr r7,u_ m3.ka,i_ m3.ki,u_ m3.va,i_ m3.vi,i_ h4,i_ n5] 361,bG 361 l6,bG 361 r7] rfl (fun w hs=>oO hs) (qP [.p,.p,.p,.p,.p,.p,.ld 0,.cq<|i_<|T.hgt l6,.p,.p,.p,.p,.p,.ld 0,.cq<|i_<|T.hgt r7,.p] [0,1,2,3,4,5,6,7,8,9,10,11,12,13,14,15] [(0,p_ b),(3,i_ 1),(4,p_ b1),(42,b_<|decide ((T.hgt l6)>(T.hgt r7)))] [b1,b1] (fun κ=>κ.call 266 [.pointer<|T.ptr l6] (i_<|T.hgt l6)∧κ.call 266 [.pointer<|T.ptr r7] (i_<|T.hgt r7)∧True) (by kernel_rfl) (by kernel_rfl) ⟨(fun w s=>oN l6 w<|s.mem (i:=1) rfl),(fun w s=>oN r7 w<|s.mem (i:=2) rfl),trivial⟩<|aI rfl (fun e4=>?_) (fun e4=>?_))
  ·have p4:=dZ e4
   rcases l6 with _|⟨b8,x9,m10,h11,n12,l13,r14⟩
   ·exfalso
    simp only[jq,yS] at*;omega
   obtain⟨hr_l_m,hr_l_h,hr_l_n,hr_l_l,hr_l_r⟩:=id hr_l
   have hr_l_1:=T.Right.pos hr_l_l;have hr_l_2:=T.Right.pos hr_l_r;simp only[ij,pI,dJ,da] at*
   refine bL [5,9] 10<|cL 3 [] [0,1,2,3,4,6,7] [(44,i_ 1),(45,p_ b1),(47,i_ 0),(50,q_ b 4)]<|an 5 rfl (bM (some 48) [0,0,0] (BA b1 x2 m3 h4 n5 b8 x9 m10 h11 n12 l13 r14 r7 (kN ‹_› (by omega)) (kN ‹_› (by omega))<|kN ‹_› (by omega)) ?_)
   rintro zt15 hz5
   subst hz5
   refine cD<|cL 1 [] [8] [(48,p_ b8),(51,q_ b 5)]<|an 9 rfl (dN 1 [p_ b8] rfl (cb<|aC<|bA 2 [] [(52,p_ b),(53,i_ 1)]<|aG<|bM (some 54) [1,1,0] (BB b x (cd x l<|T.node b1 x2 m3 h4 n5 (T.node b8 x9 m10 h11 n12 l13 r14) r7) (dJ l<|T.node b1 x2 m3 h4 n5 (T.node b8 x9 m10 h11 n12 l13 r14) r7) (da l<|T.node b1 x2 m3 h4 n5 (T.node b8 x9 m10 h11 n12 l13 r14) r7) b8 x9 (cd x9 l13<|T.node b1 x2 (cd x2 r14 r7) (dJ r14 r7) (da r14 r7) r14 r7) (dJ l13<|T.node b1 x2 (cd x2 r14 r7) (dJ r14 r7) (da r14 r7) r14 r7) (da l13<|T.node b1 x2 (cd x2 r14 r7) (dJ r14 r7) (da r14 r7) r14 r7) l13 (T.node b1 x2 (cd x2 r14 r7) (dJ r14 r7) (da r14 r7) r14 r7) l (kN ‹_› (by omega)) (by exact kN (lv ‹_› ‹_›) (by simp only[pI,mk,da];omega))<|kN ‹_› (by omega)) ?_))
   rintro zt16 hz6
   refine ak [(2,.pointer<|T.ptr zt16)]<|aF<|bJ [0] [.pointer<|T.ptr zt16] (zt16) ?_ ?_
   ·rfl
   (rw[Jf (by(simp only[ij,jq];omega)) (by(simp only[ij,jq];omega))<|by(simp only[ij,jq];omega)];assumption)
  have p4:=ga e4
  refine aP<|aC<|bA 2 [] [(52,p_ b),(53,i_ 1)]<|eH [0,0,0] [bG 361<|T.node b1 x2 m3 h4 n5 l6 r7] rfl (fun w hs=>mQ hs) (aG<|bM (some 54) [1,1,0] (BB b x (cd x l<|T.node b1 x2 m3 h4 n5 l6 r7) (dJ l<|T.node b1 x2 m3 h4 n5 l6 r7) (da l<|T.node b1 x2 m3 h4 n5 l6 r7) b1 x2 m3 h4 n5 l6 r7 l (kN ‹_› (by omega)) (kN ‹_› (by omega))<|kN ‹_› (by omega)) ?_)
  rintro zt17 hz7
  refine ak [(2,.pointer<|T.ptr zt17)]<|aF<|bJ [0] [.pointer<|T.ptr zt17] (zt17) ?_ ?_
  ·rfl
  (rw[Je (by(simp only[ij,jq];omega)) (by(simp only[ij,jq];omega))<|by omega];assumption)
 have p2:=ga e2
 refine au<|aE ?_
 rcases l with _|⟨b18,x19,m20,h21,n22,l23,r24⟩
 ·exfalso
  simp only[jq,yS] at*;omega
 obtain⟨hl_m,hl_h,hl_n,hl_l,hl_r⟩:=id hl
 have hl_1:=T.Right.pos hl_l;have hl_2:=T.Right.pos hl_r;simp only[ij,pI,dJ,da] at*
 refine eH [1] [aA b18 [u_ x19.ka,i_ x19.ki,u_ x19.va,i_ x19.vi,.pointer<|T.ptr l23,.pointer<|T.ptr r24,u_ m20.ka,i_ m20.ki,u_ m20.va,i_ m20.vi,i_ h21,i_ n22] 361,bG 361 l23,bG 361 r24] rfl (fun w hs=>oO hs) (qP [.p,.p,.p,.p,.p,.p,.ld 0,.cq<|i_<|T.hgt r24,.p,.p,.p,.p,.p,.ld 0,.cq<|i_<|T.hgt l23,.p] [0,1,2,3,4,5,6,7,8,9,10,11,12,13,14,15] [(0,p_ b),(3,i_ 0),(4,p_ b18),(42,b_<|decide ((T.hgt r24)>(T.hgt l23)))] [b18,b18] (fun κ=>κ.call 266 [.pointer<|T.ptr r24] (i_<|T.hgt r24)∧κ.call 266 [.pointer<|T.ptr l23] (i_<|T.hgt l23)∧True) (by kernel_rfl) (by kernel_rfl) ⟨(fun w s=>oN r24 w<|s.mem (i:=2) rfl),(fun w s=>oN l23 w<|s.mem (i:=1) rfl),trivial⟩<|aI rfl (fun e8=>?_) (fun e8=>?_))
 ·have p8:=dZ e8
  rcases r24 with _|⟨b25,x26,m27,h28,n29,l30,r31⟩
  ·exfalso
   simp only[jq,yS] at*;omega
  obtain⟨hl_r_m,hl_r_h,hl_r_n,hl_r_l,hl_r_r⟩:=id hl_r
  have hl_r_1:=T.Right.pos hl_r_l;have hl_r_2:=T.Right.pos hl_r_r;simp only[ij,pI,dJ,da] at*
  refine bL [5,9] 10<|cL 3 [] [0,1,2,3,4,6,7] [(44,i_ 0),(45,p_ b18),(47,i_ 1),(50,q_ b 4)]<|an 5 rfl (bM (some 48) [0,0,0] (BB b18 x19 m20 h21 n22 b25 x26 m27 h28 n29 l30 r31 l23 (kN ‹_› (by omega)) (kN ‹_› (by omega))<|kN ‹_› (by omega)) ?_)
  rintro zt32 hz9
  subst hz9
  refine cD<|cL 1 [] [8] [(48,p_ b25),(51,q_ b 4)]<|an 9 rfl (dN 1 [p_ b25] rfl (cb<|aC<|bA 2 [] [(52,p_ b),(53,i_ 0)]<|aG<|bM (some 54) [1,0,0] (BA b x (cd x (T.node b18 x19 m20 h21 n22 l23<|T.node b25 x26 m27 h28 n29 l30 r31) r) (dJ (T.node b18 x19 m20 h21 n22 l23<|T.node b25 x26 m27 h28 n29 l30 r31) r) (da (T.node b18 x19 m20 h21 n22 l23<|T.node b25 x26 m27 h28 n29 l30 r31) r) b25 x26 (cd x26 (T.node b18 x19 (cd x19 l23 l30) (dJ l23 l30) (da l23 l30) l23 l30) r31) (dJ (T.node b18 x19 (cd x19 l23 l30) (dJ l23 l30) (da l23 l30) l23 l30) r31) (da (T.node b18 x19 (cd x19 l23 l30) (dJ l23 l30) (da l23 l30) l23 l30) r31) (T.node b18 x19 (cd x19 l23 l30) (dJ l23 l30) (da l23 l30) l23 l30) r31 r (by exact kN (lv ‹_› ‹_›) (by simp only[pI,mk,da];omega)) (kN ‹_› (by omega))<|kN ‹_› (by omega)) ?_))
  rintro zt33 hz10
  refine ak [(2,.pointer<|T.ptr zt33)]<|aF<|bJ [0] [.pointer<|T.ptr zt33] (zt33) ?_ ?_
  ·rfl
  (rw[Jd (by(simp only[ij,jq];omega))<|by(simp only[ij,jq];omega)];assumption)
 have p8:=ga e8
 refine aP<|aC<|bA 2 [] [(52,p_ b),(53,i_ 0)]<|eH [0,0,0] [bG 361<|T.node b18 x19 m20 h21 n22 l23 r24] rfl (fun w hs=>mQ hs) (aG<|bM (some 54) [1,0,0] (BA b x (cd x (T.node b18 x19 m20 h21 n22 l23 r24) r) (dJ (T.node b18 x19 m20 h21 n22 l23 r24) r) (da (T.node b18 x19 m20 h21 n22 l23 r24) r) b18 x19 m20 h21 n22 l23 r24 r (kN ‹_› (by omega)) (kN ‹_› (by omega))<|kN ‹_› (by omega)) ?_)
 rintro zt34 hz11
 refine ak [(2,.pointer<|T.ptr zt34)]<|aF<|bJ [0] [.pointer<|T.ptr zt34] (zt34) ?_ ?_
 ·rfl
 (rw[Jc (by(simp only[ij,jq];omega))<|by omega];assumption)
end Go.Proofs.YtobgjpigngoggaaGreat
